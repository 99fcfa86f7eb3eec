/-
  NARROWER THAN 'FOR EVERY INPUT', by the rows' own cells (each row's printed sentence says how): FnExactPureProgram: loops · FnExactQueryVars: loops · FnExactUnknownGoals: loops.
  DERIVED. THE GIVEN ROWS OF THIS SEAT. 3 by the template 'for every input the law returns true; each argument reads behind the call as it read before'; 0 by the template 'total and deterministic' (their statements: YtoipdmomgjdnaaaTotals.lean).
  GIVEN WITH THE SEED: the statements are not yours to turn. If you find one false, say at which input.
  Laid BY PROGRAM, IN A SANDBOX (cutbox-rows.mjs): the forced cells as the released guide's own fill.sh prints them over the translation 8a36a4b330cd865b… (all of the seat's roots in one cut). By AI agents, Wed Nov 11 2026. No macro, syntax, notation, axiom, sorry.
-/
import Derived.Test.YtoipdmomgjdnaaaChecked
import GoSem.Claim
import GoSem.ClaimJoined
import GoSem.ClaimMapViews
import Derived.JoinedTies
import Derived.KernelRfl
namespace Go.Proofs.Ytoipdmomgjdnaaa
/- THE CELL 'sum', in the pinned program and in every row, IS THE sha256 OF THE DUMP (.gsa) THAT YtoipdmomgjdnaaaProg.lean LOADS. Nothing in Lean hashes anything: it is a label: what it is worth is what the hold of that sum in a sandbox is worth. -/
noncomputable def Try.pinned : Pinned := { name := "ytoipdmomgjdnaaa", sum := "8a36a4b330cd865b261a1fa9eb4e826b5a215f44b27ee36a28ba9d04cff0128d", checked := Try.checked }
namespace Rows
def none {H : Type} : Left H := { results := [], args := [] }

/-- 'laws.FnExactPureProgram': WHATEVER THE INPUT: true; the input reads as it did. -/
def fnExactPureProgramSpec : ChangeSpec := { name := "fnExactPureProgram", fn := fun _ => fun
  | [d] => { results := [.lit (.bool true)], args := [d] }
  | _ => none }
def fnExactPureProgramRow : OpenClaim := { program := "ytoipdmomgjdnaaa", sum := "8a36a4b330cd865b261a1fa9eb4e826b5a215f44b27ee36a28ba9d04cff0128d", func := "loop.example/prologserver/laws.FnExactPureProgram", spec := "fnExactPureProgram", unfollowed := true, recurses := true, loops := true, apart := false }
def FnExactPureProgramSaid : Prop := fnExactPureProgramRow.holds Try.pinned (OpenSpec.ofChange fnExactPureProgramSpec)

/-- ITS FALSE NEIGHBOUR: 'it returns false'. Refute it at one input. -/
def fnExactPureProgramWrong : ChangeSpec := { name := "fnExactPureProgram", fn := fun _ => fun
  | [d] => { results := [.lit (.bool false)], args := [d] }
  | _ => none }
def FnExactPureProgramWrongFalsely : Prop := fnExactPureProgramRow.holds Try.pinned (OpenSpec.ofChange fnExactPureProgramWrong)

/-- 'laws.FnExactQueryVars': WHATEVER THE INPUT: true; the input reads as it did. -/
def fnExactQueryVarsSpec : ChangeSpec := { name := "fnExactQueryVars", fn := fun _ => fun
  | [d] => { results := [.lit (.bool true)], args := [d] }
  | _ => none }
def fnExactQueryVarsRow : OpenClaim := { program := "ytoipdmomgjdnaaa", sum := "8a36a4b330cd865b261a1fa9eb4e826b5a215f44b27ee36a28ba9d04cff0128d", func := "loop.example/prologserver/laws.FnExactQueryVars", spec := "fnExactQueryVars", unfollowed := true, recurses := true, loops := true, apart := false }
def FnExactQueryVarsSaid : Prop := fnExactQueryVarsRow.holds Try.pinned (OpenSpec.ofChange fnExactQueryVarsSpec)

/-- ITS FALSE NEIGHBOUR: 'it returns false'. Refute it at one input. -/
def fnExactQueryVarsWrong : ChangeSpec := { name := "fnExactQueryVars", fn := fun _ => fun
  | [d] => { results := [.lit (.bool false)], args := [d] }
  | _ => none }
def FnExactQueryVarsWrongFalsely : Prop := fnExactQueryVarsRow.holds Try.pinned (OpenSpec.ofChange fnExactQueryVarsWrong)

/-- 'laws.FnExactUnknownGoals': WHATEVER THE INPUT: true; the input reads as it did. -/
def fnExactUnknownGoalsSpec : ChangeSpec := { name := "fnExactUnknownGoals", fn := fun _ => fun
  | [d] => { results := [.lit (.bool true)], args := [d] }
  | _ => none }
def fnExactUnknownGoalsRow : OpenClaim := { program := "ytoipdmomgjdnaaa", sum := "8a36a4b330cd865b261a1fa9eb4e826b5a215f44b27ee36a28ba9d04cff0128d", func := "loop.example/prologserver/laws.FnExactUnknownGoals", spec := "fnExactUnknownGoals", unfollowed := true, recurses := true, loops := true, apart := false }
def FnExactUnknownGoalsSaid : Prop := fnExactUnknownGoalsRow.holds Try.pinned (OpenSpec.ofChange fnExactUnknownGoalsSpec)

/-- ITS FALSE NEIGHBOUR: 'it returns false'. Refute it at one input. -/
def fnExactUnknownGoalsWrong : ChangeSpec := { name := "fnExactUnknownGoals", fn := fun _ => fun
  | [d] => { results := [.lit (.bool false)], args := [d] }
  | _ => none }
def FnExactUnknownGoalsWrongFalsely : Prop := fnExactUnknownGoalsRow.holds Try.pinned (OpenSpec.ofChange fnExactUnknownGoalsWrong)

/- THE SECOND FORM. 'bulk': how many values and letters a reading holds, each counted each time it is reached (what is shared counts as often as it is met; a slice's spare places count too). A statement '..UptoSaid' is the law's where the arguments, and the package variables that the reading takes, are together of bulk at most 1048576: NARROWER than '..Said'. Prove '..Said' where nothing that the law and all that it calls make is longer than what came in: it says more and counts as full. Else prove '..UptoSaid'. A law counts once. -/
mutual
def uptoBulk {H : Type} : DataW H → Nat
  | .lit (.string bytes) => bytes.length + 1
  | .lit _ => 1
  | .nil => 1
  | .ptr d => uptoBulk d + 1
  | .slice elems spare => uptoBulkAll elems + uptoBulkAll spare + 1
  | .agg parts => uptoBulkAll parts + 1
  | .iface _ d => uptoBulk d + 1
  | .map entries => uptoBulkEntries entries + 1
  | .held _ => 1
def uptoBulkAll {H : Type} : List (DataW H) → Nat
  | [] => 0
  | d :: r => uptoBulk d + uptoBulkAll r
def uptoBulkEntries {H : Type} : List (Lit × DataW H) → Nat
  | [] => 0
  | x :: r => uptoBulkEntry x + uptoBulkEntries r
def uptoBulkEntry {H : Type} : Lit × DataW H → Nat
  | (.string bytes, d) => bytes.length + uptoBulk d + 1
  | (_, d) => uptoBulk d + 1
 end
def uptoSmall : (H : Type) → List (DataW H) → Bool := fun _ ds => decide (uptoBulkAll ds ≤ 1048576)
def OpenSpec.upto (s : _root_.Go.ChangeSpec) : _root_.Go.OpenSpec := { _root_.Go.OpenSpec.ofChange s with cond := some uptoSmall }

/-- 'laws.FnExactPureProgram', WHERE WHAT IT READS IS OF BULK AT MOST 1048576: true; the input reads as it did. -/
def fnExactPureProgramUptoRow : OpenClaim := { program := "ytoipdmomgjdnaaa", sum := "8a36a4b330cd865b261a1fa9eb4e826b5a215f44b27ee36a28ba9d04cff0128d", func := "loop.example/prologserver/laws.FnExactPureProgram", spec := "fnExactPureProgram", unfollowed := true, recurses := true, loops := true, apart := false, narrowed := true }
def FnExactPureProgramUptoSaid : Prop := fnExactPureProgramUptoRow.holds Try.pinned (OpenSpec.upto fnExactPureProgramSpec)

/-- 'laws.FnExactQueryVars', WHERE WHAT IT READS IS OF BULK AT MOST 1048576: true; the input reads as it did. -/
def fnExactQueryVarsUptoRow : OpenClaim := { program := "ytoipdmomgjdnaaa", sum := "8a36a4b330cd865b261a1fa9eb4e826b5a215f44b27ee36a28ba9d04cff0128d", func := "loop.example/prologserver/laws.FnExactQueryVars", spec := "fnExactQueryVars", unfollowed := true, recurses := true, loops := true, apart := false, narrowed := true }
def FnExactQueryVarsUptoSaid : Prop := fnExactQueryVarsUptoRow.holds Try.pinned (OpenSpec.upto fnExactQueryVarsSpec)

/-- 'laws.FnExactUnknownGoals', WHERE WHAT IT READS IS OF BULK AT MOST 1048576: true; the input reads as it did. -/
def fnExactUnknownGoalsUptoRow : OpenClaim := { program := "ytoipdmomgjdnaaa", sum := "8a36a4b330cd865b261a1fa9eb4e826b5a215f44b27ee36a28ba9d04cff0128d", func := "loop.example/prologserver/laws.FnExactUnknownGoals", spec := "fnExactUnknownGoals", unfollowed := true, recurses := true, loops := true, apart := false, narrowed := true }
def FnExactUnknownGoalsUptoSaid : Prop := fnExactUnknownGoalsUptoRow.holds Try.pinned (OpenSpec.upto fnExactUnknownGoalsSpec)

end Rows
end Go.Proofs.Ytoipdmomgjdnaaa
