/-
  NARROWER THAN 'FOR EVERY INPUT', by the rows' own cells (each row's printed sentence says how): FnExactApplyBinds: loops · FnExactCompileQuery: loops · FnExactCompileClause: loops · FnExactLoadProgram: loops.
  DERIVED. THE GIVEN ROWS OF THIS SEAT. 4 by the template 'for every input the law returns true; each argument reads behind the call as it read before'; 0 by the template 'total and deterministic' (their statements: YtaegeehpajlebaaTotals.lean).
  GIVEN WITH THE SEED: the statements are not yours to turn. If you find one false, say at which input.
  Laid BY PROGRAM, IN A SANDBOX (cutbox-rows.mjs): the forced cells as the released guide's own fill.sh prints them over the translation f5c59b205208ed62… (all of the seat's roots in one cut). By AI agents, Wed Nov 11 2026. No macro, syntax, notation, axiom, sorry.
-/
import Derived.Test.YtaegeehpajlebaaChecked
import GoSem.Claim
import GoSem.ClaimJoined
import GoSem.ClaimMapViews
import Derived.JoinedTies
import Derived.KernelRfl
namespace Go.Proofs.Ytaegeehpajlebaa
/- THE CELL 'sum', in the pinned program and in every row, IS THE sha256 OF THE DUMP (.gsa) THAT YtaegeehpajlebaaProg.lean LOADS. Nothing in Lean hashes anything: it is a label: what it is worth is what the hold of that sum in a sandbox is worth. -/
noncomputable def Try.pinned : Pinned := { name := "ytaegeehpajlebaa", sum := "f5c59b205208ed62c2acf22af4caf02af9e05c07570080ed89aa19b1832ce798", checked := Try.checked }
namespace Rows
def none {H : Type} : Left H := { results := [], args := [] }

/-- 'laws.FnExactApplyBinds': WHATEVER THE INPUT: true; the input reads as it did. -/
def fnExactApplyBindsSpec : ChangeSpec := { name := "fnExactApplyBinds", fn := fun _ => fun
  | [d1, d2] => { results := [.lit (.bool true)], args := [d1, d2] }
  | _ => none }
def fnExactApplyBindsRow : OpenClaim := { program := "ytaegeehpajlebaa", sum := "f5c59b205208ed62c2acf22af4caf02af9e05c07570080ed89aa19b1832ce798", func := "loop.example/prologserver/laws.FnExactApplyBinds", spec := "fnExactApplyBinds", unfollowed := true, recurses := true, loops := true, apart := false }
def FnExactApplyBindsSaid : Prop := fnExactApplyBindsRow.holds Try.pinned (OpenSpec.ofChange fnExactApplyBindsSpec)

/-- ITS FALSE NEIGHBOUR: 'it returns false'. Refute it at one input. -/
def fnExactApplyBindsWrong : ChangeSpec := { name := "fnExactApplyBinds", fn := fun _ => fun
  | [d1, d2] => { results := [.lit (.bool false)], args := [d1, d2] }
  | _ => none }
def FnExactApplyBindsWrongFalsely : Prop := fnExactApplyBindsRow.holds Try.pinned (OpenSpec.ofChange fnExactApplyBindsWrong)

/-- 'laws.FnExactCompileQuery': WHATEVER THE INPUT: true; the input reads as it did. -/
def fnExactCompileQuerySpec : ChangeSpec := { name := "fnExactCompileQuery", fn := fun _ => fun
  | [d] => { results := [.lit (.bool true)], args := [d] }
  | _ => none }
def fnExactCompileQueryRow : OpenClaim := { program := "ytaegeehpajlebaa", sum := "f5c59b205208ed62c2acf22af4caf02af9e05c07570080ed89aa19b1832ce798", func := "loop.example/prologserver/laws.FnExactCompileQuery", spec := "fnExactCompileQuery", unfollowed := true, recurses := true, loops := true, apart := false }
def FnExactCompileQuerySaid : Prop := fnExactCompileQueryRow.holds Try.pinned (OpenSpec.ofChange fnExactCompileQuerySpec)

/-- ITS FALSE NEIGHBOUR: 'it returns false'. Refute it at one input. -/
def fnExactCompileQueryWrong : ChangeSpec := { name := "fnExactCompileQuery", fn := fun _ => fun
  | [d] => { results := [.lit (.bool false)], args := [d] }
  | _ => none }
def FnExactCompileQueryWrongFalsely : Prop := fnExactCompileQueryRow.holds Try.pinned (OpenSpec.ofChange fnExactCompileQueryWrong)

/-- 'laws.FnExactCompileClause': WHATEVER THE INPUT: true; the input reads as it did. -/
def fnExactCompileClauseSpec : ChangeSpec := { name := "fnExactCompileClause", fn := fun _ => fun
  | [d] => { results := [.lit (.bool true)], args := [d] }
  | _ => none }
def fnExactCompileClauseRow : OpenClaim := { program := "ytaegeehpajlebaa", sum := "f5c59b205208ed62c2acf22af4caf02af9e05c07570080ed89aa19b1832ce798", func := "loop.example/prologserver/laws.FnExactCompileClause", spec := "fnExactCompileClause", unfollowed := true, recurses := true, loops := true, apart := false }
def FnExactCompileClauseSaid : Prop := fnExactCompileClauseRow.holds Try.pinned (OpenSpec.ofChange fnExactCompileClauseSpec)

/-- ITS FALSE NEIGHBOUR: 'it returns false'. Refute it at one input. -/
def fnExactCompileClauseWrong : ChangeSpec := { name := "fnExactCompileClause", fn := fun _ => fun
  | [d] => { results := [.lit (.bool false)], args := [d] }
  | _ => none }
def FnExactCompileClauseWrongFalsely : Prop := fnExactCompileClauseRow.holds Try.pinned (OpenSpec.ofChange fnExactCompileClauseWrong)

/-- 'laws.FnExactLoadProgram': WHATEVER THE INPUT: true; the input reads as it did. -/
def fnExactLoadProgramSpec : ChangeSpec := { name := "fnExactLoadProgram", fn := fun _ => fun
  | [d] => { results := [.lit (.bool true)], args := [d] }
  | _ => none }
def fnExactLoadProgramRow : OpenClaim := { program := "ytaegeehpajlebaa", sum := "f5c59b205208ed62c2acf22af4caf02af9e05c07570080ed89aa19b1832ce798", func := "loop.example/prologserver/laws.FnExactLoadProgram", spec := "fnExactLoadProgram", unfollowed := true, recurses := true, loops := true, apart := false }
def FnExactLoadProgramSaid : Prop := fnExactLoadProgramRow.holds Try.pinned (OpenSpec.ofChange fnExactLoadProgramSpec)

/-- ITS FALSE NEIGHBOUR: 'it returns false'. Refute it at one input. -/
def fnExactLoadProgramWrong : ChangeSpec := { name := "fnExactLoadProgram", fn := fun _ => fun
  | [d] => { results := [.lit (.bool false)], args := [d] }
  | _ => none }
def FnExactLoadProgramWrongFalsely : Prop := fnExactLoadProgramRow.holds Try.pinned (OpenSpec.ofChange fnExactLoadProgramWrong)

/- THE SECOND FORM. 'bulk': how many values and letters a reading holds, each counted each time it is reached (what is shared counts as often as it is met; a slice's spare places count too). A statement '..UptoSaid' is the law's where the arguments, and the package variables that the reading takes, are together of bulk at most 1048576: NARROWER than '..Said'. Prove '..Said' where nothing that the law and all that it calls make is longer than what came in: it says more and counts as full. Else prove '..UptoSaid'. A law counts once. -/
mutual
def uptoBulk {H : Type} : DataW H → Nat
  | .lit (.string bytes) => bytes.length + 1
  | .lit _ => 1
  | .nil => 1
  | .ptr d => uptoBulk d + 1
  | .slice elems spare => uptoBulkAll elems + uptoBulkAll spare + 1
  | .agg parts => uptoBulkAll parts + 1
  | .iface _ d => uptoBulk d + 1
  | .map entries => uptoBulkEntries entries + 1
  | .held _ => 1
def uptoBulkAll {H : Type} : List (DataW H) → Nat
  | [] => 0
  | d :: r => uptoBulk d + uptoBulkAll r
def uptoBulkEntries {H : Type} : List (Lit × DataW H) → Nat
  | [] => 0
  | x :: r => uptoBulkEntry x + uptoBulkEntries r
def uptoBulkEntry {H : Type} : Lit × DataW H → Nat
  | (.string bytes, d) => bytes.length + uptoBulk d + 1
  | (_, d) => uptoBulk d + 1
 end
def uptoSmall : (H : Type) → List (DataW H) → Bool := fun _ ds => decide (uptoBulkAll ds ≤ 1048576)
def OpenSpec.upto (s : _root_.Go.ChangeSpec) : _root_.Go.OpenSpec := { _root_.Go.OpenSpec.ofChange s with cond := some uptoSmall }

/-- 'laws.FnExactApplyBinds', WHERE WHAT IT READS IS OF BULK AT MOST 1048576: true; the input reads as it did. -/
def fnExactApplyBindsUptoRow : OpenClaim := { program := "ytaegeehpajlebaa", sum := "f5c59b205208ed62c2acf22af4caf02af9e05c07570080ed89aa19b1832ce798", func := "loop.example/prologserver/laws.FnExactApplyBinds", spec := "fnExactApplyBinds", unfollowed := true, recurses := true, loops := true, apart := false, narrowed := true }
def FnExactApplyBindsUptoSaid : Prop := fnExactApplyBindsUptoRow.holds Try.pinned (OpenSpec.upto fnExactApplyBindsSpec)

/-- 'laws.FnExactCompileQuery', WHERE WHAT IT READS IS OF BULK AT MOST 1048576: true; the input reads as it did. -/
def fnExactCompileQueryUptoRow : OpenClaim := { program := "ytaegeehpajlebaa", sum := "f5c59b205208ed62c2acf22af4caf02af9e05c07570080ed89aa19b1832ce798", func := "loop.example/prologserver/laws.FnExactCompileQuery", spec := "fnExactCompileQuery", unfollowed := true, recurses := true, loops := true, apart := false, narrowed := true }
def FnExactCompileQueryUptoSaid : Prop := fnExactCompileQueryUptoRow.holds Try.pinned (OpenSpec.upto fnExactCompileQuerySpec)

/-- 'laws.FnExactCompileClause', WHERE WHAT IT READS IS OF BULK AT MOST 1048576: true; the input reads as it did. -/
def fnExactCompileClauseUptoRow : OpenClaim := { program := "ytaegeehpajlebaa", sum := "f5c59b205208ed62c2acf22af4caf02af9e05c07570080ed89aa19b1832ce798", func := "loop.example/prologserver/laws.FnExactCompileClause", spec := "fnExactCompileClause", unfollowed := true, recurses := true, loops := true, apart := false, narrowed := true }
def FnExactCompileClauseUptoSaid : Prop := fnExactCompileClauseUptoRow.holds Try.pinned (OpenSpec.upto fnExactCompileClauseSpec)

/-- 'laws.FnExactLoadProgram', WHERE WHAT IT READS IS OF BULK AT MOST 1048576: true; the input reads as it did. -/
def fnExactLoadProgramUptoRow : OpenClaim := { program := "ytaegeehpajlebaa", sum := "f5c59b205208ed62c2acf22af4caf02af9e05c07570080ed89aa19b1832ce798", func := "loop.example/prologserver/laws.FnExactLoadProgram", spec := "fnExactLoadProgram", unfollowed := true, recurses := true, loops := true, apart := false, narrowed := true }
def FnExactLoadProgramUptoSaid : Prop := fnExactLoadProgramUptoRow.holds Try.pinned (OpenSpec.upto fnExactLoadProgramSpec)

end Rows
end Go.Proofs.Ytaegeehpajlebaa
