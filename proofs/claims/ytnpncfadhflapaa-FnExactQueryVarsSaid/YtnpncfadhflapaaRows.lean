/-
  NARROWER THAN 'FOR EVERY INPUT', by the rows' own cells (each row's printed sentence says how): FnExactQueryVars: loops · FnExactUnknownGoals: loops · FnExactListOf: loops · FnExactMakeList: loops.
  DERIVED. THE GIVEN ROWS OF THIS SEAT. 6 by the template 'for every input the law returns true; each argument reads behind the call as it read before'; 0 by the template 'total and deterministic' (their statements: YtnpncfadhflapaaTotals.lean).
  GIVEN WITH THE SEED: the statements are not yours to turn. If you find one false, say at which input.
  Laid BY PROGRAM, IN A SANDBOX (cutbox-rows.mjs): the forced cells as the released guide's own fill.sh prints them over the translation ac6bd209394bb312… (all of the seat's roots in one cut). By AI agents, Wed Nov 11 2026. No macro, syntax, notation, axiom, sorry.
-/
import Derived.Test.YtnpncfadhflapaaChecked
import GoSem.Claim
import GoSem.ClaimJoined
import GoSem.ClaimMapViews
import Derived.JoinedTies
import Derived.KernelRfl
namespace Go.Proofs.Ytnpncfadhflapaa
/- THE CELL 'sum', in the pinned program and in every row, IS THE sha256 OF THE DUMP (.gsa) THAT YtnpncfadhflapaaProg.lean LOADS. Nothing in Lean hashes anything: it is a label: what it is worth is what the hold of that sum in a sandbox is worth. -/
noncomputable def Try.pinned : Pinned := { name := "ytnpncfadhflapaa", sum := "ac6bd209394bb3124e6e383b898e182ae6d4ca06e6587ee8f285475be4736a3d", checked := Try.checked }
namespace Rows
def none {H : Type} : Left H := { results := [], args := [] }

/-- 'laws.FnListTail': WHATEVER THE INPUT: true; the input reads as it did. -/
def fnListTailSpec : ChangeSpec := { name := "fnListTail", fn := fun _ => fun
  | [d1, d2] => { results := [.lit (.bool true)], args := [d1, d2] }
  | _ => none }
def fnListTailRow : OpenClaim := { program := "ytnpncfadhflapaa", sum := "ac6bd209394bb3124e6e383b898e182ae6d4ca06e6587ee8f285475be4736a3d", func := "loop.example/prologserver/laws.FnListTail", spec := "fnListTail", unfollowed := true, recurses := true, apart := false }
def FnListTailSaid : Prop := fnListTailRow.holds Try.pinned (OpenSpec.ofChange fnListTailSpec)

/-- ITS FALSE NEIGHBOUR: 'it returns false'. Refute it at one input. -/
def fnListTailWrong : ChangeSpec := { name := "fnListTail", fn := fun _ => fun
  | [d1, d2] => { results := [.lit (.bool false)], args := [d1, d2] }
  | _ => none }
def FnListTailWrongFalsely : Prop := fnListTailRow.holds Try.pinned (OpenSpec.ofChange fnListTailWrong)

/-- 'laws.FnApplyBinds': WHATEVER THE INPUT: true; the input reads as it did. -/
def fnApplyBindsSpec : ChangeSpec := { name := "fnApplyBinds", fn := fun _ => fun
  | [d] => { results := [.lit (.bool true)], args := [d] }
  | _ => none }
def fnApplyBindsRow : OpenClaim := { program := "ytnpncfadhflapaa", sum := "ac6bd209394bb3124e6e383b898e182ae6d4ca06e6587ee8f285475be4736a3d", func := "loop.example/prologserver/laws.FnApplyBinds", spec := "fnApplyBinds", unfollowed := true, recurses := true, apart := false }
def FnApplyBindsSaid : Prop := fnApplyBindsRow.holds Try.pinned (OpenSpec.ofChange fnApplyBindsSpec)

/-- ITS FALSE NEIGHBOUR: 'it returns false'. Refute it at one input. -/
def fnApplyBindsWrong : ChangeSpec := { name := "fnApplyBinds", fn := fun _ => fun
  | [d] => { results := [.lit (.bool false)], args := [d] }
  | _ => none }
def FnApplyBindsWrongFalsely : Prop := fnApplyBindsRow.holds Try.pinned (OpenSpec.ofChange fnApplyBindsWrong)

/-- 'laws.FnExactQueryVars': WHATEVER THE INPUT: true; the input reads as it did. -/
def fnExactQueryVarsSpec : ChangeSpec := { name := "fnExactQueryVars", fn := fun _ => fun
  | [d] => { results := [.lit (.bool true)], args := [d] }
  | _ => none }
def fnExactQueryVarsRow : OpenClaim := { program := "ytnpncfadhflapaa", sum := "ac6bd209394bb3124e6e383b898e182ae6d4ca06e6587ee8f285475be4736a3d", func := "loop.example/prologserver/laws.FnExactQueryVars", spec := "fnExactQueryVars", unfollowed := true, recurses := true, loops := true, apart := false }
def FnExactQueryVarsSaid : Prop := fnExactQueryVarsRow.holds Try.pinned (OpenSpec.ofChange fnExactQueryVarsSpec)

/-- ITS FALSE NEIGHBOUR: 'it returns false'. Refute it at one input. -/
def fnExactQueryVarsWrong : ChangeSpec := { name := "fnExactQueryVars", fn := fun _ => fun
  | [d] => { results := [.lit (.bool false)], args := [d] }
  | _ => none }
def FnExactQueryVarsWrongFalsely : Prop := fnExactQueryVarsRow.holds Try.pinned (OpenSpec.ofChange fnExactQueryVarsWrong)

/-- 'laws.FnExactUnknownGoals': WHATEVER THE INPUT: true; the input reads as it did. -/
def fnExactUnknownGoalsSpec : ChangeSpec := { name := "fnExactUnknownGoals", fn := fun _ => fun
  | [d] => { results := [.lit (.bool true)], args := [d] }
  | _ => none }
def fnExactUnknownGoalsRow : OpenClaim := { program := "ytnpncfadhflapaa", sum := "ac6bd209394bb3124e6e383b898e182ae6d4ca06e6587ee8f285475be4736a3d", func := "loop.example/prologserver/laws.FnExactUnknownGoals", spec := "fnExactUnknownGoals", unfollowed := true, recurses := true, loops := true, apart := false }
def FnExactUnknownGoalsSaid : Prop := fnExactUnknownGoalsRow.holds Try.pinned (OpenSpec.ofChange fnExactUnknownGoalsSpec)

/-- ITS FALSE NEIGHBOUR: 'it returns false'. Refute it at one input. -/
def fnExactUnknownGoalsWrong : ChangeSpec := { name := "fnExactUnknownGoals", fn := fun _ => fun
  | [d] => { results := [.lit (.bool false)], args := [d] }
  | _ => none }
def FnExactUnknownGoalsWrongFalsely : Prop := fnExactUnknownGoalsRow.holds Try.pinned (OpenSpec.ofChange fnExactUnknownGoalsWrong)

/-- 'laws.FnExactListOf': WHATEVER THE INPUT: true; the input reads as it did. -/
def fnExactListOfSpec : ChangeSpec := { name := "fnExactListOf", fn := fun _ => fun
  | [d] => { results := [.lit (.bool true)], args := [d] }
  | _ => none }
def fnExactListOfRow : OpenClaim := { program := "ytnpncfadhflapaa", sum := "ac6bd209394bb3124e6e383b898e182ae6d4ca06e6587ee8f285475be4736a3d", func := "loop.example/prologserver/laws.FnExactListOf", spec := "fnExactListOf", unfollowed := true, recurses := true, loops := true, apart := false }
def FnExactListOfSaid : Prop := fnExactListOfRow.holds Try.pinned (OpenSpec.ofChange fnExactListOfSpec)

/-- ITS FALSE NEIGHBOUR: 'it returns false'. Refute it at one input. -/
def fnExactListOfWrong : ChangeSpec := { name := "fnExactListOf", fn := fun _ => fun
  | [d] => { results := [.lit (.bool false)], args := [d] }
  | _ => none }
def FnExactListOfWrongFalsely : Prop := fnExactListOfRow.holds Try.pinned (OpenSpec.ofChange fnExactListOfWrong)

/-- 'laws.FnExactMakeList': WHATEVER THE INPUT: true; the input reads as it did. -/
def fnExactMakeListSpec : ChangeSpec := { name := "fnExactMakeList", fn := fun _ => fun
  | [d1, d2] => { results := [.lit (.bool true)], args := [d1, d2] }
  | _ => none }
def fnExactMakeListRow : OpenClaim := { program := "ytnpncfadhflapaa", sum := "ac6bd209394bb3124e6e383b898e182ae6d4ca06e6587ee8f285475be4736a3d", func := "loop.example/prologserver/laws.FnExactMakeList", spec := "fnExactMakeList", unfollowed := true, recurses := true, loops := true, apart := false }
def FnExactMakeListSaid : Prop := fnExactMakeListRow.holds Try.pinned (OpenSpec.ofChange fnExactMakeListSpec)

/-- ITS FALSE NEIGHBOUR: 'it returns false'. Refute it at one input. -/
def fnExactMakeListWrong : ChangeSpec := { name := "fnExactMakeList", fn := fun _ => fun
  | [d1, d2] => { results := [.lit (.bool false)], args := [d1, d2] }
  | _ => none }
def FnExactMakeListWrongFalsely : Prop := fnExactMakeListRow.holds Try.pinned (OpenSpec.ofChange fnExactMakeListWrong)

/- THE SECOND FORM. 'bulk': how many values and letters a reading holds, each counted each time it is reached (what is shared counts as often as it is met; a slice's spare places count too). A statement '..UptoSaid' is the law's where the arguments, and the package variables that the reading takes, are together of bulk at most 1048576: NARROWER than '..Said'. Prove '..Said' where nothing that the law and all that it calls make is longer than what came in: it says more and counts as full. Else prove '..UptoSaid'. A law counts once. -/
mutual
def uptoBulk {H : Type} : DataW H → Nat
  | .lit (.string bytes) => bytes.length + 1
  | .lit _ => 1
  | .nil => 1
  | .ptr d => uptoBulk d + 1
  | .slice elems spare => uptoBulkAll elems + uptoBulkAll spare + 1
  | .agg parts => uptoBulkAll parts + 1
  | .iface _ d => uptoBulk d + 1
  | .map entries => uptoBulkEntries entries + 1
  | .held _ => 1
def uptoBulkAll {H : Type} : List (DataW H) → Nat
  | [] => 0
  | d :: r => uptoBulk d + uptoBulkAll r
def uptoBulkEntries {H : Type} : List (Lit × DataW H) → Nat
  | [] => 0
  | x :: r => uptoBulkEntry x + uptoBulkEntries r
def uptoBulkEntry {H : Type} : Lit × DataW H → Nat
  | (.string bytes, d) => bytes.length + uptoBulk d + 1
  | (_, d) => uptoBulk d + 1
 end
def uptoSmall : (H : Type) → List (DataW H) → Bool := fun _ ds => decide (uptoBulkAll ds ≤ 1048576)
def OpenSpec.upto (s : _root_.Go.ChangeSpec) : _root_.Go.OpenSpec := { _root_.Go.OpenSpec.ofChange s with cond := some uptoSmall }

/-- 'laws.FnListTail', WHERE WHAT IT READS IS OF BULK AT MOST 1048576: true; the input reads as it did. -/
def fnListTailUptoRow : OpenClaim := { program := "ytnpncfadhflapaa", sum := "ac6bd209394bb3124e6e383b898e182ae6d4ca06e6587ee8f285475be4736a3d", func := "loop.example/prologserver/laws.FnListTail", spec := "fnListTail", unfollowed := true, recurses := true, apart := false, narrowed := true }
def FnListTailUptoSaid : Prop := fnListTailUptoRow.holds Try.pinned (OpenSpec.upto fnListTailSpec)

/-- 'laws.FnApplyBinds', WHERE WHAT IT READS IS OF BULK AT MOST 1048576: true; the input reads as it did. -/
def fnApplyBindsUptoRow : OpenClaim := { program := "ytnpncfadhflapaa", sum := "ac6bd209394bb3124e6e383b898e182ae6d4ca06e6587ee8f285475be4736a3d", func := "loop.example/prologserver/laws.FnApplyBinds", spec := "fnApplyBinds", unfollowed := true, recurses := true, apart := false, narrowed := true }
def FnApplyBindsUptoSaid : Prop := fnApplyBindsUptoRow.holds Try.pinned (OpenSpec.upto fnApplyBindsSpec)

/-- 'laws.FnExactQueryVars', WHERE WHAT IT READS IS OF BULK AT MOST 1048576: true; the input reads as it did. -/
def fnExactQueryVarsUptoRow : OpenClaim := { program := "ytnpncfadhflapaa", sum := "ac6bd209394bb3124e6e383b898e182ae6d4ca06e6587ee8f285475be4736a3d", func := "loop.example/prologserver/laws.FnExactQueryVars", spec := "fnExactQueryVars", unfollowed := true, recurses := true, loops := true, apart := false, narrowed := true }
def FnExactQueryVarsUptoSaid : Prop := fnExactQueryVarsUptoRow.holds Try.pinned (OpenSpec.upto fnExactQueryVarsSpec)

/-- 'laws.FnExactUnknownGoals', WHERE WHAT IT READS IS OF BULK AT MOST 1048576: true; the input reads as it did. -/
def fnExactUnknownGoalsUptoRow : OpenClaim := { program := "ytnpncfadhflapaa", sum := "ac6bd209394bb3124e6e383b898e182ae6d4ca06e6587ee8f285475be4736a3d", func := "loop.example/prologserver/laws.FnExactUnknownGoals", spec := "fnExactUnknownGoals", unfollowed := true, recurses := true, loops := true, apart := false, narrowed := true }
def FnExactUnknownGoalsUptoSaid : Prop := fnExactUnknownGoalsUptoRow.holds Try.pinned (OpenSpec.upto fnExactUnknownGoalsSpec)

/-- 'laws.FnExactListOf', WHERE WHAT IT READS IS OF BULK AT MOST 1048576: true; the input reads as it did. -/
def fnExactListOfUptoRow : OpenClaim := { program := "ytnpncfadhflapaa", sum := "ac6bd209394bb3124e6e383b898e182ae6d4ca06e6587ee8f285475be4736a3d", func := "loop.example/prologserver/laws.FnExactListOf", spec := "fnExactListOf", unfollowed := true, recurses := true, loops := true, apart := false, narrowed := true }
def FnExactListOfUptoSaid : Prop := fnExactListOfUptoRow.holds Try.pinned (OpenSpec.upto fnExactListOfSpec)

/-- 'laws.FnExactMakeList', WHERE WHAT IT READS IS OF BULK AT MOST 1048576: true; the input reads as it did. -/
def fnExactMakeListUptoRow : OpenClaim := { program := "ytnpncfadhflapaa", sum := "ac6bd209394bb3124e6e383b898e182ae6d4ca06e6587ee8f285475be4736a3d", func := "loop.example/prologserver/laws.FnExactMakeList", spec := "fnExactMakeList", unfollowed := true, recurses := true, loops := true, apart := false, narrowed := true }
def FnExactMakeListUptoSaid : Prop := fnExactMakeListUptoRow.holds Try.pinned (OpenSpec.upto fnExactMakeListSpec)

end Rows
end Go.Proofs.Ytnpncfadhflapaa
