/-
  NARROWER THAN 'FOR EVERY INPUT', by the rows' own cells (each row's printed sentence says how): FnExactAnswerSame: loops.
  DERIVED. THE GIVEN ROWS OF THIS SEAT. 11 by the template 'for every input the law returns true; each argument reads behind the call as it read before'; 0 by the template 'total and deterministic' (their statements: YtokgioccfeebkaaTotals.lean).
  GIVEN WITH THE SEED: the statements are not yours to turn. If you find one false, say at which input.
  Laid BY PROGRAM, IN A SANDBOX (cutbox-rows.mjs): the forced cells as the released guide's own fill.sh prints them over the translation fb075b35179ddcf0… (all of the seat's roots in one cut). By AI agents, Wed Nov 11 2026. No macro, syntax, notation, axiom, sorry.
-/
import Derived.Test.YtokgioccfeebkaaChecked
import GoSem.Claim
import GoSem.ClaimJoined
import GoSem.ClaimMapViews
import Derived.JoinedTies
import Derived.KernelRfl
namespace Go.Proofs.Ytokgioccfeebkaa
/- THE CELL 'sum', in the pinned program and in every row, IS THE sha256 OF THE DUMP (.gsa) THAT YtokgioccfeebkaaProg.lean LOADS. Nothing in Lean hashes anything: it is a label: what it is worth is what the hold of that sum in a sandbox is worth. -/
noncomputable def Try.pinned : Pinned := { name := "ytokgioccfeebkaa", sum := "fb075b35179ddcf0aeab7b902d632e8e7a60b58c584f42af0feb88bfcced81ff", checked := Try.checked }
namespace Rows
def none {H : Type} : Left H := { results := [], args := [] }

/-- 'laws.FnExactKeysFit': WHATEVER THE INPUT: true; the input reads as it did. -/
def fnExactKeysFitSpec : ChangeSpec := { name := "fnExactKeysFit", fn := fun _ => fun
  | [d1, d2] => { results := [.lit (.bool true)], args := [d1, d2] }
  | _ => none }
def fnExactKeysFitRow : OpenClaim := { program := "ytokgioccfeebkaa", sum := "fb075b35179ddcf0aeab7b902d632e8e7a60b58c584f42af0feb88bfcced81ff", func := "loop.example/prologserver/laws.FnExactKeysFit", spec := "fnExactKeysFit", apart := false }
def FnExactKeysFitSaid : Prop := fnExactKeysFitRow.holds Try.pinned (OpenSpec.ofChange fnExactKeysFitSpec)

/-- ITS FALSE NEIGHBOUR: 'it returns false'. Refute it at one input. -/
def fnExactKeysFitWrong : ChangeSpec := { name := "fnExactKeysFit", fn := fun _ => fun
  | [d1, d2] => { results := [.lit (.bool false)], args := [d1, d2] }
  | _ => none }
def FnExactKeysFitWrongFalsely : Prop := fnExactKeysFitRow.holds Try.pinned (OpenSpec.ofChange fnExactKeysFitWrong)

/-- 'laws.FnKeysFit': WHATEVER THE INPUT: true; the input reads as it did. -/
def fnKeysFitSpec : ChangeSpec := { name := "fnKeysFit", fn := fun _ => fun
  | [d] => { results := [.lit (.bool true)], args := [d] }
  | _ => none }
def fnKeysFitRow : OpenClaim := { program := "ytokgioccfeebkaa", sum := "fb075b35179ddcf0aeab7b902d632e8e7a60b58c584f42af0feb88bfcced81ff", func := "loop.example/prologserver/laws.FnKeysFit", spec := "fnKeysFit", apart := false }
def FnKeysFitSaid : Prop := fnKeysFitRow.holds Try.pinned (OpenSpec.ofChange fnKeysFitSpec)

/-- ITS FALSE NEIGHBOUR: 'it returns false'. Refute it at one input. -/
def fnKeysFitWrong : ChangeSpec := { name := "fnKeysFit", fn := fun _ => fun
  | [d] => { results := [.lit (.bool false)], args := [d] }
  | _ => none }
def FnKeysFitWrongFalsely : Prop := fnKeysFitRow.holds Try.pinned (OpenSpec.ofChange fnKeysFitWrong)

/-- 'laws.FnExactFrameValid': WHATEVER THE INPUT: true; the input reads as it did. -/
def fnExactFrameValidSpec : ChangeSpec := { name := "fnExactFrameValid", fn := fun _ => fun
  | [d] => { results := [.lit (.bool true)], args := [d] }
  | _ => none }
def fnExactFrameValidRow : OpenClaim := { program := "ytokgioccfeebkaa", sum := "fb075b35179ddcf0aeab7b902d632e8e7a60b58c584f42af0feb88bfcced81ff", func := "loop.example/prologserver/laws.FnExactFrameValid", spec := "fnExactFrameValid", apart := false }
def FnExactFrameValidSaid : Prop := fnExactFrameValidRow.holds Try.pinned (OpenSpec.ofChange fnExactFrameValidSpec)

/-- ITS FALSE NEIGHBOUR: 'it returns false'. Refute it at one input. -/
def fnExactFrameValidWrong : ChangeSpec := { name := "fnExactFrameValid", fn := fun _ => fun
  | [d] => { results := [.lit (.bool false)], args := [d] }
  | _ => none }
def FnExactFrameValidWrongFalsely : Prop := fnExactFrameValidRow.holds Try.pinned (OpenSpec.ofChange fnExactFrameValidWrong)

/-- 'laws.FnNewServer': WHATEVER THE INPUT: true; the input reads as it did. -/
def fnNewServerSpec : ChangeSpec := { name := "fnNewServer", fn := fun _ => fun
  | [d] => { results := [.lit (.bool true)], args := [d] }
  | _ => none }
def fnNewServerRow : OpenClaim := { program := "ytokgioccfeebkaa", sum := "fb075b35179ddcf0aeab7b902d632e8e7a60b58c584f42af0feb88bfcced81ff", func := "loop.example/prologserver/laws.FnNewServer", spec := "fnNewServer", apart := false }
def FnNewServerSaid : Prop := fnNewServerRow.holds Try.pinned (OpenSpec.ofChange fnNewServerSpec)

/-- ITS FALSE NEIGHBOUR: 'it returns false'. Refute it at one input. -/
def fnNewServerWrong : ChangeSpec := { name := "fnNewServer", fn := fun _ => fun
  | [d] => { results := [.lit (.bool false)], args := [d] }
  | _ => none }
def FnNewServerWrongFalsely : Prop := fnNewServerRow.holds Try.pinned (OpenSpec.ofChange fnNewServerWrong)

/-- 'laws.FnExactEncodeFrame': WHATEVER THE INPUT: true; the input reads as it did. -/
def fnExactEncodeFrameSpec : ChangeSpec := { name := "fnExactEncodeFrame", fn := fun _ => fun
  | [d] => { results := [.lit (.bool true)], args := [d] }
  | _ => none }
def fnExactEncodeFrameRow : OpenClaim := { program := "ytokgioccfeebkaa", sum := "fb075b35179ddcf0aeab7b902d632e8e7a60b58c584f42af0feb88bfcced81ff", func := "loop.example/prologserver/laws.FnExactEncodeFrame", spec := "fnExactEncodeFrame", apart := false }
def FnExactEncodeFrameSaid : Prop := fnExactEncodeFrameRow.holds Try.pinned (OpenSpec.ofChange fnExactEncodeFrameSpec)

/-- ITS FALSE NEIGHBOUR: 'it returns false'. Refute it at one input. -/
def fnExactEncodeFrameWrong : ChangeSpec := { name := "fnExactEncodeFrame", fn := fun _ => fun
  | [d] => { results := [.lit (.bool false)], args := [d] }
  | _ => none }
def FnExactEncodeFrameWrongFalsely : Prop := fnExactEncodeFrameRow.holds Try.pinned (OpenSpec.ofChange fnExactEncodeFrameWrong)

/-- 'laws.FnExactDecoderValid': WHATEVER THE INPUT: true; the input reads as it did. -/
def fnExactDecoderValidSpec : ChangeSpec := { name := "fnExactDecoderValid", fn := fun _ => fun
  | [d] => { results := [.lit (.bool true)], args := [d] }
  | _ => none }
def fnExactDecoderValidRow : OpenClaim := { program := "ytokgioccfeebkaa", sum := "fb075b35179ddcf0aeab7b902d632e8e7a60b58c584f42af0feb88bfcced81ff", func := "loop.example/prologserver/laws.FnExactDecoderValid", spec := "fnExactDecoderValid", apart := false }
def FnExactDecoderValidSaid : Prop := fnExactDecoderValidRow.holds Try.pinned (OpenSpec.ofChange fnExactDecoderValidSpec)

/-- ITS FALSE NEIGHBOUR: 'it returns false'. Refute it at one input. -/
def fnExactDecoderValidWrong : ChangeSpec := { name := "fnExactDecoderValid", fn := fun _ => fun
  | [d] => { results := [.lit (.bool false)], args := [d] }
  | _ => none }
def FnExactDecoderValidWrongFalsely : Prop := fnExactDecoderValidRow.holds Try.pinned (OpenSpec.ofChange fnExactDecoderValidWrong)

/-- 'laws.FnExactCodeSlots': WHATEVER THE INPUT: true; the input reads as it did. -/
def fnExactCodeSlotsSpec : ChangeSpec := { name := "fnExactCodeSlots", fn := fun _ => fun
  | [d] => { results := [.lit (.bool true)], args := [d] }
  | _ => none }
def fnExactCodeSlotsRow : OpenClaim := { program := "ytokgioccfeebkaa", sum := "fb075b35179ddcf0aeab7b902d632e8e7a60b58c584f42af0feb88bfcced81ff", func := "loop.example/prologserver/laws.FnExactCodeSlots", spec := "fnExactCodeSlots", apart := false }
def FnExactCodeSlotsSaid : Prop := fnExactCodeSlotsRow.holds Try.pinned (OpenSpec.ofChange fnExactCodeSlotsSpec)

/-- ITS FALSE NEIGHBOUR: 'it returns false'. Refute it at one input. -/
def fnExactCodeSlotsWrong : ChangeSpec := { name := "fnExactCodeSlots", fn := fun _ => fun
  | [d] => { results := [.lit (.bool false)], args := [d] }
  | _ => none }
def FnExactCodeSlotsWrongFalsely : Prop := fnExactCodeSlotsRow.holds Try.pinned (OpenSpec.ofChange fnExactCodeSlotsWrong)

/-- 'laws.FnExactAnswerSame': WHATEVER THE INPUT: true; the input reads as it did. -/
def fnExactAnswerSameSpec : ChangeSpec := { name := "fnExactAnswerSame", fn := fun _ => fun
  | [d1, d2] => { results := [.lit (.bool true)], args := [d1, d2] }
  | _ => none }
def fnExactAnswerSameRow : OpenClaim := { program := "ytokgioccfeebkaa", sum := "fb075b35179ddcf0aeab7b902d632e8e7a60b58c584f42af0feb88bfcced81ff", func := "loop.example/prologserver/laws.FnExactAnswerSame", spec := "fnExactAnswerSame", unfollowed := true, recurses := true, loops := true, apart := false }
def FnExactAnswerSameSaid : Prop := fnExactAnswerSameRow.holds Try.pinned (OpenSpec.ofChange fnExactAnswerSameSpec)

/-- ITS FALSE NEIGHBOUR: 'it returns false'. Refute it at one input. -/
def fnExactAnswerSameWrong : ChangeSpec := { name := "fnExactAnswerSame", fn := fun _ => fun
  | [d1, d2] => { results := [.lit (.bool false)], args := [d1, d2] }
  | _ => none }
def FnExactAnswerSameWrongFalsely : Prop := fnExactAnswerSameRow.holds Try.pinned (OpenSpec.ofChange fnExactAnswerSameWrong)

/-- 'laws.FnExactEncodeAll': WHATEVER THE INPUT: true; the input reads as it did. -/
def fnExactEncodeAllSpec : ChangeSpec := { name := "fnExactEncodeAll", fn := fun _ => fun
  | [d] => { results := [.lit (.bool true)], args := [d] }
  | _ => none }
def fnExactEncodeAllRow : OpenClaim := { program := "ytokgioccfeebkaa", sum := "fb075b35179ddcf0aeab7b902d632e8e7a60b58c584f42af0feb88bfcced81ff", func := "loop.example/prologserver/laws.FnExactEncodeAll", spec := "fnExactEncodeAll", apart := false }
def FnExactEncodeAllSaid : Prop := fnExactEncodeAllRow.holds Try.pinned (OpenSpec.ofChange fnExactEncodeAllSpec)

/-- ITS FALSE NEIGHBOUR: 'it returns false'. Refute it at one input. -/
def fnExactEncodeAllWrong : ChangeSpec := { name := "fnExactEncodeAll", fn := fun _ => fun
  | [d] => { results := [.lit (.bool false)], args := [d] }
  | _ => none }
def FnExactEncodeAllWrongFalsely : Prop := fnExactEncodeAllRow.holds Try.pinned (OpenSpec.ofChange fnExactEncodeAllWrong)

/-- 'laws.FnDecodeShort': WHATEVER THE INPUT: true; the input reads as it did. -/
def fnDecodeShortSpec : ChangeSpec := { name := "fnDecodeShort", fn := fun _ => fun
  | [d] => { results := [.lit (.bool true)], args := [d] }
  | _ => none }
def fnDecodeShortRow : OpenClaim := { program := "ytokgioccfeebkaa", sum := "fb075b35179ddcf0aeab7b902d632e8e7a60b58c584f42af0feb88bfcced81ff", func := "loop.example/prologserver/laws.FnDecodeShort", spec := "fnDecodeShort", apart := false }
def FnDecodeShortSaid : Prop := fnDecodeShortRow.holds Try.pinned (OpenSpec.ofChange fnDecodeShortSpec)

/-- ITS FALSE NEIGHBOUR: 'it returns false'. Refute it at one input. -/
def fnDecodeShortWrong : ChangeSpec := { name := "fnDecodeShort", fn := fun _ => fun
  | [d] => { results := [.lit (.bool false)], args := [d] }
  | _ => none }
def FnDecodeShortWrongFalsely : Prop := fnDecodeShortRow.holds Try.pinned (OpenSpec.ofChange fnDecodeShortWrong)

/-- 'laws.FnEncodeFrame': WHATEVER THE INPUT: true; the input reads as it did. -/
def fnEncodeFrameSpec : ChangeSpec := { name := "fnEncodeFrame", fn := fun _ => fun
  | [d] => { results := [.lit (.bool true)], args := [d] }
  | _ => none }
def fnEncodeFrameRow : OpenClaim := { program := "ytokgioccfeebkaa", sum := "fb075b35179ddcf0aeab7b902d632e8e7a60b58c584f42af0feb88bfcced81ff", func := "loop.example/prologserver/laws.FnEncodeFrame", spec := "fnEncodeFrame", apart := false }
def FnEncodeFrameSaid : Prop := fnEncodeFrameRow.holds Try.pinned (OpenSpec.ofChange fnEncodeFrameSpec)

/-- ITS FALSE NEIGHBOUR: 'it returns false'. Refute it at one input. -/
def fnEncodeFrameWrong : ChangeSpec := { name := "fnEncodeFrame", fn := fun _ => fun
  | [d] => { results := [.lit (.bool false)], args := [d] }
  | _ => none }
def FnEncodeFrameWrongFalsely : Prop := fnEncodeFrameRow.holds Try.pinned (OpenSpec.ofChange fnEncodeFrameWrong)

/- THE SECOND FORM. 'bulk': how many values and letters a reading holds, each counted each time it is reached (what is shared counts as often as it is met; a slice's spare places count too). A statement '..UptoSaid' is the law's where the arguments, and the package variables that the reading takes, are together of bulk at most 1048576: NARROWER than '..Said'. Prove '..Said' where nothing that the law and all that it calls make is longer than what came in: it says more and counts as full. Else prove '..UptoSaid'. A law counts once. -/
mutual
def uptoBulk {H : Type} : DataW H → Nat
  | .lit (.string bytes) => bytes.length + 1
  | .lit _ => 1
  | .nil => 1
  | .ptr d => uptoBulk d + 1
  | .slice elems spare => uptoBulkAll elems + uptoBulkAll spare + 1
  | .agg parts => uptoBulkAll parts + 1
  | .iface _ d => uptoBulk d + 1
  | .map entries => uptoBulkEntries entries + 1
  | .held _ => 1
def uptoBulkAll {H : Type} : List (DataW H) → Nat
  | [] => 0
  | d :: r => uptoBulk d + uptoBulkAll r
def uptoBulkEntries {H : Type} : List (Lit × DataW H) → Nat
  | [] => 0
  | x :: r => uptoBulkEntry x + uptoBulkEntries r
def uptoBulkEntry {H : Type} : Lit × DataW H → Nat
  | (.string bytes, d) => bytes.length + uptoBulk d + 1
  | (_, d) => uptoBulk d + 1
 end
def uptoSmall : (H : Type) → List (DataW H) → Bool := fun _ ds => decide (uptoBulkAll ds ≤ 1048576)
def OpenSpec.upto (s : _root_.Go.ChangeSpec) : _root_.Go.OpenSpec := { _root_.Go.OpenSpec.ofChange s with cond := some uptoSmall }

/-- 'laws.FnExactKeysFit', WHERE WHAT IT READS IS OF BULK AT MOST 1048576: true; the input reads as it did. -/
def fnExactKeysFitUptoRow : OpenClaim := { program := "ytokgioccfeebkaa", sum := "fb075b35179ddcf0aeab7b902d632e8e7a60b58c584f42af0feb88bfcced81ff", func := "loop.example/prologserver/laws.FnExactKeysFit", spec := "fnExactKeysFit", apart := false, narrowed := true }
def FnExactKeysFitUptoSaid : Prop := fnExactKeysFitUptoRow.holds Try.pinned (OpenSpec.upto fnExactKeysFitSpec)

/-- 'laws.FnKeysFit', WHERE WHAT IT READS IS OF BULK AT MOST 1048576: true; the input reads as it did. -/
def fnKeysFitUptoRow : OpenClaim := { program := "ytokgioccfeebkaa", sum := "fb075b35179ddcf0aeab7b902d632e8e7a60b58c584f42af0feb88bfcced81ff", func := "loop.example/prologserver/laws.FnKeysFit", spec := "fnKeysFit", apart := false, narrowed := true }
def FnKeysFitUptoSaid : Prop := fnKeysFitUptoRow.holds Try.pinned (OpenSpec.upto fnKeysFitSpec)

/-- 'laws.FnExactFrameValid', WHERE WHAT IT READS IS OF BULK AT MOST 1048576: true; the input reads as it did. -/
def fnExactFrameValidUptoRow : OpenClaim := { program := "ytokgioccfeebkaa", sum := "fb075b35179ddcf0aeab7b902d632e8e7a60b58c584f42af0feb88bfcced81ff", func := "loop.example/prologserver/laws.FnExactFrameValid", spec := "fnExactFrameValid", apart := false, narrowed := true }
def FnExactFrameValidUptoSaid : Prop := fnExactFrameValidUptoRow.holds Try.pinned (OpenSpec.upto fnExactFrameValidSpec)

/-- 'laws.FnNewServer', WHERE WHAT IT READS IS OF BULK AT MOST 1048576: true; the input reads as it did. -/
def fnNewServerUptoRow : OpenClaim := { program := "ytokgioccfeebkaa", sum := "fb075b35179ddcf0aeab7b902d632e8e7a60b58c584f42af0feb88bfcced81ff", func := "loop.example/prologserver/laws.FnNewServer", spec := "fnNewServer", apart := false, narrowed := true }
def FnNewServerUptoSaid : Prop := fnNewServerUptoRow.holds Try.pinned (OpenSpec.upto fnNewServerSpec)

/-- 'laws.FnExactEncodeFrame', WHERE WHAT IT READS IS OF BULK AT MOST 1048576: true; the input reads as it did. -/
def fnExactEncodeFrameUptoRow : OpenClaim := { program := "ytokgioccfeebkaa", sum := "fb075b35179ddcf0aeab7b902d632e8e7a60b58c584f42af0feb88bfcced81ff", func := "loop.example/prologserver/laws.FnExactEncodeFrame", spec := "fnExactEncodeFrame", apart := false, narrowed := true }
def FnExactEncodeFrameUptoSaid : Prop := fnExactEncodeFrameUptoRow.holds Try.pinned (OpenSpec.upto fnExactEncodeFrameSpec)

/-- 'laws.FnExactDecoderValid', WHERE WHAT IT READS IS OF BULK AT MOST 1048576: true; the input reads as it did. -/
def fnExactDecoderValidUptoRow : OpenClaim := { program := "ytokgioccfeebkaa", sum := "fb075b35179ddcf0aeab7b902d632e8e7a60b58c584f42af0feb88bfcced81ff", func := "loop.example/prologserver/laws.FnExactDecoderValid", spec := "fnExactDecoderValid", apart := false, narrowed := true }
def FnExactDecoderValidUptoSaid : Prop := fnExactDecoderValidUptoRow.holds Try.pinned (OpenSpec.upto fnExactDecoderValidSpec)

/-- 'laws.FnExactCodeSlots', WHERE WHAT IT READS IS OF BULK AT MOST 1048576: true; the input reads as it did. -/
def fnExactCodeSlotsUptoRow : OpenClaim := { program := "ytokgioccfeebkaa", sum := "fb075b35179ddcf0aeab7b902d632e8e7a60b58c584f42af0feb88bfcced81ff", func := "loop.example/prologserver/laws.FnExactCodeSlots", spec := "fnExactCodeSlots", apart := false, narrowed := true }
def FnExactCodeSlotsUptoSaid : Prop := fnExactCodeSlotsUptoRow.holds Try.pinned (OpenSpec.upto fnExactCodeSlotsSpec)

/-- 'laws.FnExactAnswerSame', WHERE WHAT IT READS IS OF BULK AT MOST 1048576: true; the input reads as it did. -/
def fnExactAnswerSameUptoRow : OpenClaim := { program := "ytokgioccfeebkaa", sum := "fb075b35179ddcf0aeab7b902d632e8e7a60b58c584f42af0feb88bfcced81ff", func := "loop.example/prologserver/laws.FnExactAnswerSame", spec := "fnExactAnswerSame", unfollowed := true, recurses := true, loops := true, apart := false, narrowed := true }
def FnExactAnswerSameUptoSaid : Prop := fnExactAnswerSameUptoRow.holds Try.pinned (OpenSpec.upto fnExactAnswerSameSpec)

/-- 'laws.FnExactEncodeAll', WHERE WHAT IT READS IS OF BULK AT MOST 1048576: true; the input reads as it did. -/
def fnExactEncodeAllUptoRow : OpenClaim := { program := "ytokgioccfeebkaa", sum := "fb075b35179ddcf0aeab7b902d632e8e7a60b58c584f42af0feb88bfcced81ff", func := "loop.example/prologserver/laws.FnExactEncodeAll", spec := "fnExactEncodeAll", apart := false, narrowed := true }
def FnExactEncodeAllUptoSaid : Prop := fnExactEncodeAllUptoRow.holds Try.pinned (OpenSpec.upto fnExactEncodeAllSpec)

/-- 'laws.FnDecodeShort', WHERE WHAT IT READS IS OF BULK AT MOST 1048576: true; the input reads as it did. -/
def fnDecodeShortUptoRow : OpenClaim := { program := "ytokgioccfeebkaa", sum := "fb075b35179ddcf0aeab7b902d632e8e7a60b58c584f42af0feb88bfcced81ff", func := "loop.example/prologserver/laws.FnDecodeShort", spec := "fnDecodeShort", apart := false, narrowed := true }
def FnDecodeShortUptoSaid : Prop := fnDecodeShortUptoRow.holds Try.pinned (OpenSpec.upto fnDecodeShortSpec)

/-- 'laws.FnEncodeFrame', WHERE WHAT IT READS IS OF BULK AT MOST 1048576: true; the input reads as it did. -/
def fnEncodeFrameUptoRow : OpenClaim := { program := "ytokgioccfeebkaa", sum := "fb075b35179ddcf0aeab7b902d632e8e7a60b58c584f42af0feb88bfcced81ff", func := "loop.example/prologserver/laws.FnEncodeFrame", spec := "fnEncodeFrame", apart := false, narrowed := true }
def FnEncodeFrameUptoSaid : Prop := fnEncodeFrameUptoRow.holds Try.pinned (OpenSpec.upto fnEncodeFrameSpec)

end Rows
end Go.Proofs.Ytokgioccfeebkaa
