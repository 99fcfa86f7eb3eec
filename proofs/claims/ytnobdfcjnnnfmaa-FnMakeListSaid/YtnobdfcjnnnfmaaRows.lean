/-
  NARROWER THAN 'FOR EVERY INPUT', by the rows' own cells (each row's printed sentence says how): FnExactSessionSame: loops · FnExactQueryValid: loops · FnExactPureProgram: loops.
  DERIVED. THE GIVEN ROWS OF THIS SEAT. 12 by the template 'for every input the law returns true; each argument reads behind the call as it read before'; 0 by the template 'total and deterministic' (their statements: YtnobdfcjnnnfmaaTotals.lean).
  GIVEN WITH THE SEED: the statements are not yours to turn. If you find one false, say at which input.
  Laid BY PROGRAM, IN A SANDBOX (cutbox-rows.mjs): the forced cells as the released guide's own fill.sh prints them over the translation 3331ee5608e57c69… (all of the seat's roots in one cut). By AI agents, Wed Nov 11 2026. No macro, syntax, notation, axiom, sorry.
-/
import Derived.Test.YtnobdfcjnnnfmaaChecked
import GoSem.Claim
import GoSem.ClaimJoined
import GoSem.ClaimMapViews
import Derived.JoinedTies
import Derived.KernelRfl
namespace Go.Proofs.Ytnobdfcjnnnfmaa
/- THE CELL 'sum', in the pinned program and in every row, IS THE sha256 OF THE DUMP (.gsa) THAT YtnobdfcjnnnfmaaProg.lean LOADS. Nothing in Lean hashes anything: it is a label: what it is worth is what the hold of that sum in a sandbox is worth. -/
noncomputable def Try.pinned : Pinned := { name := "ytnobdfcjnnnfmaa", sum := "3331ee5608e57c69b8b26e930bfcca0573c40ea61be23bfb7b01836d6d9aab19", checked := Try.checked }
namespace Rows
def none {H : Type} : Left H := { results := [], args := [] }

/-- 'laws.FnExactDecodeAll': WHATEVER THE INPUT: true; the input reads as it did. -/
def fnExactDecodeAllSpec : ChangeSpec := { name := "fnExactDecodeAll", fn := fun _ => fun
  | [d] => { results := [.lit (.bool true)], args := [d] }
  | _ => none }
def fnExactDecodeAllRow : OpenClaim := { program := "ytnobdfcjnnnfmaa", sum := "3331ee5608e57c69b8b26e930bfcca0573c40ea61be23bfb7b01836d6d9aab19", func := "loop.example/prologserver/laws.FnExactDecodeAll", spec := "fnExactDecodeAll", apart := false }
def FnExactDecodeAllSaid : Prop := fnExactDecodeAllRow.holds Try.pinned (OpenSpec.ofChange fnExactDecodeAllSpec)

/-- ITS FALSE NEIGHBOUR: 'it returns false'. Refute it at one input. -/
def fnExactDecodeAllWrong : ChangeSpec := { name := "fnExactDecodeAll", fn := fun _ => fun
  | [d] => { results := [.lit (.bool false)], args := [d] }
  | _ => none }
def FnExactDecodeAllWrongFalsely : Prop := fnExactDecodeAllRow.holds Try.pinned (OpenSpec.ofChange fnExactDecodeAllWrong)

/-- 'laws.FnDecodeParts': WHATEVER THE INPUT: true; the input reads as it did. -/
def fnDecodePartsSpec : ChangeSpec := { name := "fnDecodeParts", fn := fun _ => fun
  | [d1, d2] => { results := [.lit (.bool true)], args := [d1, d2] }
  | _ => none }
def fnDecodePartsRow : OpenClaim := { program := "ytnobdfcjnnnfmaa", sum := "3331ee5608e57c69b8b26e930bfcca0573c40ea61be23bfb7b01836d6d9aab19", func := "loop.example/prologserver/laws.FnDecodeParts", spec := "fnDecodeParts", apart := false }
def FnDecodePartsSaid : Prop := fnDecodePartsRow.holds Try.pinned (OpenSpec.ofChange fnDecodePartsSpec)

/-- ITS FALSE NEIGHBOUR: 'it returns false'. Refute it at one input. -/
def fnDecodePartsWrong : ChangeSpec := { name := "fnDecodeParts", fn := fun _ => fun
  | [d1, d2] => { results := [.lit (.bool false)], args := [d1, d2] }
  | _ => none }
def FnDecodePartsWrongFalsely : Prop := fnDecodePartsRow.holds Try.pinned (OpenSpec.ofChange fnDecodePartsWrong)

/-- 'laws.FnExactSessionSame': WHATEVER THE INPUT: true; the input reads as it did. -/
def fnExactSessionSameSpec : ChangeSpec := { name := "fnExactSessionSame", fn := fun _ => fun
  | [d1, d2] => { results := [.lit (.bool true)], args := [d1, d2] }
  | _ => none }
def fnExactSessionSameRow : OpenClaim := { program := "ytnobdfcjnnnfmaa", sum := "3331ee5608e57c69b8b26e930bfcca0573c40ea61be23bfb7b01836d6d9aab19", func := "loop.example/prologserver/laws.FnExactSessionSame", spec := "fnExactSessionSame", unfollowed := true, recurses := true, loops := true, apart := false }
def FnExactSessionSameSaid : Prop := fnExactSessionSameRow.holds Try.pinned (OpenSpec.ofChange fnExactSessionSameSpec)

/-- ITS FALSE NEIGHBOUR: 'it returns false'. Refute it at one input. -/
def fnExactSessionSameWrong : ChangeSpec := { name := "fnExactSessionSame", fn := fun _ => fun
  | [d1, d2] => { results := [.lit (.bool false)], args := [d1, d2] }
  | _ => none }
def FnExactSessionSameWrongFalsely : Prop := fnExactSessionSameRow.holds Try.pinned (OpenSpec.ofChange fnExactSessionSameWrong)

/-- 'laws.FnDecodeStream': WHATEVER THE INPUT: true; the input reads as it did. -/
def fnDecodeStreamSpec : ChangeSpec := { name := "fnDecodeStream", fn := fun _ => fun
  | [d] => { results := [.lit (.bool true)], args := [d] }
  | _ => none }
def fnDecodeStreamRow : OpenClaim := { program := "ytnobdfcjnnnfmaa", sum := "3331ee5608e57c69b8b26e930bfcca0573c40ea61be23bfb7b01836d6d9aab19", func := "loop.example/prologserver/laws.FnDecodeStream", spec := "fnDecodeStream", apart := false }
def FnDecodeStreamSaid : Prop := fnDecodeStreamRow.holds Try.pinned (OpenSpec.ofChange fnDecodeStreamSpec)

/-- ITS FALSE NEIGHBOUR: 'it returns false'. Refute it at one input. -/
def fnDecodeStreamWrong : ChangeSpec := { name := "fnDecodeStream", fn := fun _ => fun
  | [d] => { results := [.lit (.bool false)], args := [d] }
  | _ => none }
def FnDecodeStreamWrongFalsely : Prop := fnDecodeStreamRow.holds Try.pinned (OpenSpec.ofChange fnDecodeStreamWrong)

/-- 'laws.FnDecoderValid': WHATEVER THE INPUT: true; the input reads as it did. -/
def fnDecoderValidSpec : ChangeSpec := { name := "fnDecoderValid", fn := fun _ => fun
  | [d1, d2] => { results := [.lit (.bool true)], args := [d1, d2] }
  | _ => none }
def fnDecoderValidRow : OpenClaim := { program := "ytnobdfcjnnnfmaa", sum := "3331ee5608e57c69b8b26e930bfcca0573c40ea61be23bfb7b01836d6d9aab19", func := "loop.example/prologserver/laws.FnDecoderValid", spec := "fnDecoderValid", apart := false }
def FnDecoderValidSaid : Prop := fnDecoderValidRow.holds Try.pinned (OpenSpec.ofChange fnDecoderValidSpec)

/-- ITS FALSE NEIGHBOUR: 'it returns false'. Refute it at one input. -/
def fnDecoderValidWrong : ChangeSpec := { name := "fnDecoderValid", fn := fun _ => fun
  | [d1, d2] => { results := [.lit (.bool false)], args := [d1, d2] }
  | _ => none }
def FnDecoderValidWrongFalsely : Prop := fnDecoderValidRow.holds Try.pinned (OpenSpec.ofChange fnDecoderValidWrong)

/-- 'laws.FnFeedDecoder': WHATEVER THE INPUT: true; the input reads as it did. -/
def fnFeedDecoderSpec : ChangeSpec := { name := "fnFeedDecoder", fn := fun _ => fun
  | [d1, d2] => { results := [.lit (.bool true)], args := [d1, d2] }
  | _ => none }
def fnFeedDecoderRow : OpenClaim := { program := "ytnobdfcjnnnfmaa", sum := "3331ee5608e57c69b8b26e930bfcca0573c40ea61be23bfb7b01836d6d9aab19", func := "loop.example/prologserver/laws.FnFeedDecoder", spec := "fnFeedDecoder", apart := false }
def FnFeedDecoderSaid : Prop := fnFeedDecoderRow.holds Try.pinned (OpenSpec.ofChange fnFeedDecoderSpec)

/-- ITS FALSE NEIGHBOUR: 'it returns false'. Refute it at one input. -/
def fnFeedDecoderWrong : ChangeSpec := { name := "fnFeedDecoder", fn := fun _ => fun
  | [d1, d2] => { results := [.lit (.bool false)], args := [d1, d2] }
  | _ => none }
def FnFeedDecoderWrongFalsely : Prop := fnFeedDecoderRow.holds Try.pinned (OpenSpec.ofChange fnFeedDecoderWrong)

/-- 'laws.FnEncodeAll': WHATEVER THE INPUT: true; the input reads as it did. -/
def fnEncodeAllSpec : ChangeSpec := { name := "fnEncodeAll", fn := fun _ => fun
  | [d1, d2] => { results := [.lit (.bool true)], args := [d1, d2] }
  | _ => none }
def fnEncodeAllRow : OpenClaim := { program := "ytnobdfcjnnnfmaa", sum := "3331ee5608e57c69b8b26e930bfcca0573c40ea61be23bfb7b01836d6d9aab19", func := "loop.example/prologserver/laws.FnEncodeAll", spec := "fnEncodeAll", apart := false }
def FnEncodeAllSaid : Prop := fnEncodeAllRow.holds Try.pinned (OpenSpec.ofChange fnEncodeAllSpec)

/-- ITS FALSE NEIGHBOUR: 'it returns false'. Refute it at one input. -/
def fnEncodeAllWrong : ChangeSpec := { name := "fnEncodeAll", fn := fun _ => fun
  | [d1, d2] => { results := [.lit (.bool false)], args := [d1, d2] }
  | _ => none }
def FnEncodeAllWrongFalsely : Prop := fnEncodeAllRow.holds Try.pinned (OpenSpec.ofChange fnEncodeAllWrong)

/-- 'laws.FnExactQueryValid': WHATEVER THE INPUT: true; the input reads as it did. -/
def fnExactQueryValidSpec : ChangeSpec := { name := "fnExactQueryValid", fn := fun _ => fun
  | [d] => { results := [.lit (.bool true)], args := [d] }
  | _ => none }
def fnExactQueryValidRow : OpenClaim := { program := "ytnobdfcjnnnfmaa", sum := "3331ee5608e57c69b8b26e930bfcca0573c40ea61be23bfb7b01836d6d9aab19", func := "loop.example/prologserver/laws.FnExactQueryValid", spec := "fnExactQueryValid", unfollowed := true, recurses := true, loops := true, apart := false }
def FnExactQueryValidSaid : Prop := fnExactQueryValidRow.holds Try.pinned (OpenSpec.ofChange fnExactQueryValidSpec)

/-- ITS FALSE NEIGHBOUR: 'it returns false'. Refute it at one input. -/
def fnExactQueryValidWrong : ChangeSpec := { name := "fnExactQueryValid", fn := fun _ => fun
  | [d] => { results := [.lit (.bool false)], args := [d] }
  | _ => none }
def FnExactQueryValidWrongFalsely : Prop := fnExactQueryValidRow.holds Try.pinned (OpenSpec.ofChange fnExactQueryValidWrong)

/-- 'laws.FnExactFeedDecoder': WHATEVER THE INPUT: true; the input reads as it did. -/
def fnExactFeedDecoderSpec : ChangeSpec := { name := "fnExactFeedDecoder", fn := fun _ => fun
  | [d1, d2] => { results := [.lit (.bool true)], args := [d1, d2] }
  | _ => none }
def fnExactFeedDecoderRow : OpenClaim := { program := "ytnobdfcjnnnfmaa", sum := "3331ee5608e57c69b8b26e930bfcca0573c40ea61be23bfb7b01836d6d9aab19", func := "loop.example/prologserver/laws.FnExactFeedDecoder", spec := "fnExactFeedDecoder", apart := false }
def FnExactFeedDecoderSaid : Prop := fnExactFeedDecoderRow.holds Try.pinned (OpenSpec.ofChange fnExactFeedDecoderSpec)

/-- ITS FALSE NEIGHBOUR: 'it returns false'. Refute it at one input. -/
def fnExactFeedDecoderWrong : ChangeSpec := { name := "fnExactFeedDecoder", fn := fun _ => fun
  | [d1, d2] => { results := [.lit (.bool false)], args := [d1, d2] }
  | _ => none }
def FnExactFeedDecoderWrongFalsely : Prop := fnExactFeedDecoderRow.holds Try.pinned (OpenSpec.ofChange fnExactFeedDecoderWrong)

/-- 'laws.FnListOf': WHATEVER THE INPUT: true; the input reads as it did. -/
def fnListOfSpec : ChangeSpec := { name := "fnListOf", fn := fun _ => fun
  | [d] => { results := [.lit (.bool true)], args := [d] }
  | _ => none }
def fnListOfRow : OpenClaim := { program := "ytnobdfcjnnnfmaa", sum := "3331ee5608e57c69b8b26e930bfcca0573c40ea61be23bfb7b01836d6d9aab19", func := "loop.example/prologserver/laws.FnListOf", spec := "fnListOf", unfollowed := true, recurses := true, apart := false }
def FnListOfSaid : Prop := fnListOfRow.holds Try.pinned (OpenSpec.ofChange fnListOfSpec)

/-- ITS FALSE NEIGHBOUR: 'it returns false'. Refute it at one input. -/
def fnListOfWrong : ChangeSpec := { name := "fnListOf", fn := fun _ => fun
  | [d] => { results := [.lit (.bool false)], args := [d] }
  | _ => none }
def FnListOfWrongFalsely : Prop := fnListOfRow.holds Try.pinned (OpenSpec.ofChange fnListOfWrong)

/-- 'laws.FnMakeList': WHATEVER THE INPUT: true; the input reads as it did. -/
def fnMakeListSpec : ChangeSpec := { name := "fnMakeList", fn := fun _ => fun
  | [d] => { results := [.lit (.bool true)], args := [d] }
  | _ => none }
def fnMakeListRow : OpenClaim := { program := "ytnobdfcjnnnfmaa", sum := "3331ee5608e57c69b8b26e930bfcca0573c40ea61be23bfb7b01836d6d9aab19", func := "loop.example/prologserver/laws.FnMakeList", spec := "fnMakeList", unfollowed := true, recurses := true, apart := false }
def FnMakeListSaid : Prop := fnMakeListRow.holds Try.pinned (OpenSpec.ofChange fnMakeListSpec)

/-- ITS FALSE NEIGHBOUR: 'it returns false'. Refute it at one input. -/
def fnMakeListWrong : ChangeSpec := { name := "fnMakeList", fn := fun _ => fun
  | [d] => { results := [.lit (.bool false)], args := [d] }
  | _ => none }
def FnMakeListWrongFalsely : Prop := fnMakeListRow.holds Try.pinned (OpenSpec.ofChange fnMakeListWrong)

/-- 'laws.FnExactPureProgram': WHATEVER THE INPUT: true; the input reads as it did. -/
def fnExactPureProgramSpec : ChangeSpec := { name := "fnExactPureProgram", fn := fun _ => fun
  | [d] => { results := [.lit (.bool true)], args := [d] }
  | _ => none }
def fnExactPureProgramRow : OpenClaim := { program := "ytnobdfcjnnnfmaa", sum := "3331ee5608e57c69b8b26e930bfcca0573c40ea61be23bfb7b01836d6d9aab19", func := "loop.example/prologserver/laws.FnExactPureProgram", spec := "fnExactPureProgram", unfollowed := true, recurses := true, loops := true, apart := false }
def FnExactPureProgramSaid : Prop := fnExactPureProgramRow.holds Try.pinned (OpenSpec.ofChange fnExactPureProgramSpec)

/-- ITS FALSE NEIGHBOUR: 'it returns false'. Refute it at one input. -/
def fnExactPureProgramWrong : ChangeSpec := { name := "fnExactPureProgram", fn := fun _ => fun
  | [d] => { results := [.lit (.bool false)], args := [d] }
  | _ => none }
def FnExactPureProgramWrongFalsely : Prop := fnExactPureProgramRow.holds Try.pinned (OpenSpec.ofChange fnExactPureProgramWrong)

/- THE SECOND FORM. 'bulk': how many values and letters a reading holds, each counted each time it is reached (what is shared counts as often as it is met; a slice's spare places count too). A statement '..UptoSaid' is the law's where the arguments, and the package variables that the reading takes, are together of bulk at most 1048576: NARROWER than '..Said'. Prove '..Said' where nothing that the law and all that it calls make is longer than what came in: it says more and counts as full. Else prove '..UptoSaid'. A law counts once. -/
mutual
def uptoBulk {H : Type} : DataW H → Nat
  | .lit (.string bytes) => bytes.length + 1
  | .lit _ => 1
  | .nil => 1
  | .ptr d => uptoBulk d + 1
  | .slice elems spare => uptoBulkAll elems + uptoBulkAll spare + 1
  | .agg parts => uptoBulkAll parts + 1
  | .iface _ d => uptoBulk d + 1
  | .map entries => uptoBulkEntries entries + 1
  | .held _ => 1
def uptoBulkAll {H : Type} : List (DataW H) → Nat
  | [] => 0
  | d :: r => uptoBulk d + uptoBulkAll r
def uptoBulkEntries {H : Type} : List (Lit × DataW H) → Nat
  | [] => 0
  | x :: r => uptoBulkEntry x + uptoBulkEntries r
def uptoBulkEntry {H : Type} : Lit × DataW H → Nat
  | (.string bytes, d) => bytes.length + uptoBulk d + 1
  | (_, d) => uptoBulk d + 1
 end
def uptoSmall : (H : Type) → List (DataW H) → Bool := fun _ ds => decide (uptoBulkAll ds ≤ 1048576)
def OpenSpec.upto (s : _root_.Go.ChangeSpec) : _root_.Go.OpenSpec := { _root_.Go.OpenSpec.ofChange s with cond := some uptoSmall }

/-- 'laws.FnExactDecodeAll', WHERE WHAT IT READS IS OF BULK AT MOST 1048576: true; the input reads as it did. -/
def fnExactDecodeAllUptoRow : OpenClaim := { program := "ytnobdfcjnnnfmaa", sum := "3331ee5608e57c69b8b26e930bfcca0573c40ea61be23bfb7b01836d6d9aab19", func := "loop.example/prologserver/laws.FnExactDecodeAll", spec := "fnExactDecodeAll", apart := false, narrowed := true }
def FnExactDecodeAllUptoSaid : Prop := fnExactDecodeAllUptoRow.holds Try.pinned (OpenSpec.upto fnExactDecodeAllSpec)

/-- 'laws.FnDecodeParts', WHERE WHAT IT READS IS OF BULK AT MOST 1048576: true; the input reads as it did. -/
def fnDecodePartsUptoRow : OpenClaim := { program := "ytnobdfcjnnnfmaa", sum := "3331ee5608e57c69b8b26e930bfcca0573c40ea61be23bfb7b01836d6d9aab19", func := "loop.example/prologserver/laws.FnDecodeParts", spec := "fnDecodeParts", apart := false, narrowed := true }
def FnDecodePartsUptoSaid : Prop := fnDecodePartsUptoRow.holds Try.pinned (OpenSpec.upto fnDecodePartsSpec)

/-- 'laws.FnExactSessionSame', WHERE WHAT IT READS IS OF BULK AT MOST 1048576: true; the input reads as it did. -/
def fnExactSessionSameUptoRow : OpenClaim := { program := "ytnobdfcjnnnfmaa", sum := "3331ee5608e57c69b8b26e930bfcca0573c40ea61be23bfb7b01836d6d9aab19", func := "loop.example/prologserver/laws.FnExactSessionSame", spec := "fnExactSessionSame", unfollowed := true, recurses := true, loops := true, apart := false, narrowed := true }
def FnExactSessionSameUptoSaid : Prop := fnExactSessionSameUptoRow.holds Try.pinned (OpenSpec.upto fnExactSessionSameSpec)

/-- 'laws.FnDecodeStream', WHERE WHAT IT READS IS OF BULK AT MOST 1048576: true; the input reads as it did. -/
def fnDecodeStreamUptoRow : OpenClaim := { program := "ytnobdfcjnnnfmaa", sum := "3331ee5608e57c69b8b26e930bfcca0573c40ea61be23bfb7b01836d6d9aab19", func := "loop.example/prologserver/laws.FnDecodeStream", spec := "fnDecodeStream", apart := false, narrowed := true }
def FnDecodeStreamUptoSaid : Prop := fnDecodeStreamUptoRow.holds Try.pinned (OpenSpec.upto fnDecodeStreamSpec)

/-- 'laws.FnDecoderValid', WHERE WHAT IT READS IS OF BULK AT MOST 1048576: true; the input reads as it did. -/
def fnDecoderValidUptoRow : OpenClaim := { program := "ytnobdfcjnnnfmaa", sum := "3331ee5608e57c69b8b26e930bfcca0573c40ea61be23bfb7b01836d6d9aab19", func := "loop.example/prologserver/laws.FnDecoderValid", spec := "fnDecoderValid", apart := false, narrowed := true }
def FnDecoderValidUptoSaid : Prop := fnDecoderValidUptoRow.holds Try.pinned (OpenSpec.upto fnDecoderValidSpec)

/-- 'laws.FnFeedDecoder', WHERE WHAT IT READS IS OF BULK AT MOST 1048576: true; the input reads as it did. -/
def fnFeedDecoderUptoRow : OpenClaim := { program := "ytnobdfcjnnnfmaa", sum := "3331ee5608e57c69b8b26e930bfcca0573c40ea61be23bfb7b01836d6d9aab19", func := "loop.example/prologserver/laws.FnFeedDecoder", spec := "fnFeedDecoder", apart := false, narrowed := true }
def FnFeedDecoderUptoSaid : Prop := fnFeedDecoderUptoRow.holds Try.pinned (OpenSpec.upto fnFeedDecoderSpec)

/-- 'laws.FnEncodeAll', WHERE WHAT IT READS IS OF BULK AT MOST 1048576: true; the input reads as it did. -/
def fnEncodeAllUptoRow : OpenClaim := { program := "ytnobdfcjnnnfmaa", sum := "3331ee5608e57c69b8b26e930bfcca0573c40ea61be23bfb7b01836d6d9aab19", func := "loop.example/prologserver/laws.FnEncodeAll", spec := "fnEncodeAll", apart := false, narrowed := true }
def FnEncodeAllUptoSaid : Prop := fnEncodeAllUptoRow.holds Try.pinned (OpenSpec.upto fnEncodeAllSpec)

/-- 'laws.FnExactQueryValid', WHERE WHAT IT READS IS OF BULK AT MOST 1048576: true; the input reads as it did. -/
def fnExactQueryValidUptoRow : OpenClaim := { program := "ytnobdfcjnnnfmaa", sum := "3331ee5608e57c69b8b26e930bfcca0573c40ea61be23bfb7b01836d6d9aab19", func := "loop.example/prologserver/laws.FnExactQueryValid", spec := "fnExactQueryValid", unfollowed := true, recurses := true, loops := true, apart := false, narrowed := true }
def FnExactQueryValidUptoSaid : Prop := fnExactQueryValidUptoRow.holds Try.pinned (OpenSpec.upto fnExactQueryValidSpec)

/-- 'laws.FnExactFeedDecoder', WHERE WHAT IT READS IS OF BULK AT MOST 1048576: true; the input reads as it did. -/
def fnExactFeedDecoderUptoRow : OpenClaim := { program := "ytnobdfcjnnnfmaa", sum := "3331ee5608e57c69b8b26e930bfcca0573c40ea61be23bfb7b01836d6d9aab19", func := "loop.example/prologserver/laws.FnExactFeedDecoder", spec := "fnExactFeedDecoder", apart := false, narrowed := true }
def FnExactFeedDecoderUptoSaid : Prop := fnExactFeedDecoderUptoRow.holds Try.pinned (OpenSpec.upto fnExactFeedDecoderSpec)

/-- 'laws.FnListOf', WHERE WHAT IT READS IS OF BULK AT MOST 1048576: true; the input reads as it did. -/
def fnListOfUptoRow : OpenClaim := { program := "ytnobdfcjnnnfmaa", sum := "3331ee5608e57c69b8b26e930bfcca0573c40ea61be23bfb7b01836d6d9aab19", func := "loop.example/prologserver/laws.FnListOf", spec := "fnListOf", unfollowed := true, recurses := true, apart := false, narrowed := true }
def FnListOfUptoSaid : Prop := fnListOfUptoRow.holds Try.pinned (OpenSpec.upto fnListOfSpec)

/-- 'laws.FnMakeList', WHERE WHAT IT READS IS OF BULK AT MOST 1048576: true; the input reads as it did. -/
def fnMakeListUptoRow : OpenClaim := { program := "ytnobdfcjnnnfmaa", sum := "3331ee5608e57c69b8b26e930bfcca0573c40ea61be23bfb7b01836d6d9aab19", func := "loop.example/prologserver/laws.FnMakeList", spec := "fnMakeList", unfollowed := true, recurses := true, apart := false, narrowed := true }
def FnMakeListUptoSaid : Prop := fnMakeListUptoRow.holds Try.pinned (OpenSpec.upto fnMakeListSpec)

/-- 'laws.FnExactPureProgram', WHERE WHAT IT READS IS OF BULK AT MOST 1048576: true; the input reads as it did. -/
def fnExactPureProgramUptoRow : OpenClaim := { program := "ytnobdfcjnnnfmaa", sum := "3331ee5608e57c69b8b26e930bfcca0573c40ea61be23bfb7b01836d6d9aab19", func := "loop.example/prologserver/laws.FnExactPureProgram", spec := "fnExactPureProgram", unfollowed := true, recurses := true, loops := true, apart := false, narrowed := true }
def FnExactPureProgramUptoSaid : Prop := fnExactPureProgramUptoRow.holds Try.pinned (OpenSpec.upto fnExactPureProgramSpec)

end Rows
end Go.Proofs.Ytnobdfcjnnnfmaa
