/-
  No cell of these rows narrows 'for every input' (looked for: loops, veiled, ifaces, maps, wideKeys, modest, calm, conditions, laid).
  DERIVED. THE GIVEN ROWS OF THIS SEAT. 5 by the template 'for every input the law returns true; each argument reads behind the call as it read before'; 0 by the template 'total and deterministic' (their statements: YtamaaiabbganjaaTotals.lean).
  GIVEN WITH THE SEED: the statements are not yours to turn. If you find one false, say at which input.
  Laid BY PROGRAM, IN A SANDBOX (cutbox-rows.mjs): the forced cells as the released guide's own fill.sh prints them over the translation d900d0cb13d16522… (all of the seat's roots in one cut). By AI agents, Wed Nov 11 2026. No macro, syntax, notation, axiom, sorry.
-/
import Derived.Test.YtamaaiabbganjaaChecked
import GoSem.Claim
import GoSem.ClaimJoined
import GoSem.ClaimMapViews
import Derived.JoinedTies
import Derived.KernelRfl
namespace Go.Proofs.Ytamaaiabbganjaa
/- THE CELL 'sum', in the pinned program and in every row, IS THE sha256 OF THE DUMP (.gsa) THAT YtamaaiabbganjaaProg.lean LOADS. Nothing in Lean hashes anything: it is a label: what it is worth is what the hold of that sum in a sandbox is worth. -/
noncomputable def Try.pinned : Pinned := { name := "ytamaaiabbganjaa", sum := "d900d0cb13d1652262dc8a099df5e281d9dee0b0cf591227ad1a3793fa8c8661", checked := Try.checked }
namespace Rows
def none {H : Type} : Left H := { results := [], args := [] }

/-- 'laws.FnExactEncodeFrame': WHATEVER THE INPUT: true; the input reads as it did. -/
def fnExactEncodeFrameSpec : ChangeSpec := { name := "fnExactEncodeFrame", fn := fun _ => fun
  | [d] => { results := [.lit (.bool true)], args := [d] }
  | _ => none }
def fnExactEncodeFrameRow : OpenClaim := { program := "ytamaaiabbganjaa", sum := "d900d0cb13d1652262dc8a099df5e281d9dee0b0cf591227ad1a3793fa8c8661", func := "loop.example/prologserver/laws.FnExactEncodeFrame", spec := "fnExactEncodeFrame", apart := false }
def FnExactEncodeFrameSaid : Prop := fnExactEncodeFrameRow.holds Try.pinned (OpenSpec.ofChange fnExactEncodeFrameSpec)

/-- ITS FALSE NEIGHBOUR: 'it returns false'. Refute it at one input. -/
def fnExactEncodeFrameWrong : ChangeSpec := { name := "fnExactEncodeFrame", fn := fun _ => fun
  | [d] => { results := [.lit (.bool false)], args := [d] }
  | _ => none }
def FnExactEncodeFrameWrongFalsely : Prop := fnExactEncodeFrameRow.holds Try.pinned (OpenSpec.ofChange fnExactEncodeFrameWrong)

/-- 'laws.FnExactEncodeAll': WHATEVER THE INPUT: true; the input reads as it did. -/
def fnExactEncodeAllSpec : ChangeSpec := { name := "fnExactEncodeAll", fn := fun _ => fun
  | [d] => { results := [.lit (.bool true)], args := [d] }
  | _ => none }
def fnExactEncodeAllRow : OpenClaim := { program := "ytamaaiabbganjaa", sum := "d900d0cb13d1652262dc8a099df5e281d9dee0b0cf591227ad1a3793fa8c8661", func := "loop.example/prologserver/laws.FnExactEncodeAll", spec := "fnExactEncodeAll", apart := false }
def FnExactEncodeAllSaid : Prop := fnExactEncodeAllRow.holds Try.pinned (OpenSpec.ofChange fnExactEncodeAllSpec)

/-- ITS FALSE NEIGHBOUR: 'it returns false'. Refute it at one input. -/
def fnExactEncodeAllWrong : ChangeSpec := { name := "fnExactEncodeAll", fn := fun _ => fun
  | [d] => { results := [.lit (.bool false)], args := [d] }
  | _ => none }
def FnExactEncodeAllWrongFalsely : Prop := fnExactEncodeAllRow.holds Try.pinned (OpenSpec.ofChange fnExactEncodeAllWrong)

/-- 'laws.FnExactDecodeAll': WHATEVER THE INPUT: true; the input reads as it did. -/
def fnExactDecodeAllSpec : ChangeSpec := { name := "fnExactDecodeAll", fn := fun _ => fun
  | [d] => { results := [.lit (.bool true)], args := [d] }
  | _ => none }
def fnExactDecodeAllRow : OpenClaim := { program := "ytamaaiabbganjaa", sum := "d900d0cb13d1652262dc8a099df5e281d9dee0b0cf591227ad1a3793fa8c8661", func := "loop.example/prologserver/laws.FnExactDecodeAll", spec := "fnExactDecodeAll", apart := false }
def FnExactDecodeAllSaid : Prop := fnExactDecodeAllRow.holds Try.pinned (OpenSpec.ofChange fnExactDecodeAllSpec)

/-- ITS FALSE NEIGHBOUR: 'it returns false'. Refute it at one input. -/
def fnExactDecodeAllWrong : ChangeSpec := { name := "fnExactDecodeAll", fn := fun _ => fun
  | [d] => { results := [.lit (.bool false)], args := [d] }
  | _ => none }
def FnExactDecodeAllWrongFalsely : Prop := fnExactDecodeAllRow.holds Try.pinned (OpenSpec.ofChange fnExactDecodeAllWrong)

/-- 'laws.FnExactFeedDecoder': WHATEVER THE INPUT: true; the input reads as it did. -/
def fnExactFeedDecoderSpec : ChangeSpec := { name := "fnExactFeedDecoder", fn := fun _ => fun
  | [d1, d2] => { results := [.lit (.bool true)], args := [d1, d2] }
  | _ => none }
def fnExactFeedDecoderRow : OpenClaim := { program := "ytamaaiabbganjaa", sum := "d900d0cb13d1652262dc8a099df5e281d9dee0b0cf591227ad1a3793fa8c8661", func := "loop.example/prologserver/laws.FnExactFeedDecoder", spec := "fnExactFeedDecoder", apart := false }
def FnExactFeedDecoderSaid : Prop := fnExactFeedDecoderRow.holds Try.pinned (OpenSpec.ofChange fnExactFeedDecoderSpec)

/-- ITS FALSE NEIGHBOUR: 'it returns false'. Refute it at one input. -/
def fnExactFeedDecoderWrong : ChangeSpec := { name := "fnExactFeedDecoder", fn := fun _ => fun
  | [d1, d2] => { results := [.lit (.bool false)], args := [d1, d2] }
  | _ => none }
def FnExactFeedDecoderWrongFalsely : Prop := fnExactFeedDecoderRow.holds Try.pinned (OpenSpec.ofChange fnExactFeedDecoderWrong)

/-- 'laws.FnExactNewServer': WHATEVER THE INPUT: true; the input reads as it did. -/
def fnExactNewServerSpec : ChangeSpec := { name := "fnExactNewServer", fn := fun _ => fun
  | [d1, d2] => { results := [.lit (.bool true)], args := [d1, d2] }
  | _ => none }
def fnExactNewServerRow : OpenClaim := { program := "ytamaaiabbganjaa", sum := "d900d0cb13d1652262dc8a099df5e281d9dee0b0cf591227ad1a3793fa8c8661", func := "loop.example/prologserver/laws.FnExactNewServer", spec := "fnExactNewServer", recurses := true, apart := false }
def FnExactNewServerSaid : Prop := fnExactNewServerRow.holds Try.pinned (OpenSpec.ofChange fnExactNewServerSpec)

/-- ITS FALSE NEIGHBOUR: 'it returns false'. Refute it at one input. -/
def fnExactNewServerWrong : ChangeSpec := { name := "fnExactNewServer", fn := fun _ => fun
  | [d1, d2] => { results := [.lit (.bool false)], args := [d1, d2] }
  | _ => none }
def FnExactNewServerWrongFalsely : Prop := fnExactNewServerRow.holds Try.pinned (OpenSpec.ofChange fnExactNewServerWrong)

/- THE SECOND FORM. 'bulk': how many values and letters a reading holds, each counted each time it is reached (what is shared counts as often as it is met; a slice's spare places count too). A statement '..UptoSaid' is the law's where the arguments, and the package variables that the reading takes, are together of bulk at most 1048576: NARROWER than '..Said'. Prove '..Said' where nothing that the law and all that it calls make is longer than what came in: it says more and counts as full. Else prove '..UptoSaid'. A law counts once. -/
mutual
def uptoBulk {H : Type} : DataW H → Nat
  | .lit (.string bytes) => bytes.length + 1
  | .lit _ => 1
  | .nil => 1
  | .ptr d => uptoBulk d + 1
  | .slice elems spare => uptoBulkAll elems + uptoBulkAll spare + 1
  | .agg parts => uptoBulkAll parts + 1
  | .iface _ d => uptoBulk d + 1
  | .map entries => uptoBulkEntries entries + 1
  | .held _ => 1
def uptoBulkAll {H : Type} : List (DataW H) → Nat
  | [] => 0
  | d :: r => uptoBulk d + uptoBulkAll r
def uptoBulkEntries {H : Type} : List (Lit × DataW H) → Nat
  | [] => 0
  | x :: r => uptoBulkEntry x + uptoBulkEntries r
def uptoBulkEntry {H : Type} : Lit × DataW H → Nat
  | (.string bytes, d) => bytes.length + uptoBulk d + 1
  | (_, d) => uptoBulk d + 1
 end
def uptoSmall : (H : Type) → List (DataW H) → Bool := fun _ ds => decide (uptoBulkAll ds ≤ 1048576)
def OpenSpec.upto (s : _root_.Go.ChangeSpec) : _root_.Go.OpenSpec := { _root_.Go.OpenSpec.ofChange s with cond := some uptoSmall }

/-- 'laws.FnExactEncodeFrame', WHERE WHAT IT READS IS OF BULK AT MOST 1048576: true; the input reads as it did. -/
def fnExactEncodeFrameUptoRow : OpenClaim := { program := "ytamaaiabbganjaa", sum := "d900d0cb13d1652262dc8a099df5e281d9dee0b0cf591227ad1a3793fa8c8661", func := "loop.example/prologserver/laws.FnExactEncodeFrame", spec := "fnExactEncodeFrame", apart := false, narrowed := true }
def FnExactEncodeFrameUptoSaid : Prop := fnExactEncodeFrameUptoRow.holds Try.pinned (OpenSpec.upto fnExactEncodeFrameSpec)

/-- 'laws.FnExactEncodeAll', WHERE WHAT IT READS IS OF BULK AT MOST 1048576: true; the input reads as it did. -/
def fnExactEncodeAllUptoRow : OpenClaim := { program := "ytamaaiabbganjaa", sum := "d900d0cb13d1652262dc8a099df5e281d9dee0b0cf591227ad1a3793fa8c8661", func := "loop.example/prologserver/laws.FnExactEncodeAll", spec := "fnExactEncodeAll", apart := false, narrowed := true }
def FnExactEncodeAllUptoSaid : Prop := fnExactEncodeAllUptoRow.holds Try.pinned (OpenSpec.upto fnExactEncodeAllSpec)

/-- 'laws.FnExactDecodeAll', WHERE WHAT IT READS IS OF BULK AT MOST 1048576: true; the input reads as it did. -/
def fnExactDecodeAllUptoRow : OpenClaim := { program := "ytamaaiabbganjaa", sum := "d900d0cb13d1652262dc8a099df5e281d9dee0b0cf591227ad1a3793fa8c8661", func := "loop.example/prologserver/laws.FnExactDecodeAll", spec := "fnExactDecodeAll", apart := false, narrowed := true }
def FnExactDecodeAllUptoSaid : Prop := fnExactDecodeAllUptoRow.holds Try.pinned (OpenSpec.upto fnExactDecodeAllSpec)

/-- 'laws.FnExactFeedDecoder', WHERE WHAT IT READS IS OF BULK AT MOST 1048576: true; the input reads as it did. -/
def fnExactFeedDecoderUptoRow : OpenClaim := { program := "ytamaaiabbganjaa", sum := "d900d0cb13d1652262dc8a099df5e281d9dee0b0cf591227ad1a3793fa8c8661", func := "loop.example/prologserver/laws.FnExactFeedDecoder", spec := "fnExactFeedDecoder", apart := false, narrowed := true }
def FnExactFeedDecoderUptoSaid : Prop := fnExactFeedDecoderUptoRow.holds Try.pinned (OpenSpec.upto fnExactFeedDecoderSpec)

/-- 'laws.FnExactNewServer', WHERE WHAT IT READS IS OF BULK AT MOST 1048576: true; the input reads as it did. -/
def fnExactNewServerUptoRow : OpenClaim := { program := "ytamaaiabbganjaa", sum := "d900d0cb13d1652262dc8a099df5e281d9dee0b0cf591227ad1a3793fa8c8661", func := "loop.example/prologserver/laws.FnExactNewServer", spec := "fnExactNewServer", recurses := true, apart := false, narrowed := true }
def FnExactNewServerUptoSaid : Prop := fnExactNewServerUptoRow.holds Try.pinned (OpenSpec.upto fnExactNewServerSpec)

end Rows
end Go.Proofs.Ytamaaiabbganjaa
