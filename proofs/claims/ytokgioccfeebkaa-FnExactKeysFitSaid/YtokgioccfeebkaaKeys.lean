/-
  The law FnExactKeysFit holds: spec.KeysFit and impl.KeysFit answer alike at every two strings.
  Conditions: none.
-/
import Derived.Test.YtokgioccfeebkaaRows
import Derived.KernelRfl
import Derived.Test.YtokgioccfeebkaaAbsI
open Go Go.AM Go.Proofs
namespace Go.Proofs.Ytokgioccfeebkaa
open Go.ChangeShapes Go.WideShapes Go.ChangeAt Go.RowKit
set_option linter.unusedVariables false
set_option linter.unusedSimpArgs false
set_option maxRecDepth 100000
def ac14 : Cd := .seq (.region [⟨(some 4), .mv (.k (.c (.d (.bool false)))), none⟩] [4])
  (.seq (.region [⟨(some 5), .mv (.t 0), none⟩,
      ⟨(some 6), .bin .eql (.t 5) (.k (.c (.d (.str [])))), none⟩,
      ⟨(some 7), .mv (.t 6), none⟩,
      ⟨(some 8), .mv (.t 1), some (7, false)⟩,
      ⟨(some 9), .bin .eql (.t 8) (.k (.c (.d (.str [])))), some (7, false)⟩,
      ⟨(some 10), .pick (.t 7) (.k (.c (.d (.bool true)))) (.t 9), none⟩,
      ⟨(some 11), .mv (.t 10), none⟩,
      ⟨(some 12), .mv (.t 0), some (11, false)⟩,
      ⟨(some 13), .mv (.t 1), some (11, false)⟩,
      ⟨(some 14), .bin .eql (.t 12) (.t 13), some (11, false)⟩,
      ⟨(some 15), .pick (.t 11) (.k (.c (.d (.bool true)))) (.t 14), none⟩,
      ⟨(some 4), .mv (.t 15), none⟩] [0, 1, 5, 6, 7, 8, 9, 10, 11, 12, 13, 14, 15])
  (.ret))
theorem ac14_ok : cFunc Try.prog [] [(0, [4]), (1, [0, 1, 5, 6, 7, 8, 9, 10, 11, 12, 13, 14, 15])] Try.f14 = some (ac14, [.tmp 4], 16) := by kernel_rfl
theorem ac15_ok : cFunc Try.prog [] [(0, [4]), (1, [0, 1, 5, 6, 7, 8, 9, 10, 11, 12, 13, 14, 15])] Try.f15 = some (ac14, [.tmp 4], 16) := by kernel_rfl
theorem keys_aw (x y : List UInt8) (H : Heap) (hf : Obs.fits H.length 0 H) : aw Try.prog ac14 (kq Try.prog (FinQ [.tmp 4] (fun r H' => H' = H ∧ r = .c (.d (.bool (x.isEmpty || y.isEmpty || x == y))))) []) ⟨[.c (.d (.str x)), .c (.d (.str y))] ++ List.replicate 14 .u, H, []⟩ := by
  simp [ac14, aw_skip, aw_region, aw_seq, aw_block, aw_cond, aw_exit, aw_ret, kq_nil, kq_seq, kq_seq_ret, kq_seq_exit, kq_block, kq_block_ret, kq_block_exit, kq_loop, kq_loop_ret, kq_loop_exit, awOps_nil, awOps_cons, awOps_guard, nx_eq, awOp, Opd.ev, A.ok, A.val, setSl, wrapG, guardB, getB, pickA, binA, binC, binD, cmpD, isCmp, unA, unD, lenA, AOp.total, kills, litB, FinQ, resOks, resOk, resA, resList, resOne, A.thaw, C.thaw, A.fits, C.fits, evs, oks, callArgs, A.pure, C.pure, A.re, C.re, fieldAddrA, loadC, cut, A.cells, C.rows?, getOb, newOb, setOb, storeC, splice, partsA, partsOk, parts2A, parts2Ok, fillC, fillRows, optInt, optOk, sliceA]
theorem f14_calls (x y : List UInt8) (H : Heap) : ACalls Try.prog 14 [.c (.d (.str x)), .c (.d (.str y))] H (fun r H' => H' = H ∧ r = .c (.d (.bool (x.isEmpty || y.isEmpty || x == y)))) :=
  acalls Try.func14 (by kernel_rfl) ac14_ok (keys_aw x y H)
theorem f15_calls (x y : List UInt8) (H : Heap) : ACalls Try.prog 15 [.c (.d (.str x)), .c (.d (.str y))] H (fun r H' => H' = H ∧ r = .c (.d (.bool (x.isEmpty || y.isEmpty || x == y)))) :=
  acalls Try.func15 (by kernel_rfl) ac15_ok (keys_aw x y H)
def ac3 : Cd := .seq (.region [⟨(some 4), .mv (.k (.c (.d (.bool false)))), none⟩] [4])
  (.seq (.seq (.region [⟨(some 7), .mv (.t 0), none⟩,
        ⟨(some 8), .len 0 (.t 7), none⟩,
        ⟨(some 9), .bin .gtr (.t 8) (.k (.c (.d (.int .i64 1048576)))), none⟩] [7, 8])
    (.cond (.t 9)
      (.seq (.region [⟨(some 4), .mv (.k (.c (.d (.bool true)))), none⟩] [0, 1, 9])
      (.ret))
      (.skip)))
  (.seq (.seq (.region [⟨(some 10), .mv (.t 1), none⟩,
        ⟨(some 11), .len 0 (.t 10), none⟩,
        ⟨(some 12), .bin .gtr (.t 11) (.k (.c (.d (.int .i64 1048576)))), none⟩] [4, 9, 10, 11])
    (.cond (.t 12)
      (.seq (.region [⟨(some 4), .mv (.k (.c (.d (.bool true)))), none⟩] [0, 1, 12])
      (.ret))
      (.skip)))
  (.seq (.region [⟨(some 13), .mv (.t 0), none⟩,
      ⟨(some 14), .mv (.t 1), none⟩,
      ⟨(some 15), .call false 14 [(.t 13), (.t 14)], none⟩,
      ⟨(some 5), .mv (.t 15), none⟩] [4, 12, 13, 14, 15])
  (.seq (.region [⟨(some 16), .mv (.t 0), none⟩,
      ⟨(some 17), .mv (.t 1), none⟩,
      ⟨(some 18), .call false 15 [(.t 16), (.t 17)], none⟩,
      ⟨(some 6), .mv (.t 18), none⟩] [0, 1, 16, 17, 18])
  (.seq (.seq (.region [⟨(some 19), .mv (.t 6), none⟩,
        ⟨(some 20), .mv (.t 5), none⟩,
        ⟨(some 21), .binB true (.t 19) (.t 20), none⟩] [5, 6, 19, 20])
    (.cond (.t 21)
      (.seq (.region [⟨(some 4), .mv (.k (.c (.d (.bool false)))), none⟩] [21])
      (.ret))
      (.skip)))
  (.seq (.region [⟨(some 4), .mv (.k (.c (.d (.bool true)))), none⟩] [21])
  (.ret)))))))
theorem ac3_ok : cFunc Try.prog [] [(0, [4]), (1, [7, 8]), (2, [0, 1, 9]), (3, [4, 9, 10, 11]), (4, [0, 1, 12]), (5, [4, 12, 13, 14, 15]), (6, [0, 1, 16, 17, 18]), (7, [5, 6, 19, 20]), (8, [21]), (9, [21])] Try.f3 = some (ac3, [.tmp 4], 22) := by kernel_rfl
theorem f3_calls (x y : List UInt8) (hx : x.length ≤ reachBytes) (hy : y.length ≤ reachBytes) : ACalls Try.prog 3 [.c (.d (.str x)), .c (.d (.str y))] [] (fun r _ => r = .c (.d (.bool true))) := by
  refine acalls Try.func3 (by kernel_rfl) ac3_ok fun hf => ?_
  have hx' : inR .i64 (x.length : Int) := by simp only [inR, IntKind.min, IntKind.max, IntKind.signed, IntKind.bits, reachBytes] at *; omega
  have hy' : inR .i64 (y.length : Int) := by simp only [inR, IntKind.min, IntKind.max, IntKind.signed, IntKind.bits, reachBytes] at *; omega
  simp [ac3, hx', hy', aw_skip, aw_region, aw_seq, aw_block, aw_cond, aw_exit, aw_ret, kq_nil, kq_seq, kq_seq_ret, kq_seq_exit, kq_block, kq_block_ret, kq_block_exit, kq_loop, kq_loop_ret, kq_loop_exit, awOps_nil, awOps_cons, awOps_guard, nx_eq, awOp, Opd.ev, A.ok, A.val, setSl, wrapG, guardB, getB, pickA, binA, binC, binD, cmpD, isCmp, unA, unD, lenA, AOp.total, kills, litB, FinQ, resOks, resOk, resA, resList, resOne, A.thaw, C.thaw, A.fits, C.fits, evs, oks, callArgs, A.pure, C.pure, A.re, C.re, fieldAddrA, loadC, cut, A.cells, C.rows?, getOb, newOb, setOb, storeC, splice, partsA, partsOk, parts2A, parts2Ok, fillC, fillRows, optInt, optOk, sliceA]
  intro h1 h2
  refine call_same (f14_calls x y _) rfl rfl trivial ?_
  simp [aw_skip, aw_region, aw_seq, aw_block, aw_cond, aw_exit, aw_ret, kq_nil, kq_seq, kq_seq_ret, kq_seq_exit, kq_block, kq_block_ret, kq_block_exit, kq_loop, kq_loop_ret, kq_loop_exit, awOps_nil, awOps_cons, awOps_guard, nx_eq, awOp, Opd.ev, A.ok, A.val, setSl, wrapG, guardB, getB, pickA, binA, binC, binD, cmpD, isCmp, unA, unD, lenA, AOp.total, kills, litB, FinQ, resOks, resOk, resA, resList, resOne, A.thaw, C.thaw, A.fits, C.fits, evs, oks, callArgs, A.pure, C.pure, A.re, C.re, fieldAddrA, loadC, cut, A.cells, C.rows?, getOb, newOb, setOb, storeC, splice, partsA, partsOk, parts2A, parts2Ok, fillC, fillRows, optInt, optOk, sliceA]
  refine call_same (f15_calls x y _) rfl rfl trivial ?_
  simp [aw_skip, aw_region, aw_seq, aw_block, aw_cond, aw_exit, aw_ret, kq_nil, kq_seq, kq_seq_ret, kq_seq_exit, kq_block, kq_block_ret, kq_block_exit, kq_loop, kq_loop_ret, kq_loop_exit, awOps_nil, awOps_cons, awOps_guard, nx_eq, awOp, Opd.ev, A.ok, A.val, setSl, wrapG, guardB, getB, pickA, binA, binC, binD, cmpD, isCmp, unA, unD, lenA, AOp.total, kills, litB, FinQ, resOks, resOk, resA, resList, resOne, A.thaw, C.thaw, A.fits, C.fits, evs, oks, callArgs, A.pure, C.pure, A.re, C.re, fieldAddrA, loadC, cut, A.cells, C.rows?, getOb, newOb, setOb, storeC, splice, partsA, partsOk, parts2A, parts2Ok, fillC, fillRows, optInt, optOk, sliceA]

namespace fnExactKeysFit
theorem own : ownKnob Try.prog.godebug = none := by kernel_rfl
theorem contract (H : Type) (enc : TypeId × Value → H) (W : World) (base : Nat) (args : Array Value) (ds gs : List (DataW H)) (before : List MemPlace)
    (hval : ∀ (j : Nat) t v, Try.f3.params[j]? = some t → args[j]? = some v → Value.okWide Try.prog W .any base t v)
    (hW : DataW.Whole enc Try.prog Try.f3.params.toList Rows.fnExactKeysFitSpec.vars false W args.toList ds gs before)
    (hw : (DataW.weightsEach Try.prog (Try.f3.params.toList ++ Rows.fnExactKeysFitSpec.plain.varTypes Try.prog) (ds ++ gs)).all (· ≤ reachBytes) = true) :
    Calls Try.prog 3 args W fun e W' => ∃ v, e = .returned v ∧ Rows.fnExactKeysFitSpec.post enc Try.prog Try.f3 false true false false W args v W' := by
  refine law_contract (L := [9]) (tb := 4) (by kernel_rfl) (by kernel_rfl) (by kernel_rfl) rfl ?_ (by kernel_rfl) Try.underlying4 ?_ W base args ds gs before hval hW hw
  · intro ds hl
    match ds, hl with
    | [d1, d2], _ => rfl
  · intro rows hr
    rw [Try.params3] at hr ⊢
    obtain ⟨r, rs, rfl, h1, h2⟩ := hr.cons
    obtain ⟨r', rs, rfl, h3, h4⟩ := h2.cons
    obtain rfl := h4.nil
    obtain ⟨x, rfl, hx⟩ := h1.str_inv Try.underlying9
    obtain ⟨y, rfl, hy⟩ := h3.str_inv Try.underlying9
    simp only [argsA, argA, Try.underlying9, List.headD_cons]
    exact f3_calls x y hx hy

theorem lifted (os : Os) (started : os.Started) (H : Type) (enc : TypeId × Value → H) :
    ReturnsInHanded {} Try.checked os 3 .any (Rows.fnExactKeysFitSpec.pre6 enc Try.prog Try.f3 Rows.fnExactKeysFitRow.domain false) (Rows.fnExactKeysFitSpec.post enc Try.prog Try.f3 false true false false) := by
  refine returnsInHanded_of_change_sized (C := Try.checked) own started (by kernel_rfl) Try.func3
    (ChangeSpec.witness6 (enc := enc) (C := Try.checked) false ⟨#[], #[.string ByteArray.empty, .string ByteArray.empty], []⟩ 8 (by kernel_rfl) (by kernel_rfl) (by kernel_rfl) (by kernel_rfl)) ?_
  intro W base args ds gs before hval hW _ hw _
  exact contract H enc W base args ds gs before hval hW hw

theorem proved : Rows.FnExactKeysFitSaid :=
  OpenClaim.holds_of_wide 3 Try.f3 rfl rfl rfl rfl rfl rfl rfl ⟨rfl, rfl, rfl, rfl, rfl⟩ rfl rfl rfl rfl rfl (by kernel_rfl) Try.func3 (by kernel_rfl)
    (of_decide_eq_true (by kernel_rfl)) (by unfold Func.isWrapper; first | (rw [if_pos (by decide +kernel)]; kernel_rfl) | (rw [if_neg (by decide +kernel)]; exact ⟨rfl, rfl⟩))
    (fun os started H enc _ => lifted os started H enc)
end fnExactKeysFit
end Go.Proofs.Ytokgioccfeebkaa
