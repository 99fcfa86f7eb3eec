/-
  Frames: the reference's decoder.
  Conditions: none.
-/
import Derived.Test.YtamaaiabbganjaaFrG
import Derived.Test.YtamaaiabbganjaaFrHa
open Go Go.AM Go.Proofs
namespace Go.Proofs.Ytamaaiabbganjaa
open Go.ChangeShapes Go.WideShapes Go.ChangeAt Go.RowKit
set_option linter.unusedVariables false
set_option linter.unusedSimpArgs false
set_option maxRecDepth 100000
-- 21 loop.example/prologserver/spec.DecodeAll params 1 ntmps 21
def ac21 : Cd := .seq (.region [⟨(some 2), .mv (.k (.c (.full []))), none⟩,
      ⟨(some 3), .mv (.k (.c (.d (.bool false)))), none⟩] [2, 3])
  (.seq (.region [⟨(some 8), .mv (.t 0), none⟩,
      ⟨(some 9), .qcall 44 [(.t 8)], none⟩,
      ⟨(some 7), .mv (.t 9), none⟩,
      ⟨(some 10), .extract 0 (.t 7), none⟩,
      ⟨(some 11), .extract 1 (.t 7), none⟩,
      ⟨(some 12), .extract 2 (.t 7), none⟩,
      ⟨(some 4), .mv (.t 10), none⟩,
      ⟨(some 5), .mv (.t 11), none⟩,
      ⟨(some 6), .mv (.t 12), none⟩] [0, 7, 8, 9, 10, 11, 12])
  (.seq (.seq (.region [⟨(some 13), .mv (.t 6), none⟩,
        ⟨(some 14), .mv (.t 13), none⟩,
        ⟨(some 15), .mv (.t 5), some (14, false)⟩,
        ⟨(some 16), .len 1 (.t 15), some (14, false)⟩,
        ⟨(some 17), .bin .gtr (.t 16) (.k (.c (.d (.int .i64 0)))), some (14, false)⟩,
        ⟨(some 18), .pick (.t 14) (.k (.c (.d (.bool true)))) (.t 17), none⟩] [5, 6, 13, 14, 15, 16, 17])
    (.cond (.t 18)
      (.seq (.region [⟨(some 19), .buildSlice 2 0 [(.int .i64 0), (.str [])] [], none⟩,
          ⟨(some 2), .mv (.t 19), none⟩,
          ⟨(some 3), .mv (.k (.c (.d (.bool false)))), none⟩] [4, 18, 19])
      (.ret))
      (.skip)))
  (.seq (.region [⟨(some 20), .mv (.t 4), none⟩,
      ⟨(some 2), .mv (.t 20), none⟩,
      ⟨(some 3), .mv (.k (.c (.d (.bool true)))), none⟩] [4, 18, 20])
  (.ret))))
theorem ac21_ok : cFunc Try.prog [1000044] [(0, [2, 3], []), (1, [0, 7, 8, 9, 10, 11, 12], []), (2, [5, 6, 13, 14, 15, 16, 17], []), (3, [4, 18, 19], []), (4, [4, 18, 20], [])] Try.f21 = some (ac21, [.tmp 2, .tmp 3], 21) := by kernel_rfl
theorem feed_cat : ∀ (l : List Frame) (t : List UInt8), (∀ f ∈ l, f.ok = true) → feed (cat l ++ t) = (l ++ (feed t).1, (feed t).2)
  | [], t, _ => rfl
  | f :: l, t, h => by
    have e : cat (f :: l) ++ t = f.bytes ++ (cat l ++ t) := by simp only [cat, List.flatMap_cons, List.append_assoc]
    rw [e, feed_bytes (h f (by simp)), feed_cat l t fun g hg => h g (by simp [hg])]
    rfl
theorem feedSpec_calls (d : Dec) (b : List UInt8) (hd : d.rest.length ≤ 100000000) (hb : b.length ≤ 100000000) (H : Heap) :
    ACalls Try.prog 26 [.agg (d.row.map .d), .c (.d (.sl (bytesRows b)))] H (fun r H' => H' = H ∧ r = .tup [.agg ((feedD d b).1.row.map .d), .c (.d (.sl ((feedD d b).2.map Frame.row)))]) := by
  refine acalls Try.func26 (by kernel_rfl) ac26_ok fun hf => ?_
  simp -implicitDefEqProofs [ac26, Dec.row, aw_skip, aw_region, aw_seq, aw_block, aw_cond, aw_exit, aw_ret, kq_nil, kq_seq, kq_seq_ret, kq_seq_exit, kq_block, kq_block_ret, kq_block_exit, kq_loop, kq_loop_ret, kq_loop_exit, awOps_nil, awOps_cons, awOps_guardE, nx_eq, awOp, ev_k, ev_0, ev_1, ev_2, ev_3, ev_4, ev_5, ev_6, ev_7, ev_8, set_0, set_1, set_2, set_3, set_4, set_5, set_6, set_7, set_8, -List.set_cons_succ, -List.set_cons_zero, A.ok, A.val, setSl, wrapG, guardB, getB, pickA, binA, binC, binD, cmpD, isCmp, unA, unD, lenA, AOp.total, kills, litB, FinQ, resOks, resOk, resA, resList, resOne, A.thaw, C.thaw, A.fits, As.fits, C.fits, evs, oks, callArgs, A.pure, C.pure, A.re, C.re, fieldAddrA, loadC, cut, A.cells, C.rows?, getOb, newOb, setOb, storeC, splice, Ob.re, Cs.fits, partsA, partsOk, parts2A, parts2Ok, fillC, fillRows, optInt, optOk, sliceA, clipC, optK_some, storeK_some, Option.map_some, toDs, C.toD, spliceD, appendA, capsOf, srcRows, allLen_nil_iff, allLen_cons_iff, allLen_append_iff, dropC, Obs.fits, eqCs, eqD]
  refine qcall_pure (dvSpec_calls d (by omega)) hf rfl ?_
  simp -implicitDefEqProofs [hf, aw_skip, aw_region, aw_seq, aw_block, aw_cond, aw_exit, aw_ret, kq_nil, kq_seq, kq_seq_ret, kq_seq_exit, kq_block, kq_block_ret, kq_block_exit, kq_loop, kq_loop_ret, kq_loop_exit, awOps_nil, awOps_cons, awOps_guardE, nx_eq, awOp, ev_k, ev_0, ev_1, ev_2, ev_3, ev_4, ev_5, ev_6, ev_7, ev_8, set_0, set_1, set_2, set_3, set_4, set_5, set_6, set_7, set_8, -List.set_cons_succ, -List.set_cons_zero, A.ok, A.val, setSl, wrapG, guardB, getB, pickA, binA, binC, binD, cmpD, isCmp, unA, unD, lenA, AOp.total, kills, litB, FinQ, resOks, resOk, resA, resList, resOne, A.thaw, C.thaw, A.fits, As.fits, C.fits, evs, oks, callArgs, A.pure, C.pure, A.re, C.re, fieldAddrA, loadC, cut, A.cells, C.rows?, getOb, newOb, setOb, storeC, splice, Ob.re, Cs.fits, partsA, partsOk, parts2A, parts2Ok, fillC, fillRows, optInt, optOk, sliceA, clipC, optK_some, storeK_some, Option.map_some, toDs, C.toD, spliceD, appendA, capsOf, srcRows, allLen_nil_iff, allLen_cons_iff, allLen_append_iff, dropC, Obs.fits, eqCs, eqD]
  refine ⟨fun h => ?_, fun h1 h2 => ?_⟩
  · have e : feedD d b = (d, []) := by
      rw [feedD, if_pos]
      simp
      exact h
    simp -implicitDefEqProofs [e, Dec.row, hf, bytesRows_len, allLen_bytes, aw_skip, aw_region, aw_seq, aw_block, aw_cond, aw_exit, aw_ret, kq_nil, kq_seq, kq_seq_ret, kq_seq_exit, kq_block, kq_block_ret, kq_block_exit, kq_loop, kq_loop_ret, kq_loop_exit, awOps_nil, awOps_cons, awOps_guardE, nx_eq, awOp, ev_k, ev_0, ev_1, ev_2, ev_3, ev_4, ev_5, ev_6, ev_7, ev_8, set_0, set_1, set_2, set_3, set_4, set_5, set_6, set_7, set_8, -List.set_cons_succ, -List.set_cons_zero, A.ok, A.val, setSl, wrapG, guardB, getB, pickA, binA, binC, binD, cmpD, isCmp, unA, unD, lenA, AOp.total, kills, litB, FinQ, resOks, resOk, resA, resList, resOne, A.thaw, C.thaw, A.fits, As.fits, C.fits, evs, oks, callArgs, A.pure, C.pure, A.re, C.re, fieldAddrA, loadC, cut, A.cells, C.rows?, getOb, newOb, setOb, storeC, splice, Ob.re, Cs.fits, partsA, partsOk, parts2A, parts2Ok, fillC, fillRows, optInt, optOk, sliceA, clipC, optK_some, storeK_some, Option.map_some, toDs, C.toD, spliceD, appendA, capsOf, srcRows, allLen_nil_iff, allLen_cons_iff, allLen_append_iff, dropC, Obs.fits, eqCs, eqD]
    unfold maxApp
    omega
  · have e : feedD d b = (⟨(feed (d.rest ++ b)).2.1, (feed (d.rest ++ b)).2.2⟩, (feed (d.rest ++ b)).1) := by
      rw [feedD, if_neg]
      simp [h1, h2]
    have hr := feed_rest_len (d.rest ++ b)
    have hall : (d.rest ++ b).length ≤ 200000000 := by simp; omega
    rw [e]
    have ht := take_calls (d.rest ++ b) hall
    simp only [← append_bytes] at ht
    simp -implicitDefEqProofs [hf, bytesRows_len, allLen_bytes, aw_skip, aw_region, aw_seq, aw_block, aw_cond, aw_exit, aw_ret, kq_nil, kq_seq, kq_seq_ret, kq_seq_exit, kq_block, kq_block_ret, kq_block_exit, kq_loop, kq_loop_ret, kq_loop_exit, awOps_nil, awOps_cons, awOps_guardE, nx_eq, awOp, ev_k, ev_0, ev_1, ev_2, ev_3, ev_4, ev_5, ev_6, ev_7, ev_8, set_0, set_1, set_2, set_3, set_4, set_5, set_6, set_7, set_8, -List.set_cons_succ, -List.set_cons_zero, A.ok, A.val, setSl, wrapG, guardB, getB, pickA, binA, binC, binD, cmpD, isCmp, unA, unD, lenA, AOp.total, kills, litB, FinQ, resOks, resOk, resA, resList, resOne, A.thaw, C.thaw, A.fits, As.fits, C.fits, evs, oks, callArgs, A.pure, C.pure, A.re, C.re, fieldAddrA, loadC, cut, A.cells, C.rows?, getOb, newOb, setOb, storeC, splice, Ob.re, Cs.fits, partsA, partsOk, parts2A, parts2Ok, fillC, fillRows, optInt, optOk, sliceA, clipC, optK_some, storeK_some, Option.map_some, toDs, C.toD, spliceD, appendA, capsOf, srcRows, allLen_nil_iff, allLen_cons_iff, allLen_append_iff, dropC, Obs.fits, eqCs, eqD]
    refine ⟨by unfold maxApp; omega, by unfold maxApp; omega, ?_⟩
    refine qcall_pure ht hf rfl ?_
    simp -implicitDefEqProofs [hf, Dec.row, bytesRows_len, allLen_bytes, aw_skip, aw_region, aw_seq, aw_block, aw_cond, aw_exit, aw_ret, kq_nil, kq_seq, kq_seq_ret, kq_seq_exit, kq_block, kq_block_ret, kq_block_exit, kq_loop, kq_loop_ret, kq_loop_exit, awOps_nil, awOps_cons, awOps_guardE, nx_eq, awOp, ev_k, ev_0, ev_1, ev_2, ev_3, ev_4, ev_5, ev_6, ev_7, ev_8, set_0, set_1, set_2, set_3, set_4, set_5, set_6, set_7, set_8, -List.set_cons_succ, -List.set_cons_zero, A.ok, A.val, setSl, wrapG, guardB, getB, pickA, binA, binC, binD, cmpD, isCmp, unA, unD, lenA, AOp.total, kills, litB, FinQ, resOks, resOk, resA, resList, resOne, A.thaw, C.thaw, A.fits, As.fits, C.fits, evs, oks, callArgs, A.pure, C.pure, A.re, C.re, fieldAddrA, loadC, cut, A.cells, C.rows?, getOb, newOb, setOb, storeC, splice, Ob.re, Cs.fits, partsA, partsOk, parts2A, parts2Ok, fillC, fillRows, optInt, optOk, sliceA, clipC, optK_some, storeK_some, Option.map_some, toDs, C.toD, spliceD, appendA, capsOf, srcRows, allLen_nil_iff, allLen_cons_iff, allLen_append_iff, dropC, Obs.fits, eqCs, eqD]
    unfold maxApp
    omega
theorem decAllSpec_calls (b : List UInt8) (hb : b.length ≤ 100000000) (H : Heap) : ACalls Try.prog 21 [.c (.d (.sl (bytesRows b)))] H (fun r H' => H' = H ∧ r = .tup [.c (.d (.sl ((decAll b).1.map Frame.row))), .c (.d (.bool (decAll b).2))]) := by
  refine acalls Try.func21 (by kernel_rfl) ac21_ok fun hf => ?_
  simp -implicitDefEqProofs [ac21, aw_skip, aw_region, aw_seq, aw_block, aw_cond, aw_exit, aw_ret, kq_nil, kq_seq, kq_seq_ret, kq_seq_exit, kq_block, kq_block_ret, kq_block_exit, kq_loop, kq_loop_ret, kq_loop_exit, awOps_nil, awOps_cons, awOps_guardE, nx_eq, awOp, ev_k, ev_0, ev_1, ev_2, ev_3, ev_4, ev_5, ev_6, ev_7, ev_8, set_0, set_1, set_2, set_3, set_4, set_5, set_6, set_7, set_8, -List.set_cons_succ, -List.set_cons_zero, A.ok, A.val, setSl, wrapG, guardB, getB, pickA, binA, binC, binD, cmpD, isCmp, unA, unD, lenA, AOp.total, kills, litB, FinQ, resOks, resOk, resA, resList, resOne, A.thaw, C.thaw, A.fits, As.fits, C.fits, evs, oks, callArgs, A.pure, C.pure, A.re, C.re, fieldAddrA, loadC, cut, A.cells, C.rows?, getOb, newOb, setOb, storeC, splice, Ob.re, Cs.fits, partsA, partsOk, parts2A, parts2Ok, fillC, fillRows, optInt, optOk, sliceA, clipC, optK_some, storeK_some, Option.map_some, toDs, C.toD, spliceD, appendA, capsOf, srcRows, allLen_nil_iff, allLen_cons_iff, allLen_append_iff, dropC, Obs.fits, eqCs, eqD]
  refine qcall_pure (take_calls b (by omega)) hf rfl ?_
  have hr := feed_rest_len b
  have hl : inR .i64 ((feed b).2.1.length : Int) := small_i64 (by omega) (by omega)
  simp -implicitDefEqProofs [hf, hl, bytesRows_len, aw_skip, aw_region, aw_seq, aw_block, aw_cond, aw_exit, aw_ret, kq_nil, kq_seq, kq_seq_ret, kq_seq_exit, kq_block, kq_block_ret, kq_block_exit, kq_loop, kq_loop_ret, kq_loop_exit, awOps_nil, awOps_cons, awOps_guardE, nx_eq, awOp, ev_k, ev_0, ev_1, ev_2, ev_3, ev_4, ev_5, ev_6, ev_7, ev_8, set_0, set_1, set_2, set_3, set_4, set_5, set_6, set_7, set_8, -List.set_cons_succ, -List.set_cons_zero, A.ok, A.val, setSl, wrapG, guardB, getB, pickA, binA, binC, binD, cmpD, isCmp, unA, unD, lenA, AOp.total, kills, litB, FinQ, resOks, resOk, resA, resList, resOne, A.thaw, C.thaw, A.fits, As.fits, C.fits, evs, oks, callArgs, A.pure, C.pure, A.re, C.re, fieldAddrA, loadC, cut, A.cells, C.rows?, getOb, newOb, setOb, storeC, splice, Ob.re, Cs.fits, partsA, partsOk, parts2A, parts2Ok, fillC, fillRows, optInt, optOk, sliceA, clipC, optK_some, storeK_some, Option.map_some, toDs, C.toD, spliceD, appendA, capsOf, srcRows, allLen_nil_iff, allLen_cons_iff, allLen_append_iff, dropC, Obs.fits, eqCs, eqD]
  refine ⟨fun h => ?_, fun h1 h2 => ?_⟩
  · have : decAll b = ([], false) := by
      rw [decAll, if_pos]
      simp only [Bool.or_eq_true, Bool.not_eq_true']
      rcases h with h | h
      · exact .inl h
      · refine .inr ?_
        cases hq : (feed b).2.1 with
        | nil => rw [hq] at h; simp at h
        | cons x l => rfl
    simp [this]
  · have : decAll b = ((feed b).1, true) := by
      rw [decAll, if_neg]
      simp [h1, h2]
    simp [this]
end Go.Proofs.Ytamaaiabbganjaa
