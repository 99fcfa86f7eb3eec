/-
  FnMakeList: lists have elements.
  Conditions: none.
-/
import Derived.Test.YtnobdfcjnnnfmaaListP
import Derived.Test.YtnobdfcjnnnfmaaListD
open Go Go.AM Go.Proofs
namespace Go.Proofs.Ytnobdfcjnnnfmaa
open Go.ChangeShapes Go.WideShapes Go.ChangeAt Go.RowKit
set_option linter.unusedVariables false
set_option linter.unusedSimpArgs false
set_option maxRecDepth 100000
-- 13 loop.example/prologserver/laws.FnMakeList params 1 ntmps 80
def ac13 : Cd := .seq (.region [⟨(some 2), .mv (.k (.c (.d (.bool false)))), none⟩] [2])
  (.seq (.seq (.region [⟨(some 13), .mv (.t 0), none⟩,
        ⟨(some 14), .len 1 (.t 13), none⟩,
        ⟨(some 15), .bin .gtr (.t 14) (.k (.c (.d (.int .i64 1048576)))), none⟩] [13, 14])
    (.cond (.t 15)
      (.seq (.region [⟨(some 2), .mv (.k (.c (.d (.bool true)))), none⟩] [0, 15])
      (.ret))
      (.skip)))
  (.seq (.region [⟨(some 17), .mv (.t 0), none⟩,
      ⟨(some 18), .call false 58 [(.t 17)], none⟩,
      ⟨(some 16), .mv (.t 18), none⟩,
      ⟨(some 19), .extract 0 (.t 16), none⟩,
      ⟨(some 20), .extract 1 (.t 16), none⟩,
      ⟨(some 4), .alloc [(.d (.int .i64 0)), (.d (.int .i64 0)), (.d (.str [])), (.full [])], none⟩,
      ⟨(some 3), .mv (.t 19), none⟩,
      ⟨none, .store 4 (.t 4) (.t 20), none⟩] [0, 2, 15, 16, 17, 18, 19, 20])
  (.seq (.region [⟨(some 22), .mv (.t 3), none⟩,
      ⟨(some 23), .load (some 4) (.t 4), none⟩,
      ⟨(some 24), .qcall 56 [(.t 22), (.t 23)], none⟩,
      ⟨(some 21), .mv (.t 24), none⟩,
      ⟨(some 25), .extract 0 (.t 21), none⟩,
      ⟨(some 26), .extract 1 (.t 21), none⟩,
      ⟨(some 5), .alloc [(.d (.int .i64 0)), (.d (.int .i64 0)), (.d (.str [])), (.full [])], none⟩,
      ⟨none, .store 4 (.t 5) (.t 25), none⟩,
      ⟨(some 6), .mv (.t 26), none⟩] [21, 22, 23, 24, 25, 26])
  (.seq (.region [⟨(some 28), .mv (.t 3), none⟩,
      ⟨(some 29), .load (some 4) (.t 4), none⟩,
      ⟨(some 30), .qcall 59 [(.t 28), (.t 29)], none⟩,
      ⟨(some 27), .mv (.t 30), none⟩,
      ⟨(some 31), .extract 0 (.t 27), none⟩,
      ⟨(some 32), .extract 1 (.t 27), none⟩,
      ⟨(some 7), .alloc [(.d (.int .i64 0)), (.d (.int .i64 0)), (.d (.str [])), (.full [])], none⟩,
      ⟨none, .store 4 (.t 7) (.t 31), none⟩,
      ⟨(some 8), .mv (.t 32), none⟩] [27, 28, 29, 30, 31, 32])
  (.seq (.seq (.region [⟨(some 33), .mv (.t 6), none⟩,
        ⟨(some 34), .mv (.t 8), none⟩,
        ⟨(some 35), .binB true (.t 33) (.t 34), none⟩,
        ⟨(some 36), .mv (.t 35), none⟩,
        ⟨(some 37), .load (some 4) (.t 5), some (36, false)⟩,
        ⟨(some 38), .load (some 4) (.t 7), some (36, false)⟩,
        ⟨(some 39), .qcall 57 [(.t 37), (.t 38)], some (36, false)⟩,
        ⟨(some 40), .un .not (.t 39), some (36, false)⟩,
        ⟨(some 41), .pick (.t 36) (.k (.c (.d (.bool true)))) (.t 40), none⟩,
        ⟨(some 42), .mv (.t 41), none⟩,
        ⟨(some 43), .mv (.t 6), some (42, false)⟩,
        ⟨(some 44), .un .not (.t 43), some (42, false)⟩,
        ⟨(some 45), .pick (.t 42) (.k (.c (.d (.bool true)))) (.t 44), none⟩] [33, 34, 35, 36, 37, 38, 39, 40, 41, 42, 43, 44])
    (.cond (.t 45)
      (.seq (.region [⟨(some 46), .mv (.t 6), none⟩,
          ⟨(some 47), .mv (.t 8), none⟩,
          ⟨(some 48), .binB false (.t 46) (.t 47), none⟩,
          ⟨(some 49), .mv (.t 48), none⟩,
          ⟨(some 50), .load (some 4) (.t 5), some (49, true)⟩,
          ⟨(some 51), .load (some 4) (.t 7), some (49, true)⟩,
          ⟨(some 52), .qcall 57 [(.t 50), (.t 51)], some (49, true)⟩,
          ⟨(some 53), .pick (.t 49) (.t 52) (.k (.c (.d (.bool false)))), none⟩,
          ⟨(some 2), .mv (.t 53), none⟩] [3, 4, 5, 6, 7, 8, 45, 46, 47, 48, 49, 50, 51, 52, 53])
      (.ret))
      (.skip)))
  (.seq (.region [⟨(some 55), .load (some 4) (.t 5), none⟩,
      ⟨(some 56), .qcall 53 [(.t 55)], none⟩,
      ⟨(some 54), .mv (.t 56), none⟩,
      ⟨(some 57), .extract 0 (.t 54), none⟩,
      ⟨(some 58), .extract 1 (.t 54), none⟩,
      ⟨(some 9), .mv (.t 57), none⟩,
      ⟨(some 10), .mv (.t 58), none⟩] [2, 5, 6, 7, 8, 45, 54, 55, 56, 57, 58])
  (.seq (.region [⟨(some 60), .load (some 4) (.t 4), none⟩,
      ⟨(some 61), .qcall 53 [(.t 60)], none⟩,
      ⟨(some 59), .mv (.t 61), none⟩,
      ⟨(some 62), .extract 0 (.t 59), none⟩,
      ⟨(some 63), .extract 1 (.t 59), none⟩,
      ⟨(some 11), .mv (.t 62), none⟩,
      ⟨(some 12), .mv (.t 63), none⟩] [4, 59, 60, 61, 62, 63])
  (.seq (.region [⟨(some 64), .mv (.t 10), none⟩,
      ⟨(some 65), .mv (.t 12), none⟩,
      ⟨(some 66), .binB false (.t 64) (.t 65), none⟩,
      ⟨(some 67), .mv (.t 66), none⟩,
      ⟨(some 68), .mv (.t 10), some (67, true)⟩,
      ⟨(some 69), .un .not (.t 68), some (67, true)⟩,
      ⟨(some 70), .mv (.t 69), some (67, true)⟩,
      ⟨(some 71), .mv (.t 9), some (70, false)⟩,
      ⟨(some 72), .buildSlice 4 0 [(.int .i64 0), (.int .i64 0), (.str []), (.sl [])] [], some (70, false)⟩,
      ⟨(some 73), .mv (.t 3), some (70, false)⟩,
      ⟨(some 74), .append false 4 (.t 72) (.t 73), some (70, false)⟩,
      ⟨(some 75), .mv (.t 11), some (70, false)⟩,
      ⟨(some 76), .append false 4 (.t 74) (.t 75), some (70, false)⟩,
      ⟨(some 77), .qcall 55 [(.t 71), (.t 76)], some (70, false)⟩,
      ⟨(some 78), .pick (.t 70) (.k (.c (.d (.bool true)))) (.t 77), some (67, true)⟩,
      ⟨(some 79), .pick (.t 67) (.t 78) (.k (.c (.d (.bool false)))), none⟩,
      ⟨(some 2), .mv (.t 79), none⟩] [3, 9, 10, 11, 12, 64, 65, 66, 67, 68, 69, 70, 71, 72, 73, 74, 75, 76, 77, 78, 79])
  (.ret)))))))))
theorem ac13_ok : cFunc Try.prog [1000053, 1000055, 1000056, 1000057, 1000059] [(0, [2], []), (1, [13, 14], []), (2, [0, 15], []), (3, [0, 2, 15, 16, 17, 18, 19, 20], []), (4, [21, 22, 23, 24, 25, 26], []), (5, [27, 28, 29, 30, 31, 32], []), (6, [33, 34, 35, 36, 37, 38, 39, 40, 41, 42, 43, 44], []), (7, [3, 4, 5, 6, 7, 8, 45, 46, 47, 48, 49, 50, 51, 52, 53], []), (8, [2, 5, 6, 7, 8, 45, 54, 55, 56, 57, 58], []), (9, [4, 59, 60, 61, 62, 63], []), (10, [3, 9, 10, 11, 12, 64, 65, 66, 67, 68, 69, 70, 71, 72, 73, 74, 75, 76, 77, 78, 79], [])] Try.f13 = some (ac13, [.tmp 2], 80) := by kernel_rfl
theorem ChainR.re {n : Nat} {r : A} (h : ChainR r) : A.re n r = r := by
  obtain ⟨l, t, rfl, _⟩ := h
  simp [A.re, A.res, C.re, re_d]
theorem mkT_fits {l : List Tm} {t : Tm} (hl : ∀ x ∈ l, x.fits) (ht : t.fits) : (mkT l t).1.fits := by
  unfold mkT
  split
  · exact chain_fits l t hl ht
  · exact .mk (small_i64 (by omega) (by omega)) (small_i64 (by omega) (by omega)) (by simp) (by simp) (by simp)
theorem mlLaw_calls (b : List UInt8) (hb : b.length ≤ reachBytes) : ACalls Try.prog 13 [.c (.d (.sl (bytesRows b)))] [] (fun r _ => r = .c (.d (.bool true))) := by
  refine acalls Try.func13 (by kernel_rfl) ac13_ok fun hf => ?_
  have hlen := reach_i64 hb
  simp -implicitDefEqProofs [ac13, hlen, bytesRows_len, aw_skip, aw_region, aw_seq, aw_block, aw_cond, aw_exit, aw_ret, kq_nil, kq_seq, kq_seq_ret, kq_seq_exit, kq_block, kq_block_ret, kq_block_exit, kq_loop, kq_loop_ret, kq_loop_exit, awOps_nil, awOps_cons, awOps_guardE, nx_eq, awOp, ev_k, ev_0, ev_1, ev_2, ev_3, ev_4, ev_5, ev_6, ev_7, ev_8, set_0, set_1, set_2, set_3, set_4, set_5, set_6, set_7, set_8, -List.set_cons_succ, -List.set_cons_zero, A.ok, A.val, setSl, wrapG, guardB, getB, pickA, binA, binC, binD, cmpD, isCmp, unA, unD, lenA, AOp.total, kills, litB, FinQ, resOks, resOk, resA, resList, resOne, A.thaw, C.thaw, A.fits, As.fits, C.fits, evs, oks, callArgs, A.pure, C.pure, A.re, C.re, fieldAddrA, loadC, cut, A.cells, C.rows?, getOb, newOb, setOb, storeC, splice, Ob.re, Cs.fits, partsA, partsOk, parts2A, parts2Ok, fillC, fillRows, optInt, optOk, sliceA, optK_some, storeK_some, Option.map_some, toDs, C.toD, spliceD, appendA, capsOf, srcRows, allLen_nil_iff, allLen_cons_iff, allLen_append_iff, dropC, Obs.fits, eqCs, eqD]
  intro hle
  have hle : b.length ≤ 1048576 := by omega
  refine call_some (drawMakeList_calls b hle _) (by simp) (fun r => ChainR.re) hf ?_
  rintro _ ⟨l, t, rfl, hl, hlf, ht⟩
  have hmf := mkT_fits hlf ht
  simp -implicitDefEqProofs [row_len, take_row, pure_d, re_d, hf, aw_skip, aw_region, aw_seq, aw_block, aw_cond, aw_exit, aw_ret, kq_nil, kq_seq, kq_seq_ret, kq_seq_exit, kq_block, kq_block_ret, kq_block_exit, kq_loop, kq_loop_ret, kq_loop_exit, awOps_nil, awOps_cons, awOps_guardE, nx_eq, awOp, ev_k, ev_0, ev_1, ev_2, ev_3, ev_4, ev_5, ev_6, ev_7, ev_8, set_0, set_1, set_2, set_3, set_4, set_5, set_6, set_7, set_8, -List.set_cons_succ, -List.set_cons_zero, A.ok, A.val, setSl, wrapG, guardB, getB, pickA, binA, binC, binD, cmpD, isCmp, unA, unD, lenA, AOp.total, kills, litB, FinQ, resOks, resOk, resA, resList, resOne, A.thaw, C.thaw, A.fits, As.fits, C.fits, evs, oks, callArgs, A.pure, C.pure, A.re, C.re, fieldAddrA, loadC, cut, A.cells, C.rows?, getOb, newOb, setOb, storeC, splice, Ob.re, Cs.fits, partsA, partsOk, parts2A, parts2Ok, fillC, fillRows, optInt, optOk, sliceA, optK_some, storeK_some, Option.map_some, toDs, C.toD, spliceD, appendA, capsOf, srcRows, allLen_nil_iff, allLen_cons_iff, allLen_append_iff, dropC, Obs.fits, eqCs, eqD]
  refine qcall_pure (mkImpl_calls l (by omega) hlf t ht) hf (by simp [A.re, A.res, C.re, re_d]) ?_
  simp -implicitDefEqProofs [row_len, take_row, pure_d, re_d, hf, aw_skip, aw_region, aw_seq, aw_block, aw_cond, aw_exit, aw_ret, kq_nil, kq_seq, kq_seq_ret, kq_seq_exit, kq_block, kq_block_ret, kq_block_exit, kq_loop, kq_loop_ret, kq_loop_exit, awOps_nil, awOps_cons, awOps_guardE, nx_eq, awOp, ev_k, ev_0, ev_1, ev_2, ev_3, ev_4, ev_5, ev_6, ev_7, ev_8, set_0, set_1, set_2, set_3, set_4, set_5, set_6, set_7, set_8, -List.set_cons_succ, -List.set_cons_zero, A.ok, A.val, setSl, wrapG, guardB, getB, pickA, binA, binC, binD, cmpD, isCmp, unA, unD, lenA, AOp.total, kills, litB, FinQ, resOks, resOk, resA, resList, resOne, A.thaw, C.thaw, A.fits, As.fits, C.fits, evs, oks, callArgs, A.pure, C.pure, A.re, C.re, fieldAddrA, loadC, cut, A.cells, C.rows?, getOb, newOb, setOb, storeC, splice, Ob.re, Cs.fits, partsA, partsOk, parts2A, parts2Ok, fillC, fillRows, optInt, optOk, sliceA, optK_some, storeK_some, Option.map_some, toDs, C.toD, spliceD, appendA, capsOf, srcRows, allLen_nil_iff, allLen_cons_iff, allLen_append_iff, dropC, Obs.fits, eqCs, eqD]
  refine qcall_pure (mkSpec_calls l (by omega) hlf t ht) hf (by simp [A.re, A.res, C.re, re_d]) ?_
  simp -implicitDefEqProofs [row_len, take_row, pure_d, re_d, hf, aw_skip, aw_region, aw_seq, aw_block, aw_cond, aw_exit, aw_ret, kq_nil, kq_seq, kq_seq_ret, kq_seq_exit, kq_block, kq_block_ret, kq_block_exit, kq_loop, kq_loop_ret, kq_loop_exit, awOps_nil, awOps_cons, awOps_guardE, nx_eq, awOp, ev_k, ev_0, ev_1, ev_2, ev_3, ev_4, ev_5, ev_6, ev_7, ev_8, set_0, set_1, set_2, set_3, set_4, set_5, set_6, set_7, set_8, -List.set_cons_succ, -List.set_cons_zero, A.ok, A.val, setSl, wrapG, guardB, getB, pickA, binA, binC, binD, cmpD, isCmp, unA, unD, lenA, AOp.total, kills, litB, FinQ, resOks, resOk, resA, resList, resOne, A.thaw, C.thaw, A.fits, As.fits, C.fits, evs, oks, callArgs, A.pure, C.pure, A.re, C.re, fieldAddrA, loadC, cut, A.cells, C.rows?, getOb, newOb, setOb, storeC, splice, Ob.re, Cs.fits, partsA, partsOk, parts2A, parts2Ok, fillC, fillRows, optInt, optOk, sliceA, optK_some, storeK_some, Option.map_some, toDs, C.toD, spliceD, appendA, capsOf, srcRows, allLen_nil_iff, allLen_cons_iff, allLen_append_iff, dropC, Obs.fits, eqCs, eqD]
  have hmk := fun u => list_mk (l := l) (t := t) (u := u)
  generalize mkT l t = y at hmf hmk ⊢
  obtain ⟨u, ok⟩ := y
  simp only at hmf hmk ⊢
  refine qcall_pure (sameImpl_calls u hmf u hmf) hf rfl ?_
  cases ok with
  | false =>
    simp -implicitDefEqProofs [row_len, take_row, pure_d, re_d, hf, aw_skip, aw_region, aw_seq, aw_block, aw_cond, aw_exit, aw_ret, kq_nil, kq_seq, kq_seq_ret, kq_seq_exit, kq_block, kq_block_ret, kq_block_exit, kq_loop, kq_loop_ret, kq_loop_exit, awOps_nil, awOps_cons, awOps_guardE, nx_eq, awOp, ev_k, ev_0, ev_1, ev_2, ev_3, ev_4, ev_5, ev_6, ev_7, ev_8, set_0, set_1, set_2, set_3, set_4, set_5, set_6, set_7, set_8, -List.set_cons_succ, -List.set_cons_zero, A.ok, A.val, setSl, wrapG, guardB, getB, pickA, binA, binC, binD, cmpD, isCmp, unA, unD, lenA, AOp.total, kills, litB, FinQ, resOks, resOk, resA, resList, resOne, A.thaw, C.thaw, A.fits, As.fits, C.fits, evs, oks, callArgs, A.pure, C.pure, A.re, C.re, fieldAddrA, loadC, cut, A.cells, C.rows?, getOb, newOb, setOb, storeC, splice, Ob.re, Cs.fits, partsA, partsOk, parts2A, parts2Ok, fillC, fillRows, optInt, optOk, sliceA, optK_some, storeK_some, Option.map_some, toDs, C.toD, spliceD, appendA, capsOf, srcRows, allLen_nil_iff, allLen_cons_iff, allLen_append_iff, dropC, Obs.fits, eqCs, eqD]
    refine qcall_pure (sameImpl_calls u hmf u hmf) hf rfl ?_
    simp -implicitDefEqProofs [hf, aw_skip, aw_region, aw_seq, aw_block, aw_cond, aw_exit, aw_ret, kq_nil, kq_seq, kq_seq_ret, kq_seq_exit, kq_block, kq_block_ret, kq_block_exit, kq_loop, kq_loop_ret, kq_loop_exit, awOps_nil, awOps_cons, awOps_guardE, nx_eq, awOp, ev_k, ev_0, ev_1, ev_2, ev_3, ev_4, ev_5, ev_6, ev_7, ev_8, set_0, set_1, set_2, set_3, set_4, set_5, set_6, set_7, set_8, -List.set_cons_succ, -List.set_cons_zero, A.ok, A.val, setSl, wrapG, guardB, getB, pickA, binA, binC, binD, cmpD, isCmp, unA, unD, lenA, AOp.total, kills, litB, FinQ, resOks, resOk, resA, resList, resOne, A.thaw, C.thaw, A.fits, As.fits, C.fits, evs, oks, callArgs, A.pure, C.pure, A.re, C.re, fieldAddrA, loadC, cut, A.cells, C.rows?, getOb, newOb, setOb, storeC, splice, Ob.re, Cs.fits, partsA, partsOk, parts2A, parts2Ok, fillC, fillRows, optInt, optOk, sliceA, optK_some, storeK_some, Option.map_some, toDs, C.toD, spliceD, appendA, capsOf, srcRows, allLen_nil_iff, allLen_cons_iff, allLen_append_iff, dropC, Obs.fits, eqCs, eqD]
  | true =>
    obtain ⟨e1, e2, e3⟩ := hmk u rfl
    simp -implicitDefEqProofs [row_len, take_row, pure_d, re_d, hf, aw_skip, aw_region, aw_seq, aw_block, aw_cond, aw_exit, aw_ret, kq_nil, kq_seq, kq_seq_ret, kq_seq_exit, kq_block, kq_block_ret, kq_block_exit, kq_loop, kq_loop_ret, kq_loop_exit, awOps_nil, awOps_cons, awOps_guardE, nx_eq, awOp, ev_k, ev_0, ev_1, ev_2, ev_3, ev_4, ev_5, ev_6, ev_7, ev_8, set_0, set_1, set_2, set_3, set_4, set_5, set_6, set_7, set_8, -List.set_cons_succ, -List.set_cons_zero, A.ok, A.val, setSl, wrapG, guardB, getB, pickA, binA, binC, binD, cmpD, isCmp, unA, unD, lenA, AOp.total, kills, litB, FinQ, resOks, resOk, resA, resList, resOne, A.thaw, C.thaw, A.fits, As.fits, C.fits, evs, oks, callArgs, A.pure, C.pure, A.re, C.re, fieldAddrA, loadC, cut, A.cells, C.rows?, getOb, newOb, setOb, storeC, splice, Ob.re, Cs.fits, partsA, partsOk, parts2A, parts2Ok, fillC, fillRows, optInt, optOk, sliceA, optK_some, storeK_some, Option.map_some, toDs, C.toD, spliceD, appendA, capsOf, srcRows, allLen_nil_iff, allLen_cons_iff, allLen_append_iff, dropC, Obs.fits, eqCs, eqD]
    refine qcall_pure (lfImpl_calls u hmf) hf rfl ?_
    simp -implicitDefEqProofs [row_len, take_row, pure_d, re_d, hf, aw_skip, aw_region, aw_seq, aw_block, aw_cond, aw_exit, aw_ret, kq_nil, kq_seq, kq_seq_ret, kq_seq_exit, kq_block, kq_block_ret, kq_block_exit, kq_loop, kq_loop_ret, kq_loop_exit, awOps_nil, awOps_cons, awOps_guardE, nx_eq, awOp, ev_k, ev_0, ev_1, ev_2, ev_3, ev_4, ev_5, ev_6, ev_7, ev_8, set_0, set_1, set_2, set_3, set_4, set_5, set_6, set_7, set_8, -List.set_cons_succ, -List.set_cons_zero, A.ok, A.val, setSl, wrapG, guardB, getB, pickA, binA, binC, binD, cmpD, isCmp, unA, unD, lenA, AOp.total, kills, litB, FinQ, resOks, resOk, resA, resList, resOne, A.thaw, C.thaw, A.fits, As.fits, C.fits, evs, oks, callArgs, A.pure, C.pure, A.re, C.re, fieldAddrA, loadC, cut, A.cells, C.rows?, getOb, newOb, setOb, storeC, splice, Ob.re, Cs.fits, partsA, partsOk, parts2A, parts2Ok, fillC, fillRows, optInt, optOk, sliceA, optK_some, storeK_some, Option.map_some, toDs, C.toD, spliceD, appendA, capsOf, srcRows, allLen_nil_iff, allLen_cons_iff, allLen_append_iff, dropC, Obs.fits, eqCs, eqD]
    refine qcall_pure (lfImpl_calls t ht) hf rfl ?_
    obtain ⟨h1, h2⟩ := listOf_fits hmf
    obtain ⟨h3, h4⟩ := listOf_fits ht
    generalize listOf u = y at e2 e3 h1 h2 ⊢
    obtain ⟨items, fine⟩ := y
    generalize listOf t = y at e2 e3 h3 h4 ⊢
    obtain ⟨rest, closed⟩ := y
    simp only at e2 e3 h1 h2 h3 h4 ⊢
    subst e2
    cases fine with
    | false => simp -implicitDefEqProofs [row_len, take_row, pure_d, re_d, hf, aw_skip, aw_region, aw_seq, aw_block, aw_cond, aw_exit, aw_ret, kq_nil, kq_seq, kq_seq_ret, kq_seq_exit, kq_block, kq_block_ret, kq_block_exit, kq_loop, kq_loop_ret, kq_loop_exit, awOps_nil, awOps_cons, awOps_guardE, nx_eq, awOp, ev_k, ev_0, ev_1, ev_2, ev_3, ev_4, ev_5, ev_6, ev_7, ev_8, set_0, set_1, set_2, set_3, set_4, set_5, set_6, set_7, set_8, -List.set_cons_succ, -List.set_cons_zero, A.ok, A.val, setSl, wrapG, guardB, getB, pickA, binA, binC, binD, cmpD, isCmp, unA, unD, lenA, AOp.total, kills, litB, FinQ, resOks, resOk, resA, resList, resOne, A.thaw, C.thaw, A.fits, As.fits, C.fits, evs, oks, callArgs, A.pure, C.pure, A.re, C.re, fieldAddrA, loadC, cut, A.cells, C.rows?, getOb, newOb, setOb, storeC, splice, Ob.re, Cs.fits, partsA, partsOk, parts2A, parts2Ok, fillC, fillRows, optInt, optOk, sliceA, optK_some, storeK_some, Option.map_some, toDs, C.toD, spliceD, appendA, capsOf, srcRows, allLen_nil_iff, allLen_cons_iff, allLen_append_iff, dropC, Obs.fits, eqCs, eqD]
    | true =>
      have e3 := e3 rfl
      simp -implicitDefEqProofs [row_len, take_row, pure_d, re_d, hf, aw_skip, aw_region, aw_seq, aw_block, aw_cond, aw_exit, aw_ret, kq_nil, kq_seq, kq_seq_ret, kq_seq_exit, kq_block, kq_block_ret, kq_block_exit, kq_loop, kq_loop_ret, kq_loop_exit, awOps_nil, awOps_cons, awOps_guardE, nx_eq, awOp, ev_k, ev_0, ev_1, ev_2, ev_3, ev_4, ev_5, ev_6, ev_7, ev_8, set_0, set_1, set_2, set_3, set_4, set_5, set_6, set_7, set_8, -List.set_cons_succ, -List.set_cons_zero, A.ok, A.val, setSl, wrapG, guardB, getB, pickA, binA, binC, binD, cmpD, isCmp, unA, unD, lenA, AOp.total, kills, litB, FinQ, resOks, resOk, resA, resList, resOne, A.thaw, C.thaw, A.fits, As.fits, C.fits, evs, oks, callArgs, A.pure, C.pure, A.re, C.re, fieldAddrA, loadC, cut, A.cells, C.rows?, getOb, newOb, setOb, storeC, splice, Ob.re, Cs.fits, partsA, partsOk, parts2A, parts2Ok, fillC, fillRows, optInt, optOk, sliceA, optK_some, storeK_some, Option.map_some, toDs, C.toD, spliceD, appendA, capsOf, srcRows, allLen_nil_iff, allLen_cons_iff, allLen_append_iff, dropC, Obs.fits, eqCs, eqD]
      refine ⟨allLen_map row_len, by unfold maxApp; omega, allLen_map row_len, allLen_map row_len, by unfold maxApp; omega, ?_⟩
      subst e3
      have hpg := pgTerms_calls (l ++ rest) (by omega) h2
      rw [List.map_append] at hpg ⊢
      refine qcall_pure hpg hf rfl ?_
      simp -implicitDefEqProofs [hf, aw_skip, aw_region, aw_seq, aw_block, aw_cond, aw_exit, aw_ret, kq_nil, kq_seq, kq_seq_ret, kq_seq_exit, kq_block, kq_block_ret, kq_block_exit, kq_loop, kq_loop_ret, kq_loop_exit, awOps_nil, awOps_cons, awOps_guardE, nx_eq, awOp, ev_k, ev_0, ev_1, ev_2, ev_3, ev_4, ev_5, ev_6, ev_7, ev_8, set_0, set_1, set_2, set_3, set_4, set_5, set_6, set_7, set_8, -List.set_cons_succ, -List.set_cons_zero, A.ok, A.val, setSl, wrapG, guardB, getB, pickA, binA, binC, binD, cmpD, isCmp, unA, unD, lenA, AOp.total, kills, litB, FinQ, resOks, resOk, resA, resList, resOne, A.thaw, C.thaw, A.fits, As.fits, C.fits, evs, oks, callArgs, A.pure, C.pure, A.re, C.re, fieldAddrA, loadC, cut, A.cells, C.rows?, getOb, newOb, setOb, storeC, splice, Ob.re, Cs.fits, partsA, partsOk, parts2A, parts2Ok, fillC, fillRows, optInt, optOk, sliceA, optK_some, storeK_some, Option.map_some, toDs, C.toD, spliceD, appendA, capsOf, srcRows, allLen_nil_iff, allLen_cons_iff, allLen_append_iff, dropC, Obs.fits, eqCs, eqD]
theorem law_run13 (rows : List (List D)) (hr : HasTys Try.prog (#[22] : Array TypeId).toList rows) : ACalls Try.prog 13 (argsA Try.prog (#[22] : Array TypeId).toList rows) [] (fun r _ => r = .c (.d (.bool true))) := by
  obtain ⟨r, rs, rfl, h1, h2⟩ := hr.cons
  obtain rfl := h2.nil
  obtain ⟨s, rfl, hs⟩ := bytes_ty h1
  simp only [argsA, argA, Try.underlying22, List.headD_cons]
  exact mlLaw_calls s hs
namespace fnMakeList
theorem own : ownKnob Try.prog.godebug = none := by kernel_rfl
theorem contract (H : Type) (enc : TypeId × Value → H) (W : World) (base : Nat) (args : Array Value) (ds gs : List (DataW H)) (before : List MemPlace)
    (hval : ∀ (j : Nat) t v, Try.f13.params[j]? = some t → args[j]? = some v → Value.okWide Try.prog W .any base t v)
    (hW : DataW.Whole enc Try.prog Try.f13.params.toList Rows.fnMakeListSpec.vars false W args.toList ds gs before)
    (hw : (DataW.weightsEach Try.prog (Try.f13.params.toList ++ Rows.fnMakeListSpec.plain.varTypes Try.prog) (ds ++ gs)).all (· ≤ reachBytes) = true) :
    Calls Try.prog 13 args W fun e W' => ∃ v, e = .returned v ∧ Rows.fnMakeListSpec.post enc Try.prog Try.f13 false true false false W args v W' := by
  refine law_contract (L := [5, 22]) (tb := 4) (by kernel_rfl) (by kernel_rfl) (by kernel_rfl) rfl ?_ (by kernel_rfl) Try.underlying4 ?_ W base args ds gs before hval hW hw
  · intro ds hl
    match ds, hl with
    | [d0], _ => rfl
  · intro rows hr
    rw [Try.params13] at hr ⊢
    exact law_run13 rows hr

theorem lifted (os : Os) (started : os.Started) (H : Type) (enc : TypeId × Value → H) :
    ReturnsInHanded {} Try.checked os 13 .any (Rows.fnMakeListSpec.pre6 enc Try.prog Try.f13 Rows.fnMakeListRow.domain false) (Rows.fnMakeListSpec.post enc Try.prog Try.f13 false true false false) := by
  refine returnsInHanded_of_change_sized (C := Try.checked) own started (by kernel_rfl) Try.func13
    (ChangeSpec.witness6 (enc := enc) (C := Try.checked) false ⟨#[], #[.slice none 0 0], []⟩ 8 (by kernel_rfl) (by kernel_rfl) (by kernel_rfl) (by kernel_rfl)) ?_
  intro W base args ds gs before hval hW _ hw _
  exact contract H enc W base args ds gs before hval hW hw

theorem proved : Rows.FnMakeListSaid :=
  OpenClaim.holds_of_wide 13 Try.f13 rfl rfl rfl rfl rfl rfl rfl ⟨rfl, rfl, rfl, rfl, rfl⟩ rfl rfl rfl rfl rfl (by kernel_rfl) Try.func13 (by kernel_rfl)
    (of_decide_eq_true (by kernel_rfl)) (by unfold Func.isWrapper; first | (rw [if_pos (by decide +kernel)]; kernel_rfl) | (rw [if_neg (by decide +kernel)]; exact ⟨rfl, rfl⟩))
    (fun os started H enc _ => lifted os started H enc)
end fnMakeList

end Go.Proofs.Ytnobdfcjnnnfmaa
