/-
  FnListOf: lists are made of elements.
  Conditions: none.
-/
import Derived.Test.YtnobdfcjnnnfmaaListP
import Derived.Test.YtnobdfcjnnnfmaaListD
open Go Go.AM Go.Proofs
namespace Go.Proofs.Ytnobdfcjnnnfmaa
open Go.ChangeShapes Go.WideShapes Go.ChangeAt Go.RowKit
set_option linter.unusedVariables false
set_option linter.unusedSimpArgs false
set_option maxRecDepth 100000
-- 12 loop.example/prologserver/laws.FnListOf params 1 ntmps 58
def ac12 : Cd := .seq (.region [⟨(some 2), .mv (.k (.c (.d (.bool false)))), none⟩] [2])
  (.seq (.seq (.region [⟨(some 10), .mv (.t 0), none⟩,
        ⟨(some 11), .len 1 (.t 10), none⟩,
        ⟨(some 12), .bin .gtr (.t 11) (.k (.c (.d (.int .i64 1048576)))), none⟩] [10, 11])
    (.cond (.t 12)
      (.seq (.region [⟨(some 2), .mv (.k (.c (.d (.bool true)))), none⟩] [0, 12])
      (.ret))
      (.skip)))
  (.seq (.region [⟨(some 13), .mv (.t 0), none⟩,
      ⟨(some 14), .call false 52 [(.t 13)], none⟩,
      ⟨(some 3), .alloc [(.d (.int .i64 0)), (.d (.int .i64 0)), (.d (.str [])), (.full [])], none⟩,
      ⟨none, .store 4 (.t 3) (.t 14), none⟩] [0, 2, 12, 13, 14])
  (.seq (.region [⟨(some 16), .load (some 4) (.t 3), none⟩,
      ⟨(some 17), .qcall 53 [(.t 16)], none⟩,
      ⟨(some 15), .mv (.t 17), none⟩,
      ⟨(some 18), .extract 0 (.t 15), none⟩,
      ⟨(some 19), .extract 1 (.t 15), none⟩,
      ⟨(some 4), .mv (.t 18), none⟩,
      ⟨(some 5), .mv (.t 19), none⟩] [15, 16, 17, 18, 19])
  (.seq (.region [⟨(some 21), .load (some 4) (.t 3), none⟩,
      ⟨(some 22), .qcall 54 [(.t 21)], none⟩,
      ⟨(some 20), .mv (.t 22), none⟩,
      ⟨(some 23), .extract 0 (.t 20), none⟩,
      ⟨(some 24), .extract 1 (.t 20), none⟩,
      ⟨(some 6), .mv (.t 23), none⟩,
      ⟨(some 7), .mv (.t 24), none⟩] [20, 21, 22, 23, 24])
  (.seq (.seq (.region [⟨(some 25), .mv (.t 5), none⟩,
        ⟨(some 26), .mv (.t 7), none⟩,
        ⟨(some 27), .binB true (.t 25) (.t 26), none⟩,
        ⟨(some 28), .mv (.t 27), none⟩,
        ⟨(some 29), .mv (.t 4), some (28, false)⟩,
        ⟨(some 30), .mv (.t 6), some (28, false)⟩,
        ⟨(some 31), .qcall 55 [(.t 29), (.t 30)], some (28, false)⟩,
        ⟨(some 32), .un .not (.t 31), some (28, false)⟩,
        ⟨(some 33), .pick (.t 28) (.k (.c (.d (.bool true)))) (.t 32), none⟩,
        ⟨(some 34), .mv (.t 33), none⟩,
        ⟨(some 35), .mv (.t 5), some (34, false)⟩,
        ⟨(some 36), .un .not (.t 35), some (34, false)⟩,
        ⟨(some 37), .pick (.t 34) (.k (.c (.d (.bool true)))) (.t 36), none⟩] [25, 26, 27, 28, 29, 30, 31, 32, 33, 34, 35, 36])
    (.cond (.t 37)
      (.seq (.region [⟨(some 38), .mv (.t 5), none⟩,
          ⟨(some 39), .mv (.t 7), none⟩,
          ⟨(some 40), .binB false (.t 38) (.t 39), none⟩,
          ⟨(some 41), .mv (.t 40), none⟩,
          ⟨(some 42), .mv (.t 4), some (41, true)⟩,
          ⟨(some 43), .mv (.t 6), some (41, true)⟩,
          ⟨(some 44), .qcall 55 [(.t 42), (.t 43)], some (41, true)⟩,
          ⟨(some 45), .pick (.t 41) (.t 44) (.k (.c (.d (.bool false)))), none⟩,
          ⟨(some 2), .mv (.t 45), none⟩] [3, 4, 5, 6, 7, 37, 38, 39, 40, 41, 42, 43, 44, 45])
      (.ret))
      (.skip)))
  (.seq (.region [⟨(some 47), .mv (.t 4), none⟩,
      ⟨(some 48), .build [(.d (.int .i64 0)), (.d (.int .i64 0)), (.d (.str [])), (.full [])] [(0, 1, (.k (.c (.d (.int .i64 3))))), (2, 1, (.k (.c (.d (.str [91, 93])))))], none⟩,
      ⟨(some 49), .qcall 56 [(.t 47), (.t 48)], none⟩,
      ⟨(some 46), .mv (.t 49), none⟩,
      ⟨(some 50), .extract 0 (.t 46), none⟩,
      ⟨(some 51), .extract 1 (.t 46), none⟩,
      ⟨(some 8), .alloc [(.d (.int .i64 0)), (.d (.int .i64 0)), (.d (.str [])), (.full [])], none⟩,
      ⟨none, .store 4 (.t 8) (.t 50), none⟩,
      ⟨(some 9), .mv (.t 51), none⟩] [2, 4, 5, 6, 7, 37, 46, 47, 48, 49, 50, 51])
  (.seq (.region [⟨(some 52), .mv (.t 9), none⟩,
      ⟨(some 53), .mv (.t 52), none⟩,
      ⟨(some 54), .load (some 4) (.t 8), some (53, true)⟩,
      ⟨(some 55), .load (some 4) (.t 3), some (53, true)⟩,
      ⟨(some 56), .qcall 57 [(.t 54), (.t 55)], some (53, true)⟩,
      ⟨(some 57), .pick (.t 53) (.t 56) (.k (.c (.d (.bool false)))), none⟩,
      ⟨(some 2), .mv (.t 57), none⟩] [3, 8, 9, 52, 53, 54, 55, 56, 57])
  (.ret))))))))
theorem ac12_ok : cFunc Try.prog [1000053, 1000054, 1000055, 1000056, 1000057] [(0, [2], []), (1, [10, 11], []), (2, [0, 12], []), (3, [0, 2, 12, 13, 14], []), (4, [15, 16, 17, 18, 19], []), (5, [20, 21, 22, 23, 24], []), (6, [25, 26, 27, 28, 29, 30, 31, 32, 33, 34, 35, 36], []), (7, [3, 4, 5, 6, 7, 37, 38, 39, 40, 41, 42, 43, 44, 45], []), (8, [2, 4, 5, 6, 7, 37, 46, 47, 48, 49, 50, 51], []), (9, [3, 8, 9, 52, 53, 54, 55, 56, 57], [])] Try.f12 = some (ac12, [.tmp 2], 58) := by kernel_rfl
theorem loLaw_calls (b : List UInt8) (hb : b.length ≤ reachBytes) : ACalls Try.prog 12 [.c (.d (.sl (bytesRows b)))] [] (fun r _ => r = .c (.d (.bool true))) := by
  refine acalls Try.func12 (by kernel_rfl) ac12_ok fun hf => ?_
  have hlen := reach_i64 hb
  simp -implicitDefEqProofs [ac12, hlen, bytesRows_len, aw_skip, aw_region, aw_seq, aw_block, aw_cond, aw_exit, aw_ret, kq_nil, kq_seq, kq_seq_ret, kq_seq_exit, kq_block, kq_block_ret, kq_block_exit, kq_loop, kq_loop_ret, kq_loop_exit, awOps_nil, awOps_cons, awOps_guardE, nx_eq, awOp, ev_k, ev_0, ev_1, ev_2, ev_3, ev_4, ev_5, ev_6, ev_7, ev_8, set_0, set_1, set_2, set_3, set_4, set_5, set_6, set_7, set_8, -List.set_cons_succ, -List.set_cons_zero, A.ok, A.val, setSl, wrapG, guardB, getB, pickA, binA, binC, binD, cmpD, isCmp, unA, unD, lenA, AOp.total, kills, litB, FinQ, resOks, resOk, resA, resList, resOne, A.thaw, C.thaw, A.fits, As.fits, C.fits, evs, oks, callArgs, A.pure, C.pure, A.re, C.re, fieldAddrA, loadC, cut, A.cells, C.rows?, getOb, newOb, setOb, storeC, splice, Ob.re, Cs.fits, partsA, partsOk, parts2A, parts2Ok, fillC, fillRows, optInt, optOk, sliceA, optK_some, storeK_some, Option.map_some, toDs, C.toD, spliceD, appendA, capsOf, srcRows, allLen_nil_iff, allLen_cons_iff, allLen_append_iff, dropC, Obs.fits, eqCs, eqD]
  intro hle
  have hle : b.length ≤ 1048576 := by omega
  refine call_some (drawListOf_calls b hle _) (by simp) (fun r => TmR.re) hf ?_
  rintro _ ⟨t, rfl, ht⟩
  simp -implicitDefEqProofs [row_len, take_row, pure_d, re_d, hf, aw_skip, aw_region, aw_seq, aw_block, aw_cond, aw_exit, aw_ret, kq_nil, kq_seq, kq_seq_ret, kq_seq_exit, kq_block, kq_block_ret, kq_block_exit, kq_loop, kq_loop_ret, kq_loop_exit, awOps_nil, awOps_cons, awOps_guardE, nx_eq, awOp, ev_k, ev_0, ev_1, ev_2, ev_3, ev_4, ev_5, ev_6, ev_7, ev_8, set_0, set_1, set_2, set_3, set_4, set_5, set_6, set_7, set_8, -List.set_cons_succ, -List.set_cons_zero, A.ok, A.val, setSl, wrapG, guardB, getB, pickA, binA, binC, binD, cmpD, isCmp, unA, unD, lenA, AOp.total, kills, litB, FinQ, resOks, resOk, resA, resList, resOne, A.thaw, C.thaw, A.fits, As.fits, C.fits, evs, oks, callArgs, A.pure, C.pure, A.re, C.re, fieldAddrA, loadC, cut, A.cells, C.rows?, getOb, newOb, setOb, storeC, splice, Ob.re, Cs.fits, partsA, partsOk, parts2A, parts2Ok, fillC, fillRows, optInt, optOk, sliceA, optK_some, storeK_some, Option.map_some, toDs, C.toD, spliceD, appendA, capsOf, srcRows, allLen_nil_iff, allLen_cons_iff, allLen_append_iff, dropC, Obs.fits, eqCs, eqD]
  refine qcall_pure (lfImpl_calls t ht) hf rfl ?_
  simp -implicitDefEqProofs [row_len, take_row, pure_d, re_d, hf, aw_skip, aw_region, aw_seq, aw_block, aw_cond, aw_exit, aw_ret, kq_nil, kq_seq, kq_seq_ret, kq_seq_exit, kq_block, kq_block_ret, kq_block_exit, kq_loop, kq_loop_ret, kq_loop_exit, awOps_nil, awOps_cons, awOps_guardE, nx_eq, awOp, ev_k, ev_0, ev_1, ev_2, ev_3, ev_4, ev_5, ev_6, ev_7, ev_8, set_0, set_1, set_2, set_3, set_4, set_5, set_6, set_7, set_8, -List.set_cons_succ, -List.set_cons_zero, A.ok, A.val, setSl, wrapG, guardB, getB, pickA, binA, binC, binD, cmpD, isCmp, unA, unD, lenA, AOp.total, kills, litB, FinQ, resOks, resOk, resA, resList, resOne, A.thaw, C.thaw, A.fits, As.fits, C.fits, evs, oks, callArgs, A.pure, C.pure, A.re, C.re, fieldAddrA, loadC, cut, A.cells, C.rows?, getOb, newOb, setOb, storeC, splice, Ob.re, Cs.fits, partsA, partsOk, parts2A, parts2Ok, fillC, fillRows, optInt, optOk, sliceA, optK_some, storeK_some, Option.map_some, toDs, C.toD, spliceD, appendA, capsOf, srcRows, allLen_nil_iff, allLen_cons_iff, allLen_append_iff, dropC, Obs.fits, eqCs, eqD]
  refine qcall_pure (lfSpec_calls t ht) hf rfl ?_
  obtain ⟨hll, hlf⟩ := listOf_fits ht
  simp -implicitDefEqProofs [row_len, take_row, pure_d, re_d, hf, aw_skip, aw_region, aw_seq, aw_block, aw_cond, aw_exit, aw_ret, kq_nil, kq_seq, kq_seq_ret, kq_seq_exit, kq_block, kq_block_ret, kq_block_exit, kq_loop, kq_loop_ret, kq_loop_exit, awOps_nil, awOps_cons, awOps_guardE, nx_eq, awOp, ev_k, ev_0, ev_1, ev_2, ev_3, ev_4, ev_5, ev_6, ev_7, ev_8, set_0, set_1, set_2, set_3, set_4, set_5, set_6, set_7, set_8, -List.set_cons_succ, -List.set_cons_zero, A.ok, A.val, setSl, wrapG, guardB, getB, pickA, binA, binC, binD, cmpD, isCmp, unA, unD, lenA, AOp.total, kills, litB, FinQ, resOks, resOk, resA, resList, resOne, A.thaw, C.thaw, A.fits, As.fits, C.fits, evs, oks, callArgs, A.pure, C.pure, A.re, C.re, fieldAddrA, loadC, cut, A.cells, C.rows?, getOb, newOb, setOb, storeC, splice, Ob.re, Cs.fits, partsA, partsOk, parts2A, parts2Ok, fillC, fillRows, optInt, optOk, sliceA, optK_some, storeK_some, Option.map_some, toDs, C.toD, spliceD, appendA, capsOf, srcRows, allLen_nil_iff, allLen_cons_iff, allLen_append_iff, dropC, Obs.fits, eqCs, eqD]
  have hmk := fun l => mk_list (t := t) (l := l)
  generalize listOf t = y at hll hlf hmk ⊢
  obtain ⟨l, ok⟩ := y
  simp only at hll hlf hmk ⊢
  refine qcall_pure (pgTerms_calls l (by omega) hlf) hf rfl ?_
  cases ok with
  | false =>
    simp -implicitDefEqProofs [hf, aw_skip, aw_region, aw_seq, aw_block, aw_cond, aw_exit, aw_ret, kq_nil, kq_seq, kq_seq_ret, kq_seq_exit, kq_block, kq_block_ret, kq_block_exit, kq_loop, kq_loop_ret, kq_loop_exit, awOps_nil, awOps_cons, awOps_guardE, nx_eq, awOp, ev_k, ev_0, ev_1, ev_2, ev_3, ev_4, ev_5, ev_6, ev_7, ev_8, set_0, set_1, set_2, set_3, set_4, set_5, set_6, set_7, set_8, -List.set_cons_succ, -List.set_cons_zero, A.ok, A.val, setSl, wrapG, guardB, getB, pickA, binA, binC, binD, cmpD, isCmp, unA, unD, lenA, AOp.total, kills, litB, FinQ, resOks, resOk, resA, resList, resOne, A.thaw, C.thaw, A.fits, As.fits, C.fits, evs, oks, callArgs, A.pure, C.pure, A.re, C.re, fieldAddrA, loadC, cut, A.cells, C.rows?, getOb, newOb, setOb, storeC, splice, Ob.re, Cs.fits, partsA, partsOk, parts2A, parts2Ok, fillC, fillRows, optInt, optOk, sliceA, optK_some, storeK_some, Option.map_some, toDs, C.toD, spliceD, appendA, capsOf, srcRows, allLen_nil_iff, allLen_cons_iff, allLen_append_iff, dropC, Obs.fits, eqCs, eqD]
    refine qcall_pure (pgTerms_calls l (by omega) hlf) hf rfl ?_
    simp -implicitDefEqProofs [hf, aw_skip, aw_region, aw_seq, aw_block, aw_cond, aw_exit, aw_ret, kq_nil, kq_seq, kq_seq_ret, kq_seq_exit, kq_block, kq_block_ret, kq_block_exit, kq_loop, kq_loop_ret, kq_loop_exit, awOps_nil, awOps_cons, awOps_guardE, nx_eq, awOp, ev_k, ev_0, ev_1, ev_2, ev_3, ev_4, ev_5, ev_6, ev_7, ev_8, set_0, set_1, set_2, set_3, set_4, set_5, set_6, set_7, set_8, -List.set_cons_succ, -List.set_cons_zero, A.ok, A.val, setSl, wrapG, guardB, getB, pickA, binA, binC, binD, cmpD, isCmp, unA, unD, lenA, AOp.total, kills, litB, FinQ, resOks, resOk, resA, resList, resOne, A.thaw, C.thaw, A.fits, As.fits, C.fits, evs, oks, callArgs, A.pure, C.pure, A.re, C.re, fieldAddrA, loadC, cut, A.cells, C.rows?, getOb, newOb, setOb, storeC, splice, Ob.re, Cs.fits, partsA, partsOk, parts2A, parts2Ok, fillC, fillRows, optInt, optOk, sliceA, optK_some, storeK_some, Option.map_some, toDs, C.toD, spliceD, appendA, capsOf, srcRows, allLen_nil_iff, allLen_cons_iff, allLen_append_iff, dropC, Obs.fits, eqCs, eqD]
  | true =>
    have hm := mkImpl_calls l (by omega) hlf nilT (.mk (small_i64 (by omega) (by omega)) (small_i64 (by omega) (by omega)) (by simp) (by simp) (by simp))
    rw [hmk l rfl] at hm
    rw [nilT, row_mk] at hm
    simp -implicitDefEqProofs [hf, aw_skip, aw_region, aw_seq, aw_block, aw_cond, aw_exit, aw_ret, kq_nil, kq_seq, kq_seq_ret, kq_seq_exit, kq_block, kq_block_ret, kq_block_exit, kq_loop, kq_loop_ret, kq_loop_exit, awOps_nil, awOps_cons, awOps_guardE, nx_eq, awOp, ev_k, ev_0, ev_1, ev_2, ev_3, ev_4, ev_5, ev_6, ev_7, ev_8, set_0, set_1, set_2, set_3, set_4, set_5, set_6, set_7, set_8, -List.set_cons_succ, -List.set_cons_zero, A.ok, A.val, setSl, wrapG, guardB, getB, pickA, binA, binC, binD, cmpD, isCmp, unA, unD, lenA, AOp.total, kills, litB, FinQ, resOks, resOk, resA, resList, resOne, A.thaw, C.thaw, A.fits, As.fits, C.fits, evs, oks, callArgs, A.pure, C.pure, A.re, C.re, fieldAddrA, loadC, cut, A.cells, C.rows?, getOb, newOb, setOb, storeC, splice, Ob.re, Cs.fits, partsA, partsOk, parts2A, parts2Ok, fillC, fillRows, optInt, optOk, sliceA, optK_some, storeK_some, Option.map_some, toDs, C.toD, spliceD, appendA, capsOf, srcRows, allLen_nil_iff, allLen_cons_iff, allLen_append_iff, dropC, Obs.fits, eqCs, eqD]
    refine qcall_pure hm hf (by simp [A.re, A.res, C.re, re_d]) ?_
    simp -implicitDefEqProofs [row_len, take_row, pure_d, re_d, hf, aw_skip, aw_region, aw_seq, aw_block, aw_cond, aw_exit, aw_ret, kq_nil, kq_seq, kq_seq_ret, kq_seq_exit, kq_block, kq_block_ret, kq_block_exit, kq_loop, kq_loop_ret, kq_loop_exit, awOps_nil, awOps_cons, awOps_guardE, nx_eq, awOp, ev_k, ev_0, ev_1, ev_2, ev_3, ev_4, ev_5, ev_6, ev_7, ev_8, set_0, set_1, set_2, set_3, set_4, set_5, set_6, set_7, set_8, -List.set_cons_succ, -List.set_cons_zero, A.ok, A.val, setSl, wrapG, guardB, getB, pickA, binA, binC, binD, cmpD, isCmp, unA, unD, lenA, AOp.total, kills, litB, FinQ, resOks, resOk, resA, resList, resOne, A.thaw, C.thaw, A.fits, As.fits, C.fits, evs, oks, callArgs, A.pure, C.pure, A.re, C.re, fieldAddrA, loadC, cut, A.cells, C.rows?, getOb, newOb, setOb, storeC, splice, Ob.re, Cs.fits, partsA, partsOk, parts2A, parts2Ok, fillC, fillRows, optInt, optOk, sliceA, optK_some, storeK_some, Option.map_some, toDs, C.toD, spliceD, appendA, capsOf, srcRows, allLen_nil_iff, allLen_cons_iff, allLen_append_iff, dropC, Obs.fits, eqCs, eqD]
    refine qcall_pure (sameImpl_calls t ht t ht) hf rfl ?_
    simp -implicitDefEqProofs [hf, aw_skip, aw_region, aw_seq, aw_block, aw_cond, aw_exit, aw_ret, kq_nil, kq_seq, kq_seq_ret, kq_seq_exit, kq_block, kq_block_ret, kq_block_exit, kq_loop, kq_loop_ret, kq_loop_exit, awOps_nil, awOps_cons, awOps_guardE, nx_eq, awOp, ev_k, ev_0, ev_1, ev_2, ev_3, ev_4, ev_5, ev_6, ev_7, ev_8, set_0, set_1, set_2, set_3, set_4, set_5, set_6, set_7, set_8, -List.set_cons_succ, -List.set_cons_zero, A.ok, A.val, setSl, wrapG, guardB, getB, pickA, binA, binC, binD, cmpD, isCmp, unA, unD, lenA, AOp.total, kills, litB, FinQ, resOks, resOk, resA, resList, resOne, A.thaw, C.thaw, A.fits, As.fits, C.fits, evs, oks, callArgs, A.pure, C.pure, A.re, C.re, fieldAddrA, loadC, cut, A.cells, C.rows?, getOb, newOb, setOb, storeC, splice, Ob.re, Cs.fits, partsA, partsOk, parts2A, parts2Ok, fillC, fillRows, optInt, optOk, sliceA, optK_some, storeK_some, Option.map_some, toDs, C.toD, spliceD, appendA, capsOf, srcRows, allLen_nil_iff, allLen_cons_iff, allLen_append_iff, dropC, Obs.fits, eqCs, eqD]
theorem law_run12 (rows : List (List D)) (hr : HasTys Try.prog (#[22] : Array TypeId).toList rows) : ACalls Try.prog 12 (argsA Try.prog (#[22] : Array TypeId).toList rows) [] (fun r _ => r = .c (.d (.bool true))) := by
  obtain ⟨r, rs, rfl, h1, h2⟩ := hr.cons
  obtain rfl := h2.nil
  obtain ⟨s, rfl, hs⟩ := bytes_ty h1
  simp only [argsA, argA, Try.underlying22, List.headD_cons]
  exact loLaw_calls s hs
namespace fnListOf
theorem own : ownKnob Try.prog.godebug = none := by kernel_rfl
theorem contract (H : Type) (enc : TypeId × Value → H) (W : World) (base : Nat) (args : Array Value) (ds gs : List (DataW H)) (before : List MemPlace)
    (hval : ∀ (j : Nat) t v, Try.f12.params[j]? = some t → args[j]? = some v → Value.okWide Try.prog W .any base t v)
    (hW : DataW.Whole enc Try.prog Try.f12.params.toList Rows.fnListOfSpec.vars false W args.toList ds gs before)
    (hw : (DataW.weightsEach Try.prog (Try.f12.params.toList ++ Rows.fnListOfSpec.plain.varTypes Try.prog) (ds ++ gs)).all (· ≤ reachBytes) = true) :
    Calls Try.prog 12 args W fun e W' => ∃ v, e = .returned v ∧ Rows.fnListOfSpec.post enc Try.prog Try.f12 false true false false W args v W' := by
  refine law_contract (L := [5, 22]) (tb := 4) (by kernel_rfl) (by kernel_rfl) (by kernel_rfl) rfl ?_ (by kernel_rfl) Try.underlying4 ?_ W base args ds gs before hval hW hw
  · intro ds hl
    match ds, hl with
    | [d0], _ => rfl
  · intro rows hr
    rw [Try.params12] at hr ⊢
    exact law_run12 rows hr

theorem lifted (os : Os) (started : os.Started) (H : Type) (enc : TypeId × Value → H) :
    ReturnsInHanded {} Try.checked os 12 .any (Rows.fnListOfSpec.pre6 enc Try.prog Try.f12 Rows.fnListOfRow.domain false) (Rows.fnListOfSpec.post enc Try.prog Try.f12 false true false false) := by
  refine returnsInHanded_of_change_sized (C := Try.checked) own started (by kernel_rfl) Try.func12
    (ChangeSpec.witness6 (enc := enc) (C := Try.checked) false ⟨#[], #[.slice none 0 0], []⟩ 8 (by kernel_rfl) (by kernel_rfl) (by kernel_rfl) (by kernel_rfl)) ?_
  intro W base args ds gs before hval hW _ hw _
  exact contract H enc W base args ds gs before hval hW hw

theorem proved : Rows.FnListOfSaid :=
  OpenClaim.holds_of_wide 12 Try.f12 rfl rfl rfl rfl rfl rfl rfl ⟨rfl, rfl, rfl, rfl, rfl⟩ rfl rfl rfl rfl rfl (by kernel_rfl) Try.func12 (by kernel_rfl)
    (of_decide_eq_true (by kernel_rfl)) (by unfold Func.isWrapper; first | (rw [if_pos (by decide +kernel)]; kernel_rfl) | (rw [if_neg (by decide +kernel)]; exact ⟨rfl, rfl⟩))
    (fun os started H enc _ => lifted os started H enc)
end fnListOf

end Go.Proofs.Ytnobdfcjnnnfmaa
