/-
  The law FnDecodeParts holds: streams of frames are joined.
  Conditions: none.
-/
import Derived.Test.YtnobdfcjnnnfmaaFrJ
import Derived.Test.YtnobdfcjnnnfmaaFrK
open Go Go.AM Go.Proofs
namespace Go.Proofs.Ytnobdfcjnnnfmaa
open Go.ChangeShapes Go.WideShapes Go.ChangeAt Go.RowKit
set_option linter.unusedVariables false
set_option linter.unusedSimpArgs false
set_option maxRecDepth 100000
-- 4 loop.example/prologserver/laws.FnDecodeParts params 2 ntmps 86
def ac4 : Cd := .seq (.region [⟨(some 4), .mv (.k (.c (.d (.bool false)))), none⟩] [4])
  (.seq (.seq (.region [⟨(some 15), .mv (.t 0), none⟩,
        ⟨(some 16), .len 1 (.t 15), none⟩,
        ⟨(some 17), .bin .gtr (.t 16) (.k (.c (.d (.int .i64 1048576)))), none⟩,
        ⟨(some 18), .mv (.t 17), none⟩,
        ⟨(some 19), .mv (.t 1), some (18, false)⟩,
        ⟨(some 20), .len 1 (.t 19), some (18, false)⟩,
        ⟨(some 21), .bin .gtr (.t 20) (.k (.c (.d (.int .i64 1048576)))), some (18, false)⟩,
        ⟨(some 22), .pick (.t 18) (.k (.c (.d (.bool true)))) (.t 21), none⟩] [15, 16, 17, 18, 19, 20, 21])
    (.cond (.t 22)
      (.seq (.region [⟨(some 4), .mv (.k (.c (.d (.bool true)))), none⟩] [0, 1, 22])
      (.ret))
      (.skip)))
  (.seq (.region [⟨(some 23), .mv (.t 0), none⟩,
      ⟨(some 24), .call false 23 [(.t 23)], none⟩,
      ⟨(some 5), .mv (.t 24), none⟩] [0, 4, 22, 23, 24])
  (.seq (.region [⟨(some 25), .mv (.t 1), none⟩,
      ⟨(some 26), .call false 23 [(.t 25)], none⟩,
      ⟨(some 6), .mv (.t 26), none⟩] [1, 25, 26])
  (.seq (.region [⟨(some 28), .mv (.t 5), none⟩,
      ⟨(some 29), .qcall 17 [(.t 28)], none⟩,
      ⟨(some 27), .mv (.t 29), none⟩,
      ⟨(some 30), .extract 0 (.t 27), none⟩,
      ⟨(some 31), .extract 1 (.t 27), none⟩,
      ⟨(some 7), .mv (.t 30), none⟩,
      ⟨(some 8), .mv (.t 31), none⟩] [27, 28, 29, 30, 31])
  (.seq (.region [⟨(some 33), .mv (.t 5), none⟩,
      ⟨(some 34), .qcall 15 [(.t 33)], none⟩,
      ⟨(some 32), .mv (.t 34), none⟩,
      ⟨(some 35), .extract 0 (.t 32), none⟩,
      ⟨(some 36), .extract 1 (.t 32), none⟩,
      ⟨(some 9), .mv (.t 35), none⟩,
      ⟨(some 10), .mv (.t 36), none⟩] [32, 33, 34, 35, 36])
  (.seq (.region [⟨(some 38), .mv (.t 6), none⟩,
      ⟨(some 39), .qcall 17 [(.t 38)], none⟩,
      ⟨(some 37), .mv (.t 39), none⟩,
      ⟨(some 40), .extract 0 (.t 37), none⟩,
      ⟨(some 41), .extract 1 (.t 37), none⟩,
      ⟨(some 11), .mv (.t 40), none⟩,
      ⟨(some 12), .mv (.t 41), none⟩] [37, 38, 39, 40, 41])
  (.seq (.seq (.region [⟨(some 42), .mv (.t 8), none⟩,
        ⟨(some 43), .mv (.t 10), none⟩,
        ⟨(some 44), .binB true (.t 42) (.t 43), none⟩,
        ⟨(some 45), .mv (.t 44), none⟩,
        ⟨(some 46), .mv (.t 7), some (45, false)⟩,
        ⟨(some 47), .mv (.t 9), some (45, false)⟩,
        ⟨(some 48), .qcall 24 [(.t 46), (.t 47)], some (45, false)⟩,
        ⟨(some 49), .un .not (.t 48), some (45, false)⟩,
        ⟨(some 50), .pick (.t 45) (.k (.c (.d (.bool true)))) (.t 49), none⟩,
        ⟨(some 51), .mv (.t 50), none⟩,
        ⟨(some 52), .mv (.t 8), some (51, false)⟩,
        ⟨(some 53), .un .not (.t 52), some (51, false)⟩,
        ⟨(some 54), .pick (.t 51) (.k (.c (.d (.bool true)))) (.t 53), none⟩,
        ⟨(some 55), .mv (.t 54), none⟩,
        ⟨(some 56), .mv (.t 12), some (55, false)⟩,
        ⟨(some 57), .un .not (.t 56), some (55, false)⟩,
        ⟨(some 58), .pick (.t 55) (.k (.c (.d (.bool true)))) (.t 57), none⟩] [12, 42, 43, 44, 45, 46, 47, 48, 49, 50, 51, 52, 53, 54, 55, 56, 57])
    (.cond (.t 58)
      (.seq (.region [⟨(some 59), .mv (.t 8), none⟩,
          ⟨(some 60), .mv (.t 10), none⟩,
          ⟨(some 61), .binB false (.t 59) (.t 60), none⟩,
          ⟨(some 62), .mv (.t 61), none⟩,
          ⟨(some 63), .mv (.t 7), some (62, true)⟩,
          ⟨(some 64), .mv (.t 9), some (62, true)⟩,
          ⟨(some 65), .qcall 24 [(.t 63), (.t 64)], some (62, true)⟩,
          ⟨(some 66), .pick (.t 62) (.t 65) (.k (.c (.d (.bool false)))), none⟩,
          ⟨(some 4), .mv (.t 66), none⟩] [5, 6, 7, 8, 9, 10, 11, 58, 59, 60, 61, 62, 63, 64, 65, 66])
      (.ret))
      (.skip)))
  (.seq (.region [⟨(some 68), .buildSlice 1 0 [(.int .u8 0)] [], none⟩,
      ⟨(some 69), .mv (.t 5), none⟩,
      ⟨(some 70), .append false 1 (.t 68) (.t 69), none⟩,
      ⟨(some 71), .mv (.t 6), none⟩,
      ⟨(some 72), .append false 1 (.t 70) (.t 71), none⟩,
      ⟨(some 73), .qcall 17 [(.t 72)], none⟩,
      ⟨(some 67), .mv (.t 73), none⟩,
      ⟨(some 74), .extract 0 (.t 67), none⟩,
      ⟨(some 75), .extract 1 (.t 67), none⟩,
      ⟨(some 13), .mv (.t 74), none⟩,
      ⟨(some 14), .mv (.t 75), none⟩] [4, 5, 6, 8, 9, 10, 58, 67, 68, 69, 70, 71, 72, 73, 74, 75])
  (.seq (.region [⟨(some 76), .mv (.t 14), none⟩,
      ⟨(some 77), .mv (.t 76), none⟩,
      ⟨(some 78), .mv (.t 13), some (77, true)⟩,
      ⟨(some 79), .buildSlice 2 0 [(.int .i64 0), (.str [])] [], some (77, true)⟩,
      ⟨(some 80), .mv (.t 7), some (77, true)⟩,
      ⟨(some 81), .append false 2 (.t 79) (.t 80), some (77, true)⟩,
      ⟨(some 82), .mv (.t 11), some (77, true)⟩,
      ⟨(some 83), .append false 2 (.t 81) (.t 82), some (77, true)⟩,
      ⟨(some 84), .qcall 24 [(.t 78), (.t 83)], some (77, true)⟩,
      ⟨(some 85), .pick (.t 77) (.t 84) (.k (.c (.d (.bool false)))), none⟩,
      ⟨(some 4), .mv (.t 85), none⟩] [7, 11, 13, 14, 76, 77, 78, 79, 80, 81, 82, 83, 84, 85])
  (.ret))))))))))
theorem ac4_ok : cFunc Try.prog [1000015, 1000017, 1000024] [(0, [4], []), (1, [15, 16, 17, 18, 19, 20, 21], []), (2, [0, 1, 22], []), (3, [0, 4, 22, 23, 24], []), (4, [1, 25, 26], []), (5, [27, 28, 29, 30, 31], []), (6, [32, 33, 34, 35, 36], []), (7, [37, 38, 39, 40, 41], []), (8, [12, 42, 43, 44, 45, 46, 47, 48, 49, 50, 51, 52, 53, 54, 55, 56, 57], []), (9, [5, 6, 7, 8, 9, 10, 11, 58, 59, 60, 61, 62, 63, 64, 65, 66], []), (10, [4, 5, 6, 8, 9, 10, 58, 67, 68, 69, 70, 71, 72, 73, 74, 75], []), (11, [7, 11, 13, 14, 76, 77, 78, 79, 80, 81, 82, 83, 84, 85], [])] Try.f4 = some (ac4, [.tmp 4], 86) := by kernel_rfl
theorem dpLaw_calls (c d : List UInt8) (hc : c.length ≤ reachBytes) (hd : d.length ≤ reachBytes) : ACalls Try.prog 4 [.c (.d (.sl (bytesRows c))), .c (.d (.sl (bytesRows d)))] [] (fun r _ => r = .c (.d (.bool true))) := by
  refine acalls Try.func4 (by kernel_rfl) ac4_ok fun hf => ?_
  have hl := reach_i64 hc
  have hl2 := reach_i64 hd
  simp -implicitDefEqProofs [ac4, hl, hl2, bytesRows_len, aw_skip, aw_region, aw_seq, aw_block, aw_cond, aw_exit, aw_ret, kq_nil, kq_seq, kq_seq_ret, kq_seq_exit, kq_block, kq_block_ret, kq_block_exit, kq_loop, kq_loop_ret, kq_loop_exit, awOps_nil, awOps_cons, awOps_guardE, nx_eq, awOp, ev_k, ev_0, ev_1, ev_2, ev_3, ev_4, ev_5, ev_6, ev_7, ev_8, set_0, set_1, set_2, set_3, set_4, set_5, set_6, set_7, set_8, -List.set_cons_succ, -List.set_cons_zero, A.ok, A.val, setSl, wrapG, guardB, getB, pickA, binA, binC, binD, cmpD, isCmp, unA, unD, lenA, AOp.total, kills, litB, FinQ, resOks, resOk, resA, resList, resOne, A.thaw, C.thaw, A.fits, As.fits, C.fits, evs, oks, callArgs, A.pure, C.pure, A.re, C.re, fieldAddrA, loadC, cut, A.cells, C.rows?, getOb, newOb, setOb, storeC, splice, Ob.re, Cs.fits, partsA, partsOk, parts2A, parts2Ok, fillC, fillRows, optInt, optOk, sliceA, optK_some, storeK_some, Option.map_some, toDs, C.toD, spliceD, appendA, srcRows, allLen_nil_iff, allLen_cons_iff, allLen_append_iff, dropC, Obs.fits, eqCs, eqD]
  intro hle hle2
  refine call_some (drawDa_calls c (by omega) _) (by simp [Ob.re, C.re]) (fun r => DrawnBytes.re) hf ?_
  rintro _ ⟨a, rfl, ha⟩
  simp -implicitDefEqProofs [aw_skip, aw_region, aw_seq, aw_block, aw_cond, aw_exit, aw_ret, kq_nil, kq_seq, kq_seq_ret, kq_seq_exit, kq_block, kq_block_ret, kq_block_exit, kq_loop, kq_loop_ret, kq_loop_exit, awOps_nil, awOps_cons, awOps_guardE, nx_eq, awOp, ev_k, ev_0, ev_1, ev_2, ev_3, ev_4, ev_5, ev_6, ev_7, ev_8, set_0, set_1, set_2, set_3, set_4, set_5, set_6, set_7, set_8, -List.set_cons_succ, -List.set_cons_zero, A.ok, A.val, setSl, wrapG, guardB, getB, pickA, binA, binC, binD, cmpD, isCmp, unA, unD, lenA, AOp.total, kills, litB, FinQ, resOks, resOk, resA, resList, resOne, A.thaw, C.thaw, A.fits, As.fits, C.fits, evs, oks, callArgs, A.pure, C.pure, A.re, C.re, fieldAddrA, loadC, cut, A.cells, C.rows?, getOb, newOb, setOb, storeC, splice, Ob.re, Cs.fits, partsA, partsOk, parts2A, parts2Ok, fillC, fillRows, optInt, optOk, sliceA, optK_some, storeK_some, Option.map_some, toDs, C.toD, spliceD, appendA, srcRows, allLen_nil_iff, allLen_cons_iff, allLen_append_iff, dropC, Obs.fits, eqCs, eqD]
  refine call_some (drawDa_calls d (by omega) _) (by simp [Ob.re, C.re]) (fun r => DrawnBytes.re) hf ?_
  rintro _ ⟨b, rfl, hb⟩
  simp -implicitDefEqProofs [aw_skip, aw_region, aw_seq, aw_block, aw_cond, aw_exit, aw_ret, kq_nil, kq_seq, kq_seq_ret, kq_seq_exit, kq_block, kq_block_ret, kq_block_exit, kq_loop, kq_loop_ret, kq_loop_exit, awOps_nil, awOps_cons, awOps_guardE, nx_eq, awOp, ev_k, ev_0, ev_1, ev_2, ev_3, ev_4, ev_5, ev_6, ev_7, ev_8, set_0, set_1, set_2, set_3, set_4, set_5, set_6, set_7, set_8, -List.set_cons_succ, -List.set_cons_zero, A.ok, A.val, setSl, wrapG, guardB, getB, pickA, binA, binC, binD, cmpD, isCmp, unA, unD, lenA, AOp.total, kills, litB, FinQ, resOks, resOk, resA, resList, resOne, A.thaw, C.thaw, A.fits, As.fits, C.fits, evs, oks, callArgs, A.pure, C.pure, A.re, C.re, fieldAddrA, loadC, cut, A.cells, C.rows?, getOb, newOb, setOb, storeC, splice, Ob.re, Cs.fits, partsA, partsOk, parts2A, parts2Ok, fillC, fillRows, optInt, optOk, sliceA, optK_some, storeK_some, Option.map_some, toDs, C.toD, spliceD, appendA, srcRows, allLen_nil_iff, allLen_cons_iff, allLen_append_iff, dropC, Obs.fits, eqCs, eqD]
  refine qcall_pure (decAllImpl_calls a (by omega)) hf rfl ?_
  simp -implicitDefEqProofs [hf, aw_skip, aw_region, aw_seq, aw_block, aw_cond, aw_exit, aw_ret, kq_nil, kq_seq, kq_seq_ret, kq_seq_exit, kq_block, kq_block_ret, kq_block_exit, kq_loop, kq_loop_ret, kq_loop_exit, awOps_nil, awOps_cons, awOps_guardE, nx_eq, awOp, ev_k, ev_0, ev_1, ev_2, ev_3, ev_4, ev_5, ev_6, ev_7, ev_8, set_0, set_1, set_2, set_3, set_4, set_5, set_6, set_7, set_8, -List.set_cons_succ, -List.set_cons_zero, A.ok, A.val, setSl, wrapG, guardB, getB, pickA, binA, binC, binD, cmpD, isCmp, unA, unD, lenA, AOp.total, kills, litB, FinQ, resOks, resOk, resA, resList, resOne, A.thaw, C.thaw, A.fits, As.fits, C.fits, evs, oks, callArgs, A.pure, C.pure, A.re, C.re, fieldAddrA, loadC, cut, A.cells, C.rows?, getOb, newOb, setOb, storeC, splice, Ob.re, Cs.fits, partsA, partsOk, parts2A, parts2Ok, fillC, fillRows, optInt, optOk, sliceA, optK_some, storeK_some, Option.map_some, toDs, C.toD, spliceD, appendA, srcRows, allLen_nil_iff, allLen_cons_iff, allLen_append_iff, dropC, Obs.fits, eqCs, eqD]
  refine qcall_pure (decAllSpec_calls a (by omega)) hf rfl ?_
  simp -implicitDefEqProofs [hf, aw_skip, aw_region, aw_seq, aw_block, aw_cond, aw_exit, aw_ret, kq_nil, kq_seq, kq_seq_ret, kq_seq_exit, kq_block, kq_block_ret, kq_block_exit, kq_loop, kq_loop_ret, kq_loop_exit, awOps_nil, awOps_cons, awOps_guardE, nx_eq, awOp, ev_k, ev_0, ev_1, ev_2, ev_3, ev_4, ev_5, ev_6, ev_7, ev_8, set_0, set_1, set_2, set_3, set_4, set_5, set_6, set_7, set_8, -List.set_cons_succ, -List.set_cons_zero, A.ok, A.val, setSl, wrapG, guardB, getB, pickA, binA, binC, binD, cmpD, isCmp, unA, unD, lenA, AOp.total, kills, litB, FinQ, resOks, resOk, resA, resList, resOne, A.thaw, C.thaw, A.fits, As.fits, C.fits, evs, oks, callArgs, A.pure, C.pure, A.re, C.re, fieldAddrA, loadC, cut, A.cells, C.rows?, getOb, newOb, setOb, storeC, splice, Ob.re, Cs.fits, partsA, partsOk, parts2A, parts2Ok, fillC, fillRows, optInt, optOk, sliceA, optK_some, storeK_some, Option.map_some, toDs, C.toD, spliceD, appendA, srcRows, allLen_nil_iff, allLen_cons_iff, allLen_append_iff, dropC, Obs.fits, eqCs, eqD]
  refine qcall_pure (decAllImpl_calls b (by omega)) hf rfl ?_
  have n1 := decAll_count a
  have n2 := decAll_count b
  simp -implicitDefEqProofs [hf, aw_skip, aw_region, aw_seq, aw_block, aw_cond, aw_exit, aw_ret, kq_nil, kq_seq, kq_seq_ret, kq_seq_exit, kq_block, kq_block_ret, kq_block_exit, kq_loop, kq_loop_ret, kq_loop_exit, awOps_nil, awOps_cons, awOps_guardE, nx_eq, awOp, ev_k, ev_0, ev_1, ev_2, ev_3, ev_4, ev_5, ev_6, ev_7, ev_8, set_0, set_1, set_2, set_3, set_4, set_5, set_6, set_7, set_8, -List.set_cons_succ, -List.set_cons_zero, A.ok, A.val, setSl, wrapG, guardB, getB, pickA, binA, binC, binD, cmpD, isCmp, unA, unD, lenA, AOp.total, kills, litB, FinQ, resOks, resOk, resA, resList, resOne, A.thaw, C.thaw, A.fits, As.fits, C.fits, evs, oks, callArgs, A.pure, C.pure, A.re, C.re, fieldAddrA, loadC, cut, A.cells, C.rows?, getOb, newOb, setOb, storeC, splice, Ob.re, Cs.fits, partsA, partsOk, parts2A, parts2Ok, fillC, fillRows, optInt, optOk, sliceA, optK_some, storeK_some, Option.map_some, toDs, C.toD, spliceD, appendA, srcRows, allLen_nil_iff, allLen_cons_iff, allLen_append_iff, dropC, Obs.fits, eqCs, eqD]
  refine qcall_pure (pgFrames_calls (decAll a).1 (by omega)) hf rfl ?_
  simp -implicitDefEqProofs [hf, aw_skip, aw_region, aw_seq, aw_block, aw_cond, aw_exit, aw_ret, kq_nil, kq_seq, kq_seq_ret, kq_seq_exit, kq_block, kq_block_ret, kq_block_exit, kq_loop, kq_loop_ret, kq_loop_exit, awOps_nil, awOps_cons, awOps_guardE, nx_eq, awOp, ev_k, ev_0, ev_1, ev_2, ev_3, ev_4, ev_5, ev_6, ev_7, ev_8, set_0, set_1, set_2, set_3, set_4, set_5, set_6, set_7, set_8, -List.set_cons_succ, -List.set_cons_zero, A.ok, A.val, setSl, wrapG, guardB, getB, pickA, binA, binC, binD, cmpD, isCmp, unA, unD, lenA, AOp.total, kills, litB, FinQ, resOks, resOk, resA, resList, resOne, A.thaw, C.thaw, A.fits, As.fits, C.fits, evs, oks, callArgs, A.pure, C.pure, A.re, C.re, fieldAddrA, loadC, cut, A.cells, C.rows?, getOb, newOb, setOb, storeC, splice, Ob.re, Cs.fits, partsA, partsOk, parts2A, parts2Ok, fillC, fillRows, optInt, optOk, sliceA, optK_some, storeK_some, Option.map_some, toDs, C.toD, spliceD, appendA, srcRows, allLen_nil_iff, allLen_cons_iff, allLen_append_iff, dropC, Obs.fits, eqCs, eqD]
  refine ⟨fun h => ?_, fun h1 h2 => ?_⟩
  · refine qcall_pure (pgFrames_calls (decAll a).1 (by omega)) hf rfl ?_
    simp -implicitDefEqProofs [hf, aw_skip, aw_region, aw_seq, aw_block, aw_cond, aw_exit, aw_ret, kq_nil, kq_seq, kq_seq_ret, kq_seq_exit, kq_block, kq_block_ret, kq_block_exit, kq_loop, kq_loop_ret, kq_loop_exit, awOps_nil, awOps_cons, awOps_guardE, nx_eq, awOp, ev_k, ev_0, ev_1, ev_2, ev_3, ev_4, ev_5, ev_6, ev_7, ev_8, set_0, set_1, set_2, set_3, set_4, set_5, set_6, set_7, set_8, -List.set_cons_succ, -List.set_cons_zero, A.ok, A.val, setSl, wrapG, guardB, getB, pickA, binA, binC, binD, cmpD, isCmp, unA, unD, lenA, AOp.total, kills, litB, FinQ, resOks, resOk, resA, resList, resOne, A.thaw, C.thaw, A.fits, As.fits, C.fits, evs, oks, callArgs, A.pure, C.pure, A.re, C.re, fieldAddrA, loadC, cut, A.cells, C.rows?, getOb, newOb, setOb, storeC, splice, Ob.re, Cs.fits, partsA, partsOk, parts2A, parts2Ok, fillC, fillRows, optInt, optOk, sliceA, optK_some, storeK_some, Option.map_some, toDs, C.toD, spliceD, appendA, srcRows, allLen_nil_iff, allLen_cons_iff, allLen_append_iff, dropC, Obs.fits, eqCs, eqD]
  · simp [allLen_bytes, bytesRows_len, append_bytes]
    refine ⟨by unfold maxApp; omega, by unfold maxApp; omega, ?_⟩
    have c1 := decAllImpl_calls (a ++ b) (by simp; omega)
    rw [decAll_append h1 h2] at c1
    refine qcall_pure c1 hf rfl ?_
    simp -implicitDefEqProofs [hf, aw_skip, aw_region, aw_seq, aw_block, aw_cond, aw_exit, aw_ret, kq_nil, kq_seq, kq_seq_ret, kq_seq_exit, kq_block, kq_block_ret, kq_block_exit, kq_loop, kq_loop_ret, kq_loop_exit, awOps_nil, awOps_cons, awOps_guardE, nx_eq, awOp, ev_k, ev_0, ev_1, ev_2, ev_3, ev_4, ev_5, ev_6, ev_7, ev_8, set_0, set_1, set_2, set_3, set_4, set_5, set_6, set_7, set_8, -List.set_cons_succ, -List.set_cons_zero, A.ok, A.val, setSl, wrapG, guardB, getB, pickA, binA, binC, binD, cmpD, isCmp, unA, unD, lenA, AOp.total, kills, litB, FinQ, resOks, resOk, resA, resList, resOne, A.thaw, C.thaw, A.fits, As.fits, C.fits, evs, oks, callArgs, A.pure, C.pure, A.re, C.re, fieldAddrA, loadC, cut, A.cells, C.rows?, getOb, newOb, setOb, storeC, splice, Ob.re, Cs.fits, partsA, partsOk, parts2A, parts2Ok, fillC, fillRows, optInt, optOk, sliceA, optK_some, storeK_some, Option.map_some, toDs, C.toD, spliceD, appendA, srcRows, allLen_nil_iff, allLen_cons_iff, allLen_append_iff, dropC, Obs.fits, eqCs, eqD]
    refine ⟨allLen_map fun x => rfl, by unfold maxApp; omega, allLen_map fun x => rfl, allLen_map fun x => rfl, by unfold maxApp; omega, ?_⟩
    have c2 := pgFrames_calls ((decAll a).1 ++ (decAll b).1) (by simp; omega)
    rw [List.map_append] at c2
    refine qcall_pure c2 hf rfl ?_
    simp -implicitDefEqProofs [hf, aw_skip, aw_region, aw_seq, aw_block, aw_cond, aw_exit, aw_ret, kq_nil, kq_seq, kq_seq_ret, kq_seq_exit, kq_block, kq_block_ret, kq_block_exit, kq_loop, kq_loop_ret, kq_loop_exit, awOps_nil, awOps_cons, awOps_guardE, nx_eq, awOp, ev_k, ev_0, ev_1, ev_2, ev_3, ev_4, ev_5, ev_6, ev_7, ev_8, set_0, set_1, set_2, set_3, set_4, set_5, set_6, set_7, set_8, -List.set_cons_succ, -List.set_cons_zero, A.ok, A.val, setSl, wrapG, guardB, getB, pickA, binA, binC, binD, cmpD, isCmp, unA, unD, lenA, AOp.total, kills, litB, FinQ, resOks, resOk, resA, resList, resOne, A.thaw, C.thaw, A.fits, As.fits, C.fits, evs, oks, callArgs, A.pure, C.pure, A.re, C.re, fieldAddrA, loadC, cut, A.cells, C.rows?, getOb, newOb, setOb, storeC, splice, Ob.re, Cs.fits, partsA, partsOk, parts2A, parts2Ok, fillC, fillRows, optInt, optOk, sliceA, optK_some, storeK_some, Option.map_some, toDs, C.toD, spliceD, appendA, srcRows, allLen_nil_iff, allLen_cons_iff, allLen_append_iff, dropC, Obs.fits, eqCs, eqD]
theorem law_run4 (rows : List (List D)) (hr : HasTys Try.prog (#[22, 22] : Array TypeId).toList rows) : ACalls Try.prog 4 (argsA Try.prog (#[22, 22] : Array TypeId).toList rows) [] (fun r _ => r = .c (.d (.bool true))) := by
  obtain ⟨r, rs, rfl, h1, h2⟩ := hr.cons
  obtain ⟨r', rs, rfl, h2', h3⟩ := h2.cons
  obtain rfl := h3.nil
  obtain ⟨s, rfl, hs⟩ := bytes_ty h1
  obtain ⟨s', rfl, hs'⟩ := bytes_ty h2'
  simp only [argsA, argA, Try.underlying22, List.headD_cons]
  exact dpLaw_calls s s' hs hs'
namespace fnDecodeParts
theorem own : ownKnob Try.prog.godebug = none := by kernel_rfl
theorem contract (H : Type) (enc : TypeId × Value → H) (W : World) (base : Nat) (args : Array Value) (ds gs : List (DataW H)) (before : List MemPlace)
    (hval : ∀ (j : Nat) t v, Try.f4.params[j]? = some t → args[j]? = some v → Value.okWide Try.prog W .any base t v)
    (hW : DataW.Whole enc Try.prog Try.f4.params.toList Rows.fnDecodePartsSpec.vars false W args.toList ds gs before)
    (hw : (DataW.weightsEach Try.prog (Try.f4.params.toList ++ Rows.fnDecodePartsSpec.plain.varTypes Try.prog) (ds ++ gs)).all (· ≤ reachBytes) = true) :
    Calls Try.prog 4 args W fun e W' => ∃ v, e = .returned v ∧ Rows.fnDecodePartsSpec.post enc Try.prog Try.f4 false true false false W args v W' := by
  refine law_contract (L := [5, 22]) (tb := 4) (by kernel_rfl) (by kernel_rfl) (by kernel_rfl) rfl ?_ (by kernel_rfl) Try.underlying4 ?_ W base args ds gs before hval hW hw
  · intro ds hl
    match ds, hl with
    | [d0, d1], _ => rfl
  · intro rows hr
    rw [Try.params4] at hr ⊢
    exact law_run4 rows hr

theorem lifted (os : Os) (started : os.Started) (H : Type) (enc : TypeId × Value → H) :
    ReturnsInHanded {} Try.checked os 4 .any (Rows.fnDecodePartsSpec.pre6 enc Try.prog Try.f4 Rows.fnDecodePartsRow.domain false) (Rows.fnDecodePartsSpec.post enc Try.prog Try.f4 false true false false) := by
  refine returnsInHanded_of_change_sized (C := Try.checked) own started (by kernel_rfl) Try.func4
    (ChangeSpec.witness6 (enc := enc) (C := Try.checked) false ⟨#[], #[.slice none 0 0, .slice none 0 0], []⟩ 8 (by kernel_rfl) (by kernel_rfl) (by kernel_rfl) (by kernel_rfl)) ?_
  intro W base args ds gs before hval hW _ hw _
  exact contract H enc W base args ds gs before hval hW hw

theorem proved : Rows.FnDecodePartsSaid :=
  OpenClaim.holds_of_wide 4 Try.f4 rfl rfl rfl rfl rfl rfl rfl ⟨rfl, rfl, rfl, rfl, rfl⟩ rfl rfl rfl rfl rfl (by kernel_rfl) Try.func4 (by kernel_rfl)
    (of_decide_eq_true (by kernel_rfl)) (by unfold Func.isWrapper; first | (rw [if_pos (by decide +kernel)]; kernel_rfl) | (rw [if_neg (by decide +kernel)]; exact ⟨rfl, rfl⟩))
    (fun os started H enc _ => lifted os started H enc)
end fnDecodeParts

end Go.Proofs.Ytnobdfcjnnnfmaa
