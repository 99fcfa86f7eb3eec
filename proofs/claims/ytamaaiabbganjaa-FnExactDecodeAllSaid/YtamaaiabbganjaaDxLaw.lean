/-
  The law FnExactDecodeAll holds: impl.DecodeAll answers as spec.DecodeAll does, with memory of its own.
  Conditions: none.
-/
import Derived.Test.YtamaaiabbganjaaDecOwn
import Derived.Test.YtamaaiabbganjaaFrIa
import Derived.Test.YtamaaiabbganjaaFrK
open Go Go.AM Go.Proofs
namespace Go.Proofs.Ytamaaiabbganjaa
open Go.ChangeShapes Go.WideShapes Go.ChangeAt Go.RowKit
set_option linter.unusedVariables false
set_option linter.unusedSimpArgs false
set_option maxRecDepth 100000
-- 5 loop.example/prologserver/laws.FnExactDecodeAll params 1 ntmps 93
def ac5 : Cd := .seq (.region [⟨(some 2), .mv (.k (.c (.d (.bool false)))), none⟩] [2])
  (.seq (.seq (.region [⟨(some 13), .mv (.t 0), none⟩,
        ⟨(some 14), .len 1 (.t 13), none⟩,
        ⟨(some 15), .bin .gtr (.t 14) (.k (.c (.d (.int .i64 1048576)))), none⟩] [13, 14])
    (.cond (.t 15)
      (.seq (.region [⟨(some 2), .mv (.k (.c (.d (.bool true)))), none⟩] [0, 15])
      (.ret))
      (.skip)))
  (.seq (.region [⟨(some 17), .mv (.t 0), none⟩,
      ⟨(some 18), .call false 22 [(.t 17)], none⟩,
      ⟨(some 19), .qcall 21 [(.t 18)], none⟩,
      ⟨(some 16), .mv (.t 19), none⟩,
      ⟨(some 20), .extract 0 (.t 16), none⟩,
      ⟨(some 21), .extract 1 (.t 16), none⟩,
      ⟨(some 3), .mv (.t 20), none⟩,
      ⟨(some 4), .mv (.t 21), none⟩] [2, 15, 16, 17, 18, 19, 20, 21])
  (.seq (.region [⟨(some 22), .mv (.t 0), none⟩,
      ⟨(some 23), .call false 22 [(.t 22)], none⟩,
      ⟨(some 5), .mv (.t 23), none⟩] [22, 23])
  (.seq (.region [⟨(some 25), .mv (.t 5), none⟩,
      ⟨(some 26), .call false 23 [(.t 25)], none⟩,
      ⟨(some 24), .mv (.t 26), none⟩,
      ⟨(some 27), .extract 0 (.t 24), none⟩,
      ⟨(some 28), .extract 1 (.t 24), none⟩,
      ⟨(some 6), .mv (.t 27), none⟩,
      ⟨(some 7), .mv (.t 28), none⟩] [24, 25, 26, 27, 28])
  (.seq (.seq (.region [⟨(some 29), .mv (.t 6), none⟩,
        ⟨(some 30), .mv (.t 3), none⟩,
        ⟨(some 31), .qcall 19 [(.t 29), (.t 30)], none⟩,
        ⟨(some 32), .un .not (.t 31), none⟩,
        ⟨(some 33), .mv (.t 32), none⟩,
        ⟨(some 34), .mv (.t 7), some (33, false)⟩,
        ⟨(some 35), .mv (.t 4), some (33, false)⟩,
        ⟨(some 36), .binB true (.t 34) (.t 35), some (33, false)⟩,
        ⟨(some 37), .pick (.t 33) (.k (.c (.d (.bool true)))) (.t 36), none⟩] [29, 30, 31, 32, 33, 34, 35, 36])
    (.cond (.t 37)
      (.seq (.region [⟨(some 2), .mv (.k (.c (.d (.bool false)))), none⟩] [0, 3, 4, 5, 6, 7, 37])
      (.ret))
      (.skip)))
  (.seq (.seq (.region [⟨(some 38), .mv (.t 5), none⟩,
        ⟨(some 39), .mv (.t 0), none⟩,
        ⟨(some 40), .call false 22 [(.t 39)], none⟩,
        ⟨(some 41), .qcall 12 [(.t 38), (.t 40)], none⟩,
        ⟨(some 42), .un .not (.t 41), none⟩] [2, 37, 38, 39, 40, 41])
    (.cond (.t 42)
      (.seq (.region [⟨(some 2), .mv (.k (.c (.d (.bool false)))), none⟩] [0, 3, 4, 5, 6, 7, 42])
      (.ret))
      (.skip)))
  (.seq (.region [⟨(some 8), .mv (.k (.c (.d (.int .i64 1)))), none⟩] [2, 42])
  (.seq (.region [⟨(some 43), .mv (.t 5), none⟩,
      ⟨(some 44), .mv (.t 8), none⟩,
      ⟨(some 45), .call false 13 [(.t 43), (.t 44)], none⟩,
      ⟨(some 8), .mv (.t 45), none⟩] [5, 43, 44, 45])
  (.seq (.seq (.region [⟨(some 46), .mv (.t 8), none⟩,
        ⟨(some 47), .bin .lss (.t 46) (.k (.c (.d (.int .i64 0)))), none⟩,
        ⟨(some 48), .mv (.t 47), none⟩,
        ⟨(some 49), .mv (.t 6), some (48, false)⟩,
        ⟨(some 50), .mv (.t 3), some (48, false)⟩,
        ⟨(some 51), .qcall 19 [(.t 49), (.t 50)], some (48, false)⟩,
        ⟨(some 52), .un .not (.t 51), some (48, false)⟩,
        ⟨(some 53), .pick (.t 48) (.k (.c (.d (.bool true)))) (.t 52), none⟩,
        ⟨(some 54), .mv (.t 53), none⟩,
        ⟨(some 55), .mv (.t 7), some (54, false)⟩,
        ⟨(some 56), .mv (.t 4), some (54, false)⟩,
        ⟨(some 57), .binB true (.t 55) (.t 56), some (54, false)⟩,
        ⟨(some 58), .pick (.t 54) (.k (.c (.d (.bool true)))) (.t 57), none⟩] [7, 8, 46, 47, 48, 49, 50, 51, 52, 53, 54, 55, 56, 57])
    (.cond (.t 58)
      (.seq (.region [⟨(some 2), .mv (.k (.c (.d (.bool false)))), none⟩] [0, 3, 4, 6, 58])
      (.ret))
      (.skip)))
  (.seq (.region [⟨(some 9), .mv (.k (.c (.d (.int .i64 1)))), none⟩] [2, 58])
  (.seq (.region [⟨(some 59), .mv (.t 6), none⟩,
      ⟨(some 60), .mv (.t 9), none⟩,
      ⟨(some 61), .call false 20 [(.t 59), (.t 60)], none⟩,
      ⟨(some 9), .mv (.t 61), none⟩] [59, 60, 61])
  (.seq (.region [⟨(some 10), .mv (.k (.c (.d (.int .i64 1)))), none⟩] [])
  (.seq (.region [⟨(some 62), .mv (.t 6), none⟩,
      ⟨(some 63), .mv (.t 10), none⟩,
      ⟨(some 64), .qcall 24 [(.t 62), (.t 63)], none⟩,
      ⟨(some 10), .mv (.t 64), none⟩] [62, 63, 64])
  (.seq (.seq (.region [⟨(some 65), .mv (.t 10), none⟩,
        ⟨(some 66), .bin .lss (.t 65) (.k (.c (.d (.int .i64 0)))), none⟩] [65])
    (.cond (.t 66)
      (.seq (.region [⟨(some 2), .mv (.k (.c (.d (.bool false)))), none⟩] [0, 3, 4, 6, 9, 10, 66])
      (.ret))
      (.skip)))
  (.seq (.seq (.region [⟨(some 67), .mv (.t 10), none⟩,
        ⟨(some 68), .mv (.t 9), none⟩,
        ⟨(some 69), .bin .neq (.t 67) (.t 68), none⟩] [2, 10, 66, 67, 68])
    (.cond (.t 69)
      (.seq (.region [⟨(some 2), .mv (.k (.c (.d (.bool false)))), none⟩] [0, 3, 4, 6, 9, 69])
      (.ret))
      (.skip)))
  (.seq (.region [⟨(some 71), .mv (.t 0), none⟩,
      ⟨(some 72), .call false 22 [(.t 71)], none⟩,
      ⟨(some 73), .call false 23 [(.t 72)], none⟩,
      ⟨(some 70), .mv (.t 73), none⟩,
      ⟨(some 74), .extract 0 (.t 70), none⟩,
      ⟨(some 75), .extract 1 (.t 70), none⟩,
      ⟨(some 11), .mv (.t 74), none⟩,
      ⟨(some 12), .mv (.t 75), none⟩] [0, 2, 69, 70, 71, 72, 73, 74, 75])
  (.seq (.seq (.region [⟨(some 76), .mv (.t 11), none⟩,
        ⟨(some 77), .mv (.t 3), none⟩,
        ⟨(some 78), .qcall 19 [(.t 76), (.t 77)], none⟩,
        ⟨(some 79), .un .not (.t 78), none⟩,
        ⟨(some 80), .mv (.t 79), none⟩,
        ⟨(some 81), .mv (.t 12), some (80, false)⟩,
        ⟨(some 82), .mv (.t 4), some (80, false)⟩,
        ⟨(some 83), .binB true (.t 81) (.t 82), some (80, false)⟩,
        ⟨(some 84), .pick (.t 80) (.k (.c (.d (.bool true)))) (.t 83), none⟩] [3, 4, 11, 12, 76, 77, 78, 79, 80, 81, 82, 83])
    (.cond (.t 84)
      (.seq (.region [⟨(some 2), .mv (.k (.c (.d (.bool false)))), none⟩] [6, 9, 84])
      (.ret))
      (.skip)))
  (.seq (.region [⟨(some 10), .mv (.k (.c (.d (.int .i64 1)))), none⟩] [2, 84])
  (.seq (.region [⟨(some 85), .mv (.t 6), none⟩,
      ⟨(some 86), .mv (.t 10), none⟩,
      ⟨(some 87), .qcall 24 [(.t 85), (.t 86)], none⟩,
      ⟨(some 10), .mv (.t 87), none⟩] [6, 85, 86, 87])
  (.seq (.seq (.region [⟨(some 88), .mv (.t 10), none⟩,
        ⟨(some 89), .bin .lss (.t 88) (.k (.c (.d (.int .i64 0)))), none⟩] [88])
    (.cond (.t 89)
      (.seq (.region [⟨(some 2), .mv (.k (.c (.d (.bool false)))), none⟩] [9, 10, 89])
      (.ret))
      (.skip)))
  (.seq (.seq (.region [⟨(some 90), .mv (.t 10), none⟩,
        ⟨(some 91), .mv (.t 9), none⟩,
        ⟨(some 92), .bin .neq (.t 90) (.t 91), none⟩] [2, 9, 10, 89, 90, 91])
    (.cond (.t 92)
      (.seq (.region [⟨(some 2), .mv (.k (.c (.d (.bool false)))), none⟩] [92])
      (.ret))
      (.skip)))
  (.seq (.region [⟨(some 2), .mv (.k (.c (.d (.bool true)))), none⟩] [92])
  (.ret)))))))))))))))))))))))
theorem ac5_ok : cFunc Try.prog [1000012, 1000019, 1000021, 1000024] [(0, [2], []), (1, [13, 14], []), (2, [0, 15], []), (3, [2, 15, 16, 17, 18, 19, 20, 21], []), (4, [22, 23], []), (5, [24, 25, 26, 27, 28], []), (6, [29, 30, 31, 32, 33, 34, 35, 36], []), (7, [0, 3, 4, 5, 6, 7, 37], []), (8, [2, 37, 38, 39, 40, 41], []), (9, [0, 3, 4, 5, 6, 7, 42], []), (10, [2, 42], []), (11, [5, 43, 44, 45], []), (12, [7, 8, 46, 47, 48, 49, 50, 51, 52, 53, 54, 55, 56, 57], []), (13, [0, 3, 4, 6, 58], []), (14, [2, 58], []), (15, [59, 60, 61], []), (16, [], []), (17, [62, 63, 64], []), (18, [65], []), (19, [0, 3, 4, 6, 9, 10, 66], []), (20, [2, 10, 66, 67, 68], []), (21, [0, 3, 4, 6, 9, 69], []), (22, [0, 2, 69, 70, 71, 72, 73, 74, 75], []), (23, [3, 4, 11, 12, 76, 77, 78, 79, 80, 81, 82, 83], []), (24, [6, 9, 84], []), (25, [2, 84], []), (26, [6, 85, 86, 87], []), (27, [88], []), (28, [9, 10, 89], []), (29, [2, 9, 10, 89, 90, 91], []), (30, [92], []), (31, [92], [])] Try.f5 = some (ac5, [.tmp 2], 93) := by kernel_rfl
theorem dxLaw_calls (b : List UInt8) (hb : b.length ≤ reachBytes) : ACalls Try.prog 5 [.c (.d (.sl (bytesRows b)))] [] (fun r _ => r = .c (.d (.bool true))) := by
  refine acalls Try.func5 (by kernel_rfl) ac5_ok fun hf => ?_
  have hl := reach_i64 hb
  simp -implicitDefEqProofs [ac5, hl, bytesRows_len, aw_skip, aw_region, aw_seq, aw_block, aw_cond, aw_exit, aw_ret, kq_nil, kq_seq, kq_seq_ret, kq_seq_exit, kq_block, kq_block_ret, kq_block_exit, kq_loop, kq_loop_ret, kq_loop_exit, awOps_nil, awOps_cons, awOps_guardE, nx_eq, awOp, ev_k, ev_0, ev_1, ev_2, ev_3, ev_4, ev_5, ev_6, ev_7, ev_8, set_0, set_1, set_2, set_3, set_4, set_5, set_6, set_7, set_8, -List.set_cons_succ, -List.set_cons_zero, A.ok, A.val, setSl, wrapG, guardB, getB, pickA, binA, binC, binD, cmpD, isCmp, unA, unD, lenA, AOp.total, kills, litB, FinQ, resOks, resOk, resA, resList, resOne, A.thaw, C.thaw, A.fits, As.fits, C.fits, evs, oks, callArgs, A.pure, C.pure, A.re, C.re, fieldAddrA, loadC, cut, A.cells, C.rows?, getOb, newOb, setOb, storeC, splice, Ob.re, Cs.fits, partsA, partsOk, parts2A, parts2Ok, fillC, fillRows, optInt, optOk, sliceA, clipC, optK_some, storeK_some, Option.map_some, toDs, C.toD, spliceD, appendA, capsOf, srcRows, allLen_nil_iff, allLen_cons_iff, allLen_append_iff, dropC, Obs.fits, eqCs, eqD]
  intro hble
  have hbl : b.length ≤ 1048576 := by omega
  have w2 : (decAll b).1.length ≤ 3000000 := by
    have := feed_count b
    unfold decAll
    split
    · simp
    · simp only; omega
  have cs := decAllSpec_calls b (by omega)
  have ci := decAllOwn_calls b (by omega)
  have ci2 := decAllImpl_calls b (by omega)
  generalize decAll b = x at w2 cs ci ci2
  obtain ⟨fs, ok⟩ := x
  simp only at w2 cs ci ci2
  have ctb := toByteS_calls b hbl
  have ctbo := toByteSOwn_calls b hbl
  have cef := eqFrameS_many fs (by omega) []
  have zf : ∀ {H : Heap} {v : Value}, H[1]? = some (.tree v (fs.map Frame.row)) → FzL H [] [.c (.d (.v v)), .c (.d (.sl (fs.map Frame.row)))] [.c (.d (.sl (fs.map Frame.row))), .c (.d (.sl (fs.map Frame.row)))] := fun h =>
    .cons (.c (.tree (i := 1) h (by simp))) (.cons (.c .d) .nil)
  have hp1 : ¬ (1 + (b.length : Int) < 0) := by omega
  have hp2 : ¬ (1 + 2 * (fs.length : Int) < 0) := by omega
  refine call_same (ctb _) (by simp [Ob.re, C.re]) rfl hf ?_
  simp -implicitDefEqProofs [aw_skip, aw_region, aw_seq, aw_block, aw_cond, aw_exit, aw_ret, kq_nil, kq_seq, kq_seq_ret, kq_seq_exit, kq_block, kq_block_ret, kq_block_exit, kq_loop, kq_loop_ret, kq_loop_exit, awOps_nil, awOps_cons, awOps_guardE, nx_eq, awOp, ev_k, ev_0, ev_1, ev_2, ev_3, ev_4, ev_5, ev_6, ev_7, ev_8, set_0, set_1, set_2, set_3, set_4, set_5, set_6, set_7, set_8, -List.set_cons_succ, -List.set_cons_zero, A.ok, A.val, setSl, wrapG, guardB, getB, pickA, binA, binC, binD, cmpD, isCmp, unA, unD, lenA, AOp.total, kills, litB, FinQ, resOks, resOk, resA, resList, resOne, A.thaw, C.thaw, A.fits, As.fits, C.fits, evs, oks, callArgs, A.pure, C.pure, A.re, C.re, fieldAddrA, loadC, cut, A.cells, C.rows?, getOb, newOb, setOb, storeC, splice, Ob.re, Cs.fits, partsA, partsOk, parts2A, parts2Ok, fillC, fillRows, optInt, optOk, sliceA, clipC, optK_some, storeK_some, Option.map_some, toDs, C.toD, spliceD, appendA, capsOf, srcRows, allLen_nil_iff, allLen_cons_iff, allLen_append_iff, dropC, Obs.fits, eqCs, eqD]
  refine qcall_pure cs hf rfl ?_
  simp -implicitDefEqProofs [aw_skip, aw_region, aw_seq, aw_block, aw_cond, aw_exit, aw_ret, kq_nil, kq_seq, kq_seq_ret, kq_seq_exit, kq_block, kq_block_ret, kq_block_exit, kq_loop, kq_loop_ret, kq_loop_exit, awOps_nil, awOps_cons, awOps_guardE, nx_eq, awOp, ev_k, ev_0, ev_1, ev_2, ev_3, ev_4, ev_5, ev_6, ev_7, ev_8, set_0, set_1, set_2, set_3, set_4, set_5, set_6, set_7, set_8, -List.set_cons_succ, -List.set_cons_zero, A.ok, A.val, setSl, wrapG, guardB, getB, pickA, binA, binC, binD, cmpD, isCmp, unA, unD, lenA, AOp.total, kills, litB, FinQ, resOks, resOk, resA, resList, resOne, A.thaw, C.thaw, A.fits, As.fits, C.fits, evs, oks, callArgs, A.pure, C.pure, A.re, C.re, fieldAddrA, loadC, cut, A.cells, C.rows?, getOb, newOb, setOb, storeC, splice, Ob.re, Cs.fits, partsA, partsOk, parts2A, parts2Ok, fillC, fillRows, optInt, optOk, sliceA, clipC, optK_some, storeK_some, Option.map_some, toDs, C.toD, spliceD, appendA, capsOf, srcRows, allLen_nil_iff, allLen_cons_iff, allLen_append_iff, dropC, Obs.fits, eqCs, eqD]
  refine call_loc (J := []) ctbo (fun r H' h => h.handed) rfl (.cons (.c .d) .nil) List.nodup_nil rfl rfl ?_
  rintro _ _ ⟨vb, rfl, rfl⟩ _
  simp -implicitDefEqProofs [putAll, aw_skip, aw_region, aw_seq, aw_block, aw_cond, aw_exit, aw_ret, kq_nil, kq_seq, kq_seq_ret, kq_seq_exit, kq_block, kq_block_ret, kq_block_exit, kq_loop, kq_loop_ret, kq_loop_exit, awOps_nil, awOps_cons, awOps_guardE, nx_eq, awOp, ev_k, ev_0, ev_1, ev_2, ev_3, ev_4, ev_5, ev_6, ev_7, ev_8, set_0, set_1, set_2, set_3, set_4, set_5, set_6, set_7, set_8, -List.set_cons_succ, -List.set_cons_zero, A.ok, A.val, setSl, wrapG, guardB, getB, pickA, binA, binC, binD, cmpD, isCmp, unA, unD, lenA, AOp.total, kills, litB, FinQ, resOks, resOk, resA, resList, resOne, A.thaw, C.thaw, A.fits, As.fits, C.fits, evs, oks, callArgs, A.pure, C.pure, A.re, C.re, fieldAddrA, loadC, cut, A.cells, C.rows?, getOb, newOb, setOb, storeC, splice, Ob.re, Cs.fits, partsA, partsOk, parts2A, parts2Ok, fillC, fillRows, optInt, optOk, sliceA, clipC, optK_some, storeK_some, Option.map_some, toDs, C.toD, spliceD, appendA, capsOf, srcRows, allLen_nil_iff, allLen_cons_iff, allLen_append_iff, dropC, Obs.fits, eqCs, eqD]
  refine call_loc (J := []) ci (fun r H' h => h.handed) rfl (.cons (.c (.tree (i := 0) rfl (by simp))) .nil) List.nodup_nil rfl rfl ?_
  rintro _ _ ⟨v2, rfl, rfl⟩ _
  simp -implicitDefEqProofs [putAll, aw_skip, aw_region, aw_seq, aw_block, aw_cond, aw_exit, aw_ret, kq_nil, kq_seq, kq_seq_ret, kq_seq_exit, kq_block, kq_block_ret, kq_block_exit, kq_loop, kq_loop_ret, kq_loop_exit, awOps_nil, awOps_cons, awOps_guardE, nx_eq, awOp, ev_k, ev_0, ev_1, ev_2, ev_3, ev_4, ev_5, ev_6, ev_7, ev_8, set_0, set_1, set_2, set_3, set_4, set_5, set_6, set_7, set_8, -List.set_cons_succ, -List.set_cons_zero, A.ok, A.val, setSl, wrapG, guardB, getB, pickA, binA, binC, binD, cmpD, isCmp, unA, unD, lenA, AOp.total, kills, litB, FinQ, resOks, resOk, resA, resList, resOne, A.thaw, C.thaw, A.fits, As.fits, C.fits, evs, oks, callArgs, A.pure, C.pure, A.re, C.re, fieldAddrA, loadC, cut, A.cells, C.rows?, getOb, newOb, setOb, storeC, splice, Ob.re, Cs.fits, partsA, partsOk, parts2A, parts2Ok, fillC, fillRows, optInt, optOk, sliceA, clipC, optK_some, storeK_some, Option.map_some, toDs, C.toD, spliceD, appendA, capsOf, srcRows, allLen_nil_iff, allLen_cons_iff, allLen_append_iff, dropC, Obs.fits, eqCs, eqD]
  refine qcall_read cef rfl hf (zf rfl) ?_
  simp -implicitDefEqProofs [aw_skip, aw_region, aw_seq, aw_block, aw_cond, aw_exit, aw_ret, kq_nil, kq_seq, kq_seq_ret, kq_seq_exit, kq_block, kq_block_ret, kq_block_exit, kq_loop, kq_loop_ret, kq_loop_exit, awOps_nil, awOps_cons, awOps_guardE, nx_eq, awOp, ev_k, ev_0, ev_1, ev_2, ev_3, ev_4, ev_5, ev_6, ev_7, ev_8, set_0, set_1, set_2, set_3, set_4, set_5, set_6, set_7, set_8, -List.set_cons_succ, -List.set_cons_zero, A.ok, A.val, setSl, wrapG, guardB, getB, pickA, binA, binC, binD, cmpD, isCmp, unA, unD, lenA, AOp.total, kills, litB, FinQ, resOks, resOk, resA, resList, resOne, A.thaw, C.thaw, A.fits, As.fits, C.fits, evs, oks, callArgs, A.pure, C.pure, A.re, C.re, fieldAddrA, loadC, cut, A.cells, C.rows?, getOb, newOb, setOb, storeC, splice, Ob.re, Cs.fits, partsA, partsOk, parts2A, parts2Ok, fillC, fillRows, optInt, optOk, sliceA, clipC, optK_some, storeK_some, Option.map_some, toDs, C.toD, spliceD, appendA, capsOf, srcRows, allLen_nil_iff, allLen_cons_iff, allLen_append_iff, dropC, Obs.fits, eqCs, eqD]
  refine call_same (ctb _) (by simp [Ob.re, C.re]) rfl hf ?_
  simp -implicitDefEqProofs [aw_skip, aw_region, aw_seq, aw_block, aw_cond, aw_exit, aw_ret, kq_nil, kq_seq, kq_seq_ret, kq_seq_exit, kq_block, kq_block_ret, kq_block_exit, kq_loop, kq_loop_ret, kq_loop_exit, awOps_nil, awOps_cons, awOps_guardE, nx_eq, awOp, ev_k, ev_0, ev_1, ev_2, ev_3, ev_4, ev_5, ev_6, ev_7, ev_8, set_0, set_1, set_2, set_3, set_4, set_5, set_6, set_7, set_8, -List.set_cons_succ, -List.set_cons_zero, A.ok, A.val, setSl, wrapG, guardB, getB, pickA, binA, binC, binD, cmpD, isCmp, unA, unD, lenA, AOp.total, kills, litB, FinQ, resOks, resOk, resA, resList, resOne, A.thaw, C.thaw, A.fits, As.fits, C.fits, evs, oks, callArgs, A.pure, C.pure, A.re, C.re, fieldAddrA, loadC, cut, A.cells, C.rows?, getOb, newOb, setOb, storeC, splice, Ob.re, Cs.fits, partsA, partsOk, parts2A, parts2Ok, fillC, fillRows, optInt, optOk, sliceA, clipC, optK_some, storeK_some, Option.map_some, toDs, C.toD, spliceD, appendA, capsOf, srcRows, allLen_nil_iff, allLen_cons_iff, allLen_append_iff, dropC, Obs.fits, eqCs, eqD]
  refine qcall_read (eqByteS_calls b (by omega) []) rfl hf (.cons (.c (.tree (i := 0) rfl (by simp))) (.cons (.c .d) .nil)) ?_
  simp -implicitDefEqProofs [aw_skip, aw_region, aw_seq, aw_block, aw_cond, aw_exit, aw_ret, kq_nil, kq_seq, kq_seq_ret, kq_seq_exit, kq_block, kq_block_ret, kq_block_exit, kq_loop, kq_loop_ret, kq_loop_exit, awOps_nil, awOps_cons, awOps_guardE, nx_eq, awOp, ev_k, ev_0, ev_1, ev_2, ev_3, ev_4, ev_5, ev_6, ev_7, ev_8, set_0, set_1, set_2, set_3, set_4, set_5, set_6, set_7, set_8, -List.set_cons_succ, -List.set_cons_zero, A.ok, A.val, setSl, wrapG, guardB, getB, pickA, binA, binC, binD, cmpD, isCmp, unA, unD, lenA, AOp.total, kills, litB, FinQ, resOks, resOk, resA, resList, resOne, A.thaw, C.thaw, A.fits, As.fits, C.fits, evs, oks, callArgs, A.pure, C.pure, A.re, C.re, fieldAddrA, loadC, cut, A.cells, C.rows?, getOb, newOb, setOb, storeC, splice, Ob.re, Cs.fits, partsA, partsOk, parts2A, parts2Ok, fillC, fillRows, optInt, optOk, sliceA, clipC, optK_some, storeK_some, Option.map_some, toDs, C.toD, spliceD, appendA, capsOf, srcRows, allLen_nil_iff, allLen_cons_iff, allLen_append_iff, dropC, Obs.fits, eqCs, eqD]
  refine call_loc (J := [0]) (markByteS_calls b 1 (by omega) (by omega) vb) (fun r H' ⟨h1, h2⟩ => by subst h1; subst h2; exact ⟨rfl, rfl⟩) rfl (.cons (.c .d) (.cons (.c .d) .nil)) (by simp) rfl rfl ?_
  rintro _ _ ⟨rfl, rfl⟩ _
  simp -implicitDefEqProofs [putAll, hp1, aw_skip, aw_region, aw_seq, aw_block, aw_cond, aw_exit, aw_ret, kq_nil, kq_seq, kq_seq_ret, kq_seq_exit, kq_block, kq_block_ret, kq_block_exit, kq_loop, kq_loop_ret, kq_loop_exit, awOps_nil, awOps_cons, awOps_guardE, nx_eq, awOp, ev_k, ev_0, ev_1, ev_2, ev_3, ev_4, ev_5, ev_6, ev_7, ev_8, set_0, set_1, set_2, set_3, set_4, set_5, set_6, set_7, set_8, -List.set_cons_succ, -List.set_cons_zero, A.ok, A.val, setSl, wrapG, guardB, getB, pickA, binA, binC, binD, cmpD, isCmp, unA, unD, lenA, AOp.total, kills, litB, FinQ, resOks, resOk, resA, resList, resOne, A.thaw, C.thaw, A.fits, As.fits, C.fits, evs, oks, callArgs, A.pure, C.pure, A.re, C.re, fieldAddrA, loadC, cut, A.cells, C.rows?, getOb, newOb, setOb, storeC, splice, Ob.re, Cs.fits, partsA, partsOk, parts2A, parts2Ok, fillC, fillRows, optInt, optOk, sliceA, clipC, optK_some, storeK_some, Option.map_some, toDs, C.toD, spliceD, appendA, capsOf, srcRows, allLen_nil_iff, allLen_cons_iff, allLen_append_iff, dropC, Obs.fits, eqCs, eqD]
  refine qcall_read cef rfl hf (zf rfl) ?_
  simp -implicitDefEqProofs [aw_skip, aw_region, aw_seq, aw_block, aw_cond, aw_exit, aw_ret, kq_nil, kq_seq, kq_seq_ret, kq_seq_exit, kq_block, kq_block_ret, kq_block_exit, kq_loop, kq_loop_ret, kq_loop_exit, awOps_nil, awOps_cons, awOps_guardE, nx_eq, awOp, ev_k, ev_0, ev_1, ev_2, ev_3, ev_4, ev_5, ev_6, ev_7, ev_8, set_0, set_1, set_2, set_3, set_4, set_5, set_6, set_7, set_8, -List.set_cons_succ, -List.set_cons_zero, A.ok, A.val, setSl, wrapG, guardB, getB, pickA, binA, binC, binD, cmpD, isCmp, unA, unD, lenA, AOp.total, kills, litB, FinQ, resOks, resOk, resA, resList, resOne, A.thaw, C.thaw, A.fits, As.fits, C.fits, evs, oks, callArgs, A.pure, C.pure, A.re, C.re, fieldAddrA, loadC, cut, A.cells, C.rows?, getOb, newOb, setOb, storeC, splice, Ob.re, Cs.fits, partsA, partsOk, parts2A, parts2Ok, fillC, fillRows, optInt, optOk, sliceA, clipC, optK_some, storeK_some, Option.map_some, toDs, C.toD, spliceD, appendA, capsOf, srcRows, allLen_nil_iff, allLen_cons_iff, allLen_append_iff, dropC, Obs.fits, eqCs, eqD]
  refine call_loc (J := [1]) (markFrameS_calls fs 1 (by omega) (by omega) v2) (fun r H' ⟨h1, h2⟩ => by subst h1; subst h2; exact ⟨rfl, rfl⟩) rfl (.cons (.c .d) (.cons (.c .d) .nil)) (by simp) rfl rfl ?_
  rintro _ _ ⟨rfl, rfl⟩ _
  simp -implicitDefEqProofs [putAll, aw_skip, aw_region, aw_seq, aw_block, aw_cond, aw_exit, aw_ret, kq_nil, kq_seq, kq_seq_ret, kq_seq_exit, kq_block, kq_block_ret, kq_block_exit, kq_loop, kq_loop_ret, kq_loop_exit, awOps_nil, awOps_cons, awOps_guardE, nx_eq, awOp, ev_k, ev_0, ev_1, ev_2, ev_3, ev_4, ev_5, ev_6, ev_7, ev_8, set_0, set_1, set_2, set_3, set_4, set_5, set_6, set_7, set_8, -List.set_cons_succ, -List.set_cons_zero, A.ok, A.val, setSl, wrapG, guardB, getB, pickA, binA, binC, binD, cmpD, isCmp, unA, unD, lenA, AOp.total, kills, litB, FinQ, resOks, resOk, resA, resList, resOne, A.thaw, C.thaw, A.fits, As.fits, C.fits, evs, oks, callArgs, A.pure, C.pure, A.re, C.re, fieldAddrA, loadC, cut, A.cells, C.rows?, getOb, newOb, setOb, storeC, splice, Ob.re, Cs.fits, partsA, partsOk, parts2A, parts2Ok, fillC, fillRows, optInt, optOk, sliceA, clipC, optK_some, storeK_some, Option.map_some, toDs, C.toD, spliceD, appendA, capsOf, srcRows, allLen_nil_iff, allLen_cons_iff, allLen_append_iff, dropC, Obs.fits, eqCs, eqD]
  have zg : ∀ {H : Heap}, H[1]? = some (.tree v2 (mFrames 1 fs.length)) → FzL H [] [.c (.d (.v v2)), .c (.d (.int .i64 1))] [.c (.d (.sl (mFrames 1 fs.length))), .c (.d (.int .i64 1))] := fun h =>
    .cons (.c (.tree (i := 1) h (by simp))) (.cons (.c .d) .nil)
  refine qcall_read (heldFrameS_calls fs.length 1 (by omega) (by omega) []) rfl hf (zg rfl) ?_
  simp -implicitDefEqProofs [hp2, aw_skip, aw_region, aw_seq, aw_block, aw_cond, aw_exit, aw_ret, kq_nil, kq_seq, kq_seq_ret, kq_seq_exit, kq_block, kq_block_ret, kq_block_exit, kq_loop, kq_loop_ret, kq_loop_exit, awOps_nil, awOps_cons, awOps_guardE, nx_eq, awOp, ev_k, ev_0, ev_1, ev_2, ev_3, ev_4, ev_5, ev_6, ev_7, ev_8, set_0, set_1, set_2, set_3, set_4, set_5, set_6, set_7, set_8, -List.set_cons_succ, -List.set_cons_zero, A.ok, A.val, setSl, wrapG, guardB, getB, pickA, binA, binC, binD, cmpD, isCmp, unA, unD, lenA, AOp.total, kills, litB, FinQ, resOks, resOk, resA, resList, resOne, A.thaw, C.thaw, A.fits, As.fits, C.fits, evs, oks, callArgs, A.pure, C.pure, A.re, C.re, fieldAddrA, loadC, cut, A.cells, C.rows?, getOb, newOb, setOb, storeC, splice, Ob.re, Cs.fits, partsA, partsOk, parts2A, parts2Ok, fillC, fillRows, optInt, optOk, sliceA, clipC, optK_some, storeK_some, Option.map_some, toDs, C.toD, spliceD, appendA, capsOf, srcRows, allLen_nil_iff, allLen_cons_iff, allLen_append_iff, dropC, Obs.fits, eqCs, eqD]
  refine call_same (ctb _) (by simp [Ob.re, C.re]) rfl hf ?_
  simp -implicitDefEqProofs [aw_skip, aw_region, aw_seq, aw_block, aw_cond, aw_exit, aw_ret, kq_nil, kq_seq, kq_seq_ret, kq_seq_exit, kq_block, kq_block_ret, kq_block_exit, kq_loop, kq_loop_ret, kq_loop_exit, awOps_nil, awOps_cons, awOps_guardE, nx_eq, awOp, ev_k, ev_0, ev_1, ev_2, ev_3, ev_4, ev_5, ev_6, ev_7, ev_8, set_0, set_1, set_2, set_3, set_4, set_5, set_6, set_7, set_8, -List.set_cons_succ, -List.set_cons_zero, A.ok, A.val, setSl, wrapG, guardB, getB, pickA, binA, binC, binD, cmpD, isCmp, unA, unD, lenA, AOp.total, kills, litB, FinQ, resOks, resOk, resA, resList, resOne, A.thaw, C.thaw, A.fits, As.fits, C.fits, evs, oks, callArgs, A.pure, C.pure, A.re, C.re, fieldAddrA, loadC, cut, A.cells, C.rows?, getOb, newOb, setOb, storeC, splice, Ob.re, Cs.fits, partsA, partsOk, parts2A, parts2Ok, fillC, fillRows, optInt, optOk, sliceA, clipC, optK_some, storeK_some, Option.map_some, toDs, C.toD, spliceD, appendA, capsOf, srcRows, allLen_nil_iff, allLen_cons_iff, allLen_append_iff, dropC, Obs.fits, eqCs, eqD]
  refine call_same (ci2 _) (by simp [Ob.re, C.re]) rfl hf ?_
  simp -implicitDefEqProofs [aw_skip, aw_region, aw_seq, aw_block, aw_cond, aw_exit, aw_ret, kq_nil, kq_seq, kq_seq_ret, kq_seq_exit, kq_block, kq_block_ret, kq_block_exit, kq_loop, kq_loop_ret, kq_loop_exit, awOps_nil, awOps_cons, awOps_guardE, nx_eq, awOp, ev_k, ev_0, ev_1, ev_2, ev_3, ev_4, ev_5, ev_6, ev_7, ev_8, set_0, set_1, set_2, set_3, set_4, set_5, set_6, set_7, set_8, -List.set_cons_succ, -List.set_cons_zero, A.ok, A.val, setSl, wrapG, guardB, getB, pickA, binA, binC, binD, cmpD, isCmp, unA, unD, lenA, AOp.total, kills, litB, FinQ, resOks, resOk, resA, resList, resOne, A.thaw, C.thaw, A.fits, As.fits, C.fits, evs, oks, callArgs, A.pure, C.pure, A.re, C.re, fieldAddrA, loadC, cut, A.cells, C.rows?, getOb, newOb, setOb, storeC, splice, Ob.re, Cs.fits, partsA, partsOk, parts2A, parts2Ok, fillC, fillRows, optInt, optOk, sliceA, clipC, optK_some, storeK_some, Option.map_some, toDs, C.toD, spliceD, appendA, capsOf, srcRows, allLen_nil_iff, allLen_cons_iff, allLen_append_iff, dropC, Obs.fits, eqCs, eqD]
  refine qcall_read cef rfl hf (.cons (.c .d) (.cons (.c .d) .nil)) ?_
  simp -implicitDefEqProofs [aw_skip, aw_region, aw_seq, aw_block, aw_cond, aw_exit, aw_ret, kq_nil, kq_seq, kq_seq_ret, kq_seq_exit, kq_block, kq_block_ret, kq_block_exit, kq_loop, kq_loop_ret, kq_loop_exit, awOps_nil, awOps_cons, awOps_guardE, nx_eq, awOp, ev_k, ev_0, ev_1, ev_2, ev_3, ev_4, ev_5, ev_6, ev_7, ev_8, set_0, set_1, set_2, set_3, set_4, set_5, set_6, set_7, set_8, -List.set_cons_succ, -List.set_cons_zero, A.ok, A.val, setSl, wrapG, guardB, getB, pickA, binA, binC, binD, cmpD, isCmp, unA, unD, lenA, AOp.total, kills, litB, FinQ, resOks, resOk, resA, resList, resOne, A.thaw, C.thaw, A.fits, As.fits, C.fits, evs, oks, callArgs, A.pure, C.pure, A.re, C.re, fieldAddrA, loadC, cut, A.cells, C.rows?, getOb, newOb, setOb, storeC, splice, Ob.re, Cs.fits, partsA, partsOk, parts2A, parts2Ok, fillC, fillRows, optInt, optOk, sliceA, clipC, optK_some, storeK_some, Option.map_some, toDs, C.toD, spliceD, appendA, capsOf, srcRows, allLen_nil_iff, allLen_cons_iff, allLen_append_iff, dropC, Obs.fits, eqCs, eqD]
  refine qcall_read (heldFrameS_calls fs.length 1 (by omega) (by omega) []) rfl hf (zg rfl) ?_
  simp -implicitDefEqProofs [hp2, aw_skip, aw_region, aw_seq, aw_block, aw_cond, aw_exit, aw_ret, kq_nil, kq_seq, kq_seq_ret, kq_seq_exit, kq_block, kq_block_ret, kq_block_exit, kq_loop, kq_loop_ret, kq_loop_exit, awOps_nil, awOps_cons, awOps_guardE, nx_eq, awOp, ev_k, ev_0, ev_1, ev_2, ev_3, ev_4, ev_5, ev_6, ev_7, ev_8, set_0, set_1, set_2, set_3, set_4, set_5, set_6, set_7, set_8, -List.set_cons_succ, -List.set_cons_zero, A.ok, A.val, setSl, wrapG, guardB, getB, pickA, binA, binC, binD, cmpD, isCmp, unA, unD, lenA, AOp.total, kills, litB, FinQ, resOks, resOk, resA, resList, resOne, A.thaw, C.thaw, A.fits, As.fits, C.fits, evs, oks, callArgs, A.pure, C.pure, A.re, C.re, fieldAddrA, loadC, cut, A.cells, C.rows?, getOb, newOb, setOb, storeC, splice, Ob.re, Cs.fits, partsA, partsOk, parts2A, parts2Ok, fillC, fillRows, optInt, optOk, sliceA, clipC, optK_some, storeK_some, Option.map_some, toDs, C.toD, spliceD, appendA, capsOf, srcRows, allLen_nil_iff, allLen_cons_iff, allLen_append_iff, dropC, Obs.fits, eqCs, eqD]
theorem law_run5 (rows : List (List D)) (hr : HasTys Try.prog (#[25] : Array TypeId).toList rows) : ACalls Try.prog 5 (argsA Try.prog (#[25] : Array TypeId).toList rows) [] (fun r _ => r = .c (.d (.bool true))) := by
  obtain ⟨r, rs, rfl, h1, h2⟩ := hr.cons
  obtain rfl := h2.nil
  obtain ⟨s, rfl, hs⟩ := bytes_ty h1
  simp only [argsA, argA, Try.underlying25, List.headD_cons]
  exact dxLaw_calls s hs
namespace fnExactDecodeAll
theorem own : ownKnob Try.prog.godebug = none := by kernel_rfl
theorem contract (H : Type) (enc : TypeId × Value → H) (W : World) (base : Nat) (args : Array Value) (ds gs : List (DataW H)) (before : List MemPlace)
    (hval : ∀ (j : Nat) t v, Try.f5.params[j]? = some t → args[j]? = some v → Value.okWide Try.prog W .any base t v)
    (hW : DataW.Whole enc Try.prog Try.f5.params.toList Rows.fnExactDecodeAllSpec.vars false W args.toList ds gs before)
    (hw : (DataW.weightsEach Try.prog (Try.f5.params.toList ++ Rows.fnExactDecodeAllSpec.plain.varTypes Try.prog) (ds ++ gs)).all (· ≤ reachBytes) = true) :
    Calls Try.prog 5 args W fun e W' => ∃ v, e = .returned v ∧ Rows.fnExactDecodeAllSpec.post enc Try.prog Try.f5 false true false false W args v W' := by
  refine law_contract (L := [5, 25]) (tb := 4) (by kernel_rfl) (by kernel_rfl) (by kernel_rfl) rfl ?_ (by kernel_rfl) Try.underlying4 ?_ W base args ds gs before hval hW hw
  · intro ds hl
    match ds, hl with
    | [d0], _ => rfl
  · intro rows hr
    rw [Try.params5] at hr ⊢
    exact law_run5 rows hr

theorem lifted (os : Os) (started : os.Started) (H : Type) (enc : TypeId × Value → H) :
    ReturnsInHanded {} Try.checked os 5 .any (Rows.fnExactDecodeAllSpec.pre6 enc Try.prog Try.f5 Rows.fnExactDecodeAllRow.domain false) (Rows.fnExactDecodeAllSpec.post enc Try.prog Try.f5 false true false false) := by
  refine returnsInHanded_of_change_sized (C := Try.checked) own started (by kernel_rfl) Try.func5
    (ChangeSpec.witness6 (enc := enc) (C := Try.checked) false ⟨#[], #[.slice none 0 0], []⟩ 8 (by kernel_rfl) (by kernel_rfl) (by kernel_rfl) (by kernel_rfl)) ?_
  intro W base args ds gs before hval hW _ hw _
  exact contract H enc W base args ds gs before hval hW hw

theorem proved : Rows.FnExactDecodeAllSaid :=
  OpenClaim.holds_of_wide 5 Try.f5 rfl rfl rfl rfl rfl rfl rfl ⟨rfl, rfl, rfl, rfl, rfl⟩ rfl rfl rfl rfl rfl (by kernel_rfl) Try.func5 (by kernel_rfl)
    (of_decide_eq_true (by kernel_rfl)) (by unfold Func.isWrapper; first | (rw [if_pos (by decide +kernel)]; kernel_rfl) | (rw [if_neg (by decide +kernel)]; exact ⟨rfl, rfl⟩))
    (fun os started H enc _ => lifted os started H enc)
end fnExactDecodeAll

end Go.Proofs.Ytamaaiabbganjaa
