/-
  The law FnExactFeedDecoder holds: impl.FeedDecoder answers as spec.FeedDecoder does, with memory of its own.
  Conditions: none.
-/
import Derived.Test.YtamaaiabbganjaaFeedOwn
import Derived.Test.YtamaaiabbganjaaFrIa
import Derived.Test.YtamaaiabbganjaaFrK
import Derived.Test.YtamaaiabbganjaaDecs
open Go Go.AM Go.Proofs
namespace Go.Proofs.Ytamaaiabbganjaa
open Go.ChangeShapes Go.WideShapes Go.ChangeAt Go.RowKit
set_option linter.unusedVariables false
set_option linter.unusedSimpArgs false
set_option maxRecDepth 100000
-- 6 loop.example/prologserver/laws.FnExactFeedDecoder params 2 ntmps 133
def ac6 : Cd := .seq (.region [⟨(some 2), .box (.t 0), none⟩,
      ⟨(some 4), .mv (.k (.c (.d (.bool false)))), none⟩] [0, 4])
  (.seq (.seq (.region [⟨(some 17), .mv (.t 1), none⟩,
        ⟨(some 18), .len 1 (.t 17), none⟩,
        ⟨(some 19), .bin .gtr (.t 18) (.k (.c (.d (.int .i64 1048576)))), none⟩] [17, 18])
    (.cond (.t 19)
      (.seq (.region [⟨(some 4), .mv (.k (.c (.d (.bool true)))), none⟩] [1, 2, 19])
      (.ret))
      (.skip)))
  (.seq (.region [⟨(some 5), .mv (.k (.c (.d (.int .i64 1048576)))), none⟩] [4, 19])
  (.seq (.region [⟨(some 20), .load (some 2) (.t 2), none⟩,
      ⟨(some 21), .mv (.t 5), none⟩,
      ⟨(some 22), .call false 25 [(.t 20), (.t 21)], none⟩,
      ⟨(some 5), .mv (.t 22), none⟩] [20, 21, 22])
  (.seq (.seq (.region [⟨(some 23), .mv (.t 5), none⟩,
        ⟨(some 24), .bin .lss (.t 23) (.k (.c (.d (.int .i64 0)))), none⟩] [5, 23])
    (.cond (.t 24)
      (.seq (.region [⟨(some 4), .mv (.k (.c (.d (.bool true)))), none⟩] [1, 2, 24])
      (.ret))
      (.skip)))
  (.seq (.region [⟨(some 26), .load (some 2) (.t 2), none⟩,
      ⟨(some 27), .callL false 27 [(.t 26)], none⟩,
      ⟨(some 28), .mv (.t 1), none⟩,
      ⟨(some 29), .call false 22 [(.t 28)], none⟩,
      ⟨(some 30), .qcall 26 [(.t 27), (.t 29)], none⟩,
      ⟨(some 25), .mv (.t 30), none⟩,
      ⟨(some 31), .extract 0 (.t 25), none⟩,
      ⟨(some 32), .extract 1 (.t 25), none⟩,
      ⟨(some 6), .alloc [(.full []), (.d (.bool false))], none⟩,
      ⟨none, .store 2 (.t 6) (.t 31), none⟩,
      ⟨(some 7), .mv (.t 32), none⟩] [4, 24, 25, 26, 27, 28, 29, 30, 31, 32])
  (.seq (.region [⟨(some 33), .load (some 2) (.t 2), none⟩,
      ⟨(some 34), .callL false 27 [(.t 33)], none⟩,
      ⟨(some 8), .alloc [(.full []), (.d (.bool false))], none⟩,
      ⟨none, .store 2 (.t 8) (.t 34), none⟩] [33, 34])
  (.seq (.region [⟨(some 35), .mv (.t 1), none⟩,
      ⟨(some 36), .call false 22 [(.t 35)], none⟩,
      ⟨(some 9), .mv (.t 36), none⟩] [35, 36])
  (.seq (.region [⟨(some 38), .loadL (some 2) (.t 8), none⟩,
      ⟨(some 39), .mv (.t 9), none⟩,
      ⟨(some 40), .call false 28 [(.t 38), (.t 39)], none⟩,
      ⟨(some 37), .mv (.t 40), none⟩,
      ⟨(some 41), .extract 0 (.t 37), none⟩,
      ⟨(some 42), .extract 1 (.t 37), none⟩,
      ⟨(some 10), .alloc [(.full []), (.d (.bool false))], none⟩,
      ⟨none, .store 2 (.t 10) (.t 41), none⟩,
      ⟨(some 11), .mv (.t 42), none⟩] [37, 38, 39, 40, 41, 42])
  (.seq (.seq (.region [⟨(some 43), .load (some 2) (.t 10), none⟩,
        ⟨(some 44), .load (some 2) (.t 6), none⟩,
        ⟨(some 45), .qcall 29 [(.t 43), (.t 44)], none⟩,
        ⟨(some 46), .un .not (.t 45), none⟩,
        ⟨(some 47), .mv (.t 46), none⟩,
        ⟨(some 48), .mv (.t 11), some (47, false)⟩,
        ⟨(some 49), .mv (.t 7), some (47, false)⟩,
        ⟨(some 50), .qcall 19 [(.t 48), (.t 49)], some (47, false)⟩,
        ⟨(some 51), .un .not (.t 50), some (47, false)⟩,
        ⟨(some 52), .pick (.t 47) (.k (.c (.d (.bool true)))) (.t 51), none⟩] [43, 44, 45, 46, 47, 48, 49, 50, 51])
    (.cond (.t 52)
      (.seq (.region [⟨(some 4), .mv (.k (.c (.d (.bool false)))), none⟩] [1, 2, 6, 7, 8, 9, 10, 11, 52])
      (.ret))
      (.skip)))
  (.seq (.seq (.region [⟨(some 53), .loadL (some 2) (.t 8), none⟩,
        ⟨(some 54), .load (some 2) (.t 2), none⟩,
        ⟨(some 55), .callL false 27 [(.t 54)], none⟩,
        ⟨(some 56), .qcall 29 [(.t 53), (.t 55)], none⟩,
        ⟨(some 57), .un .not (.t 56), none⟩] [4, 52, 53, 54, 55, 56])
    (.cond (.t 57)
      (.seq (.region [⟨(some 4), .mv (.k (.c (.d (.bool false)))), none⟩] [1, 2, 6, 7, 8, 9, 10, 11, 57])
      (.ret))
      (.skip)))
  (.seq (.seq (.region [⟨(some 58), .mv (.t 9), none⟩,
        ⟨(some 59), .mv (.t 1), none⟩,
        ⟨(some 60), .call false 22 [(.t 59)], none⟩,
        ⟨(some 61), .qcall 12 [(.t 58), (.t 60)], none⟩,
        ⟨(some 62), .un .not (.t 61), none⟩] [4, 57, 58, 59, 60, 61])
    (.cond (.t 62)
      (.seq (.region [⟨(some 4), .mv (.k (.c (.d (.bool false)))), none⟩] [1, 2, 6, 7, 8, 9, 10, 11, 62])
      (.ret))
      (.skip)))
  (.seq (.region [⟨(some 12), .mv (.k (.c (.d (.int .i64 1)))), none⟩] [4, 62])
  (.seq (.region [⟨(some 63), .loadL (some 2) (.t 8), none⟩,
      ⟨(some 64), .mv (.t 12), none⟩,
      ⟨(some 65), .call false 30 [(.t 63), (.t 64)], none⟩,
      ⟨(some 12), .mv (.t 65), none⟩] [8, 63, 64, 65])
  (.seq (.region [⟨(some 66), .mv (.t 9), none⟩,
      ⟨(some 67), .mv (.t 12), none⟩,
      ⟨(some 68), .call false 13 [(.t 66), (.t 67)], none⟩,
      ⟨(some 12), .mv (.t 68), none⟩] [9, 66, 67, 68])
  (.seq (.seq (.region [⟨(some 69), .mv (.t 12), none⟩,
        ⟨(some 70), .bin .lss (.t 69) (.k (.c (.d (.int .i64 0)))), none⟩,
        ⟨(some 71), .mv (.t 70), none⟩,
        ⟨(some 72), .load (some 2) (.t 10), some (71, false)⟩,
        ⟨(some 73), .load (some 2) (.t 6), some (71, false)⟩,
        ⟨(some 74), .qcall 29 [(.t 72), (.t 73)], some (71, false)⟩,
        ⟨(some 75), .un .not (.t 74), some (71, false)⟩,
        ⟨(some 76), .pick (.t 71) (.k (.c (.d (.bool true)))) (.t 75), none⟩,
        ⟨(some 77), .mv (.t 76), none⟩,
        ⟨(some 78), .mv (.t 11), some (77, false)⟩,
        ⟨(some 79), .mv (.t 7), some (77, false)⟩,
        ⟨(some 80), .qcall 19 [(.t 78), (.t 79)], some (77, false)⟩,
        ⟨(some 81), .un .not (.t 80), some (77, false)⟩,
        ⟨(some 82), .pick (.t 77) (.k (.c (.d (.bool true)))) (.t 81), none⟩] [12, 69, 70, 71, 72, 73, 74, 75, 76, 77, 78, 79, 80, 81])
    (.cond (.t 82)
      (.seq (.region [⟨(some 4), .mv (.k (.c (.d (.bool false)))), none⟩] [1, 2, 6, 7, 10, 11, 82])
      (.ret))
      (.skip)))
  (.seq (.region [⟨(some 13), .mv (.k (.c (.d (.int .i64 1)))), none⟩] [4, 82])
  (.seq (.region [⟨(some 83), .load (some 2) (.t 10), none⟩,
      ⟨(some 84), .mv (.t 13), none⟩,
      ⟨(some 85), .call false 30 [(.t 83), (.t 84)], none⟩,
      ⟨(some 13), .mv (.t 85), none⟩] [83, 84, 85])
  (.seq (.region [⟨(some 86), .mv (.t 11), none⟩,
      ⟨(some 87), .mv (.t 13), none⟩,
      ⟨(some 88), .call false 20 [(.t 86), (.t 87)], none⟩,
      ⟨(some 13), .mv (.t 88), none⟩] [86, 87, 88])
  (.seq (.region [⟨(some 14), .mv (.k (.c (.d (.int .i64 1)))), none⟩] [])
  (.seq (.region [⟨(some 89), .load (some 2) (.t 10), none⟩,
      ⟨(some 90), .mv (.t 14), none⟩,
      ⟨(some 91), .qcall 31 [(.t 89), (.t 90)], none⟩,
      ⟨(some 14), .mv (.t 91), none⟩] [89, 90, 91])
  (.seq (.seq (.region [⟨(some 92), .mv (.t 14), none⟩,
        ⟨(some 93), .bin .lss (.t 92) (.k (.c (.d (.int .i64 0)))), none⟩] [92])
    (.cond (.t 93)
      (.seq (.region [⟨(some 4), .mv (.k (.c (.d (.bool false)))), none⟩] [1, 2, 6, 7, 10, 11, 13, 14, 93])
      (.ret))
      (.skip)))
  (.seq (.region [⟨(some 94), .mv (.t 11), none⟩,
      ⟨(some 95), .mv (.t 14), none⟩,
      ⟨(some 96), .qcall 24 [(.t 94), (.t 95)], none⟩,
      ⟨(some 14), .mv (.t 96), none⟩] [4, 93, 94, 95, 96])
  (.seq (.seq (.region [⟨(some 97), .mv (.t 14), none⟩,
        ⟨(some 98), .bin .lss (.t 97) (.k (.c (.d (.int .i64 0)))), none⟩] [97])
    (.cond (.t 98)
      (.seq (.region [⟨(some 4), .mv (.k (.c (.d (.bool false)))), none⟩] [1, 2, 6, 7, 10, 11, 13, 14, 98])
      (.ret))
      (.skip)))
  (.seq (.seq (.region [⟨(some 99), .mv (.t 14), none⟩,
        ⟨(some 100), .mv (.t 13), none⟩,
        ⟨(some 101), .bin .neq (.t 99) (.t 100), none⟩] [4, 14, 98, 99, 100])
    (.cond (.t 101)
      (.seq (.region [⟨(some 4), .mv (.k (.c (.d (.bool false)))), none⟩] [1, 2, 6, 7, 10, 11, 13, 101])
      (.ret))
      (.skip)))
  (.seq (.region [⟨(some 103), .load (some 2) (.t 2), none⟩,
      ⟨(some 104), .callL false 27 [(.t 103)], none⟩,
      ⟨(some 105), .mv (.t 1), none⟩,
      ⟨(some 106), .call false 22 [(.t 105)], none⟩,
      ⟨(some 107), .call false 28 [(.t 104), (.t 106)], none⟩,
      ⟨(some 102), .mv (.t 107), none⟩,
      ⟨(some 108), .extract 0 (.t 102), none⟩,
      ⟨(some 109), .extract 1 (.t 102), none⟩,
      ⟨(some 15), .alloc [(.full []), (.d (.bool false))], none⟩,
      ⟨none, .store 2 (.t 15) (.t 108), none⟩,
      ⟨(some 16), .mv (.t 109), none⟩] [1, 2, 4, 101, 102, 103, 104, 105, 106, 107, 108, 109])
  (.seq (.seq (.region [⟨(some 110), .load (some 2) (.t 15), none⟩,
        ⟨(some 111), .load (some 2) (.t 6), none⟩,
        ⟨(some 112), .qcall 29 [(.t 110), (.t 111)], none⟩,
        ⟨(some 113), .un .not (.t 112), none⟩,
        ⟨(some 114), .mv (.t 113), none⟩,
        ⟨(some 115), .mv (.t 16), some (114, false)⟩,
        ⟨(some 116), .mv (.t 7), some (114, false)⟩,
        ⟨(some 117), .qcall 19 [(.t 115), (.t 116)], some (114, false)⟩,
        ⟨(some 118), .un .not (.t 117), some (114, false)⟩,
        ⟨(some 119), .pick (.t 114) (.k (.c (.d (.bool true)))) (.t 118), none⟩] [6, 7, 15, 16, 110, 111, 112, 113, 114, 115, 116, 117, 118])
    (.cond (.t 119)
      (.seq (.region [⟨(some 4), .mv (.k (.c (.d (.bool false)))), none⟩] [10, 11, 13, 119])
      (.ret))
      (.skip)))
  (.seq (.region [⟨(some 14), .mv (.k (.c (.d (.int .i64 1)))), none⟩] [4, 119])
  (.seq (.region [⟨(some 120), .load (some 2) (.t 10), none⟩,
      ⟨(some 121), .mv (.t 14), none⟩,
      ⟨(some 122), .qcall 31 [(.t 120), (.t 121)], none⟩,
      ⟨(some 14), .mv (.t 122), none⟩] [10, 120, 121, 122])
  (.seq (.seq (.region [⟨(some 123), .mv (.t 14), none⟩,
        ⟨(some 124), .bin .lss (.t 123) (.k (.c (.d (.int .i64 0)))), none⟩] [123])
    (.cond (.t 124)
      (.seq (.region [⟨(some 4), .mv (.k (.c (.d (.bool false)))), none⟩] [11, 13, 14, 124])
      (.ret))
      (.skip)))
  (.seq (.region [⟨(some 125), .mv (.t 11), none⟩,
      ⟨(some 126), .mv (.t 14), none⟩,
      ⟨(some 127), .qcall 24 [(.t 125), (.t 126)], none⟩,
      ⟨(some 14), .mv (.t 127), none⟩] [4, 11, 124, 125, 126, 127])
  (.seq (.seq (.region [⟨(some 128), .mv (.t 14), none⟩,
        ⟨(some 129), .bin .lss (.t 128) (.k (.c (.d (.int .i64 0)))), none⟩] [128])
    (.cond (.t 129)
      (.seq (.region [⟨(some 4), .mv (.k (.c (.d (.bool false)))), none⟩] [13, 14, 129])
      (.ret))
      (.skip)))
  (.seq (.seq (.region [⟨(some 130), .mv (.t 14), none⟩,
        ⟨(some 131), .mv (.t 13), none⟩,
        ⟨(some 132), .bin .neq (.t 130) (.t 131), none⟩] [4, 13, 14, 129, 130, 131])
    (.cond (.t 132)
      (.seq (.region [⟨(some 4), .mv (.k (.c (.d (.bool false)))), none⟩] [132])
      (.ret))
      (.skip)))
  (.seq (.region [⟨(some 4), .mv (.k (.c (.d (.bool true)))), none⟩] [132])
  (.ret))))))))))))))))))))))))))))))))))
theorem ac6_ok : cFunc Try.prog [1000012, 1000019, 1000024, 1000026, 1000029, 1000031, 6000027, 5000008] [(0, [0, 4], []), (1, [17, 18], []), (2, [1, 2, 19], []), (3, [4, 19], []), (4, [20, 21, 22], []), (5, [5, 23], []), (6, [1, 2, 24], []), (7, [4, 24, 25, 26, 27, 28, 29, 30, 31, 32], []), (8, [33, 34], []), (9, [35, 36], []), (10, [37, 38, 39, 40, 41, 42], []), (11, [43, 44, 45, 46, 47, 48, 49, 50, 51], []), (12, [1, 2, 6, 7, 8, 9, 10, 11, 52], []), (13, [4, 52, 53, 54, 55, 56], [0, 1, 2, 3, 4]), (14, [1, 2, 6, 7, 8, 9, 10, 11, 57], []), (15, [4, 57, 58, 59, 60, 61], []), (16, [1, 2, 6, 7, 8, 9, 10, 11, 62], []), (17, [4, 62], []), (18, [8, 63, 64, 65], []), (19, [9, 66, 67, 68], []), (20, [12, 69, 70, 71, 72, 73, 74, 75, 76, 77, 78, 79, 80, 81], []), (21, [1, 2, 6, 7, 10, 11, 82], []), (22, [4, 82], []), (23, [83, 84, 85], []), (24, [86, 87, 88], []), (25, [], []), (26, [89, 90, 91], []), (27, [92], []), (28, [1, 2, 6, 7, 10, 11, 13, 14, 93], []), (29, [4, 93, 94, 95, 96], []), (30, [97], []), (31, [1, 2, 6, 7, 10, 11, 13, 14, 98], []), (32, [4, 14, 98, 99, 100], []), (33, [1, 2, 6, 7, 10, 11, 13, 101], []), (34, [1, 2, 4, 101, 102, 103, 104, 105, 106, 107, 108, 109], []), (35, [6, 7, 15, 16, 110, 111, 112, 113, 114, 115, 116, 117, 118], []), (36, [10, 11, 13, 119], []), (37, [4, 119], []), (38, [10, 120, 121, 122], []), (39, [123], []), (40, [11, 13, 14, 124], []), (41, [4, 11, 124, 125, 126, 127], []), (42, [128], []), (43, [13, 14, 129], []), (44, [4, 13, 14, 129, 130, 131], []), (45, [132], []), (46, [132], [])] Try.f6 = some (ac6, [.tmp 4], 133) := by kernel_rfl
theorem feedD_small (d : Dec) (b : List UInt8) (hd : d.rest.length ≤ 1048576) (hb : b.length ≤ 1048576) : (feedD d b).1.rest.length ≤ 3000000 ∧ (feedD d b).2.length ≤ 3000000 := by
  unfold feedD
  split
  · exact ⟨by simp only; omega, by simp⟩
  · have h1 := feed_rest_len (d.rest ++ b)
    have h2 := feed_count (d.rest ++ b)
    simp only [List.length_append] at h1 h2
    exact ⟨by simp only; omega, by simp only; omega⟩
theorem fxLaw_calls (d : Dec) (b : List UInt8) (hd : d.rest.length ≤ reachBytes) (hb : b.length ≤ reachBytes) : ACalls Try.prog 6 [.agg (d.row.map .d), .c (.d (.sl (bytesRows b)))] [] (fun r _ => r = .c (.d (.bool true))) := by
  refine acalls Try.func6 (by kernel_rfl) ac6_ok fun hf => ?_
  have hl := reach_i64 hb
  simp -implicitDefEqProofs [ac6, Dec.row, hl, bytesRows_len, aw_skip, aw_region, aw_seq, aw_block, aw_cond, aw_exit, aw_ret, kq_nil, kq_seq, kq_seq_ret, kq_seq_exit, kq_block, kq_block_ret, kq_block_exit, kq_loop, kq_loop_ret, kq_loop_exit, awOps_nil, awOps_cons, awOps_guardE, nx_eq, awOp, ev_k, ev_0, ev_1, ev_2, ev_3, ev_4, ev_5, ev_6, ev_7, ev_8, set_0, set_1, set_2, set_3, set_4, set_5, set_6, set_7, set_8, -List.set_cons_succ, -List.set_cons_zero, A.ok, A.val, setSl, wrapG, guardB, getB, pickA, binA, binC, binD, cmpD, isCmp, unA, unD, lenA, AOp.total, kills, litB, FinQ, resOks, resOk, resA, resList, resOne, A.thaw, C.thaw, A.fits, As.fits, C.fits, evs, oks, callArgs, A.pure, C.pure, A.re, C.re, fieldAddrA, loadC, cut, A.cells, C.rows?, getOb, newOb, setOb, storeC, splice, Ob.re, Cs.fits, partsA, partsOk, parts2A, parts2Ok, fillC, fillRows, optInt, optOk, sliceA, clipC, optK_some, storeK_some, Option.map_some, toDs, C.toD, spliceD, appendA, capsOf, srcRows, allLen_nil_iff, allLen_cons_iff, allLen_append_iff, dropC, Obs.fits, eqCs, eqD]
  intro hble
  refine call_some (szDecoder_calls d (by simp only [reachBytes] at hd; omega) 1048576 (by omega) (by omega) _) (by simp [Ob.re, C.re, Dec.row]) (fun r => Left.re) hf ?_
  rintro _ ⟨k, rfl, _, _, hk⟩
  simp -implicitDefEqProofs [aw_skip, aw_region, aw_seq, aw_block, aw_cond, aw_exit, aw_ret, kq_nil, kq_seq, kq_seq_ret, kq_seq_exit, kq_block, kq_block_ret, kq_block_exit, kq_loop, kq_loop_ret, kq_loop_exit, awOps_nil, awOps_cons, awOps_guardE, nx_eq, awOp, ev_k, ev_0, ev_1, ev_2, ev_3, ev_4, ev_5, ev_6, ev_7, ev_8, set_0, set_1, set_2, set_3, set_4, set_5, set_6, set_7, set_8, -List.set_cons_succ, -List.set_cons_zero, A.ok, A.val, setSl, wrapG, guardB, getB, pickA, binA, binC, binD, cmpD, isCmp, unA, unD, lenA, AOp.total, kills, litB, FinQ, resOks, resOk, resA, resList, resOne, A.thaw, C.thaw, A.fits, As.fits, C.fits, evs, oks, callArgs, A.pure, C.pure, A.re, C.re, fieldAddrA, loadC, cut, A.cells, C.rows?, getOb, newOb, setOb, storeC, splice, Ob.re, Cs.fits, partsA, partsOk, parts2A, parts2Ok, fillC, fillRows, optInt, optOk, sliceA, clipC, optK_some, storeK_some, Option.map_some, toDs, C.toD, spliceD, appendA, capsOf, srcRows, allLen_nil_iff, allLen_cons_iff, allLen_append_iff, dropC, Obs.fits, eqCs, eqD]
  intro h0
  have hm : d.rest.length ≤ 1048576 := hk h0
  have hbl : b.length ≤ 1048576 := by omega
  obtain ⟨w1, w2⟩ := feedD_small d b hm hbl
  have cs := feedSpec_calls d b (by omega) (by omega)
  have ci := feedOwn_calls d b (by omega) (by omega)
  have ci2 := feedImpl_calls d b (by omega) (by omega)
  generalize feedD d b = x at w1 w2 cs ci ci2
  obtain ⟨w, fs⟩ := x
  simp only [Dec.row, List.map_cons, List.map_nil] at w1 w2 cs ci ci2
  have ctd := toDecoder_calls d hm
  have ctdo := toDecoderOwn_calls d hm
  have ctb := toByteS_calls b hbl
  have ctbo := toByteSOwn_calls b hbl
  have ced := eqDecoder_big w (by omega) []
  have cedd := eqDecoder_big d (by omega) []
  simp only [Dec.row, List.map_cons, List.map_nil] at ctd ctdo ced cedd
  refine call_same (ctd _) (by simp [Ob.re, C.re]) rfl hf ⟨LocSame.refl _, ?_⟩
  simp -implicitDefEqProofs [aw_skip, aw_region, aw_seq, aw_block, aw_cond, aw_exit, aw_ret, kq_nil, kq_seq, kq_seq_ret, kq_seq_exit, kq_block, kq_block_ret, kq_block_exit, kq_loop, kq_loop_ret, kq_loop_exit, awOps_nil, awOps_cons, awOps_guardE, nx_eq, awOp, ev_k, ev_0, ev_1, ev_2, ev_3, ev_4, ev_5, ev_6, ev_7, ev_8, set_0, set_1, set_2, set_3, set_4, set_5, set_6, set_7, set_8, -List.set_cons_succ, -List.set_cons_zero, A.ok, A.val, setSl, wrapG, guardB, getB, pickA, binA, binC, binD, cmpD, isCmp, unA, unD, lenA, AOp.total, kills, litB, FinQ, resOks, resOk, resA, resList, resOne, A.thaw, C.thaw, A.fits, As.fits, C.fits, evs, oks, callArgs, A.pure, C.pure, A.re, C.re, fieldAddrA, loadC, cut, A.cells, C.rows?, getOb, newOb, setOb, storeC, splice, Ob.re, Cs.fits, partsA, partsOk, parts2A, parts2Ok, fillC, fillRows, optInt, optOk, sliceA, clipC, optK_some, storeK_some, Option.map_some, toDs, C.toD, spliceD, appendA, capsOf, srcRows, allLen_nil_iff, allLen_cons_iff, allLen_append_iff, dropC, Obs.fits, eqCs, eqD]
  refine call_same (ctb _) (by simp [Ob.re, C.re]) rfl hf ?_
  simp -implicitDefEqProofs [aw_skip, aw_region, aw_seq, aw_block, aw_cond, aw_exit, aw_ret, kq_nil, kq_seq, kq_seq_ret, kq_seq_exit, kq_block, kq_block_ret, kq_block_exit, kq_loop, kq_loop_ret, kq_loop_exit, awOps_nil, awOps_cons, awOps_guardE, nx_eq, awOp, ev_k, ev_0, ev_1, ev_2, ev_3, ev_4, ev_5, ev_6, ev_7, ev_8, set_0, set_1, set_2, set_3, set_4, set_5, set_6, set_7, set_8, -List.set_cons_succ, -List.set_cons_zero, A.ok, A.val, setSl, wrapG, guardB, getB, pickA, binA, binC, binD, cmpD, isCmp, unA, unD, lenA, AOp.total, kills, litB, FinQ, resOks, resOk, resA, resList, resOne, A.thaw, C.thaw, A.fits, As.fits, C.fits, evs, oks, callArgs, A.pure, C.pure, A.re, C.re, fieldAddrA, loadC, cut, A.cells, C.rows?, getOb, newOb, setOb, storeC, splice, Ob.re, Cs.fits, partsA, partsOk, parts2A, parts2Ok, fillC, fillRows, optInt, optOk, sliceA, clipC, optK_some, storeK_some, Option.map_some, toDs, C.toD, spliceD, appendA, capsOf, srcRows, allLen_nil_iff, allLen_cons_iff, allLen_append_iff, dropC, Obs.fits, eqCs, eqD]
  refine qcall_pure cs hf rfl ?_
  simp -implicitDefEqProofs [aw_skip, aw_region, aw_seq, aw_block, aw_cond, aw_exit, aw_ret, kq_nil, kq_seq, kq_seq_ret, kq_seq_exit, kq_block, kq_block_ret, kq_block_exit, kq_loop, kq_loop_ret, kq_loop_exit, awOps_nil, awOps_cons, awOps_guardE, nx_eq, awOp, ev_k, ev_0, ev_1, ev_2, ev_3, ev_4, ev_5, ev_6, ev_7, ev_8, set_0, set_1, set_2, set_3, set_4, set_5, set_6, set_7, set_8, -List.set_cons_succ, -List.set_cons_zero, A.ok, A.val, setSl, wrapG, guardB, getB, pickA, binA, binC, binD, cmpD, isCmp, unA, unD, lenA, AOp.total, kills, litB, FinQ, resOks, resOk, resA, resList, resOne, A.thaw, C.thaw, A.fits, As.fits, C.fits, evs, oks, callArgs, A.pure, C.pure, A.re, C.re, fieldAddrA, loadC, cut, A.cells, C.rows?, getOb, newOb, setOb, storeC, splice, Ob.re, Cs.fits, partsA, partsOk, parts2A, parts2Ok, fillC, fillRows, optInt, optOk, sliceA, clipC, optK_some, storeK_some, Option.map_some, toDs, C.toD, spliceD, appendA, capsOf, srcRows, allLen_nil_iff, allLen_cons_iff, allLen_append_iff, dropC, Obs.fits, eqCs, eqD]
  refine call_loc (J := []) ctdo (fun r H' h => h.handed) rfl (.cons (.agg (fzCs_id [.sl (bytesRows d.rest), .bool d.broken])) .nil) List.nodup_nil rfl rfl ?_
  rintro _ _ ⟨vd, rfl, rfl⟩ _
  simp -implicitDefEqProofs [putAll, aw_skip, aw_region, aw_seq, aw_block, aw_cond, aw_exit, aw_ret, kq_nil, kq_seq, kq_seq_ret, kq_seq_exit, kq_block, kq_block_ret, kq_block_exit, kq_loop, kq_loop_ret, kq_loop_exit, awOps_nil, awOps_cons, awOps_guardE, nx_eq, awOp, ev_k, ev_0, ev_1, ev_2, ev_3, ev_4, ev_5, ev_6, ev_7, ev_8, set_0, set_1, set_2, set_3, set_4, set_5, set_6, set_7, set_8, -List.set_cons_succ, -List.set_cons_zero, A.ok, A.val, setSl, wrapG, guardB, getB, pickA, binA, binC, binD, cmpD, isCmp, unA, unD, lenA, AOp.total, kills, litB, FinQ, resOks, resOk, resA, resList, resOne, A.thaw, C.thaw, A.fits, As.fits, C.fits, evs, oks, callArgs, A.pure, C.pure, A.re, C.re, fieldAddrA, loadC, cut, A.cells, C.rows?, getOb, newOb, setOb, storeC, splice, Ob.re, Cs.fits, partsA, partsOk, parts2A, parts2Ok, fillC, fillRows, optInt, optOk, sliceA, clipC, optK_some, storeK_some, Option.map_some, toDs, C.toD, spliceD, appendA, capsOf, srcRows, allLen_nil_iff, allLen_cons_iff, allLen_append_iff, dropC, Obs.fits, eqCs, eqD]
  refine ⟨LocSame.push _ _, ?_⟩
  refine call_loc (J := []) ctbo (fun r H' h => h.handed) rfl (.cons (.c .d) .nil) List.nodup_nil rfl rfl ?_
  rintro _ _ ⟨vb, rfl, rfl⟩ _
  simp -implicitDefEqProofs [putAll, aw_skip, aw_region, aw_seq, aw_block, aw_cond, aw_exit, aw_ret, kq_nil, kq_seq, kq_seq_ret, kq_seq_exit, kq_block, kq_block_ret, kq_block_exit, kq_loop, kq_loop_ret, kq_loop_exit, awOps_nil, awOps_cons, awOps_guardE, nx_eq, awOp, ev_k, ev_0, ev_1, ev_2, ev_3, ev_4, ev_5, ev_6, ev_7, ev_8, set_0, set_1, set_2, set_3, set_4, set_5, set_6, set_7, set_8, -List.set_cons_succ, -List.set_cons_zero, A.ok, A.val, setSl, wrapG, guardB, getB, pickA, binA, binC, binD, cmpD, isCmp, unA, unD, lenA, AOp.total, kills, litB, FinQ, resOks, resOk, resA, resList, resOne, A.thaw, C.thaw, A.fits, As.fits, C.fits, evs, oks, callArgs, A.pure, C.pure, A.re, C.re, fieldAddrA, loadC, cut, A.cells, C.rows?, getOb, newOb, setOb, storeC, splice, Ob.re, Cs.fits, partsA, partsOk, parts2A, parts2Ok, fillC, fillRows, optInt, optOk, sliceA, clipC, optK_some, storeK_some, Option.map_some, toDs, C.toD, spliceD, appendA, capsOf, srcRows, allLen_nil_iff, allLen_cons_iff, allLen_append_iff, dropC, Obs.fits, eqCs, eqD]
  refine call_loc (J := []) ci (fun r H' h => h.handed) rfl (.cons (.agg (.cons (.tree (i := 2) rfl (by simp)) (.cons .d .nil))) (.cons (.c (.tree (i := 4) rfl (by simp))) .nil)) List.nodup_nil rfl rfl ?_
  rintro _ _ ⟨v1, v2, rfl, rfl⟩ _
  simp -implicitDefEqProofs [putAll, aw_skip, aw_region, aw_seq, aw_block, aw_cond, aw_exit, aw_ret, kq_nil, kq_seq, kq_seq_ret, kq_seq_exit, kq_block, kq_block_ret, kq_block_exit, kq_loop, kq_loop_ret, kq_loop_exit, awOps_nil, awOps_cons, awOps_guardE, nx_eq, awOp, ev_k, ev_0, ev_1, ev_2, ev_3, ev_4, ev_5, ev_6, ev_7, ev_8, set_0, set_1, set_2, set_3, set_4, set_5, set_6, set_7, set_8, -List.set_cons_succ, -List.set_cons_zero, A.ok, A.val, setSl, wrapG, guardB, getB, pickA, binA, binC, binD, cmpD, isCmp, unA, unD, lenA, AOp.total, kills, litB, FinQ, resOks, resOk, resA, resList, resOne, A.thaw, C.thaw, A.fits, As.fits, C.fits, evs, oks, callArgs, A.pure, C.pure, A.re, C.re, fieldAddrA, loadC, cut, A.cells, C.rows?, getOb, newOb, setOb, storeC, splice, Ob.re, Cs.fits, partsA, partsOk, parts2A, parts2Ok, fillC, fillRows, optInt, optOk, sliceA, clipC, optK_some, storeK_some, Option.map_some, toDs, C.toD, spliceD, appendA, capsOf, srcRows, allLen_nil_iff, allLen_cons_iff, allLen_append_iff, dropC, Obs.fits, eqCs, eqD]
  have zw : ∀ {H : Heap}, H[5]? = some (.tree v1 (bytesRows w.rest)) → FzL H [] [.agg [.d (.v v1), .d (.bool w.broken)], .agg [.d (.sl (bytesRows w.rest)), .d (.bool w.broken)]] [.agg [.d (.sl (bytesRows w.rest)), .d (.bool w.broken)], .agg [.d (.sl (bytesRows w.rest)), .d (.bool w.broken)]] := fun h =>
    .cons (.agg (.cons (.tree (i := 5) h (by simp)) (.cons .d .nil))) (.cons (.agg (fzCs_id [.sl (bytesRows w.rest), .bool w.broken])) .nil)
  have zf : ∀ {H : Heap}, H[6]? = some (.tree v2 (fs.map Frame.row)) → FzL H [] [.c (.d (.v v2)), .c (.d (.sl (fs.map Frame.row)))] [.c (.d (.sl (fs.map Frame.row))), .c (.d (.sl (fs.map Frame.row)))] := fun h =>
    .cons (.c (.tree (i := 6) h (by simp))) (.cons (.c .d) .nil)
  have cef := eqFrameS_many fs (by omega) []
  refine qcall_read ced rfl hf (zw rfl) ?_
  simp -implicitDefEqProofs [aw_skip, aw_region, aw_seq, aw_block, aw_cond, aw_exit, aw_ret, kq_nil, kq_seq, kq_seq_ret, kq_seq_exit, kq_block, kq_block_ret, kq_block_exit, kq_loop, kq_loop_ret, kq_loop_exit, awOps_nil, awOps_cons, awOps_guardE, nx_eq, awOp, ev_k, ev_0, ev_1, ev_2, ev_3, ev_4, ev_5, ev_6, ev_7, ev_8, set_0, set_1, set_2, set_3, set_4, set_5, set_6, set_7, set_8, -List.set_cons_succ, -List.set_cons_zero, A.ok, A.val, setSl, wrapG, guardB, getB, pickA, binA, binC, binD, cmpD, isCmp, unA, unD, lenA, AOp.total, kills, litB, FinQ, resOks, resOk, resA, resList, resOne, A.thaw, C.thaw, A.fits, As.fits, C.fits, evs, oks, callArgs, A.pure, C.pure, A.re, C.re, fieldAddrA, loadC, cut, A.cells, C.rows?, getOb, newOb, setOb, storeC, splice, Ob.re, Cs.fits, partsA, partsOk, parts2A, parts2Ok, fillC, fillRows, optInt, optOk, sliceA, clipC, optK_some, storeK_some, Option.map_some, toDs, C.toD, spliceD, appendA, capsOf, srcRows, allLen_nil_iff, allLen_cons_iff, allLen_append_iff, dropC, Obs.fits, eqCs, eqD]
  refine qcall_read cef rfl hf (zf rfl) ?_
  simp -implicitDefEqProofs [aw_skip, aw_region, aw_seq, aw_block, aw_cond, aw_exit, aw_ret, kq_nil, kq_seq, kq_seq_ret, kq_seq_exit, kq_block, kq_block_ret, kq_block_exit, kq_loop, kq_loop_ret, kq_loop_exit, awOps_nil, awOps_cons, awOps_guardE, nx_eq, awOp, ev_k, ev_0, ev_1, ev_2, ev_3, ev_4, ev_5, ev_6, ev_7, ev_8, set_0, set_1, set_2, set_3, set_4, set_5, set_6, set_7, set_8, -List.set_cons_succ, -List.set_cons_zero, A.ok, A.val, setSl, wrapG, guardB, getB, pickA, binA, binC, binD, cmpD, isCmp, unA, unD, lenA, AOp.total, kills, litB, FinQ, resOks, resOk, resA, resList, resOne, A.thaw, C.thaw, A.fits, As.fits, C.fits, evs, oks, callArgs, A.pure, C.pure, A.re, C.re, fieldAddrA, loadC, cut, A.cells, C.rows?, getOb, newOb, setOb, storeC, splice, Ob.re, Cs.fits, partsA, partsOk, parts2A, parts2Ok, fillC, fillRows, optInt, optOk, sliceA, clipC, optK_some, storeK_some, Option.map_some, toDs, C.toD, spliceD, appendA, capsOf, srcRows, allLen_nil_iff, allLen_cons_iff, allLen_append_iff, dropC, Obs.fits, eqCs, eqD]
  refine call_same (ctd _) (by simp [Ob.re, C.re]) rfl hf ⟨LocSame.refl _, ?_⟩
  simp -implicitDefEqProofs [aw_skip, aw_region, aw_seq, aw_block, aw_cond, aw_exit, aw_ret, kq_nil, kq_seq, kq_seq_ret, kq_seq_exit, kq_block, kq_block_ret, kq_block_exit, kq_loop, kq_loop_ret, kq_loop_exit, awOps_nil, awOps_cons, awOps_guardE, nx_eq, awOp, ev_k, ev_0, ev_1, ev_2, ev_3, ev_4, ev_5, ev_6, ev_7, ev_8, set_0, set_1, set_2, set_3, set_4, set_5, set_6, set_7, set_8, -List.set_cons_succ, -List.set_cons_zero, A.ok, A.val, setSl, wrapG, guardB, getB, pickA, binA, binC, binD, cmpD, isCmp, unA, unD, lenA, AOp.total, kills, litB, FinQ, resOks, resOk, resA, resList, resOne, A.thaw, C.thaw, A.fits, As.fits, C.fits, evs, oks, callArgs, A.pure, C.pure, A.re, C.re, fieldAddrA, loadC, cut, A.cells, C.rows?, getOb, newOb, setOb, storeC, splice, Ob.re, Cs.fits, partsA, partsOk, parts2A, parts2Ok, fillC, fillRows, optInt, optOk, sliceA, clipC, optK_some, storeK_some, Option.map_some, toDs, C.toD, spliceD, appendA, capsOf, srcRows, allLen_nil_iff, allLen_cons_iff, allLen_append_iff, dropC, Obs.fits, eqCs, eqD]
  refine qcall_read cedd rfl hf (.cons (.agg (.cons (.tree (i := 2) rfl (by simp)) (.cons .d .nil))) (.cons (.agg (fzCs_id [.sl (bytesRows d.rest), .bool d.broken])) .nil)) ?_
  simp -implicitDefEqProofs [aw_skip, aw_region, aw_seq, aw_block, aw_cond, aw_exit, aw_ret, kq_nil, kq_seq, kq_seq_ret, kq_seq_exit, kq_block, kq_block_ret, kq_block_exit, kq_loop, kq_loop_ret, kq_loop_exit, awOps_nil, awOps_cons, awOps_guardE, nx_eq, awOp, ev_k, ev_0, ev_1, ev_2, ev_3, ev_4, ev_5, ev_6, ev_7, ev_8, set_0, set_1, set_2, set_3, set_4, set_5, set_6, set_7, set_8, -List.set_cons_succ, -List.set_cons_zero, A.ok, A.val, setSl, wrapG, guardB, getB, pickA, binA, binC, binD, cmpD, isCmp, unA, unD, lenA, AOp.total, kills, litB, FinQ, resOks, resOk, resA, resList, resOne, A.thaw, C.thaw, A.fits, As.fits, C.fits, evs, oks, callArgs, A.pure, C.pure, A.re, C.re, fieldAddrA, loadC, cut, A.cells, C.rows?, getOb, newOb, setOb, storeC, splice, Ob.re, Cs.fits, partsA, partsOk, parts2A, parts2Ok, fillC, fillRows, optInt, optOk, sliceA, clipC, optK_some, storeK_some, Option.map_some, toDs, C.toD, spliceD, appendA, capsOf, srcRows, allLen_nil_iff, allLen_cons_iff, allLen_append_iff, dropC, Obs.fits, eqCs, eqD]
  refine call_same (ctb _) (by simp [Ob.re, C.re]) rfl hf ?_
  simp -implicitDefEqProofs [aw_skip, aw_region, aw_seq, aw_block, aw_cond, aw_exit, aw_ret, kq_nil, kq_seq, kq_seq_ret, kq_seq_exit, kq_block, kq_block_ret, kq_block_exit, kq_loop, kq_loop_ret, kq_loop_exit, awOps_nil, awOps_cons, awOps_guardE, nx_eq, awOp, ev_k, ev_0, ev_1, ev_2, ev_3, ev_4, ev_5, ev_6, ev_7, ev_8, set_0, set_1, set_2, set_3, set_4, set_5, set_6, set_7, set_8, -List.set_cons_succ, -List.set_cons_zero, A.ok, A.val, setSl, wrapG, guardB, getB, pickA, binA, binC, binD, cmpD, isCmp, unA, unD, lenA, AOp.total, kills, litB, FinQ, resOks, resOk, resA, resList, resOne, A.thaw, C.thaw, A.fits, As.fits, C.fits, evs, oks, callArgs, A.pure, C.pure, A.re, C.re, fieldAddrA, loadC, cut, A.cells, C.rows?, getOb, newOb, setOb, storeC, splice, Ob.re, Cs.fits, partsA, partsOk, parts2A, parts2Ok, fillC, fillRows, optInt, optOk, sliceA, clipC, optK_some, storeK_some, Option.map_some, toDs, C.toD, spliceD, appendA, capsOf, srcRows, allLen_nil_iff, allLen_cons_iff, allLen_append_iff, dropC, Obs.fits, eqCs, eqD]
  refine qcall_read (eqByteS_calls b (by omega) []) rfl hf (.cons (.c (.tree (i := 4) rfl (by simp))) (.cons (.c .d) .nil)) ?_
  simp -implicitDefEqProofs [aw_skip, aw_region, aw_seq, aw_block, aw_cond, aw_exit, aw_ret, kq_nil, kq_seq, kq_seq_ret, kq_seq_exit, kq_block, kq_block_ret, kq_block_exit, kq_loop, kq_loop_ret, kq_loop_exit, awOps_nil, awOps_cons, awOps_guardE, nx_eq, awOp, ev_k, ev_0, ev_1, ev_2, ev_3, ev_4, ev_5, ev_6, ev_7, ev_8, set_0, set_1, set_2, set_3, set_4, set_5, set_6, set_7, set_8, -List.set_cons_succ, -List.set_cons_zero, A.ok, A.val, setSl, wrapG, guardB, getB, pickA, binA, binC, binD, cmpD, isCmp, unA, unD, lenA, AOp.total, kills, litB, FinQ, resOks, resOk, resA, resList, resOne, A.thaw, C.thaw, A.fits, As.fits, C.fits, evs, oks, callArgs, A.pure, C.pure, A.re, C.re, fieldAddrA, loadC, cut, A.cells, C.rows?, getOb, newOb, setOb, storeC, splice, Ob.re, Cs.fits, partsA, partsOk, parts2A, parts2Ok, fillC, fillRows, optInt, optOk, sliceA, clipC, optK_some, storeK_some, Option.map_some, toDs, C.toD, spliceD, appendA, capsOf, srcRows, allLen_nil_iff, allLen_cons_iff, allLen_append_iff, dropC, Obs.fits, eqCs, eqD]
  refine call_loc (J := [2]) (markDecoder_calls d 1 (by omega) (by omega) vd) (fun r H' ⟨h1, h2⟩ => by subst h1; subst h2; exact ⟨rfl, rfl⟩) rfl (.cons (.agg (fzCs_id [.v vd, .bool d.broken])) (.cons (.c .d) .nil)) (by simp) rfl rfl ?_
  rintro _ _ ⟨rfl, rfl⟩ _
  simp -implicitDefEqProofs [putAll, aw_skip, aw_region, aw_seq, aw_block, aw_cond, aw_exit, aw_ret, kq_nil, kq_seq, kq_seq_ret, kq_seq_exit, kq_block, kq_block_ret, kq_block_exit, kq_loop, kq_loop_ret, kq_loop_exit, awOps_nil, awOps_cons, awOps_guardE, nx_eq, awOp, ev_k, ev_0, ev_1, ev_2, ev_3, ev_4, ev_5, ev_6, ev_7, ev_8, set_0, set_1, set_2, set_3, set_4, set_5, set_6, set_7, set_8, -List.set_cons_succ, -List.set_cons_zero, A.ok, A.val, setSl, wrapG, guardB, getB, pickA, binA, binC, binD, cmpD, isCmp, unA, unD, lenA, AOp.total, kills, litB, FinQ, resOks, resOk, resA, resList, resOne, A.thaw, C.thaw, A.fits, As.fits, C.fits, evs, oks, callArgs, A.pure, C.pure, A.re, C.re, fieldAddrA, loadC, cut, A.cells, C.rows?, getOb, newOb, setOb, storeC, splice, Ob.re, Cs.fits, partsA, partsOk, parts2A, parts2Ok, fillC, fillRows, optInt, optOk, sliceA, clipC, optK_some, storeK_some, Option.map_some, toDs, C.toD, spliceD, appendA, capsOf, srcRows, allLen_nil_iff, allLen_cons_iff, allLen_append_iff, dropC, Obs.fits, eqCs, eqD]
  refine call_loc (J := [4]) (markByteS_calls b (1 + d.rest.length) (by omega) (by omega) vb) (fun r H' ⟨h1, h2⟩ => by subst h1; subst h2; exact ⟨rfl, rfl⟩) rfl (.cons (.c .d) (.cons (.c .d) .nil)) (by simp) rfl rfl ?_
  rintro _ _ ⟨rfl, rfl⟩ _
  have hp1 : ¬ (1 + (d.rest.length : Int) + (b.length : Int) < 0) := by omega
  have hp2 : ¬ (1 + (w.rest.length : Int) < 0) := by omega
  have hp3 : ¬ (1 + (w.rest.length : Int) + 2 * (fs.length : Int) < 0) := by omega
  simp -implicitDefEqProofs [putAll, hp1, aw_skip, aw_region, aw_seq, aw_block, aw_cond, aw_exit, aw_ret, kq_nil, kq_seq, kq_seq_ret, kq_seq_exit, kq_block, kq_block_ret, kq_block_exit, kq_loop, kq_loop_ret, kq_loop_exit, awOps_nil, awOps_cons, awOps_guardE, nx_eq, awOp, ev_k, ev_0, ev_1, ev_2, ev_3, ev_4, ev_5, ev_6, ev_7, ev_8, set_0, set_1, set_2, set_3, set_4, set_5, set_6, set_7, set_8, -List.set_cons_succ, -List.set_cons_zero, A.ok, A.val, setSl, wrapG, guardB, getB, pickA, binA, binC, binD, cmpD, isCmp, unA, unD, lenA, AOp.total, kills, litB, FinQ, resOks, resOk, resA, resList, resOne, A.thaw, C.thaw, A.fits, As.fits, C.fits, evs, oks, callArgs, A.pure, C.pure, A.re, C.re, fieldAddrA, loadC, cut, A.cells, C.rows?, getOb, newOb, setOb, storeC, splice, Ob.re, Cs.fits, partsA, partsOk, parts2A, parts2Ok, fillC, fillRows, optInt, optOk, sliceA, clipC, optK_some, storeK_some, Option.map_some, toDs, C.toD, spliceD, appendA, capsOf, srcRows, allLen_nil_iff, allLen_cons_iff, allLen_append_iff, dropC, Obs.fits, eqCs, eqD]
  refine qcall_read ced rfl hf (zw rfl) ?_
  simp -implicitDefEqProofs [hp1, aw_skip, aw_region, aw_seq, aw_block, aw_cond, aw_exit, aw_ret, kq_nil, kq_seq, kq_seq_ret, kq_seq_exit, kq_block, kq_block_ret, kq_block_exit, kq_loop, kq_loop_ret, kq_loop_exit, awOps_nil, awOps_cons, awOps_guardE, nx_eq, awOp, ev_k, ev_0, ev_1, ev_2, ev_3, ev_4, ev_5, ev_6, ev_7, ev_8, set_0, set_1, set_2, set_3, set_4, set_5, set_6, set_7, set_8, -List.set_cons_succ, -List.set_cons_zero, A.ok, A.val, setSl, wrapG, guardB, getB, pickA, binA, binC, binD, cmpD, isCmp, unA, unD, lenA, AOp.total, kills, litB, FinQ, resOks, resOk, resA, resList, resOne, A.thaw, C.thaw, A.fits, As.fits, C.fits, evs, oks, callArgs, A.pure, C.pure, A.re, C.re, fieldAddrA, loadC, cut, A.cells, C.rows?, getOb, newOb, setOb, storeC, splice, Ob.re, Cs.fits, partsA, partsOk, parts2A, parts2Ok, fillC, fillRows, optInt, optOk, sliceA, clipC, optK_some, storeK_some, Option.map_some, toDs, C.toD, spliceD, appendA, capsOf, srcRows, allLen_nil_iff, allLen_cons_iff, allLen_append_iff, dropC, Obs.fits, eqCs, eqD]
  refine qcall_read cef rfl hf (zf rfl) ?_
  simp -implicitDefEqProofs [aw_skip, aw_region, aw_seq, aw_block, aw_cond, aw_exit, aw_ret, kq_nil, kq_seq, kq_seq_ret, kq_seq_exit, kq_block, kq_block_ret, kq_block_exit, kq_loop, kq_loop_ret, kq_loop_exit, awOps_nil, awOps_cons, awOps_guardE, nx_eq, awOp, ev_k, ev_0, ev_1, ev_2, ev_3, ev_4, ev_5, ev_6, ev_7, ev_8, set_0, set_1, set_2, set_3, set_4, set_5, set_6, set_7, set_8, -List.set_cons_succ, -List.set_cons_zero, A.ok, A.val, setSl, wrapG, guardB, getB, pickA, binA, binC, binD, cmpD, isCmp, unA, unD, lenA, AOp.total, kills, litB, FinQ, resOks, resOk, resA, resList, resOne, A.thaw, C.thaw, A.fits, As.fits, C.fits, evs, oks, callArgs, A.pure, C.pure, A.re, C.re, fieldAddrA, loadC, cut, A.cells, C.rows?, getOb, newOb, setOb, storeC, splice, Ob.re, Cs.fits, partsA, partsOk, parts2A, parts2Ok, fillC, fillRows, optInt, optOk, sliceA, clipC, optK_some, storeK_some, Option.map_some, toDs, C.toD, spliceD, appendA, capsOf, srcRows, allLen_nil_iff, allLen_cons_iff, allLen_append_iff, dropC, Obs.fits, eqCs, eqD]
  refine call_loc (J := [5]) (markDecoder_calls w 1 (by omega) (by omega) v1) (fun r H' ⟨h1, h2⟩ => by subst h1; subst h2; exact ⟨rfl, rfl⟩) rfl (.cons (.agg (fzCs_id [.v v1, .bool w.broken])) (.cons (.c .d) .nil)) (by simp) rfl rfl ?_
  rintro _ _ ⟨rfl, rfl⟩ _
  simp -implicitDefEqProofs [putAll, aw_skip, aw_region, aw_seq, aw_block, aw_cond, aw_exit, aw_ret, kq_nil, kq_seq, kq_seq_ret, kq_seq_exit, kq_block, kq_block_ret, kq_block_exit, kq_loop, kq_loop_ret, kq_loop_exit, awOps_nil, awOps_cons, awOps_guardE, nx_eq, awOp, ev_k, ev_0, ev_1, ev_2, ev_3, ev_4, ev_5, ev_6, ev_7, ev_8, set_0, set_1, set_2, set_3, set_4, set_5, set_6, set_7, set_8, -List.set_cons_succ, -List.set_cons_zero, A.ok, A.val, setSl, wrapG, guardB, getB, pickA, binA, binC, binD, cmpD, isCmp, unA, unD, lenA, AOp.total, kills, litB, FinQ, resOks, resOk, resA, resList, resOne, A.thaw, C.thaw, A.fits, As.fits, C.fits, evs, oks, callArgs, A.pure, C.pure, A.re, C.re, fieldAddrA, loadC, cut, A.cells, C.rows?, getOb, newOb, setOb, storeC, splice, Ob.re, Cs.fits, partsA, partsOk, parts2A, parts2Ok, fillC, fillRows, optInt, optOk, sliceA, clipC, optK_some, storeK_some, Option.map_some, toDs, C.toD, spliceD, appendA, capsOf, srcRows, allLen_nil_iff, allLen_cons_iff, allLen_append_iff, dropC, Obs.fits, eqCs, eqD]
  refine call_loc (J := [6]) (markFrameS_calls fs (1 + w.rest.length) (by omega) (by omega) v2) (fun r H' ⟨h1, h2⟩ => by subst h1; subst h2; exact ⟨rfl, rfl⟩) rfl (.cons (.c .d) (.cons (.c .d) .nil)) (by simp) rfl rfl ?_
  rintro _ _ ⟨rfl, rfl⟩ _
  simp -implicitDefEqProofs [putAll, aw_skip, aw_region, aw_seq, aw_block, aw_cond, aw_exit, aw_ret, kq_nil, kq_seq, kq_seq_ret, kq_seq_exit, kq_block, kq_block_ret, kq_block_exit, kq_loop, kq_loop_ret, kq_loop_exit, awOps_nil, awOps_cons, awOps_guardE, nx_eq, awOp, ev_k, ev_0, ev_1, ev_2, ev_3, ev_4, ev_5, ev_6, ev_7, ev_8, set_0, set_1, set_2, set_3, set_4, set_5, set_6, set_7, set_8, -List.set_cons_succ, -List.set_cons_zero, A.ok, A.val, setSl, wrapG, guardB, getB, pickA, binA, binC, binD, cmpD, isCmp, unA, unD, lenA, AOp.total, kills, litB, FinQ, resOks, resOk, resA, resList, resOne, A.thaw, C.thaw, A.fits, As.fits, C.fits, evs, oks, callArgs, A.pure, C.pure, A.re, C.re, fieldAddrA, loadC, cut, A.cells, C.rows?, getOb, newOb, setOb, storeC, splice, Ob.re, Cs.fits, partsA, partsOk, parts2A, parts2Ok, fillC, fillRows, optInt, optOk, sliceA, clipC, optK_some, storeK_some, Option.map_some, toDs, C.toD, spliceD, appendA, capsOf, srcRows, allLen_nil_iff, allLen_cons_iff, allLen_append_iff, dropC, Obs.fits, eqCs, eqD]
  have zh : ∀ {H : Heap}, H[5]? = some (.tree v1 (mBytes 1 w.rest.length)) → FzL H [] [.agg [.d (.v v1), .d (.bool w.broken)], .c (.d (.int .i64 1))] [.agg [.d (.sl (mBytes 1 w.rest.length)), .d (.bool w.broken)], .c (.d (.int .i64 1))] := fun h =>
    .cons (.agg (.cons (.tree (i := 5) h (by simp)) (.cons .d .nil))) (.cons (.c .d) .nil)
  have zg : ∀ {H : Heap}, H[6]? = some (.tree v2 (mFrames (1 + w.rest.length) fs.length)) → FzL H [] [.c (.d (.v v2)), .c (.d (.int .i64 (1 + w.rest.length)))] [.c (.d (.sl (mFrames (1 + w.rest.length) fs.length))), .c (.d (.int .i64 (1 + w.rest.length)))] := fun h =>
    .cons (.c (.tree (i := 6) h (by simp))) (.cons (.c .d) .nil)
  refine qcall_read (heldDecoder_calls w.rest.length w.broken 1 (by omega) (by omega) []) rfl hf (zh rfl) ?_
  simp -implicitDefEqProofs [hp2, aw_skip, aw_region, aw_seq, aw_block, aw_cond, aw_exit, aw_ret, kq_nil, kq_seq, kq_seq_ret, kq_seq_exit, kq_block, kq_block_ret, kq_block_exit, kq_loop, kq_loop_ret, kq_loop_exit, awOps_nil, awOps_cons, awOps_guardE, nx_eq, awOp, ev_k, ev_0, ev_1, ev_2, ev_3, ev_4, ev_5, ev_6, ev_7, ev_8, set_0, set_1, set_2, set_3, set_4, set_5, set_6, set_7, set_8, -List.set_cons_succ, -List.set_cons_zero, A.ok, A.val, setSl, wrapG, guardB, getB, pickA, binA, binC, binD, cmpD, isCmp, unA, unD, lenA, AOp.total, kills, litB, FinQ, resOks, resOk, resA, resList, resOne, A.thaw, C.thaw, A.fits, As.fits, C.fits, evs, oks, callArgs, A.pure, C.pure, A.re, C.re, fieldAddrA, loadC, cut, A.cells, C.rows?, getOb, newOb, setOb, storeC, splice, Ob.re, Cs.fits, partsA, partsOk, parts2A, parts2Ok, fillC, fillRows, optInt, optOk, sliceA, clipC, optK_some, storeK_some, Option.map_some, toDs, C.toD, spliceD, appendA, capsOf, srcRows, allLen_nil_iff, allLen_cons_iff, allLen_append_iff, dropC, Obs.fits, eqCs, eqD]
  refine qcall_read (heldFrameS_calls fs.length (1 + w.rest.length) (by omega) (by omega) []) rfl hf (zg rfl) ?_
  simp -implicitDefEqProofs [hp3, aw_skip, aw_region, aw_seq, aw_block, aw_cond, aw_exit, aw_ret, kq_nil, kq_seq, kq_seq_ret, kq_seq_exit, kq_block, kq_block_ret, kq_block_exit, kq_loop, kq_loop_ret, kq_loop_exit, awOps_nil, awOps_cons, awOps_guardE, nx_eq, awOp, ev_k, ev_0, ev_1, ev_2, ev_3, ev_4, ev_5, ev_6, ev_7, ev_8, set_0, set_1, set_2, set_3, set_4, set_5, set_6, set_7, set_8, -List.set_cons_succ, -List.set_cons_zero, A.ok, A.val, setSl, wrapG, guardB, getB, pickA, binA, binC, binD, cmpD, isCmp, unA, unD, lenA, AOp.total, kills, litB, FinQ, resOks, resOk, resA, resList, resOne, A.thaw, C.thaw, A.fits, As.fits, C.fits, evs, oks, callArgs, A.pure, C.pure, A.re, C.re, fieldAddrA, loadC, cut, A.cells, C.rows?, getOb, newOb, setOb, storeC, splice, Ob.re, Cs.fits, partsA, partsOk, parts2A, parts2Ok, fillC, fillRows, optInt, optOk, sliceA, clipC, optK_some, storeK_some, Option.map_some, toDs, C.toD, spliceD, appendA, capsOf, srcRows, allLen_nil_iff, allLen_cons_iff, allLen_append_iff, dropC, Obs.fits, eqCs, eqD]
  refine call_same (ctd _) (by simp [Ob.re, C.re]) rfl hf ⟨LocSame.refl _, ?_⟩
  simp -implicitDefEqProofs [aw_skip, aw_region, aw_seq, aw_block, aw_cond, aw_exit, aw_ret, kq_nil, kq_seq, kq_seq_ret, kq_seq_exit, kq_block, kq_block_ret, kq_block_exit, kq_loop, kq_loop_ret, kq_loop_exit, awOps_nil, awOps_cons, awOps_guardE, nx_eq, awOp, ev_k, ev_0, ev_1, ev_2, ev_3, ev_4, ev_5, ev_6, ev_7, ev_8, set_0, set_1, set_2, set_3, set_4, set_5, set_6, set_7, set_8, -List.set_cons_succ, -List.set_cons_zero, A.ok, A.val, setSl, wrapG, guardB, getB, pickA, binA, binC, binD, cmpD, isCmp, unA, unD, lenA, AOp.total, kills, litB, FinQ, resOks, resOk, resA, resList, resOne, A.thaw, C.thaw, A.fits, As.fits, C.fits, evs, oks, callArgs, A.pure, C.pure, A.re, C.re, fieldAddrA, loadC, cut, A.cells, C.rows?, getOb, newOb, setOb, storeC, splice, Ob.re, Cs.fits, partsA, partsOk, parts2A, parts2Ok, fillC, fillRows, optInt, optOk, sliceA, clipC, optK_some, storeK_some, Option.map_some, toDs, C.toD, spliceD, appendA, capsOf, srcRows, allLen_nil_iff, allLen_cons_iff, allLen_append_iff, dropC, Obs.fits, eqCs, eqD]
  refine call_same (ctb _) (by simp [Ob.re, C.re]) rfl hf ?_
  simp -implicitDefEqProofs [aw_skip, aw_region, aw_seq, aw_block, aw_cond, aw_exit, aw_ret, kq_nil, kq_seq, kq_seq_ret, kq_seq_exit, kq_block, kq_block_ret, kq_block_exit, kq_loop, kq_loop_ret, kq_loop_exit, awOps_nil, awOps_cons, awOps_guardE, nx_eq, awOp, ev_k, ev_0, ev_1, ev_2, ev_3, ev_4, ev_5, ev_6, ev_7, ev_8, set_0, set_1, set_2, set_3, set_4, set_5, set_6, set_7, set_8, -List.set_cons_succ, -List.set_cons_zero, A.ok, A.val, setSl, wrapG, guardB, getB, pickA, binA, binC, binD, cmpD, isCmp, unA, unD, lenA, AOp.total, kills, litB, FinQ, resOks, resOk, resA, resList, resOne, A.thaw, C.thaw, A.fits, As.fits, C.fits, evs, oks, callArgs, A.pure, C.pure, A.re, C.re, fieldAddrA, loadC, cut, A.cells, C.rows?, getOb, newOb, setOb, storeC, splice, Ob.re, Cs.fits, partsA, partsOk, parts2A, parts2Ok, fillC, fillRows, optInt, optOk, sliceA, clipC, optK_some, storeK_some, Option.map_some, toDs, C.toD, spliceD, appendA, capsOf, srcRows, allLen_nil_iff, allLen_cons_iff, allLen_append_iff, dropC, Obs.fits, eqCs, eqD]
  refine call_same (ci2 _) (by simp [Ob.re, C.re]) rfl hf ?_
  simp -implicitDefEqProofs [aw_skip, aw_region, aw_seq, aw_block, aw_cond, aw_exit, aw_ret, kq_nil, kq_seq, kq_seq_ret, kq_seq_exit, kq_block, kq_block_ret, kq_block_exit, kq_loop, kq_loop_ret, kq_loop_exit, awOps_nil, awOps_cons, awOps_guardE, nx_eq, awOp, ev_k, ev_0, ev_1, ev_2, ev_3, ev_4, ev_5, ev_6, ev_7, ev_8, set_0, set_1, set_2, set_3, set_4, set_5, set_6, set_7, set_8, -List.set_cons_succ, -List.set_cons_zero, A.ok, A.val, setSl, wrapG, guardB, getB, pickA, binA, binC, binD, cmpD, isCmp, unA, unD, lenA, AOp.total, kills, litB, FinQ, resOks, resOk, resA, resList, resOne, A.thaw, C.thaw, A.fits, As.fits, C.fits, evs, oks, callArgs, A.pure, C.pure, A.re, C.re, fieldAddrA, loadC, cut, A.cells, C.rows?, getOb, newOb, setOb, storeC, splice, Ob.re, Cs.fits, partsA, partsOk, parts2A, parts2Ok, fillC, fillRows, optInt, optOk, sliceA, clipC, optK_some, storeK_some, Option.map_some, toDs, C.toD, spliceD, appendA, capsOf, srcRows, allLen_nil_iff, allLen_cons_iff, allLen_append_iff, dropC, Obs.fits, eqCs, eqD]
  refine qcall_read ced rfl hf (.cons (.agg (fzCs_id [.sl (bytesRows w.rest), .bool w.broken])) (.cons (.agg (fzCs_id [.sl (bytesRows w.rest), .bool w.broken])) .nil)) ?_
  simp -implicitDefEqProofs [aw_skip, aw_region, aw_seq, aw_block, aw_cond, aw_exit, aw_ret, kq_nil, kq_seq, kq_seq_ret, kq_seq_exit, kq_block, kq_block_ret, kq_block_exit, kq_loop, kq_loop_ret, kq_loop_exit, awOps_nil, awOps_cons, awOps_guardE, nx_eq, awOp, ev_k, ev_0, ev_1, ev_2, ev_3, ev_4, ev_5, ev_6, ev_7, ev_8, set_0, set_1, set_2, set_3, set_4, set_5, set_6, set_7, set_8, -List.set_cons_succ, -List.set_cons_zero, A.ok, A.val, setSl, wrapG, guardB, getB, pickA, binA, binC, binD, cmpD, isCmp, unA, unD, lenA, AOp.total, kills, litB, FinQ, resOks, resOk, resA, resList, resOne, A.thaw, C.thaw, A.fits, As.fits, C.fits, evs, oks, callArgs, A.pure, C.pure, A.re, C.re, fieldAddrA, loadC, cut, A.cells, C.rows?, getOb, newOb, setOb, storeC, splice, Ob.re, Cs.fits, partsA, partsOk, parts2A, parts2Ok, fillC, fillRows, optInt, optOk, sliceA, clipC, optK_some, storeK_some, Option.map_some, toDs, C.toD, spliceD, appendA, capsOf, srcRows, allLen_nil_iff, allLen_cons_iff, allLen_append_iff, dropC, Obs.fits, eqCs, eqD]
  refine qcall_read cef rfl hf (.cons (.c .d) (.cons (.c .d) .nil)) ?_
  simp -implicitDefEqProofs [aw_skip, aw_region, aw_seq, aw_block, aw_cond, aw_exit, aw_ret, kq_nil, kq_seq, kq_seq_ret, kq_seq_exit, kq_block, kq_block_ret, kq_block_exit, kq_loop, kq_loop_ret, kq_loop_exit, awOps_nil, awOps_cons, awOps_guardE, nx_eq, awOp, ev_k, ev_0, ev_1, ev_2, ev_3, ev_4, ev_5, ev_6, ev_7, ev_8, set_0, set_1, set_2, set_3, set_4, set_5, set_6, set_7, set_8, -List.set_cons_succ, -List.set_cons_zero, A.ok, A.val, setSl, wrapG, guardB, getB, pickA, binA, binC, binD, cmpD, isCmp, unA, unD, lenA, AOp.total, kills, litB, FinQ, resOks, resOk, resA, resList, resOne, A.thaw, C.thaw, A.fits, As.fits, C.fits, evs, oks, callArgs, A.pure, C.pure, A.re, C.re, fieldAddrA, loadC, cut, A.cells, C.rows?, getOb, newOb, setOb, storeC, splice, Ob.re, Cs.fits, partsA, partsOk, parts2A, parts2Ok, fillC, fillRows, optInt, optOk, sliceA, clipC, optK_some, storeK_some, Option.map_some, toDs, C.toD, spliceD, appendA, capsOf, srcRows, allLen_nil_iff, allLen_cons_iff, allLen_append_iff, dropC, Obs.fits, eqCs, eqD]
  refine qcall_read (heldDecoder_calls w.rest.length w.broken 1 (by omega) (by omega) []) rfl hf (zh rfl) ?_
  simp -implicitDefEqProofs [hp2, aw_skip, aw_region, aw_seq, aw_block, aw_cond, aw_exit, aw_ret, kq_nil, kq_seq, kq_seq_ret, kq_seq_exit, kq_block, kq_block_ret, kq_block_exit, kq_loop, kq_loop_ret, kq_loop_exit, awOps_nil, awOps_cons, awOps_guardE, nx_eq, awOp, ev_k, ev_0, ev_1, ev_2, ev_3, ev_4, ev_5, ev_6, ev_7, ev_8, set_0, set_1, set_2, set_3, set_4, set_5, set_6, set_7, set_8, -List.set_cons_succ, -List.set_cons_zero, A.ok, A.val, setSl, wrapG, guardB, getB, pickA, binA, binC, binD, cmpD, isCmp, unA, unD, lenA, AOp.total, kills, litB, FinQ, resOks, resOk, resA, resList, resOne, A.thaw, C.thaw, A.fits, As.fits, C.fits, evs, oks, callArgs, A.pure, C.pure, A.re, C.re, fieldAddrA, loadC, cut, A.cells, C.rows?, getOb, newOb, setOb, storeC, splice, Ob.re, Cs.fits, partsA, partsOk, parts2A, parts2Ok, fillC, fillRows, optInt, optOk, sliceA, clipC, optK_some, storeK_some, Option.map_some, toDs, C.toD, spliceD, appendA, capsOf, srcRows, allLen_nil_iff, allLen_cons_iff, allLen_append_iff, dropC, Obs.fits, eqCs, eqD]
  refine qcall_read (heldFrameS_calls fs.length (1 + w.rest.length) (by omega) (by omega) []) rfl hf (zg rfl) ?_
  simp -implicitDefEqProofs [hp3, aw_skip, aw_region, aw_seq, aw_block, aw_cond, aw_exit, aw_ret, kq_nil, kq_seq, kq_seq_ret, kq_seq_exit, kq_block, kq_block_ret, kq_block_exit, kq_loop, kq_loop_ret, kq_loop_exit, awOps_nil, awOps_cons, awOps_guardE, nx_eq, awOp, ev_k, ev_0, ev_1, ev_2, ev_3, ev_4, ev_5, ev_6, ev_7, ev_8, set_0, set_1, set_2, set_3, set_4, set_5, set_6, set_7, set_8, -List.set_cons_succ, -List.set_cons_zero, A.ok, A.val, setSl, wrapG, guardB, getB, pickA, binA, binC, binD, cmpD, isCmp, unA, unD, lenA, AOp.total, kills, litB, FinQ, resOks, resOk, resA, resList, resOne, A.thaw, C.thaw, A.fits, As.fits, C.fits, evs, oks, callArgs, A.pure, C.pure, A.re, C.re, fieldAddrA, loadC, cut, A.cells, C.rows?, getOb, newOb, setOb, storeC, splice, Ob.re, Cs.fits, partsA, partsOk, parts2A, parts2Ok, fillC, fillRows, optInt, optOk, sliceA, clipC, optK_some, storeK_some, Option.map_some, toDs, C.toD, spliceD, appendA, capsOf, srcRows, allLen_nil_iff, allLen_cons_iff, allLen_append_iff, dropC, Obs.fits, eqCs, eqD]
theorem law_run6 (rows : List (List D)) (hr : HasTys Try.prog (#[45, 25] : Array TypeId).toList rows) : ACalls Try.prog 6 (argsA Try.prog (#[45, 25] : Array TypeId).toList rows) [] (fun r _ => r = .c (.d (.bool true))) := by
  obtain ⟨r, rs, rfl, h1, h2⟩ := hr.cons
  obtain ⟨r', rs, rfl, h3, h4⟩ := h2.cons
  obtain rfl := h4.nil
  obtain ⟨d, rfl, hs⟩ := dec_ty h1
  obtain ⟨s, rfl, hs'⟩ := bytes_ty h3
  simp only [argsA, argA, Try.underlying45, Try.underlying25, List.headD_cons]
  exact fxLaw_calls d s hs hs'
namespace fnExactFeedDecoder
theorem own : ownKnob Try.prog.godebug = none := by kernel_rfl
theorem contract (H : Type) (enc : TypeId × Value → H) (W : World) (base : Nat) (args : Array Value) (ds gs : List (DataW H)) (before : List MemPlace)
    (hval : ∀ (j : Nat) t v, Try.f6.params[j]? = some t → args[j]? = some v → Value.okWide Try.prog W .any base t v)
    (hW : DataW.Whole enc Try.prog Try.f6.params.toList Rows.fnExactFeedDecoderSpec.vars false W args.toList ds gs before)
    (hw : (DataW.weightsEach Try.prog (Try.f6.params.toList ++ Rows.fnExactFeedDecoderSpec.plain.varTypes Try.prog) (ds ++ gs)).all (· ≤ reachBytes) = true) :
    Calls Try.prog 6 args W fun e W' => ∃ v, e = .returned v ∧ Rows.fnExactFeedDecoderSpec.post enc Try.prog Try.f6 false true false false W args v W' := by
  refine law_contract (L := [5, 25, 4, 45]) (tb := 4) (by kernel_rfl) (by kernel_rfl) (by kernel_rfl) rfl ?_ (by kernel_rfl) Try.underlying4 ?_ W base args ds gs before hval hW hw
  · intro ds hl
    match ds, hl with
    | [d0, d1], _ => rfl
  · intro rows hr
    rw [Try.params6] at hr ⊢
    exact law_run6 rows hr

theorem lifted (os : Os) (started : os.Started) (H : Type) (enc : TypeId × Value → H) :
    ReturnsInHanded {} Try.checked os 6 .any (Rows.fnExactFeedDecoderSpec.pre6 enc Try.prog Try.f6 Rows.fnExactFeedDecoderRow.domain false) (Rows.fnExactFeedDecoderSpec.post enc Try.prog Try.f6 false true false false) := by
  refine returnsInHanded_of_change_sized (C := Try.checked) own started (by kernel_rfl) Try.func6
    (ChangeSpec.witness6 (enc := enc) (C := Try.checked) false ⟨#[], #[.agg #[.slice none 0 0, .bool false], .slice none 0 0], []⟩ 8 (by kernel_rfl) (by kernel_rfl) (by kernel_rfl) (by kernel_rfl)) ?_
  intro W base args ds gs before hval hW _ hw _
  exact contract H enc W base args ds gs before hval hW hw

theorem proved : Rows.FnExactFeedDecoderSaid :=
  OpenClaim.holds_of_wide 6 Try.f6 rfl rfl rfl rfl rfl rfl rfl ⟨rfl, rfl, rfl, rfl, rfl⟩ rfl rfl rfl rfl rfl (by kernel_rfl) Try.func6 (by kernel_rfl)
    (of_decide_eq_true (by kernel_rfl)) (by unfold Func.isWrapper; first | (rw [if_pos (by decide +kernel)]; kernel_rfl) | (rw [if_neg (by decide +kernel)]; exact ⟨rfl, rfl⟩))
    (fun os started H enc _ => lifted os started H enc)
end fnExactFeedDecoder

end Go.Proofs.Ytamaaiabbganjaa
