/-
  Frames: bytes are joined, and frames are taken from them.
  Conditions: none.
-/
import Derived.Test.YtamaaiabbganjaaFrB
import Derived.Test.YtamaaiabbganjaaGrow
open Go Go.AM Go.Proofs
namespace Go.Proofs.Ytamaaiabbganjaa
open Go.ChangeShapes Go.WideShapes Go.ChangeAt Go.RowKit
set_option linter.unusedVariables false
set_option linter.unusedSimpArgs false
set_option maxRecDepth 100000
-- 48 slices.Clone[[]byte,byte] params 1 ntmps 8
def ac48 : Cd := .seq (.region [⟨(some 2), .mv (.k (.c (.full []))), none⟩] [2])
  (.seq (.seq (.region [⟨(some 3), .mv (.t 0), none⟩,
        ⟨(some 4), .nilSl false (.t 3), none⟩] [3])
    (.cond (.t 4)
      (.seq (.region [⟨(some 2), .mv (.k (.c (.full []))), none⟩] [0, 4])
      (.ret))
      (.skip)))
  (.seq (.region [⟨(some 5), .buildSlice 1 0 [(.int .u8 0)] [], none⟩,
      ⟨(some 6), .mv (.t 0), none⟩,
      ⟨(some 7), .append false 1 (.t 5) (.t 6), none⟩,
      ⟨(some 2), .mv (.t 7), none⟩] [0, 4, 5, 6, 7])
  (.ret)))
theorem ac48_ok : cFunc Try.prog [] [(0, [2], []), (1, [3], []), (2, [0, 4], []), (3, [0, 4, 5, 6, 7], [])] Try.f48 = some (ac48, [.tmp 2], 8) := by kernel_rfl
-- 49 slices.Concat[[]byte,byte] params 1 ntmps 36
-- loop head live: [0, 3, 9, 10, 11]
-- loop head live: [6, 25, 26, 27]
def ac49 : Cd := .seq (.region [⟨(some 2), .mv (.k (.c (.full []))), none⟩] [2])
  (.seq (.region [⟨(some 3), .mv (.k (.c (.d (.int .i64 0)))), none⟩] [])
  (.seq (.seq (.region [⟨(some 9), .mv (.t 0), none⟩,
        ⟨(some 10), .len 1 (.t 9), none⟩,
        ⟨(some 11), .mv (.k (.c (.d (.int .i64 0)))), none⟩] [])
    (.block 0 (.loop (.seq (.region [⟨(some 12), .bin .lss (.t 11) (.t 10), none⟩] [])
        (.seq (.cond (.t 12)
            (.skip)
            (.exit 0))
        (.seq (.block 1 (.seq (.region [⟨(some 13), .indexAddr 1 (.t 9) (.t 11), none⟩,
                ⟨(some 14), .load none (.t 13), none⟩,
                ⟨(some 5), .mv (.t 14), none⟩] [12, 13, 14])
            (.seq (.region [⟨(some 15), .mv (.t 3), none⟩,
                ⟨(some 16), .mv (.t 5), none⟩,
                ⟨(some 17), .len 1 (.t 16), none⟩,
                ⟨(some 18), .bin .add (.t 15) (.t 17), none⟩,
                ⟨(some 3), .mv (.t 18), none⟩] [5, 15, 16, 17, 18])
            (.seq (.region [⟨(some 19), .mv (.t 3), none⟩,
                ⟨(some 20), .bin .lss (.t 19) (.k (.c (.d (.int .i64 0)))), none⟩] [19])
            (.cond (.t 20)
              (.region [⟨(some 21), .bot, none⟩,
                ⟨none, .bot, none⟩] [20, 21])
              (.skip))))))
        (.region [⟨(some 22), .bin .add (.t 11) (.k (.c (.d (.int .i64 1)))), none⟩,
          ⟨(some 11), .mv (.t 22), none⟩] [20, 22])))))))
  (.seq (.region [⟨(some 23), .mv (.t 3), none⟩,
      ⟨(some 24), .call true 57 [(.k (.c (.full []))), (.t 23)], none⟩,
      ⟨(some 6), .mv (.t 24), none⟩] [3, 23, 24])
  (.seq (.seq (.region [⟨(some 25), .mv (.t 0), none⟩,
        ⟨(some 26), .len 1 (.t 25), none⟩,
        ⟨(some 27), .mv (.k (.c (.d (.int .i64 0)))), none⟩] [0])
    (.block 2 (.loop (.seq (.region [⟨(some 28), .bin .lss (.t 27) (.t 26), none⟩] [])
        (.seq (.cond (.t 28)
            (.skip)
            (.exit 2))
        (.seq (.block 3 (.seq (.region [⟨(some 29), .indexAddr 1 (.t 25) (.t 27), none⟩,
                ⟨(some 30), .load none (.t 29), none⟩,
                ⟨(some 8), .mv (.t 30), none⟩] [28, 29, 30])
            (.region [⟨(some 31), .mv (.t 6), none⟩,
              ⟨(some 32), .mv (.t 8), none⟩,
              ⟨(some 33), .append false 1 (.t 31) (.t 32), none⟩,
              ⟨(some 6), .mv (.t 33), none⟩] [8, 31, 32, 33])))
        (.region [⟨(some 34), .bin .add (.t 27) (.k (.c (.d (.int .i64 1)))), none⟩,
          ⟨(some 27), .mv (.t 34), none⟩] [34])))))))
  (.seq (.region [⟨(some 35), .mv (.t 6), none⟩,
      ⟨(some 2), .mv (.t 35), none⟩] [6, 35])
  (.ret))))))
theorem ac49_ok : cFunc Try.prog [57] [(0, [2], []), (1, [], []), (2, [], []), (3, [], []), (4, [12, 13, 14], []), (5, [5, 15, 16, 17, 18], []), (6, [19], []), (7, [20, 21], []), (8, [20, 22], []), (9, [3, 23, 24], []), (10, [0], []), (11, [], []), (12, [28, 29, 30], []), (13, [8, 31, 32, 33], []), (14, [34], []), (15, [6, 35], [])] Try.f49 = some (ac49, [.tmp 2], 36) := by kernel_rfl
-- 28 loop.example/prologserver/impl.FeedDecoder params 2 ntmps 75
-- loop head live: [4, 6, 7]
def ac28 : Cd := .seq (.region [⟨(some 2), .box (.t 0), none⟩,
      ⟨(some 4), .alloc [(.full []), (.d (.bool false))], none⟩,
      ⟨(some 5), .mv (.k (.c (.full []))), none⟩] [0, 5])
  (.seq (.seq (.region [⟨(some 10), .load (some 2) (.t 2), none⟩,
        ⟨(some 11), .qcall 47 [(.t 10)], none⟩,
        ⟨(some 12), .un .not (.t 11), none⟩,
        ⟨(some 13), .mv (.t 12), none⟩,
        ⟨(some 14), .fieldAddr 1 (.t 2), some (13, false)⟩,
        ⟨(some 15), .load none (.t 14), some (13, false)⟩,
        ⟨(some 16), .pick (.t 13) (.k (.c (.d (.bool true)))) (.t 15), none⟩] [10, 11, 12, 13, 14, 15])
    (.cond (.t 16)
      (.seq (.region [⟨(some 17), .fieldAddr 0 (.t 2), none⟩,
          ⟨(some 20), .fieldAddr 1 (.t 2), none⟩,
          ⟨(some 18), .load none (.t 17), none⟩,
          ⟨(some 19), .qcall 48 [(.t 18)], none⟩,
          ⟨(some 21), .load none (.t 20), none⟩,
          ⟨(some 22), .build [(.full []), (.d (.bool false))] [(0, 1, (.t 19)), (1, 1, (.t 21))], none⟩,
          ⟨none, .store 2 (.t 4) (.t 22), none⟩,
          ⟨(some 5), .mv (.k (.c (.full []))), none⟩] [1, 2, 16, 17, 18, 19, 20, 21, 22])
      (.ret))
      (.skip)))
  (.seq (.region [⟨(some 23), .fieldAddr 0 (.t 2), none⟩,
      ⟨(some 24), .load none (.t 23), none⟩,
      ⟨(some 25), .mv (.t 1), none⟩,
      ⟨(some 26), .buildSlice 1 2 [(.sl [])] [(0, (.t 24)), (1, (.t 25))], none⟩,
      ⟨(some 27), .qcall 49 [(.t 26)], none⟩,
      ⟨(some 6), .mv (.t 27), none⟩] [1, 2, 5, 16, 23, 24, 25, 26, 27])
  (.seq (.region [⟨(some 7), .mv (.k (.c (.full []))), none⟩] [])
  (.block 0 (.loop (.block 1 (.seq (.region [⟨(some 28), .mv (.t 6), none⟩,
            ⟨(some 29), .qcall 50 [(.t 28)], none⟩,
            ⟨(some 8), .mv (.t 29), none⟩] [28, 29])
        (.seq (.seq (.region [⟨(some 30), .mv (.t 8), none⟩,
              ⟨(some 31), .bin .geq (.t 30) (.k (.c (.d (.int .i64 0)))), none⟩,
              ⟨(some 32), .mv (.t 31), none⟩,
              ⟨(some 33), .mv (.t 8), some (32, true)⟩,
              ⟨(some 34), .qcall 51 [(.t 33), (.k (.c (.d (.int .i64 1)))), (.k (.c (.d (.int .i64 2001))))], some (32, true)⟩,
              ⟨(some 35), .un .not (.t 34), some (32, true)⟩,
              ⟨(some 36), .pick (.t 32) (.t 35) (.k (.c (.d (.bool false)))), none⟩] [30, 31, 32, 33, 34, 35])
          (.cond (.t 36)
            (.seq (.region [⟨(some 37), .build [(.full []), (.d (.bool false))] [(1, 1, (.k (.c (.d (.bool true)))))], none⟩,
                ⟨(some 38), .mv (.t 7), none⟩,
                ⟨none, .store 2 (.t 4) (.t 37), none⟩,
                ⟨(some 5), .mv (.t 38), none⟩] [6, 7, 8, 36, 37, 38])
            (.ret))
            (.skip)))
        (.seq (.seq (.region [⟨(some 39), .mv (.t 8), none⟩,
              ⟨(some 40), .bin .lss (.t 39) (.k (.c (.d (.int .i64 0)))), none⟩,
              ⟨(some 41), .mv (.t 40), none⟩,
              ⟨(some 42), .mv (.t 6), some (41, false)⟩,
              ⟨(some 43), .len 1 (.t 42), some (41, false)⟩,
              ⟨(some 44), .mv (.t 8), some (41, false)⟩,
              ⟨(some 45), .bin .add (.t 44) (.k (.c (.d (.int .i64 2)))), some (41, false)⟩,
              ⟨(some 46), .bin .lss (.t 43) (.t 45), some (41, false)⟩,
              ⟨(some 47), .pick (.t 41) (.k (.c (.d (.bool true)))) (.t 46), none⟩] [5, 36, 39, 40, 41, 42, 43, 44, 45, 46])
          (.cond (.t 47)
            (.seq (.region [⟨(some 48), .mv (.t 6), none⟩,
                ⟨(some 49), .qcall 48 [(.t 48)], none⟩,
                ⟨(some 50), .build [(.full []), (.d (.bool false))] [(0, 1, (.t 49))], none⟩,
                ⟨(some 51), .mv (.t 7), none⟩,
                ⟨none, .store 2 (.t 4) (.t 50), none⟩,
                ⟨(some 5), .mv (.t 51), none⟩] [6, 7, 8, 47, 48, 49, 50, 51])
            (.ret))
            (.skip)))
        (.seq (.region [⟨(some 52), .mv (.t 6), none⟩,
            ⟨(some 53), .indexAddr 1 (.t 52) (.k (.c (.d (.int .i64 2)))), none⟩,
            ⟨(some 56), .mv (.t 6), none⟩,
            ⟨(some 57), .mv (.t 8), none⟩,
            ⟨(some 58), .bin .add (.t 57) (.k (.c (.d (.int .i64 2)))), none⟩,
            ⟨(some 59), .slice 1 (.t 56) (some (.k (.c (.d (.int .i64 3))))) (some (.t 58)) none, none⟩,
            ⟨(some 60), .cvB2S (.t 59), none⟩,
            ⟨(some 54), .load none (.t 53), none⟩,
            ⟨(some 55), .cvInt .i64 (.t 54), none⟩,
            ⟨(some 61), .build [(.d (.int .i64 0)), (.d (.str []))] [(0, 1, (.t 55)), (1, 1, (.t 60))], none⟩,
            ⟨(some 9), .alloc [(.d (.int .i64 0)), (.d (.str []))], none⟩,
            ⟨none, .store 2 (.t 9) (.t 61), none⟩] [5, 47, 52, 53, 54, 55, 56, 57, 58, 59, 60, 61])
        (.seq (.seq (.region [⟨(some 62), .load (some 2) (.t 9), none⟩,
              ⟨(some 63), .qcall 39 [(.t 62)], none⟩,
              ⟨(some 64), .un .not (.t 63), none⟩] [62, 63])
          (.cond (.t 64)
            (.seq (.region [⟨(some 65), .build [(.full []), (.d (.bool false))] [(1, 1, (.k (.c (.d (.bool true)))))], none⟩,
                ⟨(some 66), .mv (.t 7), none⟩,
                ⟨none, .store 2 (.t 4) (.t 65), none⟩,
                ⟨(some 5), .mv (.t 66), none⟩] [6, 7, 8, 9, 64, 65, 66])
            (.ret))
            (.skip)))
        (.seq (.region [⟨(some 67), .mv (.t 7), none⟩,
            ⟨(some 68), .load (some 2) (.t 9), none⟩,
            ⟨(some 69), .buildSlice 2 1 [(.int .i64 0), (.str [])] [(0, (.t 68))], none⟩,
            ⟨(some 70), .append false 2 (.t 67) (.t 69), none⟩,
            ⟨(some 7), .mv (.t 70), none⟩] [5, 9, 64, 67, 68, 69, 70])
        (.region [⟨(some 71), .mv (.t 6), none⟩,
          ⟨(some 72), .mv (.t 8), none⟩,
          ⟨(some 73), .bin .add (.t 72) (.k (.c (.d (.int .i64 2)))), none⟩,
          ⟨(some 74), .slice 1 (.t 71) (some (.t 73)) none none, none⟩,
          ⟨(some 6), .mv (.t 74), none⟩] [8, 71, 72, 73, 74])))))))))))))
theorem ac28_ok : cFunc Try.prog [1000039, 1000047, 1000048, 1000049, 1000050, 1000051] [(0, [0, 5], []), (1, [10, 11, 12, 13, 14, 15], []), (2, [1, 2, 16, 17, 18, 19, 20, 21, 22], [0, 3, 1, 2, 4, 5, 6, 7]), (3, [1, 2, 5, 16, 23, 24, 25, 26, 27], []), (4, [], []), (5, [28, 29], []), (6, [30, 31, 32, 33, 34, 35], []), (7, [6, 7, 8, 36, 37, 38], []), (8, [5, 36, 39, 40, 41, 42, 43, 44, 45, 46], []), (9, [6, 7, 8, 47, 48, 49, 50, 51], []), (10, [5, 47, 52, 53, 54, 55, 56, 57, 58, 59, 60, 61], [0, 1, 4, 5, 6, 7, 8, 2, 3, 9, 10, 11]), (11, [62, 63], []), (12, [6, 7, 8, 9, 64, 65, 66], []), (13, [5, 9, 64, 67, 68, 69, 70], []), (14, [8, 71, 72, 73, 74], [])] Try.f28 = some (ac28, [.cell 4 (some 2), .tmp 5], 75) := by kernel_rfl
/-- the frames with which bytes begin, what is left, and whether there can be no further ones -/
def feed (b : List UInt8) : List Frame × List UInt8 × Bool :=
  if h : 0 < nextN b then let r := feed (b.drop (nextN b).toNat); (frameAt b :: r.1, r.2)
  else if nextN b = 0 then ([], b, false) else ([], [], true)
termination_by b.length
decreasing_by
  have : 0 < b.length := by
    cases b with
    | nil => simp [nextN] at h
    | cons x l => simp
  simp
  omega
theorem clone_calls (s : List UInt8) (hs : s.length ≤ 4294967296) (H : Heap) : ACalls Try.prog 48 [.c (.d (.sl (bytesRows s)))] H (fun r H' => H' = H ∧ r = .c (.d (.sl (bytesRows s)))) := by
  refine acalls Try.func48 (by kernel_rfl) ac48_ok fun hf => ?_
  simp -implicitDefEqProofs [ac48, bytesRows_len, bytesRows_nil, allLen_bytes, aw_skip, aw_region, aw_seq, aw_block, aw_cond, aw_exit, aw_ret, kq_nil, kq_seq, kq_seq_ret, kq_seq_exit, kq_block, kq_block_ret, kq_block_exit, kq_loop, kq_loop_ret, kq_loop_exit, awOps_nil, awOps_cons, awOps_guardE, nx_eq, awOp, ev_k, ev_0, ev_1, ev_2, ev_3, ev_4, ev_5, ev_6, ev_7, ev_8, set_0, set_1, set_2, set_3, set_4, set_5, set_6, set_7, set_8, -List.set_cons_succ, -List.set_cons_zero, A.ok, A.val, setSl, wrapG, guardB, getB, pickA, binA, binC, binD, cmpD, isCmp, unA, unD, lenA, AOp.total, kills, litB, FinQ, resOks, resOk, resA, resList, resOne, A.thaw, C.thaw, A.fits, As.fits, C.fits, evs, oks, callArgs, A.pure, C.pure, A.re, C.re, fieldAddrA, loadC, cut, A.cells, C.rows?, getOb, newOb, setOb, storeC, splice, Ob.re, Cs.fits, partsA, partsOk, parts2A, parts2Ok, fillC, fillRows, optInt, optOk, sliceA, clipC, optK_some, storeK_some, Option.map_some, toDs, C.toD, spliceD, appendA, capsOf, srcRows, allLen_nil_iff, allLen_cons_iff, allLen_append_iff, dropC, Obs.fits, eqCs, eqD]
  unfold maxApp
  omega
theorem concat_calls (x y : List UInt8) (hx : x.length ≤ 100000000) (hy : y.length ≤ 100000000) (H : Heap) : ACalls Try.prog 49 [.c (.d (.sl [[.sl (bytesRows x)], [.sl (bytesRows y)]]))] H (fun r H' => H' = H ∧ r = .c (.d (.sl (bytesRows (x ++ y))))) := by
  refine acalls Try.func49 (by kernel_rfl) ac49_ok fun hf => ?_
  have h2 : inR .i64 2 := small_i64 (by omega) (by omega)
  simp -implicitDefEqProofs [ac49, h2, aw_skip, aw_region, aw_seq, aw_block, aw_cond, aw_exit, aw_ret, kq_nil, kq_seq, kq_seq_ret, kq_seq_exit, kq_block, kq_block_ret, kq_block_exit, kq_loop, kq_loop_ret, kq_loop_exit, awOps_nil, awOps_cons, awOps_guardE, nx_eq, awOp, ev_k, ev_0, ev_1, ev_2, ev_3, ev_4, ev_5, ev_6, ev_7, ev_8, set_0, set_1, set_2, set_3, set_4, set_5, set_6, set_7, set_8, -List.set_cons_succ, -List.set_cons_zero, A.ok, A.val, setSl, wrapG, guardB, getB, pickA, binA, binC, binD, cmpD, isCmp, unA, unD, lenA, AOp.total, kills, litB, FinQ, resOks, resOk, resA, resList, resOne, A.thaw, C.thaw, A.fits, As.fits, C.fits, evs, oks, callArgs, A.pure, C.pure, A.re, C.re, fieldAddrA, loadC, cut, A.cells, C.rows?, getOb, newOb, setOb, storeC, splice, Ob.re, Cs.fits, partsA, partsOk, parts2A, parts2Ok, fillC, fillRows, optInt, optOk, sliceA, clipC, optK_some, storeK_some, Option.map_some, toDs, C.toD, spliceD, appendA, capsOf, srcRows, allLen_nil_iff, allLen_cons_iff, allLen_append_iff, dropC, Obs.fits, eqCs, eqD]
  refine loop_set (σ := Nat) (fun i => [(11, .c (.d (.int .i64 i))), (3, .c (.d (.int .i64 (if i = 0 then 0 else if i = 1 then (x.length : Int) else x.length + y.length))))]) (fun _ => H) (fun _ => []) (fun i => i ≤ 2) (fun i => 2 - i) 0 rfl (Nat.zero_le _) ?_
  intro i hi
  simp -implicitDefEqProofs [setAll, aw_skip, aw_region, aw_seq, aw_block, aw_cond, aw_exit, aw_ret, kq_nil, kq_seq, kq_seq_ret, kq_seq_exit, kq_block, kq_block_ret, kq_block_exit, kq_loop, kq_loop_ret, kq_loop_exit, awOps_nil, awOps_cons, awOps_guardE, nx_eq, awOp, ev_k, ev_0, ev_1, ev_2, ev_3, ev_4, ev_5, ev_6, ev_7, ev_8, set_0, set_1, set_2, set_3, set_4, set_5, set_6, set_7, set_8, -List.set_cons_succ, -List.set_cons_zero, A.ok, A.val, setSl, wrapG, guardB, getB, pickA, binA, binC, binD, cmpD, isCmp, unA, unD, lenA, AOp.total, kills, litB, FinQ, resOks, resOk, resA, resList, resOne, A.thaw, C.thaw, A.fits, As.fits, C.fits, evs, oks, callArgs, A.pure, C.pure, A.re, C.re, fieldAddrA, loadC, cut, A.cells, C.rows?, getOb, newOb, setOb, storeC, splice, Ob.re, Cs.fits, partsA, partsOk, parts2A, parts2Ok, fillC, fillRows, optInt, optOk, sliceA, clipC, optK_some, storeK_some, Option.map_some, toDs, C.toD, spliceD, appendA, capsOf, srcRows, allLen_nil_iff, allLen_cons_iff, allLen_append_iff, dropC, Obs.fits, eqCs, eqD]
  refine ⟨fun hlt => ?_, fun hge => ?_⟩
  · have hcase : i = 0 ∨ i = 1 := by omega
    rcases hcase with rfl | rfl
    · refine row_nat [.sl (bytesRows x)] rfl rfl ?_
      have i1 : inR .i64 (x.length : Int) := small_i64 (by omega) (by omega)
      have i2 : inR .i64 (1 : Int) := small_i64 (by omega) (by omega)
      simp -implicitDefEqProofs [i1, i2, bytesRows_len, aw_skip, aw_region, aw_seq, aw_block, aw_cond, aw_exit, aw_ret, kq_nil, kq_seq, kq_seq_ret, kq_seq_exit, kq_block, kq_block_ret, kq_block_exit, kq_loop, kq_loop_ret, kq_loop_exit, awOps_nil, awOps_cons, awOps_guardE, nx_eq, awOp, ev_k, ev_0, ev_1, ev_2, ev_3, ev_4, ev_5, ev_6, ev_7, ev_8, set_0, set_1, set_2, set_3, set_4, set_5, set_6, set_7, set_8, -List.set_cons_succ, -List.set_cons_zero, A.ok, A.val, setSl, wrapG, guardB, getB, pickA, binA, binC, binD, cmpD, isCmp, unA, unD, lenA, AOp.total, kills, litB, FinQ, resOks, resOk, resA, resList, resOne, A.thaw, C.thaw, A.fits, As.fits, C.fits, evs, oks, callArgs, A.pure, C.pure, A.re, C.re, fieldAddrA, loadC, cut, A.cells, C.rows?, getOb, newOb, setOb, storeC, splice, Ob.re, Cs.fits, partsA, partsOk, parts2A, parts2Ok, fillC, fillRows, optInt, optOk, sliceA, clipC, optK_some, storeK_some, Option.map_some, toDs, C.toD, spliceD, appendA, capsOf, srcRows, allLen_nil_iff, allLen_cons_iff, allLen_append_iff, dropC, Obs.fits, eqCs, eqD]
      (repeat' (first | (with_reducible refine And.intro ?_ ?_) | intro _)) <;> first | assumption | (unfold maxApp; omega) | omega | exact small_i64 (by omega) (by omega) | (exact loop_back 1 (by simp [setAll]) (by decide) (by decide))
    · refine row_nat [.sl (bytesRows y)] rfl rfl ?_
      have i1 : inR .i64 (y.length : Int) := small_i64 (by omega) (by omega)
      have i3 : inR .i64 ((x.length : Int) + (y.length : Int)) := small_i64 (by omega) (by omega)
      simp -implicitDefEqProofs [i1, h2, i3, bytesRows_len, aw_skip, aw_region, aw_seq, aw_block, aw_cond, aw_exit, aw_ret, kq_nil, kq_seq, kq_seq_ret, kq_seq_exit, kq_block, kq_block_ret, kq_block_exit, kq_loop, kq_loop_ret, kq_loop_exit, awOps_nil, awOps_cons, awOps_guardE, nx_eq, awOp, ev_k, ev_0, ev_1, ev_2, ev_3, ev_4, ev_5, ev_6, ev_7, ev_8, set_0, set_1, set_2, set_3, set_4, set_5, set_6, set_7, set_8, -List.set_cons_succ, -List.set_cons_zero, A.ok, A.val, setSl, wrapG, guardB, getB, pickA, binA, binC, binD, cmpD, isCmp, unA, unD, lenA, AOp.total, kills, litB, FinQ, resOks, resOk, resA, resList, resOne, A.thaw, C.thaw, A.fits, As.fits, C.fits, evs, oks, callArgs, A.pure, C.pure, A.re, C.re, fieldAddrA, loadC, cut, A.cells, C.rows?, getOb, newOb, setOb, storeC, splice, Ob.re, Cs.fits, partsA, partsOk, parts2A, parts2Ok, fillC, fillRows, optInt, optOk, sliceA, clipC, optK_some, storeK_some, Option.map_some, toDs, C.toD, spliceD, appendA, capsOf, srcRows, allLen_nil_iff, allLen_cons_iff, allLen_append_iff, dropC, Obs.fits, eqCs, eqD]
      (repeat' (first | (with_reducible refine And.intro ?_ ?_) | intro _)) <;> first | assumption | (unfold maxApp; omega) | omega | exact small_i64 (by omega) (by omega) | (exact loop_back 2 (by simp [setAll]) (by decide) (by decide))
  · obtain rfl : i = 2 := by omega
    have e : ((if (2 : Nat) = 0 then (0 : Int) else if (2 : Nat) = 1 then (x.length : Int) else x.length + y.length)) = ((x.length + y.length : Nat) : Int) := by simp
    simp only [e]
    refine (grow_calls (x.length + y.length) (by omega) H).mono fun r H' ⟨g1, g2⟩ => ⟨H, [.grow 0 1], .c (.own (.l 0) 0 []), by rw [g2]; rfl, rfl, by simp, hf, by rw [g1]; rfl, ?_⟩
    simp -implicitDefEqProofs [h2, aw_skip, aw_region, aw_seq, aw_block, aw_cond, aw_exit, aw_ret, kq_nil, kq_seq, kq_seq_ret, kq_seq_exit, kq_block, kq_block_ret, kq_block_exit, kq_loop, kq_loop_ret, kq_loop_exit, awOps_nil, awOps_cons, awOps_guardE, nx_eq, awOp, ev_k, ev_0, ev_1, ev_2, ev_3, ev_4, ev_5, ev_6, ev_7, ev_8, set_0, set_1, set_2, set_3, set_4, set_5, set_6, set_7, set_8, -List.set_cons_succ, -List.set_cons_zero, A.ok, A.val, setSl, wrapG, guardB, getB, pickA, binA, binC, binD, cmpD, isCmp, unA, unD, lenA, AOp.total, kills, litB, FinQ, resOks, resOk, resA, resList, resOne, A.thaw, C.thaw, A.fits, As.fits, C.fits, evs, oks, callArgs, A.pure, C.pure, A.re, C.re, fieldAddrA, loadC, cut, A.cells, C.rows?, getOb, newOb, setOb, storeC, splice, Ob.re, Cs.fits, partsA, partsOk, parts2A, parts2Ok, fillC, fillRows, optInt, optOk, sliceA, clipC, optK_some, storeK_some, Option.map_some, toDs, C.toD, spliceD, appendA, capsOf, srcRows, allLen_nil_iff, allLen_cons_iff, allLen_append_iff, dropC, Obs.fits, eqCs, eqD]
    refine loop_set (σ := Nat) (fun i => [(27, .c (.d (.int .i64 i))), (6, .c (.own (.l 0) (if i = 0 then 0 else if i = 1 then x.length else x.length + y.length) (bytesRows (if i = 0 then [] else if i = 1 then x else x ++ y))))]) (fun _ => H) (fun i => [.grow (if i = 0 then 0 else if i = 1 then x.length else x.length + y.length) 1]) (fun i => i ≤ 2) (fun i => 2 - i) 0 rfl (Nat.zero_le _) ?_
    intro i hi
    simp -implicitDefEqProofs [setAll, aw_skip, aw_region, aw_seq, aw_block, aw_cond, aw_exit, aw_ret, kq_nil, kq_seq, kq_seq_ret, kq_seq_exit, kq_block, kq_block_ret, kq_block_exit, kq_loop, kq_loop_ret, kq_loop_exit, awOps_nil, awOps_cons, awOps_guardE, nx_eq, awOp, ev_k, ev_0, ev_1, ev_2, ev_3, ev_4, ev_5, ev_6, ev_7, ev_8, set_0, set_1, set_2, set_3, set_4, set_5, set_6, set_7, set_8, -List.set_cons_succ, -List.set_cons_zero, A.ok, A.val, setSl, wrapG, guardB, getB, pickA, binA, binC, binD, cmpD, isCmp, unA, unD, lenA, AOp.total, kills, litB, FinQ, resOks, resOk, resA, resList, resOne, A.thaw, C.thaw, A.fits, As.fits, C.fits, evs, oks, callArgs, A.pure, C.pure, A.re, C.re, fieldAddrA, loadC, cut, A.cells, C.rows?, getOb, newOb, setOb, storeC, splice, Ob.re, Cs.fits, partsA, partsOk, parts2A, parts2Ok, fillC, fillRows, optInt, optOk, sliceA, clipC, optK_some, storeK_some, Option.map_some, toDs, C.toD, spliceD, appendA, capsOf, srcRows, allLen_nil_iff, allLen_cons_iff, allLen_append_iff, dropC, Obs.fits, eqCs, eqD]
    refine ⟨fun hlt => ?_, fun hge => ?_⟩
    · have hcase : i = 0 ∨ i = 1 := by omega
      rcases hcase with rfl | rfl
      · refine row_nat [.sl (bytesRows x)] rfl rfl ?_
        have i2 : inR .i64 (1 : Int) := small_i64 (by omega) (by omega)
        simp -implicitDefEqProofs [i2, bytesRows_len, allLen_bytes, append_bytes, aw_skip, aw_region, aw_seq, aw_block, aw_cond, aw_exit, aw_ret, kq_nil, kq_seq, kq_seq_ret, kq_seq_exit, kq_block, kq_block_ret, kq_block_exit, kq_loop, kq_loop_ret, kq_loop_exit, awOps_nil, awOps_cons, awOps_guardE, nx_eq, awOp, ev_k, ev_0, ev_1, ev_2, ev_3, ev_4, ev_5, ev_6, ev_7, ev_8, set_0, set_1, set_2, set_3, set_4, set_5, set_6, set_7, set_8, -List.set_cons_succ, -List.set_cons_zero, A.ok, A.val, setSl, wrapG, guardB, getB, pickA, binA, binC, binD, cmpD, isCmp, unA, unD, lenA, AOp.total, kills, litB, FinQ, resOks, resOk, resA, resList, resOne, A.thaw, C.thaw, A.fits, As.fits, C.fits, evs, oks, callArgs, A.pure, C.pure, A.re, C.re, fieldAddrA, loadC, cut, A.cells, C.rows?, getOb, newOb, setOb, storeC, splice, Ob.re, Cs.fits, partsA, partsOk, parts2A, parts2Ok, fillC, fillRows, optInt, optOk, sliceA, clipC, optK_some, storeK_some, Option.map_some, toDs, C.toD, spliceD, appendA, capsOf, srcRows, allLen_nil_iff, allLen_cons_iff, allLen_append_iff, dropC, Obs.fits, eqCs, eqD]
        (repeat' (first | (with_reducible refine And.intro ?_ ?_) | intro _)) <;> first | assumption | (unfold maxApp; omega) | omega | exact small_i64 (by omega) (by omega) | (exact loop_back 1 (by simp [setAll]) (by decide) (by decide))
      · refine row_nat [.sl (bytesRows y)] rfl rfl ?_
        simp -implicitDefEqProofs [h2, bytesRows_len, allLen_bytes, append_bytes, aw_skip, aw_region, aw_seq, aw_block, aw_cond, aw_exit, aw_ret, kq_nil, kq_seq, kq_seq_ret, kq_seq_exit, kq_block, kq_block_ret, kq_block_exit, kq_loop, kq_loop_ret, kq_loop_exit, awOps_nil, awOps_cons, awOps_guardE, nx_eq, awOp, ev_k, ev_0, ev_1, ev_2, ev_3, ev_4, ev_5, ev_6, ev_7, ev_8, set_0, set_1, set_2, set_3, set_4, set_5, set_6, set_7, set_8, -List.set_cons_succ, -List.set_cons_zero, A.ok, A.val, setSl, wrapG, guardB, getB, pickA, binA, binC, binD, cmpD, isCmp, unA, unD, lenA, AOp.total, kills, litB, FinQ, resOks, resOk, resA, resList, resOne, A.thaw, C.thaw, A.fits, As.fits, C.fits, evs, oks, callArgs, A.pure, C.pure, A.re, C.re, fieldAddrA, loadC, cut, A.cells, C.rows?, getOb, newOb, setOb, storeC, splice, Ob.re, Cs.fits, partsA, partsOk, parts2A, parts2Ok, fillC, fillRows, optInt, optOk, sliceA, clipC, optK_some, storeK_some, Option.map_some, toDs, C.toD, spliceD, appendA, capsOf, srcRows, allLen_nil_iff, allLen_cons_iff, allLen_append_iff, dropC, Obs.fits, eqCs, eqD]
        (repeat' (first | (with_reducible refine And.intro ?_ ?_) | intro _)) <;> first | assumption | (unfold maxApp; omega) | omega | exact small_i64 (by omega) (by omega) | (exact loop_back 2 (by simp [setAll]) (by decide) (by decide))
    · obtain rfl : i = 2 := by omega
      simp
/-- what a decoder gives for bytes -/
def feedD (d : Dec) (b : List UInt8) : Dec × List Frame :=
  if !d.ok || d.broken then (d, []) else (⟨(feed (d.rest ++ b)).2.1, (feed (d.rest ++ b)).2.2⟩, (feed (d.rest ++ b)).1)
theorem next_cases (b : List UInt8) : (nextN b = -1 ∧ 0 ≤ lenOf b ∧ ¬ (1 ≤ lenOf b ∧ lenOf b ≤ 2001)) ∨ (nextN b = 0 ∧ (lenOf b < 0 ∨ ((1 ≤ lenOf b ∧ lenOf b ≤ 2001) ∧ (b.length : Int) < lenOf b + 2))) ∨
    ((1 ≤ lenOf b ∧ lenOf b ≤ 2001) ∧ lenOf b = hd2 b ∧ lenOf b + 2 ≤ (b.length : Int) ∧ nextN b = if (frameAt b).ok then 2 + (hd2 b : Int) else -1) := by
  by_cases h1 : b.length < 2
  · refine .inr (.inl ⟨by rw [nextN, if_pos h1], .inl ?_⟩)
    rw [lenOf, if_pos h1]; omega
  · have hl : lenOf b = hd2 b := by rw [lenOf, if_neg h1]
    by_cases h2 : hd2 b < 1 ∨ 2001 < hd2 b
    · exact .inl ⟨by rw [nextN, if_neg h1, if_pos h2], by omega, by omega⟩
    · by_cases h3 : b.length < 2 + hd2 b
      · exact .inr (.inl ⟨by rw [nextN, if_neg h1, if_neg h2, if_pos h3], .inr ⟨by omega, by omega⟩⟩)
      · exact .inr (.inr ⟨by omega, hl, by omega, by rw [nextN, if_neg h1, if_neg h2, if_neg h3]⟩)
theorem feed_stop {b : List UInt8} (h : nextN b = 0) : feed b = ([], b, false) := by rw [feed, dif_neg (by omega), if_pos h]
theorem feed_bad {b : List UInt8} (h : nextN b = -1) : feed b = ([], [], true) := by rw [feed, dif_neg (by omega), if_neg (by omega)]
theorem feed_go {b : List UInt8} (h : 0 < nextN b) : feed b = (frameAt b :: (feed (b.drop (nextN b).toNat)).1, (feed (b.drop (nextN b).toNat)).2) := by rw [feed, dif_pos h]
theorem feedImpl_calls (d : Dec) (b : List UInt8) (hd : d.rest.length ≤ 100000000) (hb : b.length ≤ 100000000) (H : Heap) :
    ACalls Try.prog 28 [.agg (d.row.map .d), .c (.d (.sl (bytesRows b)))] H (fun r H' => H' = H ∧ r = .tup [.agg ((feedD d b).1.row.map .d), .c (.d (.sl ((feedD d b).2.map Frame.row)))]) := by
  refine acalls Try.func28 (by kernel_rfl) ac28_ok fun hf => ?_
  simp -implicitDefEqProofs [ac28, Dec.row, aw_skip, aw_region, aw_seq, aw_block, aw_cond, aw_exit, aw_ret, kq_nil, kq_seq, kq_seq_ret, kq_seq_exit, kq_block, kq_block_ret, kq_block_exit, kq_loop, kq_loop_ret, kq_loop_exit, awOps_nil, awOps_cons, awOps_guardE, nx_eq, awOp, ev_k, ev_0, ev_1, ev_2, ev_3, ev_4, ev_5, ev_6, ev_7, ev_8, set_0, set_1, set_2, set_3, set_4, set_5, set_6, set_7, set_8, -List.set_cons_succ, -List.set_cons_zero, A.ok, A.val, setSl, wrapG, guardB, getB, pickA, binA, binC, binD, cmpD, isCmp, unA, unD, lenA, AOp.total, kills, litB, FinQ, resOks, resOk, resA, resList, resOne, A.thaw, C.thaw, A.fits, As.fits, C.fits, evs, oks, callArgs, A.pure, C.pure, A.re, C.re, fieldAddrA, loadC, cut, A.cells, C.rows?, getOb, newOb, setOb, storeC, splice, Ob.re, Cs.fits, partsA, partsOk, parts2A, parts2Ok, fillC, fillRows, optInt, optOk, sliceA, clipC, optK_some, storeK_some, Option.map_some, toDs, C.toD, spliceD, appendA, capsOf, srcRows, allLen_nil_iff, allLen_cons_iff, allLen_append_iff, dropC, Obs.fits, eqCs, eqD]
  refine qcall_pure (dvImpl_calls d (by omega)) hf rfl ?_
  simp -implicitDefEqProofs [hf, aw_skip, aw_region, aw_seq, aw_block, aw_cond, aw_exit, aw_ret, kq_nil, kq_seq, kq_seq_ret, kq_seq_exit, kq_block, kq_block_ret, kq_block_exit, kq_loop, kq_loop_ret, kq_loop_exit, awOps_nil, awOps_cons, awOps_guardE, nx_eq, awOp, ev_k, ev_0, ev_1, ev_2, ev_3, ev_4, ev_5, ev_6, ev_7, ev_8, set_0, set_1, set_2, set_3, set_4, set_5, set_6, set_7, set_8, -List.set_cons_succ, -List.set_cons_zero, A.ok, A.val, setSl, wrapG, guardB, getB, pickA, binA, binC, binD, cmpD, isCmp, unA, unD, lenA, AOp.total, kills, litB, FinQ, resOks, resOk, resA, resList, resOne, A.thaw, C.thaw, A.fits, As.fits, C.fits, evs, oks, callArgs, A.pure, C.pure, A.re, C.re, fieldAddrA, loadC, cut, A.cells, C.rows?, getOb, newOb, setOb, storeC, splice, Ob.re, Cs.fits, partsA, partsOk, parts2A, parts2Ok, fillC, fillRows, optInt, optOk, sliceA, clipC, optK_some, storeK_some, Option.map_some, toDs, C.toD, spliceD, appendA, capsOf, srcRows, allLen_nil_iff, allLen_cons_iff, allLen_append_iff, dropC, Obs.fits, eqCs, eqD]
  refine ⟨fun h => ?_, fun h1 h2 => ?_⟩
  · refine qcall_pure (clone_calls d.rest (by omega)) hf rfl ?_
    simp -implicitDefEqProofs [hf, aw_skip, aw_region, aw_seq, aw_block, aw_cond, aw_exit, aw_ret, kq_nil, kq_seq, kq_seq_ret, kq_seq_exit, kq_block, kq_block_ret, kq_block_exit, kq_loop, kq_loop_ret, kq_loop_exit, awOps_nil, awOps_cons, awOps_guardE, nx_eq, awOp, ev_k, ev_0, ev_1, ev_2, ev_3, ev_4, ev_5, ev_6, ev_7, ev_8, set_0, set_1, set_2, set_3, set_4, set_5, set_6, set_7, set_8, -List.set_cons_succ, -List.set_cons_zero, A.ok, A.val, setSl, wrapG, guardB, getB, pickA, binA, binC, binD, cmpD, isCmp, unA, unD, lenA, AOp.total, kills, litB, FinQ, resOks, resOk, resA, resList, resOne, A.thaw, C.thaw, A.fits, As.fits, C.fits, evs, oks, callArgs, A.pure, C.pure, A.re, C.re, fieldAddrA, loadC, cut, A.cells, C.rows?, getOb, newOb, setOb, storeC, splice, Ob.re, Cs.fits, partsA, partsOk, parts2A, parts2Ok, fillC, fillRows, optInt, optOk, sliceA, clipC, optK_some, storeK_some, Option.map_some, toDs, C.toD, spliceD, appendA, capsOf, srcRows, allLen_nil_iff, allLen_cons_iff, allLen_append_iff, dropC, Obs.fits, eqCs, eqD]
    have e : feedD d b = (d, []) := by
      rw [feedD, if_pos]
      simp
      exact h
    simp [e, Dec.row]
  · refine qcall_pure (concat_calls d.rest b hd hb) hf rfl ?_
    simp -implicitDefEqProofs [hf, aw_skip, aw_region, aw_seq, aw_block, aw_cond, aw_exit, aw_ret, kq_nil, kq_seq, kq_seq_ret, kq_seq_exit, kq_block, kq_block_ret, kq_block_exit, kq_loop, kq_loop_ret, kq_loop_exit, awOps_nil, awOps_cons, awOps_guardE, nx_eq, awOp, ev_k, ev_0, ev_1, ev_2, ev_3, ev_4, ev_5, ev_6, ev_7, ev_8, set_0, set_1, set_2, set_3, set_4, set_5, set_6, set_7, set_8, -List.set_cons_succ, -List.set_cons_zero, A.ok, A.val, setSl, wrapG, guardB, getB, pickA, binA, binC, binD, cmpD, isCmp, unA, unD, lenA, AOp.total, kills, litB, FinQ, resOks, resOk, resA, resList, resOne, A.thaw, C.thaw, A.fits, As.fits, C.fits, evs, oks, callArgs, A.pure, C.pure, A.re, C.re, fieldAddrA, loadC, cut, A.cells, C.rows?, getOb, newOb, setOb, storeC, splice, Ob.re, Cs.fits, partsA, partsOk, parts2A, parts2Ok, fillC, fillRows, optInt, optOk, sliceA, clipC, optK_some, storeK_some, Option.map_some, toDs, C.toD, spliceD, appendA, capsOf, srcRows, allLen_nil_iff, allLen_cons_iff, allLen_append_iff, dropC, Obs.fits, eqCs, eqD]
    refine loop_enter (St.le_token 7 2 rfl) ?_
    have e : feedD d b = (⟨(feed (d.rest ++ b)).2.1, (feed (d.rest ++ b)).2.2⟩, (feed (d.rest ++ b)).1) := by
      rw [feedD, if_neg]
      simp [h1, h2]
    have hall : (d.rest ++ b).length ≤ 200000000 := by simp; omega
    generalize d.rest ++ b = all at e hall
    refine loop_set (σ := List Frame × List UInt8) (fun x => [(6, .c (.d (.sl (bytesRows x.2)))), (7, .c (.own (.l 2) x.1.length (x.1.map Frame.row)))]) (fun _ => H)
      (fun x => [.cells [.d (.sl (bytesRows d.rest)), .d (.bool d.broken)], .cells [.full [], .d (.bool false)], .grow x.1.length 2])
      (fun x => x.2.length ≤ all.length ∧ x.1 ++ (feed x.2).1 = (feed all).1 ∧ (feed x.2).2 = (feed all).2 ∧ x.1.length + x.2.length ≤ all.length) (fun x => x.2.length) ([], all) rfl ⟨Nat.le_refl _, rfl, rfl, by simp⟩ ?_
    rintro ⟨fs, rest⟩ ⟨i1, i2, i3, i4⟩
    simp only at i1 i2 i3 i4
    simp -implicitDefEqProofs [setAll, aw_skip, aw_region, aw_seq, aw_block, aw_cond, aw_exit, aw_ret, kq_nil, kq_seq, kq_seq_ret, kq_seq_exit, kq_block, kq_block_ret, kq_block_exit, kq_loop, kq_loop_ret, kq_loop_exit, awOps_nil, awOps_cons, awOps_guardE, nx_eq, awOp, ev_k, ev_0, ev_1, ev_2, ev_3, ev_4, ev_5, ev_6, ev_7, ev_8, set_0, set_1, set_2, set_3, set_4, set_5, set_6, set_7, set_8, -List.set_cons_succ, -List.set_cons_zero, A.ok, A.val, setSl, wrapG, guardB, getB, pickA, binA, binC, binD, cmpD, isCmp, unA, unD, lenA, AOp.total, kills, litB, FinQ, resOks, resOk, resA, resList, resOne, A.thaw, C.thaw, A.fits, As.fits, C.fits, evs, oks, callArgs, A.pure, C.pure, A.re, C.re, fieldAddrA, loadC, cut, A.cells, C.rows?, getOb, newOb, setOb, storeC, splice, Ob.re, Cs.fits, partsA, partsOk, parts2A, parts2Ok, fillC, fillRows, optInt, optOk, sliceA, clipC, optK_some, storeK_some, Option.map_some, toDs, C.toD, spliceD, appendA, capsOf, srcRows, allLen_nil_iff, allLen_cons_iff, allLen_append_iff, dropC, Obs.fits, eqCs, eqD]
    refine qcall_pure (lengthOf_calls rest (by omega)) hf rfl ?_
    have hrl : inR .i64 (rest.length : Int) := small_i64 (by omega) (by omega)
    simp -implicitDefEqProofs [hrl, bytesRows_len, aw_skip, aw_region, aw_seq, aw_block, aw_cond, aw_exit, aw_ret, kq_nil, kq_seq, kq_seq_ret, kq_seq_exit, kq_block, kq_block_ret, kq_block_exit, kq_loop, kq_loop_ret, kq_loop_exit, awOps_nil, awOps_cons, awOps_guardE, nx_eq, awOp, ev_k, ev_0, ev_1, ev_2, ev_3, ev_4, ev_5, ev_6, ev_7, ev_8, set_0, set_1, set_2, set_3, set_4, set_5, set_6, set_7, set_8, -List.set_cons_succ, -List.set_cons_zero, A.ok, A.val, setSl, wrapG, guardB, getB, pickA, binA, binC, binD, cmpD, isCmp, unA, unD, lenA, AOp.total, kills, litB, FinQ, resOks, resOk, resA, resList, resOne, A.thaw, C.thaw, A.fits, As.fits, C.fits, evs, oks, callArgs, A.pure, C.pure, A.re, C.re, fieldAddrA, loadC, cut, A.cells, C.rows?, getOb, newOb, setOb, storeC, splice, Ob.re, Cs.fits, partsA, partsOk, parts2A, parts2Ok, fillC, fillRows, optInt, optOk, sliceA, clipC, optK_some, storeK_some, Option.map_some, toDs, C.toD, spliceD, appendA, capsOf, srcRows, allLen_nil_iff, allLen_cons_iff, allLen_append_iff, dropC, Obs.fits, eqCs, eqD]
    rcases next_cases rest with ⟨hn, h0, hw⟩ | ⟨hn, hc⟩ | ⟨hw, hlen, hle, hn⟩
    · refine ⟨fun _ => ⟨h0, ?_⟩, fun h => by omega⟩
      refine qcall_pure (within_calls (lenOf rest) 1 2001) hf rfl ?_
      have hwb : (decide (1 ≤ lenOf rest) && decide (lenOf rest ≤ 2001)) = false := by simpa using hw
      simp -implicitDefEqProofs [h0, hwb, aw_skip, aw_region, aw_seq, aw_block, aw_cond, aw_exit, aw_ret, kq_nil, kq_seq, kq_seq_ret, kq_seq_exit, kq_block, kq_block_ret, kq_block_exit, kq_loop, kq_loop_ret, kq_loop_exit, awOps_nil, awOps_cons, awOps_guardE, nx_eq, awOp, ev_k, ev_0, ev_1, ev_2, ev_3, ev_4, ev_5, ev_6, ev_7, ev_8, set_0, set_1, set_2, set_3, set_4, set_5, set_6, set_7, set_8, -List.set_cons_succ, -List.set_cons_zero, A.ok, A.val, setSl, wrapG, guardB, getB, pickA, binA, binC, binD, cmpD, isCmp, unA, unD, lenA, AOp.total, kills, litB, FinQ, resOks, resOk, resA, resList, resOne, A.thaw, C.thaw, A.fits, As.fits, C.fits, evs, oks, callArgs, A.pure, C.pure, A.re, C.re, fieldAddrA, loadC, cut, A.cells, C.rows?, getOb, newOb, setOb, storeC, splice, Ob.re, Cs.fits, partsA, partsOk, parts2A, parts2Ok, fillC, fillRows, optInt, optOk, sliceA, clipC, optK_some, storeK_some, Option.map_some, toDs, C.toD, spliceD, appendA, capsOf, srcRows, allLen_nil_iff, allLen_cons_iff, allLen_append_iff, dropC, Obs.fits, eqCs, eqD]
      have e2 := feed_bad hn
      rw [e2] at i2 i3
      simp only [List.append_nil] at i2
      have e3 : feedD d b = (⟨[], true⟩, fs) := by rw [e, ← i2, ← i3]
      simp [hf, e3, bytesRows]
    · have e2 := feed_stop hn
      rw [e2] at i2 i3
      simp only [List.append_nil] at i2
      have e3 : feedD d b = (⟨rest, false⟩, fs) := by rw [e, ← i2, ← i3]
      have hadd : inR .i64 (lenOf rest + 2) := small_i64 (by unfold lenOf; split <;> omega) (by have := hd2_lt rest; unfold lenOf; split <;> omega)
      refine ⟨fun h0 => ⟨h0, ?_⟩, fun h0 => ⟨fun _ => hadd, fun _ => ?_, fun h => by omega⟩⟩
      · refine qcall_pure (within_calls (lenOf rest) 1 2001) hf rfl ?_
        have hwb : (decide (1 ≤ lenOf rest) && decide (lenOf rest ≤ 2001)) = true := by simp; omega
        have h3 : (rest.length : Int) < lenOf rest + 2 := by omega
        simp -implicitDefEqProofs [h0, hwb, hrl, hadd, h3, bytesRows_len, aw_skip, aw_region, aw_seq, aw_block, aw_cond, aw_exit, aw_ret, kq_nil, kq_seq, kq_seq_ret, kq_seq_exit, kq_block, kq_block_ret, kq_block_exit, kq_loop, kq_loop_ret, kq_loop_exit, awOps_nil, awOps_cons, awOps_guardE, nx_eq, awOp, ev_k, ev_0, ev_1, ev_2, ev_3, ev_4, ev_5, ev_6, ev_7, ev_8, set_0, set_1, set_2, set_3, set_4, set_5, set_6, set_7, set_8, -List.set_cons_succ, -List.set_cons_zero, A.ok, A.val, setSl, wrapG, guardB, getB, pickA, binA, binC, binD, cmpD, isCmp, unA, unD, lenA, AOp.total, kills, litB, FinQ, resOks, resOk, resA, resList, resOne, A.thaw, C.thaw, A.fits, As.fits, C.fits, evs, oks, callArgs, A.pure, C.pure, A.re, C.re, fieldAddrA, loadC, cut, A.cells, C.rows?, getOb, newOb, setOb, storeC, splice, Ob.re, Cs.fits, partsA, partsOk, parts2A, parts2Ok, fillC, fillRows, optInt, optOk, sliceA, clipC, optK_some, storeK_some, Option.map_some, toDs, C.toD, spliceD, appendA, capsOf, srcRows, allLen_nil_iff, allLen_cons_iff, allLen_append_iff, dropC, Obs.fits, eqCs, eqD]
        refine qcall_pure (clone_calls rest (by omega)) hf rfl ?_
        simp -implicitDefEqProofs [hf, e3, Dec.row, aw_skip, aw_region, aw_seq, aw_block, aw_cond, aw_exit, aw_ret, kq_nil, kq_seq, kq_seq_ret, kq_seq_exit, kq_block, kq_block_ret, kq_block_exit, kq_loop, kq_loop_ret, kq_loop_exit, awOps_nil, awOps_cons, awOps_guardE, nx_eq, awOp, ev_k, ev_0, ev_1, ev_2, ev_3, ev_4, ev_5, ev_6, ev_7, ev_8, set_0, set_1, set_2, set_3, set_4, set_5, set_6, set_7, set_8, -List.set_cons_succ, -List.set_cons_zero, A.ok, A.val, setSl, wrapG, guardB, getB, pickA, binA, binC, binD, cmpD, isCmp, unA, unD, lenA, AOp.total, kills, litB, FinQ, resOks, resOk, resA, resList, resOne, A.thaw, C.thaw, A.fits, As.fits, C.fits, evs, oks, callArgs, A.pure, C.pure, A.re, C.re, fieldAddrA, loadC, cut, A.cells, C.rows?, getOb, newOb, setOb, storeC, splice, Ob.re, Cs.fits, partsA, partsOk, parts2A, parts2Ok, fillC, fillRows, optInt, optOk, sliceA, clipC, optK_some, storeK_some, Option.map_some, toDs, C.toD, spliceD, appendA, capsOf, srcRows, allLen_nil_iff, allLen_cons_iff, allLen_append_iff, dropC, Obs.fits, eqCs, eqD]
      · refine qcall_pure (clone_calls rest (by omega)) hf rfl ?_
        simp -implicitDefEqProofs [hf, e3, Dec.row, aw_skip, aw_region, aw_seq, aw_block, aw_cond, aw_exit, aw_ret, kq_nil, kq_seq, kq_seq_ret, kq_seq_exit, kq_block, kq_block_ret, kq_block_exit, kq_loop, kq_loop_ret, kq_loop_exit, awOps_nil, awOps_cons, awOps_guardE, nx_eq, awOp, ev_k, ev_0, ev_1, ev_2, ev_3, ev_4, ev_5, ev_6, ev_7, ev_8, set_0, set_1, set_2, set_3, set_4, set_5, set_6, set_7, set_8, -List.set_cons_succ, -List.set_cons_zero, A.ok, A.val, setSl, wrapG, guardB, getB, pickA, binA, binC, binD, cmpD, isCmp, unA, unD, lenA, AOp.total, kills, litB, FinQ, resOks, resOk, resA, resList, resOne, A.thaw, C.thaw, A.fits, As.fits, C.fits, evs, oks, callArgs, A.pure, C.pure, A.re, C.re, fieldAddrA, loadC, cut, A.cells, C.rows?, getOb, newOb, setOb, storeC, splice, Ob.re, Cs.fits, partsA, partsOk, parts2A, parts2Ok, fillC, fillRows, optInt, optOk, sliceA, clipC, optK_some, storeK_some, Option.map_some, toDs, C.toD, spliceD, appendA, capsOf, srcRows, allLen_nil_iff, allLen_cons_iff, allLen_append_iff, dropC, Obs.fits, eqCs, eqD]
    · refine ⟨fun h0 => ⟨h0, ?_⟩, fun h => by omega⟩
      refine qcall_pure (within_calls (lenOf rest) 1 2001) hf rfl ?_
      have hwb : (decide (1 ≤ lenOf rest) && decide (lenOf rest ≤ 2001)) = true := by simpa using hw
      have hadd : inR .i64 (lenOf rest + 2) := small_i64 (by omega) (by omega)
      have h3 : ¬ (rest.length : Int) < lenOf rest + 2 := by omega
      simp -implicitDefEqProofs [h0, hwb, hrl, hadd, h3, bytesRows_len, aw_skip, aw_region, aw_seq, aw_block, aw_cond, aw_exit, aw_ret, kq_nil, kq_seq, kq_seq_ret, kq_seq_exit, kq_block, kq_block_ret, kq_block_exit, kq_loop, kq_loop_ret, kq_loop_exit, awOps_nil, awOps_cons, awOps_guardE, nx_eq, awOp, ev_k, ev_0, ev_1, ev_2, ev_3, ev_4, ev_5, ev_6, ev_7, ev_8, set_0, set_1, set_2, set_3, set_4, set_5, set_6, set_7, set_8, -List.set_cons_succ, -List.set_cons_zero, A.ok, A.val, setSl, wrapG, guardB, getB, pickA, binA, binC, binD, cmpD, isCmp, unA, unD, lenA, AOp.total, kills, litB, FinQ, resOks, resOk, resA, resList, resOne, A.thaw, C.thaw, A.fits, As.fits, C.fits, evs, oks, callArgs, A.pure, C.pure, A.re, C.re, fieldAddrA, loadC, cut, A.cells, C.rows?, getOb, newOb, setOb, storeC, splice, Ob.re, Cs.fits, partsA, partsOk, parts2A, parts2Ok, fillC, fillRows, optInt, optOk, sliceA, clipC, optK_some, storeK_some, Option.map_some, toDs, C.toD, spliceD, appendA, capsOf, srcRows, allLen_nil_iff, allLen_cons_iff, allLen_append_iff, dropC, Obs.fits, eqCs, eqD]
      refine ⟨fun h => by omega, ?_⟩
      refine byteRowD 2 rfl (by omega) ?_
      have hs3 : ((lenOf rest + 2).toNat) = hd2 rest + 2 := by omega
      simp -implicitDefEqProofs [hs3, hadd, hrl, bytesRows_len, allLen_bytes, take_bytes, drop_bytes, aw_skip, aw_region, aw_seq, aw_block, aw_cond, aw_exit, aw_ret, kq_nil, kq_seq, kq_seq_ret, kq_seq_exit, kq_block, kq_block_ret, kq_block_exit, kq_loop, kq_loop_ret, kq_loop_exit, awOps_nil, awOps_cons, awOps_guardE, nx_eq, awOp, ev_k, ev_0, ev_1, ev_2, ev_3, ev_4, ev_5, ev_6, ev_7, ev_8, set_0, set_1, set_2, set_3, set_4, set_5, set_6, set_7, set_8, -List.set_cons_succ, -List.set_cons_zero, A.ok, A.val, setSl, wrapG, guardB, getB, pickA, binA, binC, binD, cmpD, isCmp, unA, unD, lenA, AOp.total, kills, litB, FinQ, resOks, resOk, resA, resList, resOne, A.thaw, C.thaw, A.fits, As.fits, C.fits, evs, oks, callArgs, A.pure, C.pure, A.re, C.re, fieldAddrA, loadC, cut, A.cells, C.rows?, getOb, newOb, setOb, storeC, splice, Ob.re, Cs.fits, partsA, partsOk, parts2A, parts2Ok, fillC, fillRows, optInt, optOk, sliceA, clipC, optK_some, storeK_some, Option.map_some, toDs, C.toD, spliceD, appendA, capsOf, srcRows, allLen_nil_iff, allLen_cons_iff, allLen_append_iff, dropC, Obs.fits, eqCs, eqD]
      refine ⟨by omega, ?_⟩
      refine b2s_of ?_
      simp -implicitDefEqProofs [u8_i64, hf, aw_skip, aw_region, aw_seq, aw_block, aw_cond, aw_exit, aw_ret, kq_nil, kq_seq, kq_seq_ret, kq_seq_exit, kq_block, kq_block_ret, kq_block_exit, kq_loop, kq_loop_ret, kq_loop_exit, awOps_nil, awOps_cons, awOps_guardE, nx_eq, awOp, ev_k, ev_0, ev_1, ev_2, ev_3, ev_4, ev_5, ev_6, ev_7, ev_8, set_0, set_1, set_2, set_3, set_4, set_5, set_6, set_7, set_8, -List.set_cons_succ, -List.set_cons_zero, A.ok, A.val, setSl, wrapG, guardB, getB, pickA, binA, binC, binD, cmpD, isCmp, unA, unD, lenA, AOp.total, kills, litB, FinQ, resOks, resOk, resA, resList, resOne, A.thaw, C.thaw, A.fits, As.fits, C.fits, evs, oks, callArgs, A.pure, C.pure, A.re, C.re, fieldAddrA, loadC, cut, A.cells, C.rows?, getOb, newOb, setOb, storeC, splice, Ob.re, Cs.fits, partsA, partsOk, parts2A, parts2Ok, fillC, fillRows, optInt, optOk, sliceA, clipC, optK_some, storeK_some, Option.map_some, toDs, C.toD, spliceD, appendA, capsOf, srcRows, allLen_nil_iff, allLen_cons_iff, allLen_append_iff, dropC, Obs.fits, eqCs, eqD]
      have hwf : ((rest.take (hd2 rest + 2)).drop 3).length ≤ reachBytes := by simp [reachBytes]; omega
      refine qcall_pure (fvImpl_calls (frameAt rest) hwf) hf rfl ?_
      simp -implicitDefEqProofs [hf, hadd, hrl, hs3, bytesRows_len, allLen_bytes, take_bytes, drop_bytes, aw_skip, aw_region, aw_seq, aw_block, aw_cond, aw_exit, aw_ret, kq_nil, kq_seq, kq_seq_ret, kq_seq_exit, kq_block, kq_block_ret, kq_block_exit, kq_loop, kq_loop_ret, kq_loop_exit, awOps_nil, awOps_cons, awOps_guardE, nx_eq, awOp, ev_k, ev_0, ev_1, ev_2, ev_3, ev_4, ev_5, ev_6, ev_7, ev_8, set_0, set_1, set_2, set_3, set_4, set_5, set_6, set_7, set_8, -List.set_cons_succ, -List.set_cons_zero, A.ok, A.val, setSl, wrapG, guardB, getB, pickA, binA, binC, binD, cmpD, isCmp, unA, unD, lenA, AOp.total, kills, litB, FinQ, resOks, resOk, resA, resList, resOne, A.thaw, C.thaw, A.fits, As.fits, C.fits, evs, oks, callArgs, A.pure, C.pure, A.re, C.re, fieldAddrA, loadC, cut, A.cells, C.rows?, getOb, newOb, setOb, storeC, splice, Ob.re, Cs.fits, partsA, partsOk, parts2A, parts2Ok, fillC, fillRows, optInt, optOk, sliceA, clipC, optK_some, storeK_some, Option.map_some, toDs, C.toD, spliceD, appendA, capsOf, srcRows, allLen_nil_iff, allLen_cons_iff, allLen_append_iff, dropC, Obs.fits, eqCs, eqD]
      refine ⟨fun ho => ?_, fun ho => ⟨allLen_map fun x => rfl, by unfold maxApp; omega, by omega, ?_⟩⟩
      · rw [ho] at hn
        have e2 := feed_bad hn
        rw [e2] at i2 i3
        simp only [List.append_nil] at i2
        have e3 : feedD d b = (⟨[], true⟩, fs) := by rw [e, ← i2, ← i3]
        simp [e3, bytesRows]
      · rw [if_pos ho] at hn
        have hk : (nextN rest).toNat = hd2 rest + 2 := by omega
        have e2 := feed_go (b := rest) (by omega)
        rw [hk] at e2
        rw [e2] at i2 i3
        refine loop_less (fs ++ [frameAt rest], rest.drop (hd2 rest + 2)) (St.le_cut [_] ?_ (by simp [Sl.le, A.le_refl_iff, A.le_u_iff, As.lo, A.lo, C.lo, Ref.lo, Cs.lo, Obs.lo, Ob.lo, setAll, and_true, true_and, List.length_nil, List.length_cons]) (by simp only [List.length_append, List.length_cons, List.length_nil]; rfl) ⟨⟨trivial, trivial, trivial⟩, ⟨trivial, trivial, trivial⟩, trivial, trivial⟩) ⟨?_, ?_, i3, ?_⟩ ?_
        · simp [frameAt, Frame.row, Sl.le, A.le_refl_iff, A.le_u_iff, As.lo, A.lo, C.lo, Ref.lo, Cs.lo, Obs.lo, Ob.lo, setAll, and_true, true_and, List.length_nil, List.length_cons]
        · simp; omega
        · simp only [List.append_assoc, List.cons_append, List.nil_append]; exact i2
        · simp; omega
        · show (rest.drop (hd2 rest + 2)).length < rest.length
          simp; omega
end Go.Proofs.Ytamaaiabbganjaa
