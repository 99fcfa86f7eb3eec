/-
  The law FnExactApplyBinds holds: impl.ApplyBinds answers as spec.ApplyBinds does, with memory of its own.
  Conditions: none.
-/
import Derived.Test.YtaegeehpajlebaaAb
import Derived.Test.YtaegeehpajlebaaBdM
open Go Go.AM Go.Proofs
namespace Go.Proofs.Ytaegeehpajlebaa
open Go.ChangeShapes Go.WideShapes Go.ChangeAt Go.RowKit
set_option linter.unusedVariables false
set_option linter.unusedSimpArgs false
set_option maxRecDepth 100000
-- 3 loop.example/prologserver/laws.FnExactApplyBinds params 2 ntmps 119
def ac3 : Cd := .seq (.region [⟨(some 2), .box (.t 0), none⟩,
      ⟨(some 4), .mv (.k (.c (.d (.bool false)))), none⟩] [0, 4])
  (.seq (.region [⟨(some 5), .mv (.k (.c (.d (.int .i64 1048576)))), none⟩] [])
  (.seq (.region [⟨(some 17), .load (some 4) (.t 2), none⟩,
      ⟨(some 18), .mv (.t 5), none⟩,
      ⟨(some 19), .call false 7 [(.t 17), (.t 18)], none⟩,
      ⟨(some 5), .mv (.t 19), none⟩] [17, 18, 19])
  (.seq (.seq (.region [⟨(some 20), .mv (.t 5), none⟩,
        ⟨(some 21), .bin .lss (.t 20) (.k (.c (.d (.int .i64 0)))), none⟩] [20])
    (.cond (.t 21)
      (.seq (.region [⟨(some 4), .mv (.k (.c (.d (.bool true)))), none⟩] [1, 2, 5, 21])
      (.ret))
      (.skip)))
  (.seq (.region [⟨(some 22), .mv (.t 1), none⟩,
      ⟨(some 23), .mv (.t 5), none⟩,
      ⟨(some 24), .call false 8 [(.t 22), (.t 23)], none⟩,
      ⟨(some 5), .mv (.t 24), none⟩] [4, 21, 22, 23, 24])
  (.seq (.seq (.region [⟨(some 25), .mv (.t 5), none⟩,
        ⟨(some 26), .bin .lss (.t 25) (.k (.c (.d (.int .i64 0)))), none⟩] [5, 25])
    (.cond (.t 26)
      (.seq (.region [⟨(some 4), .mv (.k (.c (.d (.bool true)))), none⟩] [1, 2, 26])
      (.ret))
      (.skip)))
  (.seq (.region [⟨(some 28), .load (some 4) (.t 2), none⟩,
      ⟨(some 29), .qcall 10 [(.t 28)], none⟩,
      ⟨(some 30), .mv (.t 1), none⟩,
      ⟨(some 31), .qcall 11 [(.t 30)], none⟩,
      ⟨(some 32), .qcall 9 [(.t 29), (.t 31)], none⟩,
      ⟨(some 27), .mv (.t 32), none⟩,
      ⟨(some 33), .extract 0 (.t 27), none⟩,
      ⟨(some 34), .extract 1 (.t 27), none⟩,
      ⟨(some 6), .alloc [(.d (.int .i64 0)), (.d (.int .i64 0)), (.d (.str [])), (.full [])], none⟩,
      ⟨none, .store 4 (.t 6) (.t 33), none⟩,
      ⟨(some 7), .mv (.t 34), none⟩] [4, 26, 27, 28, 29, 30, 31, 32, 33, 34])
  (.seq (.region [⟨(some 35), .load (some 4) (.t 2), none⟩,
      ⟨(some 36), .call false 10 [(.t 35)], none⟩,
      ⟨(some 8), .alloc [(.d (.int .i64 0)), (.d (.int .i64 0)), (.d (.str [])), (.full [])], none⟩,
      ⟨none, .store 4 (.t 8) (.t 36), none⟩] [35, 36])
  (.seq (.region [⟨(some 37), .mv (.t 1), none⟩,
      ⟨(some 38), .call false 11 [(.t 37)], none⟩,
      ⟨(some 9), .mv (.t 38), none⟩] [37, 38])
  (.seq (.region [⟨(some 40), .load (some 4) (.t 8), none⟩,
      ⟨(some 41), .mv (.t 9), none⟩,
      ⟨(some 42), .call false 12 [(.t 40), (.t 41)], none⟩,
      ⟨(some 39), .mv (.t 42), none⟩,
      ⟨(some 43), .extract 0 (.t 39), none⟩,
      ⟨(some 44), .extract 1 (.t 39), none⟩,
      ⟨(some 10), .alloc [(.d (.int .i64 0)), (.d (.int .i64 0)), (.d (.str [])), (.full [])], none⟩,
      ⟨none, .store 4 (.t 10) (.t 43), none⟩,
      ⟨(some 11), .mv (.t 44), none⟩] [39, 40, 41, 42, 43, 44])
  (.seq (.seq (.region [⟨(some 45), .load (some 4) (.t 10), none⟩,
        ⟨(some 46), .load (some 4) (.t 6), none⟩,
        ⟨(some 47), .qcall 13 [(.t 45), (.t 46)], none⟩,
        ⟨(some 48), .un .not (.t 47), none⟩,
        ⟨(some 49), .mv (.t 48), none⟩,
        ⟨(some 50), .mv (.t 11), some (49, false)⟩,
        ⟨(some 51), .mv (.t 7), some (49, false)⟩,
        ⟨(some 52), .binB true (.t 50) (.t 51), some (49, false)⟩,
        ⟨(some 53), .pick (.t 49) (.k (.c (.d (.bool true)))) (.t 52), none⟩] [45, 46, 47, 48, 49, 50, 51, 52])
    (.cond (.t 53)
      (.seq (.region [⟨(some 4), .mv (.k (.c (.d (.bool false)))), none⟩] [1, 2, 6, 7, 8, 9, 10, 11, 53])
      (.ret))
      (.skip)))
  (.seq (.seq (.region [⟨(some 54), .load (some 4) (.t 8), none⟩,
        ⟨(some 55), .load (some 4) (.t 2), none⟩,
        ⟨(some 56), .qcall 10 [(.t 55)], none⟩,
        ⟨(some 57), .qcall 13 [(.t 54), (.t 56)], none⟩,
        ⟨(some 58), .un .not (.t 57), none⟩] [4, 53, 54, 55, 56, 57])
    (.cond (.t 58)
      (.seq (.region [⟨(some 4), .mv (.k (.c (.d (.bool false)))), none⟩] [1, 2, 6, 7, 8, 9, 10, 11, 58])
      (.ret))
      (.skip)))
  (.seq (.seq (.region [⟨(some 59), .mv (.t 9), none⟩,
        ⟨(some 60), .mv (.t 1), none⟩,
        ⟨(some 61), .qcall 11 [(.t 60)], none⟩,
        ⟨(some 62), .qcall 14 [(.t 59), (.t 61)], none⟩,
        ⟨(some 63), .un .not (.t 62), none⟩] [4, 58, 59, 60, 61, 62])
    (.cond (.t 63)
      (.seq (.region [⟨(some 4), .mv (.k (.c (.d (.bool false)))), none⟩] [1, 2, 6, 7, 8, 9, 10, 11, 63])
      (.ret))
      (.skip)))
  (.seq (.region [⟨(some 12), .mv (.k (.c (.d (.int .i64 1)))), none⟩] [4, 63])
  (.seq (.region [⟨(some 64), .load (some 4) (.t 8), none⟩,
      ⟨(some 65), .mv (.t 12), none⟩,
      ⟨(some 66), .call false 15 [(.t 64), (.t 65)], none⟩,
      ⟨(some 12), .mv (.t 66), none⟩] [8, 64, 65, 66])
  (.seq (.region [⟨(some 67), .mv (.t 9), none⟩,
      ⟨(some 68), .mv (.t 12), none⟩,
      ⟨(some 69), .call false 16 [(.t 67), (.t 68)], none⟩,
      ⟨(some 12), .mv (.t 69), none⟩] [9, 67, 68, 69])
  (.seq (.seq (.region [⟨(some 70), .mv (.t 12), none⟩,
        ⟨(some 71), .bin .lss (.t 70) (.k (.c (.d (.int .i64 0)))), none⟩,
        ⟨(some 72), .mv (.t 71), none⟩,
        ⟨(some 73), .load (some 4) (.t 10), some (72, false)⟩,
        ⟨(some 74), .load (some 4) (.t 6), some (72, false)⟩,
        ⟨(some 75), .qcall 13 [(.t 73), (.t 74)], some (72, false)⟩,
        ⟨(some 76), .un .not (.t 75), some (72, false)⟩,
        ⟨(some 77), .pick (.t 72) (.k (.c (.d (.bool true)))) (.t 76), none⟩,
        ⟨(some 78), .mv (.t 77), none⟩,
        ⟨(some 79), .mv (.t 11), some (78, false)⟩,
        ⟨(some 80), .mv (.t 7), some (78, false)⟩,
        ⟨(some 81), .binB true (.t 79) (.t 80), some (78, false)⟩,
        ⟨(some 82), .pick (.t 78) (.k (.c (.d (.bool true)))) (.t 81), none⟩] [11, 12, 70, 71, 72, 73, 74, 75, 76, 77, 78, 79, 80, 81])
    (.cond (.t 82)
      (.seq (.region [⟨(some 4), .mv (.k (.c (.d (.bool false)))), none⟩] [1, 2, 6, 7, 10, 82])
      (.ret))
      (.skip)))
  (.seq (.region [⟨(some 13), .mv (.k (.c (.d (.int .i64 1)))), none⟩] [4, 82])
  (.seq (.region [⟨(some 83), .load (some 4) (.t 10), none⟩,
      ⟨(some 84), .mv (.t 13), none⟩,
      ⟨(some 85), .call false 15 [(.t 83), (.t 84)], none⟩,
      ⟨(some 13), .mv (.t 85), none⟩] [83, 84, 85])
  (.seq (.region [⟨(some 14), .mv (.k (.c (.d (.int .i64 1)))), none⟩] [])
  (.seq (.region [⟨(some 86), .load (some 4) (.t 10), none⟩,
      ⟨(some 87), .mv (.t 14), none⟩,
      ⟨(some 88), .qcall 17 [(.t 86), (.t 87)], none⟩,
      ⟨(some 14), .mv (.t 88), none⟩] [86, 87, 88])
  (.seq (.seq (.region [⟨(some 89), .mv (.t 14), none⟩,
        ⟨(some 90), .bin .lss (.t 89) (.k (.c (.d (.int .i64 0)))), none⟩] [89])
    (.cond (.t 90)
      (.seq (.region [⟨(some 4), .mv (.k (.c (.d (.bool false)))), none⟩] [1, 2, 6, 7, 10, 13, 14, 90])
      (.ret))
      (.skip)))
  (.seq (.seq (.region [⟨(some 91), .mv (.t 14), none⟩,
        ⟨(some 92), .mv (.t 13), none⟩,
        ⟨(some 93), .bin .neq (.t 91) (.t 92), none⟩] [4, 14, 90, 91, 92])
    (.cond (.t 93)
      (.seq (.region [⟨(some 4), .mv (.k (.c (.d (.bool false)))), none⟩] [1, 2, 6, 7, 10, 13, 93])
      (.ret))
      (.skip)))
  (.seq (.region [⟨(some 95), .load (some 4) (.t 2), none⟩,
      ⟨(some 96), .qcall 10 [(.t 95)], none⟩,
      ⟨(some 97), .mv (.t 1), none⟩,
      ⟨(some 98), .qcall 11 [(.t 97)], none⟩,
      ⟨(some 99), .qcall 12 [(.t 96), (.t 98)], none⟩,
      ⟨(some 94), .mv (.t 99), none⟩,
      ⟨(some 100), .extract 0 (.t 94), none⟩,
      ⟨(some 101), .extract 1 (.t 94), none⟩,
      ⟨(some 15), .alloc [(.d (.int .i64 0)), (.d (.int .i64 0)), (.d (.str [])), (.full [])], none⟩,
      ⟨none, .store 4 (.t 15) (.t 100), none⟩,
      ⟨(some 16), .mv (.t 101), none⟩] [1, 2, 4, 93, 94, 95, 96, 97, 98, 99, 100, 101])
  (.seq (.seq (.region [⟨(some 102), .load (some 4) (.t 15), none⟩,
        ⟨(some 103), .load (some 4) (.t 6), none⟩,
        ⟨(some 104), .qcall 13 [(.t 102), (.t 103)], none⟩,
        ⟨(some 105), .un .not (.t 104), none⟩,
        ⟨(some 106), .mv (.t 105), none⟩,
        ⟨(some 107), .mv (.t 16), some (106, false)⟩,
        ⟨(some 108), .mv (.t 7), some (106, false)⟩,
        ⟨(some 109), .binB true (.t 107) (.t 108), some (106, false)⟩,
        ⟨(some 110), .pick (.t 106) (.k (.c (.d (.bool true)))) (.t 109), none⟩] [6, 7, 15, 16, 102, 103, 104, 105, 106, 107, 108, 109])
    (.cond (.t 110)
      (.seq (.region [⟨(some 4), .mv (.k (.c (.d (.bool false)))), none⟩] [10, 13, 110])
      (.ret))
      (.skip)))
  (.seq (.region [⟨(some 14), .mv (.k (.c (.d (.int .i64 1)))), none⟩] [4, 110])
  (.seq (.region [⟨(some 111), .load (some 4) (.t 10), none⟩,
      ⟨(some 112), .mv (.t 14), none⟩,
      ⟨(some 113), .qcall 17 [(.t 111), (.t 112)], none⟩,
      ⟨(some 14), .mv (.t 113), none⟩] [10, 111, 112, 113])
  (.seq (.seq (.region [⟨(some 114), .mv (.t 14), none⟩,
        ⟨(some 115), .bin .lss (.t 114) (.k (.c (.d (.int .i64 0)))), none⟩] [114])
    (.cond (.t 115)
      (.seq (.region [⟨(some 4), .mv (.k (.c (.d (.bool false)))), none⟩] [13, 14, 115])
      (.ret))
      (.skip)))
  (.seq (.seq (.region [⟨(some 116), .mv (.t 14), none⟩,
        ⟨(some 117), .mv (.t 13), none⟩,
        ⟨(some 118), .bin .neq (.t 116) (.t 117), none⟩] [4, 13, 14, 115, 116, 117])
    (.cond (.t 118)
      (.seq (.region [⟨(some 4), .mv (.k (.c (.d (.bool false)))), none⟩] [118])
      (.ret))
      (.skip)))
  (.seq (.region [⟨(some 4), .mv (.k (.c (.d (.bool true)))), none⟩] [118])
  (.ret))))))))))))))))))))))))))))))
theorem ac3_ok : cFunc Try.prog [1000009, 1000010, 1000011, 1000012, 1000013, 1000014, 1000017, 7000035, 7000037, 7000040] [(0, [0, 4], []), (1, [], []), (2, [17, 18, 19], []), (3, [20], []), (4, [1, 2, 5, 21], []), (5, [4, 21, 22, 23, 24], []), (6, [5, 25], []), (7, [1, 2, 26], []), (8, [4, 26, 27, 28, 29, 30, 31, 32, 33, 34], []), (9, [35, 36], []), (10, [37, 38], []), (11, [39, 40, 41, 42, 43, 44], []), (12, [45, 46, 47, 48, 49, 50, 51, 52], []), (13, [1, 2, 6, 7, 8, 9, 10, 11, 53], []), (14, [4, 53, 54, 55, 56, 57], [0, 1, 2, 3, 4]), (15, [1, 2, 6, 7, 8, 9, 10, 11, 58], []), (16, [4, 58, 59, 60, 61, 62], []), (17, [1, 2, 6, 7, 8, 9, 10, 11, 63], []), (18, [4, 63], []), (19, [8, 64, 65, 66], []), (20, [9, 67, 68, 69], []), (21, [11, 12, 70, 71, 72, 73, 74, 75, 76, 77, 78, 79, 80, 81], []), (22, [1, 2, 6, 7, 10, 82], []), (23, [4, 82], []), (24, [83, 84, 85], []), (25, [], []), (26, [86, 87, 88], []), (27, [89], []), (28, [1, 2, 6, 7, 10, 13, 14, 90], []), (29, [4, 14, 90, 91, 92], []), (30, [1, 2, 6, 7, 10, 13, 93], []), (31, [1, 2, 4, 93, 94, 95, 96, 97, 98, 99, 100, 101], []), (32, [6, 7, 15, 16, 102, 103, 104, 105, 106, 107, 108, 109], []), (33, [10, 13, 110], []), (34, [4, 110], []), (35, [10, 111, 112, 113], []), (36, [114], []), (37, [13, 14, 115], []), (38, [4, 13, 14, 115, 116, 117], []), (39, [118], []), (40, [118], [])] Try.f3 = some (ac3, [.tmp 4], 119) := by kernel_rfl
theorem sub_size : ∀ t : Tm, t.sub + 1 ≤ t.size := by
  refine Tm.ind fun k n s l ih => ?_
  simp only [sub_mk, Tm.size]
  have : Tm.cnt l ≤ sizes l := by
    clear k n s
    induction l with
    | nil => simp [cnt_nil]
    | cons t l ih2 =>
      rw [cnt_cons]
      have h1 := ih t (by simp)
      have h2 := ih2 fun t ht => ih t (by simp [ht])
      simp only [sizes]
      omega
  omega
theorem abT_ok (t : Tm) (ht : t.fits) (bs : List Bd) (hbs : FitsB bs) : (abT t bs).1.fits ∧ (abT t bs).1.sub ≤ 120 := by
  unfold abT
  split
  · rename_i hv
    simp only [Bool.and_eq_true] at hv
    have h2 : (t.sub1 (bdTo bs)).size ≤ 120 := by have := hv.2; simp [Tm.valid] at this; exact this.2
    have h3 := sub_size (t.sub1 (bdTo bs))
    exact ⟨sub1_fits (bdTo bs) (bdTo_fits hbs.2) t ht, by simp only; omega⟩
  · exact ⟨.mk (small_i64 (by omega) (by omega)) (small_i64 (by omega) (by omega)) (by simp) (by simp) (by simp), by simp [sub_mk, cnt_nil]⟩
theorem adv_le (l : List Bd) : wsum Bd.adv l ≤ 4 * wsum Bd.wt l := by
  induction l with
  | nil => simp [wsum]
  | cons b l ih =>
    simp only [wsum]
    have h1 := sub_wt b.t
    have h2 : b.adv = 3 + 3 * b.t.sub := rfl
    have h3 : b.wt = b.t.wt := rfl
    omega
theorem axLaw_calls (t : Tm) (hfine : t.fine) (bs : List Bd) (hl : bs.length ≤ reachBytes) (hbf : ∀ b ∈ bs, b.fine) : ACalls Try.prog 3 [.agg (t.row.map .d), .c (.d (.sl (bs.map Bd.row)))] [] (fun r _ => r = .c (.d (.bool true))) := by
  refine acalls Try.func3 (by kernel_rfl) ac3_ok fun hf => ?_
  simp -implicitDefEqProofs [ac3, row_len, take_row, pure_d, re_d, aw_skip, aw_region, aw_seq, aw_block, aw_cond, aw_exit, aw_ret, kq_nil, kq_seq, kq_seq_ret, kq_seq_exit, kq_block, kq_block_ret, kq_block_exit, kq_loop, kq_loop_ret, kq_loop_exit, awOps_nil, awOps_cons, awOps_guardE, nx_eq, awOp, ev_k, ev_0, ev_1, ev_2, ev_3, ev_4, ev_5, ev_6, ev_7, ev_8, set_0, set_1, set_2, set_3, set_4, set_5, set_6, set_7, set_8, -List.set_cons_succ, -List.set_cons_zero, A.ok, A.val, setSl, wrapG, guardB, getB, pickA, binA, binC, binD, cmpD, isCmp, unA, unD, lenA, AOp.total, kills, litB, FinQ, resOks, resOk, resA, resList, resOne, A.thaw, C.thaw, A.fits, As.fits, C.fits, evs, oks, callArgs, A.pure, C.pure, A.re, C.re, fieldAddrA, loadC, cut, A.cells, C.rows?, getOb, newOb, setOb, storeC, splice, Ob.re, Cs.fits, partsA, partsOk, parts2A, parts2Ok, fillC, fillRows, optInt, optOk, sliceA, clipC, optK_some, storeK_some, Option.map_some, toDs, C.toD, spliceD, appendA, capsOf, srcRows, allLen_nil_iff, allLen_cons_iff, allLen_append_iff, dropC, Obs.fits, eqCs, eqD]
  refine call_some (szwTerm_calls t hfine 1048576 (by omega) (by omega) _) (by simp [Ob.re, C.re, re_d]) (fun r => LeftW.re) hf ?_
  rintro _ ⟨k1, rfl, _, hk1, hk⟩
  simp -implicitDefEqProofs [row_len, take_row, pure_d, re_d, aw_skip, aw_region, aw_seq, aw_block, aw_cond, aw_exit, aw_ret, kq_nil, kq_seq, kq_seq_ret, kq_seq_exit, kq_block, kq_block_ret, kq_block_exit, kq_loop, kq_loop_ret, kq_loop_exit, awOps_nil, awOps_cons, awOps_guardE, nx_eq, awOp, ev_k, ev_0, ev_1, ev_2, ev_3, ev_4, ev_5, ev_6, ev_7, ev_8, set_0, set_1, set_2, set_3, set_4, set_5, set_6, set_7, set_8, -List.set_cons_succ, -List.set_cons_zero, A.ok, A.val, setSl, wrapG, guardB, getB, pickA, binA, binC, binD, cmpD, isCmp, unA, unD, lenA, AOp.total, kills, litB, FinQ, resOks, resOk, resA, resList, resOne, A.thaw, C.thaw, A.fits, As.fits, C.fits, evs, oks, callArgs, A.pure, C.pure, A.re, C.re, fieldAddrA, loadC, cut, A.cells, C.rows?, getOb, newOb, setOb, storeC, splice, Ob.re, Cs.fits, partsA, partsOk, parts2A, parts2Ok, fillC, fillRows, optInt, optOk, sliceA, clipC, optK_some, storeK_some, Option.map_some, toDs, C.toD, spliceD, appendA, capsOf, srcRows, allLen_nil_iff, allLen_cons_iff, allLen_append_iff, dropC, Obs.fits, eqCs, eqD]
  intro h0
  have hw1 := (hk h0).2
  have hfit : t.fits := (hk h0).1
  refine call_some (szBindS_w bs hl (fun b hb => szwBind_calls b (hbf b hb)) k1 (by omega) (by omega) _) (by simp [Ob.re, C.re, re_d]) (fun r => LeftW.re) hf ?_
  rintro _ ⟨k2, rfl, _, _, hk'⟩
  simp -implicitDefEqProofs [row_len, take_row, pure_d, re_d, aw_skip, aw_region, aw_seq, aw_block, aw_cond, aw_exit, aw_ret, kq_nil, kq_seq, kq_seq_ret, kq_seq_exit, kq_block, kq_block_ret, kq_block_exit, kq_loop, kq_loop_ret, kq_loop_exit, awOps_nil, awOps_cons, awOps_guardE, nx_eq, awOp, ev_k, ev_0, ev_1, ev_2, ev_3, ev_4, ev_5, ev_6, ev_7, ev_8, set_0, set_1, set_2, set_3, set_4, set_5, set_6, set_7, set_8, -List.set_cons_succ, -List.set_cons_zero, A.ok, A.val, setSl, wrapG, guardB, getB, pickA, binA, binC, binD, cmpD, isCmp, unA, unD, lenA, AOp.total, kills, litB, FinQ, resOks, resOk, resA, resList, resOne, A.thaw, C.thaw, A.fits, As.fits, C.fits, evs, oks, callArgs, A.pure, C.pure, A.re, C.re, fieldAddrA, loadC, cut, A.cells, C.rows?, getOb, newOb, setOb, storeC, splice, Ob.re, Cs.fits, partsA, partsOk, parts2A, parts2Ok, fillC, fillRows, optInt, optOk, sliceA, clipC, optK_some, storeK_some, Option.map_some, toDs, C.toD, spliceD, appendA, capsOf, srcRows, allLen_nil_iff, allLen_cons_iff, allLen_append_iff, dropC, Obs.fits, eqCs, eqD]
  intro h2
  have hw2 := (hk' h2).2
  have hbs : FitsB bs := (hk' h2).1
  have hsw := sub_wt t
  have hsub : t.sub ≤ 1048576 := by omega
  have hadv := adv_le bs
  obtain ⟨g1, g2⟩ := abT_ok t hfit bs hbs
  have cs := abSpec_calls t hfit bs hbs
  have ci := abOwn_calls t hfit bs hbs
  have ci2 := abImpl_calls t hfit bs hbs
  generalize abT t bs = x at g1 g2 cs ci ci2
  obtain ⟨w, ok⟩ := x
  simp only at g1 g2 cs ci ci2
  have ctt := toTerm_calls t hfit
  have cto := toO_calls t hfit
  have ctb := toBindS_of bs hbs.1 (fun b hb => toBind_calls b (hbs.2 b hb))
  have ctbo := toBindS_own bs hbs.1 (fun b hb => toBindOwn_calls b (hbs.2 b hb))
  have cet := eqTerm_calls t hfit []
  have cew := eqTerm_calls w g1 []
  simp only [decide_true] at cet cew
  have ceb := eqBindS_of bs hbs.1 (fun b hb => eqBind_calls b (hbs.2 b hb)) []
  have hp1 : ¬ (1 + 3 * (t.sub : Int) + (wsum Bd.adv bs : Int) < 0) := by omega
  have hp2 : ¬ (1 + 3 * (w.sub : Int) < 0) := by omega
  refine qcall_pure ctt hf (by simp [A.re, re_d]) ?_
  simp -implicitDefEqProofs [putAll, hp1, hp2, row_len, take_row, pure_d, re_d, aw_skip, aw_region, aw_seq, aw_block, aw_cond, aw_exit, aw_ret, kq_nil, kq_seq, kq_seq_ret, kq_seq_exit, kq_block, kq_block_ret, kq_block_exit, kq_loop, kq_loop_ret, kq_loop_exit, awOps_nil, awOps_cons, awOps_guardE, nx_eq, awOp, ev_k, ev_0, ev_1, ev_2, ev_3, ev_4, ev_5, ev_6, ev_7, ev_8, set_0, set_1, set_2, set_3, set_4, set_5, set_6, set_7, set_8, -List.set_cons_succ, -List.set_cons_zero, A.ok, A.val, setSl, wrapG, guardB, getB, pickA, binA, binC, binD, cmpD, isCmp, unA, unD, lenA, AOp.total, kills, litB, FinQ, resOks, resOk, resA, resList, resOne, A.thaw, C.thaw, A.fits, As.fits, C.fits, evs, oks, callArgs, A.pure, C.pure, A.re, C.re, fieldAddrA, loadC, cut, A.cells, C.rows?, getOb, newOb, setOb, storeC, splice, Ob.re, Cs.fits, partsA, partsOk, parts2A, parts2Ok, fillC, fillRows, optInt, optOk, sliceA, clipC, optK_some, storeK_some, Option.map_some, toDs, C.toD, spliceD, appendA, capsOf, srcRows, allLen_nil_iff, allLen_cons_iff, allLen_append_iff, dropC, Obs.fits, eqCs, eqD]
  refine qcall_pure ctb hf rfl ?_
  simp -implicitDefEqProofs [putAll, hp1, hp2, row_len, take_row, pure_d, re_d, aw_skip, aw_region, aw_seq, aw_block, aw_cond, aw_exit, aw_ret, kq_nil, kq_seq, kq_seq_ret, kq_seq_exit, kq_block, kq_block_ret, kq_block_exit, kq_loop, kq_loop_ret, kq_loop_exit, awOps_nil, awOps_cons, awOps_guardE, nx_eq, awOp, ev_k, ev_0, ev_1, ev_2, ev_3, ev_4, ev_5, ev_6, ev_7, ev_8, set_0, set_1, set_2, set_3, set_4, set_5, set_6, set_7, set_8, -List.set_cons_succ, -List.set_cons_zero, A.ok, A.val, setSl, wrapG, guardB, getB, pickA, binA, binC, binD, cmpD, isCmp, unA, unD, lenA, AOp.total, kills, litB, FinQ, resOks, resOk, resA, resList, resOne, A.thaw, C.thaw, A.fits, As.fits, C.fits, evs, oks, callArgs, A.pure, C.pure, A.re, C.re, fieldAddrA, loadC, cut, A.cells, C.rows?, getOb, newOb, setOb, storeC, splice, Ob.re, Cs.fits, partsA, partsOk, parts2A, parts2Ok, fillC, fillRows, optInt, optOk, sliceA, clipC, optK_some, storeK_some, Option.map_some, toDs, C.toD, spliceD, appendA, capsOf, srcRows, allLen_nil_iff, allLen_cons_iff, allLen_append_iff, dropC, Obs.fits, eqCs, eqD]
  refine qcall_pure cs hf (by simp [A.re, A.res, re_d, C.re]) ?_
  simp -implicitDefEqProofs [putAll, hp1, hp2, row_len, take_row, pure_d, re_d, aw_skip, aw_region, aw_seq, aw_block, aw_cond, aw_exit, aw_ret, kq_nil, kq_seq, kq_seq_ret, kq_seq_exit, kq_block, kq_block_ret, kq_block_exit, kq_loop, kq_loop_ret, kq_loop_exit, awOps_nil, awOps_cons, awOps_guardE, nx_eq, awOp, ev_k, ev_0, ev_1, ev_2, ev_3, ev_4, ev_5, ev_6, ev_7, ev_8, set_0, set_1, set_2, set_3, set_4, set_5, set_6, set_7, set_8, -List.set_cons_succ, -List.set_cons_zero, A.ok, A.val, setSl, wrapG, guardB, getB, pickA, binA, binC, binD, cmpD, isCmp, unA, unD, lenA, AOp.total, kills, litB, FinQ, resOks, resOk, resA, resList, resOne, A.thaw, C.thaw, A.fits, As.fits, C.fits, evs, oks, callArgs, A.pure, C.pure, A.re, C.re, fieldAddrA, loadC, cut, A.cells, C.rows?, getOb, newOb, setOb, storeC, splice, Ob.re, Cs.fits, partsA, partsOk, parts2A, parts2Ok, fillC, fillRows, optInt, optOk, sliceA, clipC, optK_some, storeK_some, Option.map_some, toDs, C.toD, spliceD, appendA, capsOf, srcRows, allLen_nil_iff, allLen_cons_iff, allLen_append_iff, dropC, Obs.fits, eqCs, eqD]
  refine call_loc (J := []) cto (fun r H' h => h.handed) (by simp [Ob.re, re_d, C.re]) (.cons fz_row .nil) List.nodup_nil rfl rfl ?_
  rintro _ _ ⟨vt, rfl, rfl⟩ _
  simp -implicitDefEqProofs [putAll, hp1, hp2, row_len, take_row, pure_d, re_d, aw_skip, aw_region, aw_seq, aw_block, aw_cond, aw_exit, aw_ret, kq_nil, kq_seq, kq_seq_ret, kq_seq_exit, kq_block, kq_block_ret, kq_block_exit, kq_loop, kq_loop_ret, kq_loop_exit, awOps_nil, awOps_cons, awOps_guardE, nx_eq, awOp, ev_k, ev_0, ev_1, ev_2, ev_3, ev_4, ev_5, ev_6, ev_7, ev_8, set_0, set_1, set_2, set_3, set_4, set_5, set_6, set_7, set_8, -List.set_cons_succ, -List.set_cons_zero, A.ok, A.val, setSl, wrapG, guardB, getB, pickA, binA, binC, binD, cmpD, isCmp, unA, unD, lenA, AOp.total, kills, litB, FinQ, resOks, resOk, resA, resList, resOne, A.thaw, C.thaw, A.fits, As.fits, C.fits, evs, oks, callArgs, A.pure, C.pure, A.re, C.re, fieldAddrA, loadC, cut, A.cells, C.rows?, getOb, newOb, setOb, storeC, splice, Ob.re, Cs.fits, partsA, partsOk, parts2A, parts2Ok, fillC, fillRows, optInt, optOk, sliceA, clipC, optK_some, storeK_some, Option.map_some, toDs, C.toD, spliceD, appendA, capsOf, srcRows, allLen_nil_iff, allLen_cons_iff, allLen_append_iff, dropC, Obs.fits, eqCs, eqD]
  refine call_loc (J := []) ctbo (fun r H' h => h.handed) (by simp [Ob.re, re_d, C.re]) (.cons (.c .d) .nil) List.nodup_nil rfl rfl ?_
  rintro _ _ ⟨vb, rfl, rfl⟩ _
  simp -implicitDefEqProofs [putAll, hp1, hp2, row_len, take_row, pure_d, re_d, aw_skip, aw_region, aw_seq, aw_block, aw_cond, aw_exit, aw_ret, kq_nil, kq_seq, kq_seq_ret, kq_seq_exit, kq_block, kq_block_ret, kq_block_exit, kq_loop, kq_loop_ret, kq_loop_exit, awOps_nil, awOps_cons, awOps_guardE, nx_eq, awOp, ev_k, ev_0, ev_1, ev_2, ev_3, ev_4, ev_5, ev_6, ev_7, ev_8, set_0, set_1, set_2, set_3, set_4, set_5, set_6, set_7, set_8, -List.set_cons_succ, -List.set_cons_zero, A.ok, A.val, setSl, wrapG, guardB, getB, pickA, binA, binC, binD, cmpD, isCmp, unA, unD, lenA, AOp.total, kills, litB, FinQ, resOks, resOk, resA, resList, resOne, A.thaw, C.thaw, A.fits, As.fits, C.fits, evs, oks, callArgs, A.pure, C.pure, A.re, C.re, fieldAddrA, loadC, cut, A.cells, C.rows?, getOb, newOb, setOb, storeC, splice, Ob.re, Cs.fits, partsA, partsOk, parts2A, parts2Ok, fillC, fillRows, optInt, optOk, sliceA, clipC, optK_some, storeK_some, Option.map_some, toDs, C.toD, spliceD, appendA, capsOf, srcRows, allLen_nil_iff, allLen_cons_iff, allLen_append_iff, dropC, Obs.fits, eqCs, eqD]
  refine call_loc (J := []) ci (fun r H' h => h.handed) (by simp [Ob.re, re_d, C.re]) (.cons (fz_tm (i := 2) rfl) (.cons (.c (.tree (i := 4) rfl (by simp))) .nil)) List.nodup_nil rfl rfl ?_
  rintro _ _ ⟨vw, rfl, rfl⟩ _
  simp -implicitDefEqProofs [putAll, hp1, hp2, row_len, take_row, pure_d, re_d, aw_skip, aw_region, aw_seq, aw_block, aw_cond, aw_exit, aw_ret, kq_nil, kq_seq, kq_seq_ret, kq_seq_exit, kq_block, kq_block_ret, kq_block_exit, kq_loop, kq_loop_ret, kq_loop_exit, awOps_nil, awOps_cons, awOps_guardE, nx_eq, awOp, ev_k, ev_0, ev_1, ev_2, ev_3, ev_4, ev_5, ev_6, ev_7, ev_8, set_0, set_1, set_2, set_3, set_4, set_5, set_6, set_7, set_8, -List.set_cons_succ, -List.set_cons_zero, A.ok, A.val, setSl, wrapG, guardB, getB, pickA, binA, binC, binD, cmpD, isCmp, unA, unD, lenA, AOp.total, kills, litB, FinQ, resOks, resOk, resA, resList, resOne, A.thaw, C.thaw, A.fits, As.fits, C.fits, evs, oks, callArgs, A.pure, C.pure, A.re, C.re, fieldAddrA, loadC, cut, A.cells, C.rows?, getOb, newOb, setOb, storeC, splice, Ob.re, Cs.fits, partsA, partsOk, parts2A, parts2Ok, fillC, fillRows, optInt, optOk, sliceA, clipC, optK_some, storeK_some, Option.map_some, toDs, C.toD, spliceD, appendA, capsOf, srcRows, allLen_nil_iff, allLen_cons_iff, allLen_append_iff, dropC, Obs.fits, eqCs, eqD]
  refine qcall_read cew rfl hf (.cons (fz_tm (i := 5) rfl) (.cons fz_row .nil)) ?_
  simp -implicitDefEqProofs [putAll, hp1, hp2, row_len, take_row, pure_d, re_d, aw_skip, aw_region, aw_seq, aw_block, aw_cond, aw_exit, aw_ret, kq_nil, kq_seq, kq_seq_ret, kq_seq_exit, kq_block, kq_block_ret, kq_block_exit, kq_loop, kq_loop_ret, kq_loop_exit, awOps_nil, awOps_cons, awOps_guardE, nx_eq, awOp, ev_k, ev_0, ev_1, ev_2, ev_3, ev_4, ev_5, ev_6, ev_7, ev_8, set_0, set_1, set_2, set_3, set_4, set_5, set_6, set_7, set_8, -List.set_cons_succ, -List.set_cons_zero, A.ok, A.val, setSl, wrapG, guardB, getB, pickA, binA, binC, binD, cmpD, isCmp, unA, unD, lenA, AOp.total, kills, litB, FinQ, resOks, resOk, resA, resList, resOne, A.thaw, C.thaw, A.fits, As.fits, C.fits, evs, oks, callArgs, A.pure, C.pure, A.re, C.re, fieldAddrA, loadC, cut, A.cells, C.rows?, getOb, newOb, setOb, storeC, splice, Ob.re, Cs.fits, partsA, partsOk, parts2A, parts2Ok, fillC, fillRows, optInt, optOk, sliceA, clipC, optK_some, storeK_some, Option.map_some, toDs, C.toD, spliceD, appendA, capsOf, srcRows, allLen_nil_iff, allLen_cons_iff, allLen_append_iff, dropC, Obs.fits, eqCs, eqD]
  refine qcall_pure ctt hf (by simp [A.re, re_d]) ?_
  simp -implicitDefEqProofs [putAll, hp1, hp2, row_len, take_row, pure_d, re_d, aw_skip, aw_region, aw_seq, aw_block, aw_cond, aw_exit, aw_ret, kq_nil, kq_seq, kq_seq_ret, kq_seq_exit, kq_block, kq_block_ret, kq_block_exit, kq_loop, kq_loop_ret, kq_loop_exit, awOps_nil, awOps_cons, awOps_guardE, nx_eq, awOp, ev_k, ev_0, ev_1, ev_2, ev_3, ev_4, ev_5, ev_6, ev_7, ev_8, set_0, set_1, set_2, set_3, set_4, set_5, set_6, set_7, set_8, -List.set_cons_succ, -List.set_cons_zero, A.ok, A.val, setSl, wrapG, guardB, getB, pickA, binA, binC, binD, cmpD, isCmp, unA, unD, lenA, AOp.total, kills, litB, FinQ, resOks, resOk, resA, resList, resOne, A.thaw, C.thaw, A.fits, As.fits, C.fits, evs, oks, callArgs, A.pure, C.pure, A.re, C.re, fieldAddrA, loadC, cut, A.cells, C.rows?, getOb, newOb, setOb, storeC, splice, Ob.re, Cs.fits, partsA, partsOk, parts2A, parts2Ok, fillC, fillRows, optInt, optOk, sliceA, clipC, optK_some, storeK_some, Option.map_some, toDs, C.toD, spliceD, appendA, capsOf, srcRows, allLen_nil_iff, allLen_cons_iff, allLen_append_iff, dropC, Obs.fits, eqCs, eqD]
  refine qcall_read cet rfl hf (.cons (fz_tm (i := 2) rfl) (.cons fz_row .nil)) ?_
  simp -implicitDefEqProofs [putAll, hp1, hp2, row_len, take_row, pure_d, re_d, aw_skip, aw_region, aw_seq, aw_block, aw_cond, aw_exit, aw_ret, kq_nil, kq_seq, kq_seq_ret, kq_seq_exit, kq_block, kq_block_ret, kq_block_exit, kq_loop, kq_loop_ret, kq_loop_exit, awOps_nil, awOps_cons, awOps_guardE, nx_eq, awOp, ev_k, ev_0, ev_1, ev_2, ev_3, ev_4, ev_5, ev_6, ev_7, ev_8, set_0, set_1, set_2, set_3, set_4, set_5, set_6, set_7, set_8, -List.set_cons_succ, -List.set_cons_zero, A.ok, A.val, setSl, wrapG, guardB, getB, pickA, binA, binC, binD, cmpD, isCmp, unA, unD, lenA, AOp.total, kills, litB, FinQ, resOks, resOk, resA, resList, resOne, A.thaw, C.thaw, A.fits, As.fits, C.fits, evs, oks, callArgs, A.pure, C.pure, A.re, C.re, fieldAddrA, loadC, cut, A.cells, C.rows?, getOb, newOb, setOb, storeC, splice, Ob.re, Cs.fits, partsA, partsOk, parts2A, parts2Ok, fillC, fillRows, optInt, optOk, sliceA, clipC, optK_some, storeK_some, Option.map_some, toDs, C.toD, spliceD, appendA, capsOf, srcRows, allLen_nil_iff, allLen_cons_iff, allLen_append_iff, dropC, Obs.fits, eqCs, eqD]
  refine qcall_pure ctb hf rfl ?_
  simp -implicitDefEqProofs [putAll, hp1, hp2, row_len, take_row, pure_d, re_d, aw_skip, aw_region, aw_seq, aw_block, aw_cond, aw_exit, aw_ret, kq_nil, kq_seq, kq_seq_ret, kq_seq_exit, kq_block, kq_block_ret, kq_block_exit, kq_loop, kq_loop_ret, kq_loop_exit, awOps_nil, awOps_cons, awOps_guardE, nx_eq, awOp, ev_k, ev_0, ev_1, ev_2, ev_3, ev_4, ev_5, ev_6, ev_7, ev_8, set_0, set_1, set_2, set_3, set_4, set_5, set_6, set_7, set_8, -List.set_cons_succ, -List.set_cons_zero, A.ok, A.val, setSl, wrapG, guardB, getB, pickA, binA, binC, binD, cmpD, isCmp, unA, unD, lenA, AOp.total, kills, litB, FinQ, resOks, resOk, resA, resList, resOne, A.thaw, C.thaw, A.fits, As.fits, C.fits, evs, oks, callArgs, A.pure, C.pure, A.re, C.re, fieldAddrA, loadC, cut, A.cells, C.rows?, getOb, newOb, setOb, storeC, splice, Ob.re, Cs.fits, partsA, partsOk, parts2A, parts2Ok, fillC, fillRows, optInt, optOk, sliceA, clipC, optK_some, storeK_some, Option.map_some, toDs, C.toD, spliceD, appendA, capsOf, srcRows, allLen_nil_iff, allLen_cons_iff, allLen_append_iff, dropC, Obs.fits, eqCs, eqD]
  refine qcall_read ceb rfl hf (.cons (.c (.tree (i := 4) rfl (by simp))) (.cons (.c .d) .nil)) ?_
  simp -implicitDefEqProofs [putAll, hp1, hp2, row_len, take_row, pure_d, re_d, aw_skip, aw_region, aw_seq, aw_block, aw_cond, aw_exit, aw_ret, kq_nil, kq_seq, kq_seq_ret, kq_seq_exit, kq_block, kq_block_ret, kq_block_exit, kq_loop, kq_loop_ret, kq_loop_exit, awOps_nil, awOps_cons, awOps_guardE, nx_eq, awOp, ev_k, ev_0, ev_1, ev_2, ev_3, ev_4, ev_5, ev_6, ev_7, ev_8, set_0, set_1, set_2, set_3, set_4, set_5, set_6, set_7, set_8, -List.set_cons_succ, -List.set_cons_zero, A.ok, A.val, setSl, wrapG, guardB, getB, pickA, binA, binC, binD, cmpD, isCmp, unA, unD, lenA, AOp.total, kills, litB, FinQ, resOks, resOk, resA, resList, resOne, A.thaw, C.thaw, A.fits, As.fits, C.fits, evs, oks, callArgs, A.pure, C.pure, A.re, C.re, fieldAddrA, loadC, cut, A.cells, C.rows?, getOb, newOb, setOb, storeC, splice, Ob.re, Cs.fits, partsA, partsOk, parts2A, parts2Ok, fillC, fillRows, optInt, optOk, sliceA, clipC, optK_some, storeK_some, Option.map_some, toDs, C.toD, spliceD, appendA, capsOf, srcRows, allLen_nil_iff, allLen_cons_iff, allLen_append_iff, dropC, Obs.fits, eqCs, eqD]
  refine call_loc (J := [2]) (markTerm_calls t hfit 1 (by omega) (by omega) vt) (fun r H' ⟨h1, h2⟩ => by subst h1; subst h2; exact ⟨rfl, rfl⟩) (by simp [Ob.re, re_d, C.re]) (.cons (.agg (fzCs_id [.int .i64 t.k, .int .i64 t.n, .str t.s, .v vt])) (.cons (.c .d) .nil)) (by simp) rfl rfl ?_
  rintro _ _ ⟨rfl, rfl⟩ _
  simp -implicitDefEqProofs [putAll, hp1, hp2, row_len, take_row, pure_d, re_d, aw_skip, aw_region, aw_seq, aw_block, aw_cond, aw_exit, aw_ret, kq_nil, kq_seq, kq_seq_ret, kq_seq_exit, kq_block, kq_block_ret, kq_block_exit, kq_loop, kq_loop_ret, kq_loop_exit, awOps_nil, awOps_cons, awOps_guardE, nx_eq, awOp, ev_k, ev_0, ev_1, ev_2, ev_3, ev_4, ev_5, ev_6, ev_7, ev_8, set_0, set_1, set_2, set_3, set_4, set_5, set_6, set_7, set_8, -List.set_cons_succ, -List.set_cons_zero, A.ok, A.val, setSl, wrapG, guardB, getB, pickA, binA, binC, binD, cmpD, isCmp, unA, unD, lenA, AOp.total, kills, litB, FinQ, resOks, resOk, resA, resList, resOne, A.thaw, C.thaw, A.fits, As.fits, C.fits, evs, oks, callArgs, A.pure, C.pure, A.re, C.re, fieldAddrA, loadC, cut, A.cells, C.rows?, getOb, newOb, setOb, storeC, splice, Ob.re, Cs.fits, partsA, partsOk, parts2A, parts2Ok, fillC, fillRows, optInt, optOk, sliceA, clipC, optK_some, storeK_some, Option.map_some, toDs, C.toD, spliceD, appendA, capsOf, srcRows, allLen_nil_iff, allLen_cons_iff, allLen_append_iff, dropC, Obs.fits, eqCs, eqD]
  refine call_loc (J := [4]) (markBindS_calls bs hbs (1 + 3 * t.sub) (by omega) (by omega) vb) (fun r H' ⟨h1, h2⟩ => by subst h1; subst h2; exact ⟨rfl, rfl⟩) (by simp [Ob.re, re_d, C.re]) (.cons (.c .d) (.cons (.c .d) .nil)) (by simp) rfl rfl ?_
  rintro _ _ ⟨rfl, rfl⟩ _
  simp -implicitDefEqProofs [putAll, hp1, hp2, row_len, take_row, pure_d, re_d, aw_skip, aw_region, aw_seq, aw_block, aw_cond, aw_exit, aw_ret, kq_nil, kq_seq, kq_seq_ret, kq_seq_exit, kq_block, kq_block_ret, kq_block_exit, kq_loop, kq_loop_ret, kq_loop_exit, awOps_nil, awOps_cons, awOps_guardE, nx_eq, awOp, ev_k, ev_0, ev_1, ev_2, ev_3, ev_4, ev_5, ev_6, ev_7, ev_8, set_0, set_1, set_2, set_3, set_4, set_5, set_6, set_7, set_8, -List.set_cons_succ, -List.set_cons_zero, A.ok, A.val, setSl, wrapG, guardB, getB, pickA, binA, binC, binD, cmpD, isCmp, unA, unD, lenA, AOp.total, kills, litB, FinQ, resOks, resOk, resA, resList, resOne, A.thaw, C.thaw, A.fits, As.fits, C.fits, evs, oks, callArgs, A.pure, C.pure, A.re, C.re, fieldAddrA, loadC, cut, A.cells, C.rows?, getOb, newOb, setOb, storeC, splice, Ob.re, Cs.fits, partsA, partsOk, parts2A, parts2Ok, fillC, fillRows, optInt, optOk, sliceA, clipC, optK_some, storeK_some, Option.map_some, toDs, C.toD, spliceD, appendA, capsOf, srcRows, allLen_nil_iff, allLen_cons_iff, allLen_append_iff, dropC, Obs.fits, eqCs, eqD]
  refine qcall_read cew rfl hf (.cons (fz_tm (i := 5) rfl) (.cons fz_row .nil)) ?_
  simp -implicitDefEqProofs [putAll, hp1, hp2, row_len, take_row, pure_d, re_d, aw_skip, aw_region, aw_seq, aw_block, aw_cond, aw_exit, aw_ret, kq_nil, kq_seq, kq_seq_ret, kq_seq_exit, kq_block, kq_block_ret, kq_block_exit, kq_loop, kq_loop_ret, kq_loop_exit, awOps_nil, awOps_cons, awOps_guardE, nx_eq, awOp, ev_k, ev_0, ev_1, ev_2, ev_3, ev_4, ev_5, ev_6, ev_7, ev_8, set_0, set_1, set_2, set_3, set_4, set_5, set_6, set_7, set_8, -List.set_cons_succ, -List.set_cons_zero, A.ok, A.val, setSl, wrapG, guardB, getB, pickA, binA, binC, binD, cmpD, isCmp, unA, unD, lenA, AOp.total, kills, litB, FinQ, resOks, resOk, resA, resList, resOne, A.thaw, C.thaw, A.fits, As.fits, C.fits, evs, oks, callArgs, A.pure, C.pure, A.re, C.re, fieldAddrA, loadC, cut, A.cells, C.rows?, getOb, newOb, setOb, storeC, splice, Ob.re, Cs.fits, partsA, partsOk, parts2A, parts2Ok, fillC, fillRows, optInt, optOk, sliceA, clipC, optK_some, storeK_some, Option.map_some, toDs, C.toD, spliceD, appendA, capsOf, srcRows, allLen_nil_iff, allLen_cons_iff, allLen_append_iff, dropC, Obs.fits, eqCs, eqD]
  refine call_loc (J := [5]) (markTerm_calls w g1 1 (by omega) (by omega) vw) (fun r H' ⟨h1, h2⟩ => by subst h1; subst h2; exact ⟨rfl, rfl⟩) (by simp [Ob.re, re_d, C.re]) (.cons (.agg (fzCs_id [.int .i64 w.k, .int .i64 w.n, .str w.s, .v vw])) (.cons (.c .d) .nil)) (by simp) rfl rfl ?_
  rintro _ _ ⟨rfl, rfl⟩ _
  simp -implicitDefEqProofs [putAll, hp1, hp2, row_len, take_row, pure_d, re_d, aw_skip, aw_region, aw_seq, aw_block, aw_cond, aw_exit, aw_ret, kq_nil, kq_seq, kq_seq_ret, kq_seq_exit, kq_block, kq_block_ret, kq_block_exit, kq_loop, kq_loop_ret, kq_loop_exit, awOps_nil, awOps_cons, awOps_guardE, nx_eq, awOp, ev_k, ev_0, ev_1, ev_2, ev_3, ev_4, ev_5, ev_6, ev_7, ev_8, set_0, set_1, set_2, set_3, set_4, set_5, set_6, set_7, set_8, -List.set_cons_succ, -List.set_cons_zero, A.ok, A.val, setSl, wrapG, guardB, getB, pickA, binA, binC, binD, cmpD, isCmp, unA, unD, lenA, AOp.total, kills, litB, FinQ, resOks, resOk, resA, resList, resOne, A.thaw, C.thaw, A.fits, As.fits, C.fits, evs, oks, callArgs, A.pure, C.pure, A.re, C.re, fieldAddrA, loadC, cut, A.cells, C.rows?, getOb, newOb, setOb, storeC, splice, Ob.re, Cs.fits, partsA, partsOk, parts2A, parts2Ok, fillC, fillRows, optInt, optOk, sliceA, clipC, optK_some, storeK_some, Option.map_some, toDs, C.toD, spliceD, appendA, capsOf, srcRows, allLen_nil_iff, allLen_cons_iff, allLen_append_iff, dropC, Obs.fits, eqCs, eqD]
  have zh : ∀ {H : Heap}, H[5]? = some (.tree vw ((mTms 1 w.kids).map Tm.row)) → FzL H [] [.agg [.d (.int .i64 w.k), .d (.int .i64 w.n), .d (.str w.s), .d (.v vw)], .c (.d (.int .i64 1))] [.agg [.d (.int .i64 w.k), .d (.int .i64 w.n), .d (.str w.s), .d (.sl ((mTms 1 w.kids).map Tm.row))], .c (.d (.int .i64 1))] := fun h =>
    .cons (.agg (.cons .d (.cons .d (.cons .d (.cons (.tree (i := 5) h (by simp)) .nil))))) (.cons (.c .d) .nil)
  refine qcall_read (heldTerm_calls w g1 w.k w.n w.s 1 (by omega) (by omega) []) rfl hf (zh rfl) ?_
  simp -implicitDefEqProofs [putAll, hp1, hp2, row_len, take_row, pure_d, re_d, aw_skip, aw_region, aw_seq, aw_block, aw_cond, aw_exit, aw_ret, kq_nil, kq_seq, kq_seq_ret, kq_seq_exit, kq_block, kq_block_ret, kq_block_exit, kq_loop, kq_loop_ret, kq_loop_exit, awOps_nil, awOps_cons, awOps_guardE, nx_eq, awOp, ev_k, ev_0, ev_1, ev_2, ev_3, ev_4, ev_5, ev_6, ev_7, ev_8, set_0, set_1, set_2, set_3, set_4, set_5, set_6, set_7, set_8, -List.set_cons_succ, -List.set_cons_zero, A.ok, A.val, setSl, wrapG, guardB, getB, pickA, binA, binC, binD, cmpD, isCmp, unA, unD, lenA, AOp.total, kills, litB, FinQ, resOks, resOk, resA, resList, resOne, A.thaw, C.thaw, A.fits, As.fits, C.fits, evs, oks, callArgs, A.pure, C.pure, A.re, C.re, fieldAddrA, loadC, cut, A.cells, C.rows?, getOb, newOb, setOb, storeC, splice, Ob.re, Cs.fits, partsA, partsOk, parts2A, parts2Ok, fillC, fillRows, optInt, optOk, sliceA, clipC, optK_some, storeK_some, Option.map_some, toDs, C.toD, spliceD, appendA, capsOf, srcRows, allLen_nil_iff, allLen_cons_iff, allLen_append_iff, dropC, Obs.fits, eqCs, eqD]
  refine qcall_pure ctt hf (by simp [A.re, re_d]) ?_
  simp -implicitDefEqProofs [putAll, hp1, hp2, row_len, take_row, pure_d, re_d, aw_skip, aw_region, aw_seq, aw_block, aw_cond, aw_exit, aw_ret, kq_nil, kq_seq, kq_seq_ret, kq_seq_exit, kq_block, kq_block_ret, kq_block_exit, kq_loop, kq_loop_ret, kq_loop_exit, awOps_nil, awOps_cons, awOps_guardE, nx_eq, awOp, ev_k, ev_0, ev_1, ev_2, ev_3, ev_4, ev_5, ev_6, ev_7, ev_8, set_0, set_1, set_2, set_3, set_4, set_5, set_6, set_7, set_8, -List.set_cons_succ, -List.set_cons_zero, A.ok, A.val, setSl, wrapG, guardB, getB, pickA, binA, binC, binD, cmpD, isCmp, unA, unD, lenA, AOp.total, kills, litB, FinQ, resOks, resOk, resA, resList, resOne, A.thaw, C.thaw, A.fits, As.fits, C.fits, evs, oks, callArgs, A.pure, C.pure, A.re, C.re, fieldAddrA, loadC, cut, A.cells, C.rows?, getOb, newOb, setOb, storeC, splice, Ob.re, Cs.fits, partsA, partsOk, parts2A, parts2Ok, fillC, fillRows, optInt, optOk, sliceA, clipC, optK_some, storeK_some, Option.map_some, toDs, C.toD, spliceD, appendA, capsOf, srcRows, allLen_nil_iff, allLen_cons_iff, allLen_append_iff, dropC, Obs.fits, eqCs, eqD]
  refine qcall_pure ctb hf rfl ?_
  simp -implicitDefEqProofs [putAll, hp1, hp2, row_len, take_row, pure_d, re_d, aw_skip, aw_region, aw_seq, aw_block, aw_cond, aw_exit, aw_ret, kq_nil, kq_seq, kq_seq_ret, kq_seq_exit, kq_block, kq_block_ret, kq_block_exit, kq_loop, kq_loop_ret, kq_loop_exit, awOps_nil, awOps_cons, awOps_guardE, nx_eq, awOp, ev_k, ev_0, ev_1, ev_2, ev_3, ev_4, ev_5, ev_6, ev_7, ev_8, set_0, set_1, set_2, set_3, set_4, set_5, set_6, set_7, set_8, -List.set_cons_succ, -List.set_cons_zero, A.ok, A.val, setSl, wrapG, guardB, getB, pickA, binA, binC, binD, cmpD, isCmp, unA, unD, lenA, AOp.total, kills, litB, FinQ, resOks, resOk, resA, resList, resOne, A.thaw, C.thaw, A.fits, As.fits, C.fits, evs, oks, callArgs, A.pure, C.pure, A.re, C.re, fieldAddrA, loadC, cut, A.cells, C.rows?, getOb, newOb, setOb, storeC, splice, Ob.re, Cs.fits, partsA, partsOk, parts2A, parts2Ok, fillC, fillRows, optInt, optOk, sliceA, clipC, optK_some, storeK_some, Option.map_some, toDs, C.toD, spliceD, appendA, capsOf, srcRows, allLen_nil_iff, allLen_cons_iff, allLen_append_iff, dropC, Obs.fits, eqCs, eqD]
  refine qcall_pure ci2 hf (by simp [A.re, A.res, re_d, C.re]) ?_
  simp -implicitDefEqProofs [putAll, hp1, hp2, row_len, take_row, pure_d, re_d, aw_skip, aw_region, aw_seq, aw_block, aw_cond, aw_exit, aw_ret, kq_nil, kq_seq, kq_seq_ret, kq_seq_exit, kq_block, kq_block_ret, kq_block_exit, kq_loop, kq_loop_ret, kq_loop_exit, awOps_nil, awOps_cons, awOps_guardE, nx_eq, awOp, ev_k, ev_0, ev_1, ev_2, ev_3, ev_4, ev_5, ev_6, ev_7, ev_8, set_0, set_1, set_2, set_3, set_4, set_5, set_6, set_7, set_8, -List.set_cons_succ, -List.set_cons_zero, A.ok, A.val, setSl, wrapG, guardB, getB, pickA, binA, binC, binD, cmpD, isCmp, unA, unD, lenA, AOp.total, kills, litB, FinQ, resOks, resOk, resA, resList, resOne, A.thaw, C.thaw, A.fits, As.fits, C.fits, evs, oks, callArgs, A.pure, C.pure, A.re, C.re, fieldAddrA, loadC, cut, A.cells, C.rows?, getOb, newOb, setOb, storeC, splice, Ob.re, Cs.fits, partsA, partsOk, parts2A, parts2Ok, fillC, fillRows, optInt, optOk, sliceA, clipC, optK_some, storeK_some, Option.map_some, toDs, C.toD, spliceD, appendA, capsOf, srcRows, allLen_nil_iff, allLen_cons_iff, allLen_append_iff, dropC, Obs.fits, eqCs, eqD]
  refine qcall_read cew rfl hf (.cons fz_row (.cons fz_row .nil)) ?_
  simp -implicitDefEqProofs [putAll, hp1, hp2, row_len, take_row, pure_d, re_d, aw_skip, aw_region, aw_seq, aw_block, aw_cond, aw_exit, aw_ret, kq_nil, kq_seq, kq_seq_ret, kq_seq_exit, kq_block, kq_block_ret, kq_block_exit, kq_loop, kq_loop_ret, kq_loop_exit, awOps_nil, awOps_cons, awOps_guardE, nx_eq, awOp, ev_k, ev_0, ev_1, ev_2, ev_3, ev_4, ev_5, ev_6, ev_7, ev_8, set_0, set_1, set_2, set_3, set_4, set_5, set_6, set_7, set_8, -List.set_cons_succ, -List.set_cons_zero, A.ok, A.val, setSl, wrapG, guardB, getB, pickA, binA, binC, binD, cmpD, isCmp, unA, unD, lenA, AOp.total, kills, litB, FinQ, resOks, resOk, resA, resList, resOne, A.thaw, C.thaw, A.fits, As.fits, C.fits, evs, oks, callArgs, A.pure, C.pure, A.re, C.re, fieldAddrA, loadC, cut, A.cells, C.rows?, getOb, newOb, setOb, storeC, splice, Ob.re, Cs.fits, partsA, partsOk, parts2A, parts2Ok, fillC, fillRows, optInt, optOk, sliceA, clipC, optK_some, storeK_some, Option.map_some, toDs, C.toD, spliceD, appendA, capsOf, srcRows, allLen_nil_iff, allLen_cons_iff, allLen_append_iff, dropC, Obs.fits, eqCs, eqD]
  refine qcall_read (heldTerm_calls w g1 w.k w.n w.s 1 (by omega) (by omega) []) rfl hf (zh rfl) ?_
  simp -implicitDefEqProofs [putAll, hp1, hp2, row_len, take_row, pure_d, re_d, aw_skip, aw_region, aw_seq, aw_block, aw_cond, aw_exit, aw_ret, kq_nil, kq_seq, kq_seq_ret, kq_seq_exit, kq_block, kq_block_ret, kq_block_exit, kq_loop, kq_loop_ret, kq_loop_exit, awOps_nil, awOps_cons, awOps_guardE, nx_eq, awOp, ev_k, ev_0, ev_1, ev_2, ev_3, ev_4, ev_5, ev_6, ev_7, ev_8, set_0, set_1, set_2, set_3, set_4, set_5, set_6, set_7, set_8, -List.set_cons_succ, -List.set_cons_zero, A.ok, A.val, setSl, wrapG, guardB, getB, pickA, binA, binC, binD, cmpD, isCmp, unA, unD, lenA, AOp.total, kills, litB, FinQ, resOks, resOk, resA, resList, resOne, A.thaw, C.thaw, A.fits, As.fits, C.fits, evs, oks, callArgs, A.pure, C.pure, A.re, C.re, fieldAddrA, loadC, cut, A.cells, C.rows?, getOb, newOb, setOb, storeC, splice, Ob.re, Cs.fits, partsA, partsOk, parts2A, parts2Ok, fillC, fillRows, optInt, optOk, sliceA, clipC, optK_some, storeK_some, Option.map_some, toDs, C.toD, spliceD, appendA, capsOf, srcRows, allLen_nil_iff, allLen_cons_iff, allLen_append_iff, dropC, Obs.fits, eqCs, eqD]
theorem law_run3 (rows : List (List D)) (hr : HasTys Try.prog (#[24, 25] : Array TypeId).toList rows) : ACalls Try.prog 3 (argsA Try.prog (#[24, 25] : Array TypeId).toList rows) [] (fun r _ => r = .c (.d (.bool true))) := by
  obtain ⟨r, rs, rfl, h1, h2⟩ := hr.cons
  obtain ⟨r', rs, rfl, h3, h4⟩ := h2.cons
  obtain rfl := h4.nil
  obtain ⟨t, rfl, ht⟩ := tm_ty h1
  obtain ⟨l, rfl, hl, hlf⟩ := binds_ty h3
  simp only [argsA, argA, Try.underlying24, Try.underlying25, List.headD_cons]
  exact axLaw_calls t ht l hl hlf
namespace fnExactApplyBinds
theorem own : ownKnob Try.prog.godebug = none := by kernel_rfl
theorem contract (H : Type) (enc : TypeId × Value → H) (W : World) (base : Nat) (args : Array Value) (ds gs : List (DataW H)) (before : List MemPlace)
    (hval : ∀ (j : Nat) t v, Try.f3.params[j]? = some t → args[j]? = some v → Value.okWide Try.prog W .any base t v)
    (hW : DataW.Whole enc Try.prog Try.f3.params.toList Rows.fnExactApplyBindsSpec.vars false W args.toList ds gs before)
    (hw : (DataW.weightsEach Try.prog (Try.f3.params.toList ++ Rows.fnExactApplyBindsSpec.plain.varTypes Try.prog) (ds ++ gs)).all (· ≤ reachBytes) = true) :
    Calls Try.prog 3 args W fun e W' => ∃ v, e = .returned v ∧ Rows.fnExactApplyBindsSpec.post enc Try.prog Try.f3 false true false false W args v W' := by
  refine law_contract (L := [3, 9, 24, 22, 75, 25]) (tb := 4) (by kernel_rfl) (by kernel_rfl) (by kernel_rfl) rfl ?_ (by kernel_rfl) Try.underlying4 ?_ W base args ds gs before hval hW hw
  · intro ds hl
    match ds, hl with
    | [d0, d1], _ => rfl
  · intro rows hr
    rw [Try.params3] at hr ⊢
    exact law_run3 rows hr

theorem lifted (os : Os) (started : os.Started) (H : Type) (enc : TypeId × Value → H) :
    ReturnsInHanded {} Try.checked os 3 .any (Rows.fnExactApplyBindsSpec.pre6 enc Try.prog Try.f3 Rows.fnExactApplyBindsRow.domain false) (Rows.fnExactApplyBindsSpec.post enc Try.prog Try.f3 false true false false) := by
  refine returnsInHanded_of_change_sized (C := Try.checked) own started (by kernel_rfl) Try.func3
    (ChangeSpec.witness6 (enc := enc) (C := Try.checked) false ⟨#[], #[.agg #[.int .i64 0, .int .i64 0, .string ⟨#[]⟩, .slice none 0 0], .slice none 0 0], []⟩ 8 (by kernel_rfl) (by kernel_rfl) (by kernel_rfl) (by kernel_rfl)) ?_
  intro W base args ds gs before hval hW _ hw _
  exact contract H enc W base args ds gs before hval hW hw

theorem proved : Rows.FnExactApplyBindsSaid :=
  OpenClaim.holds_of_wide 3 Try.f3 rfl rfl rfl rfl rfl rfl rfl ⟨rfl, rfl, rfl, rfl, rfl⟩ rfl rfl rfl rfl rfl (by kernel_rfl) Try.func3 (by kernel_rfl)
    (of_decide_eq_true (by kernel_rfl)) (by unfold Func.isWrapper; first | (rw [if_pos (by decide +kernel)]; kernel_rfl) | (rw [if_neg (by decide +kernel)]; exact ⟨rfl, rfl⟩))
    (fun os started H enc _ => lifted os started H enc)
end fnExactApplyBinds

end Go.Proofs.Ytaegeehpajlebaa
