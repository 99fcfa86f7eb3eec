/-
  The law FnExactListOf holds: impl.ListOf answers as spec.ListOf does, with memory of its own.
  Conditions: none.
-/
import Derived.Test.YtnpncfadhflapaaLfOwn
import Derived.Test.YtnpncfadhflapaaTermMk
import Derived.Test.YtnpncfadhflapaaTermTy
open Go Go.AM Go.Proofs
namespace Go.Proofs.Ytnpncfadhflapaa
open Go.ChangeShapes Go.WideShapes Go.ChangeAt Go.RowKit
set_option linter.unusedVariables false
set_option linter.unusedSimpArgs false
set_option maxRecDepth 100000
-- 7 loop.example/prologserver/laws.FnExactListOf params 1 ntmps 96
def ac7 : Cd := .seq (.region [⟨(some 1), .box (.t 0), none⟩,
      ⟨(some 2), .mv (.k (.c (.d (.bool false)))), none⟩] [0, 2])
  (.seq (.region [⟨(some 3), .mv (.k (.c (.d (.int .i64 1048576)))), none⟩] [])
  (.seq (.region [⟨(some 14), .load (some 4) (.t 1), none⟩,
      ⟨(some 15), .mv (.t 3), none⟩,
      ⟨(some 16), .call false 37 [(.t 14), (.t 15)], none⟩,
      ⟨(some 3), .mv (.t 16), none⟩] [14, 15, 16])
  (.seq (.seq (.region [⟨(some 17), .mv (.t 3), none⟩,
        ⟨(some 18), .bin .lss (.t 17) (.k (.c (.d (.int .i64 0)))), none⟩] [3, 17])
    (.cond (.t 18)
      (.seq (.region [⟨(some 2), .mv (.k (.c (.d (.bool true)))), none⟩] [1, 18])
      (.ret))
      (.skip)))
  (.seq (.region [⟨(some 20), .load (some 4) (.t 1), none⟩,
      ⟨(some 21), .callL false 38 [(.t 20)], none⟩,
      ⟨(some 22), .qcall 11 [(.t 21)], none⟩,
      ⟨(some 19), .mv (.t 22), none⟩,
      ⟨(some 23), .extract 0 (.t 19), none⟩,
      ⟨(some 24), .extract 1 (.t 19), none⟩,
      ⟨(some 4), .mv (.t 23), none⟩,
      ⟨(some 5), .mv (.t 24), none⟩] [2, 18, 19, 20, 21, 22, 23, 24])
  (.seq (.region [⟨(some 25), .load (some 4) (.t 1), none⟩,
      ⟨(some 26), .callL false 38 [(.t 25)], none⟩,
      ⟨(some 6), .alloc [(.d (.int .i64 0)), (.d (.int .i64 0)), (.d (.str [])), (.full [])], none⟩,
      ⟨none, .store 4 (.t 6) (.t 26), none⟩] [25, 26])
  (.seq (.region [⟨(some 28), .loadL (some 4) (.t 6), none⟩,
      ⟨(some 29), .call false 10 [(.t 28)], none⟩,
      ⟨(some 27), .mv (.t 29), none⟩,
      ⟨(some 30), .extract 0 (.t 27), none⟩,
      ⟨(some 31), .extract 1 (.t 27), none⟩,
      ⟨(some 7), .mv (.t 30), none⟩,
      ⟨(some 8), .mv (.t 31), none⟩] [27, 28, 29, 30, 31])
  (.seq (.seq (.region [⟨(some 32), .mv (.t 7), none⟩,
        ⟨(some 33), .mv (.t 4), none⟩,
        ⟨(some 34), .qcall 26 [(.t 32), (.t 33)], none⟩,
        ⟨(some 35), .un .not (.t 34), none⟩,
        ⟨(some 36), .mv (.t 35), none⟩,
        ⟨(some 37), .mv (.t 8), some (36, false)⟩,
        ⟨(some 38), .mv (.t 5), some (36, false)⟩,
        ⟨(some 39), .binB true (.t 37) (.t 38), some (36, false)⟩,
        ⟨(some 40), .pick (.t 36) (.k (.c (.d (.bool true)))) (.t 39), none⟩] [32, 33, 34, 35, 36, 37, 38, 39])
    (.cond (.t 40)
      (.seq (.region [⟨(some 2), .mv (.k (.c (.d (.bool false)))), none⟩] [1, 4, 5, 6, 7, 8, 40])
      (.ret))
      (.skip)))
  (.seq (.seq (.region [⟨(some 41), .loadL (some 4) (.t 6), none⟩,
        ⟨(some 42), .load (some 4) (.t 1), none⟩,
        ⟨(some 43), .callL false 38 [(.t 42)], none⟩,
        ⟨(some 44), .qcall 39 [(.t 41), (.t 43)], none⟩,
        ⟨(some 45), .un .not (.t 44), none⟩] [2, 40, 41, 42, 43, 44])
    (.cond (.t 45)
      (.seq (.region [⟨(some 2), .mv (.k (.c (.d (.bool false)))), none⟩] [1, 4, 5, 6, 7, 8, 45])
      (.ret))
      (.skip)))
  (.seq (.region [⟨(some 9), .mv (.k (.c (.d (.int .i64 1)))), none⟩] [2, 45])
  (.seq (.region [⟨(some 46), .loadL (some 4) (.t 6), none⟩,
      ⟨(some 47), .mv (.t 9), none⟩,
      ⟨(some 48), .call false 40 [(.t 46), (.t 47)], none⟩,
      ⟨(some 9), .mv (.t 48), none⟩] [6, 46, 47, 48])
  (.seq (.seq (.region [⟨(some 49), .mv (.t 9), none⟩,
        ⟨(some 50), .bin .lss (.t 49) (.k (.c (.d (.int .i64 0)))), none⟩,
        ⟨(some 51), .mv (.t 50), none⟩,
        ⟨(some 52), .mv (.t 7), some (51, false)⟩,
        ⟨(some 53), .mv (.t 4), some (51, false)⟩,
        ⟨(some 54), .qcall 26 [(.t 52), (.t 53)], some (51, false)⟩,
        ⟨(some 55), .un .not (.t 54), some (51, false)⟩,
        ⟨(some 56), .pick (.t 51) (.k (.c (.d (.bool true)))) (.t 55), none⟩,
        ⟨(some 57), .mv (.t 56), none⟩,
        ⟨(some 58), .mv (.t 8), some (57, false)⟩,
        ⟨(some 59), .mv (.t 5), some (57, false)⟩,
        ⟨(some 60), .binB true (.t 58) (.t 59), some (57, false)⟩,
        ⟨(some 61), .pick (.t 57) (.k (.c (.d (.bool true)))) (.t 60), none⟩] [8, 9, 49, 50, 51, 52, 53, 54, 55, 56, 57, 58, 59, 60])
    (.cond (.t 61)
      (.seq (.region [⟨(some 2), .mv (.k (.c (.d (.bool false)))), none⟩] [1, 4, 5, 7, 61])
      (.ret))
      (.skip)))
  (.seq (.region [⟨(some 10), .mv (.k (.c (.d (.int .i64 1)))), none⟩] [2, 61])
  (.seq (.region [⟨(some 62), .mv (.t 7), none⟩,
      ⟨(some 63), .mv (.t 10), none⟩,
      ⟨(some 64), .call false 27 [(.t 62), (.t 63)], none⟩,
      ⟨(some 10), .mv (.t 64), none⟩] [62, 63, 64])
  (.seq (.region [⟨(some 11), .mv (.k (.c (.d (.int .i64 1)))), none⟩] [])
  (.seq (.region [⟨(some 65), .mv (.t 7), none⟩,
      ⟨(some 66), .mv (.t 11), none⟩,
      ⟨(some 67), .qcall 36 [(.t 65), (.t 66)], none⟩,
      ⟨(some 11), .mv (.t 67), none⟩] [65, 66, 67])
  (.seq (.seq (.region [⟨(some 68), .mv (.t 11), none⟩,
        ⟨(some 69), .bin .lss (.t 68) (.k (.c (.d (.int .i64 0)))), none⟩] [68])
    (.cond (.t 69)
      (.seq (.region [⟨(some 2), .mv (.k (.c (.d (.bool false)))), none⟩] [1, 4, 5, 7, 10, 11, 69])
      (.ret))
      (.skip)))
  (.seq (.seq (.region [⟨(some 70), .mv (.t 11), none⟩,
        ⟨(some 71), .mv (.t 10), none⟩,
        ⟨(some 72), .bin .neq (.t 70) (.t 71), none⟩] [2, 11, 69, 70, 71])
    (.cond (.t 72)
      (.seq (.region [⟨(some 2), .mv (.k (.c (.d (.bool false)))), none⟩] [1, 4, 5, 7, 10, 72])
      (.ret))
      (.skip)))
  (.seq (.region [⟨(some 74), .load (some 4) (.t 1), none⟩,
      ⟨(some 75), .callL false 38 [(.t 74)], none⟩,
      ⟨(some 76), .call false 10 [(.t 75)], none⟩,
      ⟨(some 73), .mv (.t 76), none⟩,
      ⟨(some 77), .extract 0 (.t 73), none⟩,
      ⟨(some 78), .extract 1 (.t 73), none⟩,
      ⟨(some 12), .mv (.t 77), none⟩,
      ⟨(some 13), .mv (.t 78), none⟩] [1, 2, 72, 73, 74, 75, 76, 77, 78])
  (.seq (.seq (.region [⟨(some 79), .mv (.t 12), none⟩,
        ⟨(some 80), .mv (.t 4), none⟩,
        ⟨(some 81), .qcall 26 [(.t 79), (.t 80)], none⟩,
        ⟨(some 82), .un .not (.t 81), none⟩,
        ⟨(some 83), .mv (.t 82), none⟩,
        ⟨(some 84), .mv (.t 13), some (83, false)⟩,
        ⟨(some 85), .mv (.t 5), some (83, false)⟩,
        ⟨(some 86), .binB true (.t 84) (.t 85), some (83, false)⟩,
        ⟨(some 87), .pick (.t 83) (.k (.c (.d (.bool true)))) (.t 86), none⟩] [4, 5, 12, 13, 79, 80, 81, 82, 83, 84, 85, 86])
    (.cond (.t 87)
      (.seq (.region [⟨(some 2), .mv (.k (.c (.d (.bool false)))), none⟩] [7, 10, 87])
      (.ret))
      (.skip)))
  (.seq (.region [⟨(some 11), .mv (.k (.c (.d (.int .i64 1)))), none⟩] [2, 87])
  (.seq (.region [⟨(some 88), .mv (.t 7), none⟩,
      ⟨(some 89), .mv (.t 11), none⟩,
      ⟨(some 90), .qcall 36 [(.t 88), (.t 89)], none⟩,
      ⟨(some 11), .mv (.t 90), none⟩] [7, 88, 89, 90])
  (.seq (.seq (.region [⟨(some 91), .mv (.t 11), none⟩,
        ⟨(some 92), .bin .lss (.t 91) (.k (.c (.d (.int .i64 0)))), none⟩] [91])
    (.cond (.t 92)
      (.seq (.region [⟨(some 2), .mv (.k (.c (.d (.bool false)))), none⟩] [10, 11, 92])
      (.ret))
      (.skip)))
  (.seq (.seq (.region [⟨(some 93), .mv (.t 11), none⟩,
        ⟨(some 94), .mv (.t 10), none⟩,
        ⟨(some 95), .bin .neq (.t 93) (.t 94), none⟩] [2, 10, 11, 92, 93, 94])
    (.cond (.t 95)
      (.seq (.region [⟨(some 2), .mv (.k (.c (.d (.bool false)))), none⟩] [95])
      (.ret))
      (.skip)))
  (.seq (.region [⟨(some 2), .mv (.k (.c (.d (.bool true)))), none⟩] [95])
  (.ret)))))))))))))))))))))))))
theorem ac7_ok : cFunc Try.prog [1000011, 1000026, 1000036, 1000039, 6000038, 5000006] [(0, [0, 2], []), (1, [], []), (2, [14, 15, 16], []), (3, [3, 17], []), (4, [1, 18], []), (5, [2, 18, 19, 20, 21, 22, 23, 24], []), (6, [25, 26], []), (7, [27, 28, 29, 30, 31], []), (8, [32, 33, 34, 35, 36, 37, 38, 39], []), (9, [1, 4, 5, 6, 7, 8, 40], []), (10, [2, 40, 41, 42, 43, 44], [0, 1, 2, 3, 4]), (11, [1, 4, 5, 6, 7, 8, 45], []), (12, [2, 45], []), (13, [6, 46, 47, 48], []), (14, [8, 9, 49, 50, 51, 52, 53, 54, 55, 56, 57, 58, 59, 60], []), (15, [1, 4, 5, 7, 61], []), (16, [2, 61], []), (17, [62, 63, 64], []), (18, [], []), (19, [65, 66, 67], []), (20, [68], []), (21, [1, 4, 5, 7, 10, 11, 69], []), (22, [2, 11, 69, 70, 71], []), (23, [1, 4, 5, 7, 10, 72], []), (24, [1, 2, 72, 73, 74, 75, 76, 77, 78], []), (25, [4, 5, 12, 13, 79, 80, 81, 82, 83, 84, 85, 86], []), (26, [7, 10, 87], []), (27, [2, 87], []), (28, [7, 88, 89, 90], []), (29, [91], []), (30, [10, 11, 92], []), (31, [2, 10, 11, 92, 93, 94], []), (32, [95], []), (33, [95], [])] Try.f7 = some (ac7, [.tmp 2], 96) := by kernel_rfl
theorem items_ok : ∀ t : Tm, t.fits → (∀ y ∈ (itemsOf t).1, y.fits) ∧ Tm.cnt (itemsOf t).1 ≤ t.sub ∧ (itemsOf t).1.length ≤ t.sub := by
  refine Tm.ind fun k n s l ih hfits => ?_
  cases hp : (Tm.mk k n s l).pairB with
  | false => rw [items_stop hp]; simp [cnt_nil]
  | true =>
    obtain ⟨n', a, b, e⟩ := pairB_inv hp
    cases e
    obtain ⟨_, _, _, _, hkids⟩ := hfits
    obtain ⟨h1, h2, h3⟩ := ih b (by simp) (hkids b (by simp))
    rw [items_pair]
    simp only [sub_mk, cnt_cons, cnt_nil]
    refine ⟨fun y hy => ?_, by omega, by simp; omega⟩
    rcases List.mem_cons.1 hy with rfl | hy
    · exact hkids y (by simp)
    · exact h1 y hy
theorem listOf_ok (t : Tm) (h : t.fits) : (∀ y ∈ (listOf t).1, y.fits) ∧ Tm.cnt (listOf t).1 ≤ t.sub ∧ (listOf t).1.length ≤ t.sub := by
  unfold listOf
  split
  · exact items_ok t h
  · simp [cnt_nil]
theorem lxLaw_calls (t : Tm) (hfine : t.fine) : ACalls Try.prog 7 [.agg (t.row.map .d)] [] (fun r _ => r = .c (.d (.bool true))) := by
  refine acalls Try.func7 (by kernel_rfl) ac7_ok fun hf => ?_
  simp -implicitDefEqProofs [ac7, row_len, take_row, pure_d, re_d, aw_skip, aw_region, aw_seq, aw_block, aw_cond, aw_exit, aw_ret, kq_nil, kq_seq, kq_seq_ret, kq_seq_exit, kq_block, kq_block_ret, kq_block_exit, kq_loop, kq_loop_ret, kq_loop_exit, awOps_nil, awOps_cons, awOps_guardE, nx_eq, awOp, ev_k, ev_0, ev_1, ev_2, ev_3, ev_4, ev_5, ev_6, ev_7, ev_8, set_0, set_1, set_2, set_3, set_4, set_5, set_6, set_7, set_8, -List.set_cons_succ, -List.set_cons_zero, A.ok, A.val, setSl, wrapG, guardB, getB, pickA, binA, binC, binD, cmpD, isCmp, unA, unD, lenA, AOp.total, kills, litB, FinQ, resOks, resOk, resA, resList, resOne, A.thaw, C.thaw, A.fits, As.fits, C.fits, evs, oks, callArgs, A.pure, C.pure, A.re, C.re, fieldAddrA, loadC, cut, A.cells, C.rows?, getOb, newOb, setOb, storeC, splice, Ob.re, Cs.fits, partsA, partsOk, parts2A, parts2Ok, fillC, fillRows, optInt, optOk, sliceA, clipC, optK_some, storeK_some, Option.map_some, toDs, C.toD, spliceD, appendA, capsOf, srcRows, allLen_nil_iff, allLen_cons_iff, allLen_append_iff, dropC, Obs.fits, eqCs, eqD]
  refine call_some (szwTerm_calls t hfine 1048576 (by omega) (by omega) _) (by simp [Ob.re, C.re, re_d]) (fun r => LeftW.re) hf ?_
  rintro _ ⟨k, rfl, _, _, hk⟩
  simp -implicitDefEqProofs [row_len, take_row, pure_d, re_d, aw_skip, aw_region, aw_seq, aw_block, aw_cond, aw_exit, aw_ret, kq_nil, kq_seq, kq_seq_ret, kq_seq_exit, kq_block, kq_block_ret, kq_block_exit, kq_loop, kq_loop_ret, kq_loop_exit, awOps_nil, awOps_cons, awOps_guardE, nx_eq, awOp, ev_k, ev_0, ev_1, ev_2, ev_3, ev_4, ev_5, ev_6, ev_7, ev_8, set_0, set_1, set_2, set_3, set_4, set_5, set_6, set_7, set_8, -List.set_cons_succ, -List.set_cons_zero, A.ok, A.val, setSl, wrapG, guardB, getB, pickA, binA, binC, binD, cmpD, isCmp, unA, unD, lenA, AOp.total, kills, litB, FinQ, resOks, resOk, resA, resList, resOne, A.thaw, C.thaw, A.fits, As.fits, C.fits, evs, oks, callArgs, A.pure, C.pure, A.re, C.re, fieldAddrA, loadC, cut, A.cells, C.rows?, getOb, newOb, setOb, storeC, splice, Ob.re, Cs.fits, partsA, partsOk, parts2A, parts2Ok, fillC, fillRows, optInt, optOk, sliceA, clipC, optK_some, storeK_some, Option.map_some, toDs, C.toD, spliceD, appendA, capsOf, srcRows, allLen_nil_iff, allLen_cons_iff, allLen_append_iff, dropC, Obs.fits, eqCs, eqD]
  intro h0
  have hw := (hk h0).2
  have hfit : t.fits := (hk h0).1
  have hsw := sub_wt t
  have hsub : t.sub ≤ 1048576 := by omega
  obtain ⟨g1, g2, g3⟩ := listOf_ok t hfit
  have cs := lfSpec_calls t hfit
  have ci := lfOwn_calls t hfit
  have ci2 := lfImpl_calls t hfit
  generalize listOf t = x at g1 g2 g3 cs ci ci2
  obtain ⟨l, ok⟩ := x
  simp only at g1 g2 g3 cs ci ci2
  have ctt := toTerm_calls t hfit
  have cto := toO_calls t hfit
  have cet := eqTerm_calls t hfit []
  simp only [decide_true] at cet
  have cel := eqTermS_calls l (by omega) g1 []
  have hp1 : ¬ (1 + 3 * (t.sub : Int) < 0) := by omega
  have hp2 : ¬ (1 + 3 * (Tm.cnt l : Int) < 0) := by omega
  have zl : ∀ {H : Heap} {v : Value}, H[3]? = some (.tree v (l.map Tm.row)) → FzL H [] [.c (.d (.v v)), .c (.d (.sl (l.map Tm.row)))] [.c (.d (.sl (l.map Tm.row))), .c (.d (.sl (l.map Tm.row)))] := fun h =>
    .cons (.c (.tree (i := 3) h (by simp))) (.cons (.c .d) .nil)
  refine call_same (ctt _) (by simp [Ob.re, C.re, re_d]) (by simp [A.re, re_d]) hf ⟨LocSame.refl _, ?_⟩
  simp -implicitDefEqProofs [row_len, take_row, pure_d, re_d, aw_skip, aw_region, aw_seq, aw_block, aw_cond, aw_exit, aw_ret, kq_nil, kq_seq, kq_seq_ret, kq_seq_exit, kq_block, kq_block_ret, kq_block_exit, kq_loop, kq_loop_ret, kq_loop_exit, awOps_nil, awOps_cons, awOps_guardE, nx_eq, awOp, ev_k, ev_0, ev_1, ev_2, ev_3, ev_4, ev_5, ev_6, ev_7, ev_8, set_0, set_1, set_2, set_3, set_4, set_5, set_6, set_7, set_8, -List.set_cons_succ, -List.set_cons_zero, A.ok, A.val, setSl, wrapG, guardB, getB, pickA, binA, binC, binD, cmpD, isCmp, unA, unD, lenA, AOp.total, kills, litB, FinQ, resOks, resOk, resA, resList, resOne, A.thaw, C.thaw, A.fits, As.fits, C.fits, evs, oks, callArgs, A.pure, C.pure, A.re, C.re, fieldAddrA, loadC, cut, A.cells, C.rows?, getOb, newOb, setOb, storeC, splice, Ob.re, Cs.fits, partsA, partsOk, parts2A, parts2Ok, fillC, fillRows, optInt, optOk, sliceA, clipC, optK_some, storeK_some, Option.map_some, toDs, C.toD, spliceD, appendA, capsOf, srcRows, allLen_nil_iff, allLen_cons_iff, allLen_append_iff, dropC, Obs.fits, eqCs, eqD]
  refine qcall_pure cs hf rfl ?_
  simp -implicitDefEqProofs [row_len, take_row, pure_d, re_d, aw_skip, aw_region, aw_seq, aw_block, aw_cond, aw_exit, aw_ret, kq_nil, kq_seq, kq_seq_ret, kq_seq_exit, kq_block, kq_block_ret, kq_block_exit, kq_loop, kq_loop_ret, kq_loop_exit, awOps_nil, awOps_cons, awOps_guardE, nx_eq, awOp, ev_k, ev_0, ev_1, ev_2, ev_3, ev_4, ev_5, ev_6, ev_7, ev_8, set_0, set_1, set_2, set_3, set_4, set_5, set_6, set_7, set_8, -List.set_cons_succ, -List.set_cons_zero, A.ok, A.val, setSl, wrapG, guardB, getB, pickA, binA, binC, binD, cmpD, isCmp, unA, unD, lenA, AOp.total, kills, litB, FinQ, resOks, resOk, resA, resList, resOne, A.thaw, C.thaw, A.fits, As.fits, C.fits, evs, oks, callArgs, A.pure, C.pure, A.re, C.re, fieldAddrA, loadC, cut, A.cells, C.rows?, getOb, newOb, setOb, storeC, splice, Ob.re, Cs.fits, partsA, partsOk, parts2A, parts2Ok, fillC, fillRows, optInt, optOk, sliceA, clipC, optK_some, storeK_some, Option.map_some, toDs, C.toD, spliceD, appendA, capsOf, srcRows, allLen_nil_iff, allLen_cons_iff, allLen_append_iff, dropC, Obs.fits, eqCs, eqD]
  refine call_loc (J := []) cto (fun r H' h => h.handed) (by simp [Ob.re, re_d]) (.cons fz_row .nil) List.nodup_nil rfl rfl ?_
  rintro _ _ ⟨vt, rfl, rfl⟩ _
  simp -implicitDefEqProofs [putAll, row_len, take_row, pure_d, re_d, aw_skip, aw_region, aw_seq, aw_block, aw_cond, aw_exit, aw_ret, kq_nil, kq_seq, kq_seq_ret, kq_seq_exit, kq_block, kq_block_ret, kq_block_exit, kq_loop, kq_loop_ret, kq_loop_exit, awOps_nil, awOps_cons, awOps_guardE, nx_eq, awOp, ev_k, ev_0, ev_1, ev_2, ev_3, ev_4, ev_5, ev_6, ev_7, ev_8, set_0, set_1, set_2, set_3, set_4, set_5, set_6, set_7, set_8, -List.set_cons_succ, -List.set_cons_zero, A.ok, A.val, setSl, wrapG, guardB, getB, pickA, binA, binC, binD, cmpD, isCmp, unA, unD, lenA, AOp.total, kills, litB, FinQ, resOks, resOk, resA, resList, resOne, A.thaw, C.thaw, A.fits, As.fits, C.fits, evs, oks, callArgs, A.pure, C.pure, A.re, C.re, fieldAddrA, loadC, cut, A.cells, C.rows?, getOb, newOb, setOb, storeC, splice, Ob.re, Cs.fits, partsA, partsOk, parts2A, parts2Ok, fillC, fillRows, optInt, optOk, sliceA, clipC, optK_some, storeK_some, Option.map_some, toDs, C.toD, spliceD, appendA, capsOf, srcRows, allLen_nil_iff, allLen_cons_iff, allLen_append_iff, dropC, Obs.fits, eqCs, eqD]
  refine ⟨LocSame.push _ _, ?_⟩
  refine call_loc (J := []) ci (fun r H' h => h.handed) (by simp [Ob.re, re_d, C.re]) (.cons (fz_tm (i := 1) rfl) .nil) List.nodup_nil rfl rfl ?_
  rintro _ _ ⟨vl, rfl, rfl⟩ _
  simp -implicitDefEqProofs [putAll, row_len, take_row, pure_d, re_d, aw_skip, aw_region, aw_seq, aw_block, aw_cond, aw_exit, aw_ret, kq_nil, kq_seq, kq_seq_ret, kq_seq_exit, kq_block, kq_block_ret, kq_block_exit, kq_loop, kq_loop_ret, kq_loop_exit, awOps_nil, awOps_cons, awOps_guardE, nx_eq, awOp, ev_k, ev_0, ev_1, ev_2, ev_3, ev_4, ev_5, ev_6, ev_7, ev_8, set_0, set_1, set_2, set_3, set_4, set_5, set_6, set_7, set_8, -List.set_cons_succ, -List.set_cons_zero, A.ok, A.val, setSl, wrapG, guardB, getB, pickA, binA, binC, binD, cmpD, isCmp, unA, unD, lenA, AOp.total, kills, litB, FinQ, resOks, resOk, resA, resList, resOne, A.thaw, C.thaw, A.fits, As.fits, C.fits, evs, oks, callArgs, A.pure, C.pure, A.re, C.re, fieldAddrA, loadC, cut, A.cells, C.rows?, getOb, newOb, setOb, storeC, splice, Ob.re, Cs.fits, partsA, partsOk, parts2A, parts2Ok, fillC, fillRows, optInt, optOk, sliceA, clipC, optK_some, storeK_some, Option.map_some, toDs, C.toD, spliceD, appendA, capsOf, srcRows, allLen_nil_iff, allLen_cons_iff, allLen_append_iff, dropC, Obs.fits, eqCs, eqD]
  refine qcall_read cel rfl hf (zl rfl) ?_
  simp -implicitDefEqProofs [row_len, take_row, pure_d, re_d, aw_skip, aw_region, aw_seq, aw_block, aw_cond, aw_exit, aw_ret, kq_nil, kq_seq, kq_seq_ret, kq_seq_exit, kq_block, kq_block_ret, kq_block_exit, kq_loop, kq_loop_ret, kq_loop_exit, awOps_nil, awOps_cons, awOps_guardE, nx_eq, awOp, ev_k, ev_0, ev_1, ev_2, ev_3, ev_4, ev_5, ev_6, ev_7, ev_8, set_0, set_1, set_2, set_3, set_4, set_5, set_6, set_7, set_8, -List.set_cons_succ, -List.set_cons_zero, A.ok, A.val, setSl, wrapG, guardB, getB, pickA, binA, binC, binD, cmpD, isCmp, unA, unD, lenA, AOp.total, kills, litB, FinQ, resOks, resOk, resA, resList, resOne, A.thaw, C.thaw, A.fits, As.fits, C.fits, evs, oks, callArgs, A.pure, C.pure, A.re, C.re, fieldAddrA, loadC, cut, A.cells, C.rows?, getOb, newOb, setOb, storeC, splice, Ob.re, Cs.fits, partsA, partsOk, parts2A, parts2Ok, fillC, fillRows, optInt, optOk, sliceA, clipC, optK_some, storeK_some, Option.map_some, toDs, C.toD, spliceD, appendA, capsOf, srcRows, allLen_nil_iff, allLen_cons_iff, allLen_append_iff, dropC, Obs.fits, eqCs, eqD]
  refine call_same (ctt _) (by simp [Ob.re, C.re, re_d]) (by simp [A.re, re_d]) hf ⟨LocSame.refl _, ?_⟩
  simp -implicitDefEqProofs [row_len, take_row, pure_d, re_d, aw_skip, aw_region, aw_seq, aw_block, aw_cond, aw_exit, aw_ret, kq_nil, kq_seq, kq_seq_ret, kq_seq_exit, kq_block, kq_block_ret, kq_block_exit, kq_loop, kq_loop_ret, kq_loop_exit, awOps_nil, awOps_cons, awOps_guardE, nx_eq, awOp, ev_k, ev_0, ev_1, ev_2, ev_3, ev_4, ev_5, ev_6, ev_7, ev_8, set_0, set_1, set_2, set_3, set_4, set_5, set_6, set_7, set_8, -List.set_cons_succ, -List.set_cons_zero, A.ok, A.val, setSl, wrapG, guardB, getB, pickA, binA, binC, binD, cmpD, isCmp, unA, unD, lenA, AOp.total, kills, litB, FinQ, resOks, resOk, resA, resList, resOne, A.thaw, C.thaw, A.fits, As.fits, C.fits, evs, oks, callArgs, A.pure, C.pure, A.re, C.re, fieldAddrA, loadC, cut, A.cells, C.rows?, getOb, newOb, setOb, storeC, splice, Ob.re, Cs.fits, partsA, partsOk, parts2A, parts2Ok, fillC, fillRows, optInt, optOk, sliceA, clipC, optK_some, storeK_some, Option.map_some, toDs, C.toD, spliceD, appendA, capsOf, srcRows, allLen_nil_iff, allLen_cons_iff, allLen_append_iff, dropC, Obs.fits, eqCs, eqD]
  refine qcall_read cet rfl hf (.cons (fz_tm (i := 1) rfl) (.cons fz_row .nil)) ?_
  simp -implicitDefEqProofs [row_len, take_row, pure_d, re_d, aw_skip, aw_region, aw_seq, aw_block, aw_cond, aw_exit, aw_ret, kq_nil, kq_seq, kq_seq_ret, kq_seq_exit, kq_block, kq_block_ret, kq_block_exit, kq_loop, kq_loop_ret, kq_loop_exit, awOps_nil, awOps_cons, awOps_guardE, nx_eq, awOp, ev_k, ev_0, ev_1, ev_2, ev_3, ev_4, ev_5, ev_6, ev_7, ev_8, set_0, set_1, set_2, set_3, set_4, set_5, set_6, set_7, set_8, -List.set_cons_succ, -List.set_cons_zero, A.ok, A.val, setSl, wrapG, guardB, getB, pickA, binA, binC, binD, cmpD, isCmp, unA, unD, lenA, AOp.total, kills, litB, FinQ, resOks, resOk, resA, resList, resOne, A.thaw, C.thaw, A.fits, As.fits, C.fits, evs, oks, callArgs, A.pure, C.pure, A.re, C.re, fieldAddrA, loadC, cut, A.cells, C.rows?, getOb, newOb, setOb, storeC, splice, Ob.re, Cs.fits, partsA, partsOk, parts2A, parts2Ok, fillC, fillRows, optInt, optOk, sliceA, clipC, optK_some, storeK_some, Option.map_some, toDs, C.toD, spliceD, appendA, capsOf, srcRows, allLen_nil_iff, allLen_cons_iff, allLen_append_iff, dropC, Obs.fits, eqCs, eqD]
  refine call_loc (J := [1]) (markTerm_calls t hfit 1 (by omega) (by omega) vt) (fun r H' ⟨h1, h2⟩ => by subst h1; subst h2; exact ⟨rfl, rfl⟩) (by simp [Ob.re, re_d, C.re]) (.cons (.agg (fzCs_id [.int .i64 t.k, .int .i64 t.n, .str t.s, .v vt])) (.cons (.c .d) .nil)) (by simp) rfl rfl ?_
  rintro _ _ ⟨rfl, rfl⟩ _
  simp -implicitDefEqProofs [putAll, hp1, row_len, take_row, pure_d, re_d, aw_skip, aw_region, aw_seq, aw_block, aw_cond, aw_exit, aw_ret, kq_nil, kq_seq, kq_seq_ret, kq_seq_exit, kq_block, kq_block_ret, kq_block_exit, kq_loop, kq_loop_ret, kq_loop_exit, awOps_nil, awOps_cons, awOps_guardE, nx_eq, awOp, ev_k, ev_0, ev_1, ev_2, ev_3, ev_4, ev_5, ev_6, ev_7, ev_8, set_0, set_1, set_2, set_3, set_4, set_5, set_6, set_7, set_8, -List.set_cons_succ, -List.set_cons_zero, A.ok, A.val, setSl, wrapG, guardB, getB, pickA, binA, binC, binD, cmpD, isCmp, unA, unD, lenA, AOp.total, kills, litB, FinQ, resOks, resOk, resA, resList, resOne, A.thaw, C.thaw, A.fits, As.fits, C.fits, evs, oks, callArgs, A.pure, C.pure, A.re, C.re, fieldAddrA, loadC, cut, A.cells, C.rows?, getOb, newOb, setOb, storeC, splice, Ob.re, Cs.fits, partsA, partsOk, parts2A, parts2Ok, fillC, fillRows, optInt, optOk, sliceA, clipC, optK_some, storeK_some, Option.map_some, toDs, C.toD, spliceD, appendA, capsOf, srcRows, allLen_nil_iff, allLen_cons_iff, allLen_append_iff, dropC, Obs.fits, eqCs, eqD]
  refine qcall_read cel rfl hf (zl rfl) ?_
  simp -implicitDefEqProofs [row_len, take_row, pure_d, re_d, aw_skip, aw_region, aw_seq, aw_block, aw_cond, aw_exit, aw_ret, kq_nil, kq_seq, kq_seq_ret, kq_seq_exit, kq_block, kq_block_ret, kq_block_exit, kq_loop, kq_loop_ret, kq_loop_exit, awOps_nil, awOps_cons, awOps_guardE, nx_eq, awOp, ev_k, ev_0, ev_1, ev_2, ev_3, ev_4, ev_5, ev_6, ev_7, ev_8, set_0, set_1, set_2, set_3, set_4, set_5, set_6, set_7, set_8, -List.set_cons_succ, -List.set_cons_zero, A.ok, A.val, setSl, wrapG, guardB, getB, pickA, binA, binC, binD, cmpD, isCmp, unA, unD, lenA, AOp.total, kills, litB, FinQ, resOks, resOk, resA, resList, resOne, A.thaw, C.thaw, A.fits, As.fits, C.fits, evs, oks, callArgs, A.pure, C.pure, A.re, C.re, fieldAddrA, loadC, cut, A.cells, C.rows?, getOb, newOb, setOb, storeC, splice, Ob.re, Cs.fits, partsA, partsOk, parts2A, parts2Ok, fillC, fillRows, optInt, optOk, sliceA, clipC, optK_some, storeK_some, Option.map_some, toDs, C.toD, spliceD, appendA, capsOf, srcRows, allLen_nil_iff, allLen_cons_iff, allLen_append_iff, dropC, Obs.fits, eqCs, eqD]
  refine call_loc (J := [3]) (markTermS_calls l (by omega) g1 1 (by omega) (by omega) vl) (fun r H' ⟨h1, h2⟩ => by subst h1; subst h2; exact ⟨rfl, rfl⟩) (by simp [Ob.re, re_d, C.re]) (.cons (.c .d) (.cons (.c .d) .nil)) (by simp) rfl rfl ?_
  rintro _ _ ⟨rfl, rfl⟩ _
  simp -implicitDefEqProofs [putAll, row_len, take_row, pure_d, re_d, aw_skip, aw_region, aw_seq, aw_block, aw_cond, aw_exit, aw_ret, kq_nil, kq_seq, kq_seq_ret, kq_seq_exit, kq_block, kq_block_ret, kq_block_exit, kq_loop, kq_loop_ret, kq_loop_exit, awOps_nil, awOps_cons, awOps_guardE, nx_eq, awOp, ev_k, ev_0, ev_1, ev_2, ev_3, ev_4, ev_5, ev_6, ev_7, ev_8, set_0, set_1, set_2, set_3, set_4, set_5, set_6, set_7, set_8, -List.set_cons_succ, -List.set_cons_zero, A.ok, A.val, setSl, wrapG, guardB, getB, pickA, binA, binC, binD, cmpD, isCmp, unA, unD, lenA, AOp.total, kills, litB, FinQ, resOks, resOk, resA, resList, resOne, A.thaw, C.thaw, A.fits, As.fits, C.fits, evs, oks, callArgs, A.pure, C.pure, A.re, C.re, fieldAddrA, loadC, cut, A.cells, C.rows?, getOb, newOb, setOb, storeC, splice, Ob.re, Cs.fits, partsA, partsOk, parts2A, parts2Ok, fillC, fillRows, optInt, optOk, sliceA, clipC, optK_some, storeK_some, Option.map_some, toDs, C.toD, spliceD, appendA, capsOf, srcRows, allLen_nil_iff, allLen_cons_iff, allLen_append_iff, dropC, Obs.fits, eqCs, eqD]
  have zg : ∀ {H : Heap}, H[3]? = some (.tree vl ((mTms 1 l).map Tm.row)) → FzL H [] [.c (.d (.v vl)), .c (.d (.int .i64 1))] [.c (.d (.sl ((mTms 1 l).map Tm.row))), .c (.d (.int .i64 1))] := fun h =>
    .cons (.c (.tree (i := 3) h (by simp))) (.cons (.c .d) .nil)
  refine qcall_read (heldTermS_calls l (by omega) g1 1 (by omega) (by omega) []) rfl hf (zg rfl) ?_
  simp -implicitDefEqProofs [hp2, row_len, take_row, pure_d, re_d, aw_skip, aw_region, aw_seq, aw_block, aw_cond, aw_exit, aw_ret, kq_nil, kq_seq, kq_seq_ret, kq_seq_exit, kq_block, kq_block_ret, kq_block_exit, kq_loop, kq_loop_ret, kq_loop_exit, awOps_nil, awOps_cons, awOps_guardE, nx_eq, awOp, ev_k, ev_0, ev_1, ev_2, ev_3, ev_4, ev_5, ev_6, ev_7, ev_8, set_0, set_1, set_2, set_3, set_4, set_5, set_6, set_7, set_8, -List.set_cons_succ, -List.set_cons_zero, A.ok, A.val, setSl, wrapG, guardB, getB, pickA, binA, binC, binD, cmpD, isCmp, unA, unD, lenA, AOp.total, kills, litB, FinQ, resOks, resOk, resA, resList, resOne, A.thaw, C.thaw, A.fits, As.fits, C.fits, evs, oks, callArgs, A.pure, C.pure, A.re, C.re, fieldAddrA, loadC, cut, A.cells, C.rows?, getOb, newOb, setOb, storeC, splice, Ob.re, Cs.fits, partsA, partsOk, parts2A, parts2Ok, fillC, fillRows, optInt, optOk, sliceA, clipC, optK_some, storeK_some, Option.map_some, toDs, C.toD, spliceD, appendA, capsOf, srcRows, allLen_nil_iff, allLen_cons_iff, allLen_append_iff, dropC, Obs.fits, eqCs, eqD]
  refine call_same (ctt _) (by simp [Ob.re, C.re, re_d]) (by simp [A.re, re_d]) hf ⟨LocSame.refl _, ?_⟩
  simp -implicitDefEqProofs [row_len, take_row, pure_d, re_d, aw_skip, aw_region, aw_seq, aw_block, aw_cond, aw_exit, aw_ret, kq_nil, kq_seq, kq_seq_ret, kq_seq_exit, kq_block, kq_block_ret, kq_block_exit, kq_loop, kq_loop_ret, kq_loop_exit, awOps_nil, awOps_cons, awOps_guardE, nx_eq, awOp, ev_k, ev_0, ev_1, ev_2, ev_3, ev_4, ev_5, ev_6, ev_7, ev_8, set_0, set_1, set_2, set_3, set_4, set_5, set_6, set_7, set_8, -List.set_cons_succ, -List.set_cons_zero, A.ok, A.val, setSl, wrapG, guardB, getB, pickA, binA, binC, binD, cmpD, isCmp, unA, unD, lenA, AOp.total, kills, litB, FinQ, resOks, resOk, resA, resList, resOne, A.thaw, C.thaw, A.fits, As.fits, C.fits, evs, oks, callArgs, A.pure, C.pure, A.re, C.re, fieldAddrA, loadC, cut, A.cells, C.rows?, getOb, newOb, setOb, storeC, splice, Ob.re, Cs.fits, partsA, partsOk, parts2A, parts2Ok, fillC, fillRows, optInt, optOk, sliceA, clipC, optK_some, storeK_some, Option.map_some, toDs, C.toD, spliceD, appendA, capsOf, srcRows, allLen_nil_iff, allLen_cons_iff, allLen_append_iff, dropC, Obs.fits, eqCs, eqD]
  refine call_same (ci2 _) (by simp [Ob.re, C.re, re_d]) rfl hf ?_
  simp -implicitDefEqProofs [row_len, take_row, pure_d, re_d, aw_skip, aw_region, aw_seq, aw_block, aw_cond, aw_exit, aw_ret, kq_nil, kq_seq, kq_seq_ret, kq_seq_exit, kq_block, kq_block_ret, kq_block_exit, kq_loop, kq_loop_ret, kq_loop_exit, awOps_nil, awOps_cons, awOps_guardE, nx_eq, awOp, ev_k, ev_0, ev_1, ev_2, ev_3, ev_4, ev_5, ev_6, ev_7, ev_8, set_0, set_1, set_2, set_3, set_4, set_5, set_6, set_7, set_8, -List.set_cons_succ, -List.set_cons_zero, A.ok, A.val, setSl, wrapG, guardB, getB, pickA, binA, binC, binD, cmpD, isCmp, unA, unD, lenA, AOp.total, kills, litB, FinQ, resOks, resOk, resA, resList, resOne, A.thaw, C.thaw, A.fits, As.fits, C.fits, evs, oks, callArgs, A.pure, C.pure, A.re, C.re, fieldAddrA, loadC, cut, A.cells, C.rows?, getOb, newOb, setOb, storeC, splice, Ob.re, Cs.fits, partsA, partsOk, parts2A, parts2Ok, fillC, fillRows, optInt, optOk, sliceA, clipC, optK_some, storeK_some, Option.map_some, toDs, C.toD, spliceD, appendA, capsOf, srcRows, allLen_nil_iff, allLen_cons_iff, allLen_append_iff, dropC, Obs.fits, eqCs, eqD]
  refine qcall_read cel rfl hf (.cons (.c .d) (.cons (.c .d) .nil)) ?_
  simp -implicitDefEqProofs [row_len, take_row, pure_d, re_d, aw_skip, aw_region, aw_seq, aw_block, aw_cond, aw_exit, aw_ret, kq_nil, kq_seq, kq_seq_ret, kq_seq_exit, kq_block, kq_block_ret, kq_block_exit, kq_loop, kq_loop_ret, kq_loop_exit, awOps_nil, awOps_cons, awOps_guardE, nx_eq, awOp, ev_k, ev_0, ev_1, ev_2, ev_3, ev_4, ev_5, ev_6, ev_7, ev_8, set_0, set_1, set_2, set_3, set_4, set_5, set_6, set_7, set_8, -List.set_cons_succ, -List.set_cons_zero, A.ok, A.val, setSl, wrapG, guardB, getB, pickA, binA, binC, binD, cmpD, isCmp, unA, unD, lenA, AOp.total, kills, litB, FinQ, resOks, resOk, resA, resList, resOne, A.thaw, C.thaw, A.fits, As.fits, C.fits, evs, oks, callArgs, A.pure, C.pure, A.re, C.re, fieldAddrA, loadC, cut, A.cells, C.rows?, getOb, newOb, setOb, storeC, splice, Ob.re, Cs.fits, partsA, partsOk, parts2A, parts2Ok, fillC, fillRows, optInt, optOk, sliceA, clipC, optK_some, storeK_some, Option.map_some, toDs, C.toD, spliceD, appendA, capsOf, srcRows, allLen_nil_iff, allLen_cons_iff, allLen_append_iff, dropC, Obs.fits, eqCs, eqD]
  refine qcall_read (heldTermS_calls l (by omega) g1 1 (by omega) (by omega) []) rfl hf (zg rfl) ?_
  simp -implicitDefEqProofs [hp2, aw_skip, aw_region, aw_seq, aw_block, aw_cond, aw_exit, aw_ret, kq_nil, kq_seq, kq_seq_ret, kq_seq_exit, kq_block, kq_block_ret, kq_block_exit, kq_loop, kq_loop_ret, kq_loop_exit, awOps_nil, awOps_cons, awOps_guardE, nx_eq, awOp, ev_k, ev_0, ev_1, ev_2, ev_3, ev_4, ev_5, ev_6, ev_7, ev_8, set_0, set_1, set_2, set_3, set_4, set_5, set_6, set_7, set_8, -List.set_cons_succ, -List.set_cons_zero, A.ok, A.val, setSl, wrapG, guardB, getB, pickA, binA, binC, binD, cmpD, isCmp, unA, unD, lenA, AOp.total, kills, litB, FinQ, resOks, resOk, resA, resList, resOne, A.thaw, C.thaw, A.fits, As.fits, C.fits, evs, oks, callArgs, A.pure, C.pure, A.re, C.re, fieldAddrA, loadC, cut, A.cells, C.rows?, getOb, newOb, setOb, storeC, splice, Ob.re, Cs.fits, partsA, partsOk, parts2A, parts2Ok, fillC, fillRows, optInt, optOk, sliceA, clipC, optK_some, storeK_some, Option.map_some, toDs, C.toD, spliceD, appendA, capsOf, srcRows, allLen_nil_iff, allLen_cons_iff, allLen_append_iff, dropC, Obs.fits, eqCs, eqD]
theorem law_run7 (rows : List (List D)) (hr : HasTys Try.prog (#[58] : Array TypeId).toList rows) : ACalls Try.prog 7 (argsA Try.prog (#[58] : Array TypeId).toList rows) [] (fun r _ => r = .c (.d (.bool true))) := by
  obtain ⟨r, rs, rfl, h1, h2⟩ := hr.cons
  obtain rfl := h2.nil
  obtain ⟨t, rfl, ht⟩ := tm_ty h1
  simp only [argsA, argA, Try.underlying58]
  exact lxLaw_calls t ht
namespace fnExactListOf
theorem own : ownKnob Try.prog.godebug = none := by kernel_rfl
theorem contract (H : Type) (enc : TypeId × Value → H) (W : World) (base : Nat) (args : Array Value) (ds gs : List (DataW H)) (before : List MemPlace)
    (hval : ∀ (j : Nat) t v, Try.f7.params[j]? = some t → args[j]? = some v → Value.okWide Try.prog W .any base t v)
    (hW : DataW.Whole enc Try.prog Try.f7.params.toList Rows.fnExactListOfSpec.vars false W args.toList ds gs before)
    (hw : (DataW.weightsEach Try.prog (Try.f7.params.toList ++ Rows.fnExactListOfSpec.plain.varTypes Try.prog) (ds ++ gs)).all (· ≤ reachBytes) = true) :
    Calls Try.prog 7 args W fun e W' => ∃ v, e = .returned v ∧ Rows.fnExactListOfSpec.post enc Try.prog Try.f7 false true false false W args v W' := by
  refine law_contract (L := [3, 9, 58, 41]) (tb := 4) (by kernel_rfl) (by kernel_rfl) (by kernel_rfl) rfl ?_ (by kernel_rfl) Try.underlying4 ?_ W base args ds gs before hval hW hw
  · intro ds hl
    match ds, hl with
    | [d0], _ => rfl
  · intro rows hr
    rw [Try.params7] at hr ⊢
    exact law_run7 rows hr

theorem lifted (os : Os) (started : os.Started) (H : Type) (enc : TypeId × Value → H) :
    ReturnsInHanded {} Try.checked os 7 .any (Rows.fnExactListOfSpec.pre6 enc Try.prog Try.f7 Rows.fnExactListOfRow.domain false) (Rows.fnExactListOfSpec.post enc Try.prog Try.f7 false true false false) := by
  refine returnsInHanded_of_change_sized (C := Try.checked) own started (by kernel_rfl) Try.func7
    (ChangeSpec.witness6 (enc := enc) (C := Try.checked) false ⟨#[], #[.agg #[.int .i64 0, .int .i64 0, .string ⟨#[]⟩, .slice none 0 0]], []⟩ 8 (by kernel_rfl) (by kernel_rfl) (by kernel_rfl) (by kernel_rfl)) ?_
  intro W base args ds gs before hval hW _ hw _
  exact contract H enc W base args ds gs before hval hW hw

theorem proved : Rows.FnExactListOfSaid :=
  OpenClaim.holds_of_wide 7 Try.f7 rfl rfl rfl rfl rfl rfl rfl ⟨rfl, rfl, rfl, rfl, rfl⟩ rfl rfl rfl rfl rfl (by kernel_rfl) Try.func7 (by kernel_rfl)
    (of_decide_eq_true (by kernel_rfl)) (by unfold Func.isWrapper; first | (rw [if_pos (by decide +kernel)]; kernel_rfl) | (rw [if_neg (by decide +kernel)]; exact ⟨rfl, rfl⟩))
    (fun os started H enc _ => lifted os started H enc)
end fnExactListOf

end Go.Proofs.Ytnpncfadhflapaa
