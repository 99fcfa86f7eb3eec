/-
  Instances: a term whose variables are replaced is an instance of it.
  Conditions: none.
-/
import Derived.Test.YtddahocmlbnlfaaAb
import Derived.Test.YtddahocmlbnlfaaTermSi
open Go Go.AM Go.Proofs
namespace Go.Proofs.Ytddahocmlbnlfaa
open Go.ChangeShapes Go.WideShapes Go.ChangeAt Go.RowKit
set_option linter.unusedVariables false
set_option linter.unusedSimpArgs false
set_option maxRecDepth 100000
-- 37 loop.example/prologserver/impl.instance params 3 ntmps 77
-- loop head live: [2, 3, 4, 59, 60]
def ac37 : Cd := .seq (.region [⟨(some 3), .box (.t 0), none⟩,
      ⟨(some 4), .box (.t 1), none⟩,
      ⟨(some 6), .mv (.k (.c (.d (.bool false)))), none⟩] [0, 1, 6])
  (.seq (.seq (.region [⟨(some 10), .fieldAddr 0 (.t 4), none⟩,
        ⟨(some 11), .load none (.t 10), none⟩,
        ⟨(some 12), .bin .eql (.t 11) (.k (.c (.d (.int .i64 1)))), none⟩] [10, 11])
    (.cond (.t 12)
      (.seq (.region [⟨(some 14), .mv (.t 2), none⟩,
          ⟨(some 15), .fieldAddr 1 (.t 4), none⟩,
          ⟨(some 16), .load none (.t 15), none⟩,
          ⟨(some 17), .mapGet (some 4) [(.int .i64 0), (.int .i64 0), (.str []), (.sl [])] true (.t 14) (.t 16), none⟩,
          ⟨(some 13), .mv (.t 17), none⟩,
          ⟨(some 18), .extract 0 (.t 13), none⟩,
          ⟨(some 19), .extract 1 (.t 13), none⟩,
          ⟨(some 7), .alloc [(.d (.int .i64 0)), (.d (.int .i64 0)), (.d (.str [])), (.full [])], none⟩,
          ⟨none, .store 4 (.t 7) (.t 18), none⟩,
          ⟨(some 8), .mv (.t 19), none⟩] [12, 13, 14, 15, 16, 17, 18, 19])
      (.seq (.seq (.region [⟨(some 20), .mv (.t 8), none⟩,
            ⟨(some 21), .un .not (.t 20), none⟩] [8, 20])
        (.cond (.t 21)
          (.seq (.region [⟨(some 22), .mv (.t 2), none⟩,
              ⟨(some 23), .fieldAddr 1 (.t 4), none⟩,
              ⟨(some 24), .load none (.t 23), none⟩,
              ⟨(some 25), .load (some 4) (.t 3), none⟩,
              ⟨none, .mapSet (.t 22) (.t 24) (.t 25), none⟩] [2, 3, 4, 7, 21, 22, 23, 24, 25])
          (.seq (.region [⟨(some 6), .mv (.k (.c (.d (.bool true)))), none⟩] [])
          (.ret)))
          (.skip)))
      (.seq (.region [⟨(some 26), .load (some 4) (.t 7), none⟩,
          ⟨(some 27), .load (some 4) (.t 3), none⟩,
          ⟨(some 28), .qcall 8 [(.t 26), (.t 27)], none⟩,
          ⟨(some 6), .mv (.t 28), none⟩] [2, 3, 4, 7, 21, 26, 27, 28])
      (.ret))))
      (.skip)))
  (.seq (.seq (.region [⟨(some 29), .fieldAddr 0 (.t 3), none⟩,
        ⟨(some 30), .load none (.t 29), none⟩,
        ⟨(some 31), .fieldAddr 0 (.t 4), none⟩,
        ⟨(some 32), .load none (.t 31), none⟩,
        ⟨(some 33), .bin .neq (.t 30) (.t 32), none⟩,
        ⟨(some 34), .mv (.t 33), none⟩,
        ⟨(some 35), .fieldAddr 1 (.t 3), some (34, false)⟩,
        ⟨(some 36), .load none (.t 35), some (34, false)⟩,
        ⟨(some 37), .fieldAddr 1 (.t 4), some (34, false)⟩,
        ⟨(some 38), .load none (.t 37), some (34, false)⟩,
        ⟨(some 39), .bin .neq (.t 36) (.t 38), some (34, false)⟩,
        ⟨(some 40), .pick (.t 34) (.k (.c (.d (.bool true)))) (.t 39), none⟩,
        ⟨(some 41), .mv (.t 40), none⟩,
        ⟨(some 42), .fieldAddr 2 (.t 3), some (41, false)⟩,
        ⟨(some 43), .load none (.t 42), some (41, false)⟩,
        ⟨(some 44), .fieldAddr 2 (.t 4), some (41, false)⟩,
        ⟨(some 45), .load none (.t 44), some (41, false)⟩,
        ⟨(some 46), .bin .neq (.t 43) (.t 45), some (41, false)⟩,
        ⟨(some 47), .pick (.t 41) (.k (.c (.d (.bool true)))) (.t 46), none⟩,
        ⟨(some 48), .mv (.t 47), none⟩,
        ⟨(some 49), .fieldAddr 3 (.t 3), some (48, false)⟩,
        ⟨(some 50), .load none (.t 49), some (48, false)⟩,
        ⟨(some 51), .len 1 (.t 50), some (48, false)⟩,
        ⟨(some 52), .fieldAddr 3 (.t 4), some (48, false)⟩,
        ⟨(some 53), .load none (.t 52), some (48, false)⟩,
        ⟨(some 54), .len 1 (.t 53), some (48, false)⟩,
        ⟨(some 55), .bin .neq (.t 51) (.t 54), some (48, false)⟩,
        ⟨(some 56), .pick (.t 48) (.k (.c (.d (.bool true)))) (.t 55), none⟩] [6, 12, 29, 30, 31, 32, 33, 34, 35, 36, 37, 38, 39, 40, 41, 42, 43, 44, 45, 46, 47, 48, 49, 50, 51, 52, 53, 54, 55])
    (.cond (.t 56)
      (.seq (.region [⟨(some 6), .mv (.k (.c (.d (.bool false)))), none⟩] [2, 3, 4, 56])
      (.ret))
      (.skip)))
  (.seq (.seq (.region [⟨(some 57), .fieldAddr 3 (.t 4), none⟩,
        ⟨(some 58), .load none (.t 57), none⟩,
        ⟨(some 59), .len 1 (.t 58), none⟩,
        ⟨(some 60), .mv (.k (.c (.d (.int .i64 0)))), none⟩] [6, 56, 57, 58])
    (.block 0 (.loop (.seq (.region [⟨(some 61), .bin .lss (.t 60) (.t 59), none⟩] [])
        (.seq (.cond (.t 61)
            (.skip)
            (.exit 0))
        (.seq (.block 1 (.seq (.region [⟨(some 62), .mv (.t 60), none⟩,
                ⟨(some 9), .mv (.t 62), none⟩] [61, 62])
            (.seq (.region [⟨(some 63), .fieldAddr 3 (.t 3), none⟩,
                ⟨(some 65), .mv (.t 9), none⟩,
                ⟨(some 68), .fieldAddr 3 (.t 4), none⟩,
                ⟨(some 70), .mv (.t 9), none⟩,
                ⟨(some 73), .mv (.t 2), none⟩,
                ⟨(some 64), .load none (.t 63), none⟩,
                ⟨(some 66), .indexAddr 4 (.t 64) (.t 65), none⟩,
                ⟨(some 67), .load (some 4) (.t 66), none⟩,
                ⟨(some 69), .load none (.t 68), none⟩,
                ⟨(some 71), .indexAddr 4 (.t 69) (.t 70), none⟩,
                ⟨(some 72), .load (some 4) (.t 71), none⟩,
                ⟨(some 74), .call false 37 [(.t 67), (.t 72), (.t 73)], none⟩,
                ⟨(some 75), .un .not (.t 74), none⟩] [9, 63, 64, 65, 66, 67, 68, 69, 70, 71, 72, 73, 74])
            (.cond (.t 75)
              (.seq (.region [⟨(some 6), .mv (.k (.c (.d (.bool false)))), none⟩] [2, 3, 4, 59, 60, 75])
              (.ret))
              (.skip)))))
        (.region [⟨(some 76), .bin .add (.t 60) (.k (.c (.d (.int .i64 1)))), none⟩,
          ⟨(some 60), .mv (.t 76), none⟩] [6, 75, 76])))))))
  (.seq (.region [⟨(some 6), .mv (.k (.c (.d (.bool true)))), none⟩] [])
  (.ret)))))
theorem ac37_ok : cFunc Try.prog [1000008] [(0, [0, 1, 6], []), (1, [10, 11], []), (2, [12, 13, 14, 15, 16, 17, 18, 19], []), (3, [8, 20], []), (4, [2, 3, 4, 7, 21, 22, 23, 24, 25], []), (5, [], []), (6, [2, 3, 4, 7, 21, 26, 27, 28], []), (7, [6, 12, 29, 30, 31, 32, 33, 34, 35, 36, 37, 38, 39, 40, 41, 42, 43, 44, 45, 46, 47, 48, 49, 50, 51, 52, 53, 54, 55], []), (8, [2, 3, 4, 56], []), (9, [6, 56, 57, 58], []), (10, [], []), (11, [61, 62], []), (12, [9, 63, 64, 65, 66, 67, 68, 69, 70, 71, 72, 73, 74], [0, 2, 5, 7, 10, 1, 3, 4, 6, 8, 9, 11, 12]), (13, [2, 3, 4, 59, 60, 75], []), (14, [6, 75, 76], []), (15, [], [])] Try.f37 = some (ac37, [.tmp 6], 77) := by kernel_rfl
-- 9 loop.example/prologserver/impl.InstanceOf params 2 ntmps 17
def ac9 : Cd := .seq (.region [⟨(some 2), .box (.t 0), none⟩,
      ⟨(some 3), .box (.t 1), none⟩,
      ⟨(some 4), .mv (.k (.c (.d (.bool false)))), none⟩] [0, 1, 4])
  (.seq (.region [⟨(some 5), .load (some 4) (.t 2), none⟩,
      ⟨(some 6), .qcall 25 [(.t 5)], none⟩,
      ⟨(some 7), .mv (.t 6), none⟩,
      ⟨(some 8), .load (some 4) (.t 3), some (7, true)⟩,
      ⟨(some 9), .qcall 25 [(.t 8)], some (7, true)⟩,
      ⟨(some 10), .pick (.t 7) (.t 9) (.k (.c (.d (.bool false)))), none⟩,
      ⟨(some 11), .mv (.t 10), none⟩,
      ⟨(some 12), .load (some 4) (.t 2), some (11, true)⟩,
      ⟨(some 13), .load (some 4) (.t 3), some (11, true)⟩,
      ⟨(some 14), .mkMap, some (11, true)⟩,
      ⟨(some 15), .call false 37 [(.t 12), (.t 13), (.t 14)], some (11, true)⟩,
      ⟨(some 16), .pick (.t 11) (.t 15) (.k (.c (.d (.bool false)))), none⟩,
      ⟨(some 4), .mv (.t 16), none⟩] [2, 3, 5, 6, 7, 8, 9, 10, 11, 12, 13, 14, 15, 16])
  (.ret))
theorem ac9_ok : cFunc Try.prog [1000025] [(0, [0, 1, 4], []), (1, [2, 3, 5, 6, 7, 8, 9, 10, 11, 12, 13, 14, 15, 16], [])] Try.f9 = some (ac9, [.tmp 4], 17) := by kernel_rfl
/-- what is told of variables is what they are replaced by -/
def TellsF (f : Int → Tm) (m : List (Int × List D)) : Prop := ∀ kr ∈ m, kr.2 = (f kr.1).row
theorem tells_row {f : Int → Tm} {m : List (Int × List D)} (h : TellsF f m) {n : Int} {row : List D} (hr : mapRow m n = some row) : row = (f n).row := by
  induction m with
  | nil => cases hr
  | cons a l ih =>
    obtain ⟨k, r⟩ := a
    simp only [mapRow] at hr
    split at hr
    · rename_i e
      subst e
      obtain rfl := Option.some.inj hr
      exact h _ (List.mem_cons_self ..)
    · exact ih (fun kr hk => h kr (by simp [hk])) hr
theorem tells_put {f : Int → Tm} {m : List (Int × List D)} (h : TellsF f m) (n : Int) : TellsF f (mapPut m n (f n).row) := by
  induction m with
  | nil => intro kr hk; simp [mapPut] at hk; subst hk; rfl
  | cons a l ih =>
    obtain ⟨k, r⟩ := a
    intro kr hk
    simp only [mapPut] at hk
    split at hk
    · rename_i e
      subst e
      rcases List.mem_cons.1 hk with rfl | h1
      · rfl
      · exact h kr (by simp [h1])
    · rcases List.mem_cons.1 hk with rfl | h1
      · exact h (k, r) (by simp)
      · exact ih (fun kr hk => h kr (by simp [hk])) kr h1
def InstOk (f : Int → Tm) (u : Tm) : Prop := ∀ (m : List (Int × List D)) (H : Heap) (i : Nat), TellsF f m → i < H.length →
  ACalls Try.prog 37 [.agg ((u.sub1 f).row.map .d), .agg (u.row.map .d), .c (.map (.e i))] (H.set i (.map m)) (fun r H' => r = .c (.d (.bool true)) ∧ ∃ m', TellsF f m' ∧ H' = H.set i (.map m'))
theorem call_inst {f : Int → Tm} {u : Tm} (hd : InstOk f u) {m : List (Int × List D)} {H : Heap} {i : Nat} {sl : List A} {loc H₂ : Heap} {K : A → St → Prop} (hm : TellsF f m) (hi : i < H.length)
    (hH : H₂ = H.set i (.map m) ++ loc.map (Ob.re H.length)) (hf : Obs.fits H.length 0 (H.set i (.map m))) (hk : ∀ m', TellsF f m' → K (.c (.d (.bool true))) ⟨sl, H.set i (.map m'), loc⟩) :
    ACalls Try.prog 37 [.agg ((u.sub1 f).row.map .d), .agg (u.row.map .d), .c (.map (.e i))] H₂ (CallK K ⟨sl, H.set i (.map m), loc⟩) := by
  subst hH
  have h := hd m (H ++ loc.map (Ob.re H.length)) i hm (by simp; omega)
  rw [List.set_append_left _ _ hi] at h
  refine h.mono fun r H' ⟨h1, m', h2, h4⟩ => ?_
  rw [List.set_append_left _ _ hi] at h4
  exact ⟨H.set i (.map m'), loc, r, by simpa using h4, by simp, Nat.le_refl _, by simpa using fits_reset (b := .map m') hf trivial, by subst h1; rfl, by subst h1; exact hk m' h2⟩
theorem inst_calls (f : Int → Tm) (hff : ∀ n, inR .i64 n → (f n).fits) : ∀ u : Tm, u.fits → InstOk f u := by
  refine Tm.ind fun k n s l ih hfits m H i hm hi => ?_
  have hsub := sub1_fits f hff _ hfits
  obtain ⟨hk, hn, hs, hl, hkids⟩ := hfits
  have hf0 : ∀ m', Obs.fits (H.set i (.map m)).length 0 (H.set i (.map m)) → Obs.fits H.length 0 (H.set i (.map m')) := fun m' h => fits_reset (b := .map m') (by simpa using h) trivial
  refine acalls Try.func37 (by kernel_rfl) ac37_ok fun hf => ?_
  have hf1 := fun m' => hf0 m' hf
  by_cases hv : k = 1
  · subst hv
    have e : (Tm.mk 1 n s l).sub1 f = f n := by rw [sub1_mk, if_pos rfl]
    rw [e]
    rw [e] at hsub
    simp -implicitDefEqProofs [ac37, row_mk, row_len, take_row, hi, List.getElem?_set, aw_skip, aw_region, aw_seq, aw_block, aw_cond, aw_exit, aw_ret, kq_nil, kq_seq, kq_seq_ret, kq_seq_exit, kq_block, kq_block_ret, kq_block_exit, kq_loop, kq_loop_ret, kq_loop_exit, awOps_nil, awOps_cons, awOps_guardE, nx_eq, awOp, ev_k, ev_0, ev_1, ev_2, ev_3, ev_4, ev_5, ev_6, ev_7, ev_8, set_0, set_1, set_2, set_3, set_4, set_5, set_6, set_7, set_8, -List.set_cons_succ, -List.set_cons_zero, A.ok, A.val, setSl, wrapG, guardB, getB, pickA, binA, binC, binD, cmpD, isCmp, unA, unD, lenA, AOp.total, kills, litB, FinQ, resOks, resOk, resA, resList, resOne, A.thaw, C.thaw, A.fits, As.fits, C.fits, evs, oks, callArgs, A.pure, C.pure, A.re, C.re, fieldAddrA, loadC, cut, A.cells, C.rows?, getOb, newOb, setOb, storeC, splice, Ob.re, Cs.fits, partsA, partsOk, parts2A, parts2Ok, fillC, fillRows, optInt, optOk, sliceA, clipC, optK_some, storeK_some, Option.map_some, toDs, C.toD, spliceD, appendA, capsOf, srcRows, allLen_nil_iff, allLen_cons_iff, allLen_append_iff, dropC, Obs.fits, eqCs, eqD, mapRow, mapPut, mapVal, mapOne, mapCells]
    cases hr : mapRow m n with
    | none =>
      simp -implicitDefEqProofs [hr, toDs_map, hf1, aw_skip, aw_region, aw_seq, aw_block, aw_cond, aw_exit, aw_ret, kq_nil, kq_seq, kq_seq_ret, kq_seq_exit, kq_block, kq_block_ret, kq_block_exit, kq_loop, kq_loop_ret, kq_loop_exit, awOps_nil, awOps_cons, awOps_guardE, nx_eq, awOp, ev_k, ev_0, ev_1, ev_2, ev_3, ev_4, ev_5, ev_6, ev_7, ev_8, set_0, set_1, set_2, set_3, set_4, set_5, set_6, set_7, set_8, -List.set_cons_succ, -List.set_cons_zero, A.ok, A.val, setSl, wrapG, guardB, getB, pickA, binA, binC, binD, cmpD, isCmp, unA, unD, lenA, AOp.total, kills, litB, FinQ, resOks, resOk, resA, resList, resOne, A.thaw, C.thaw, A.fits, As.fits, C.fits, evs, oks, callArgs, A.pure, C.pure, A.re, C.re, fieldAddrA, loadC, cut, A.cells, C.rows?, getOb, newOb, setOb, storeC, splice, Ob.re, Cs.fits, partsA, partsOk, parts2A, parts2Ok, fillC, fillRows, optInt, optOk, sliceA, clipC, optK_some, storeK_some, Option.map_some, toDs, C.toD, spliceD, appendA, capsOf, srcRows, allLen_nil_iff, allLen_cons_iff, allLen_append_iff, dropC, Obs.fits, eqCs, eqD, mapRow, mapPut, mapVal, mapOne, mapCells]
      exact ⟨_, tells_put hm n, rfl⟩
    | some row =>
      obtain rfl := tells_row hm hr
      simp -implicitDefEqProofs [hr, toDs_map, row_len, take_row, pure_d, re_d, hf1, aw_skip, aw_region, aw_seq, aw_block, aw_cond, aw_exit, aw_ret, kq_nil, kq_seq, kq_seq_ret, kq_seq_exit, kq_block, kq_block_ret, kq_block_exit, kq_loop, kq_loop_ret, kq_loop_exit, awOps_nil, awOps_cons, awOps_guardE, nx_eq, awOp, ev_k, ev_0, ev_1, ev_2, ev_3, ev_4, ev_5, ev_6, ev_7, ev_8, set_0, set_1, set_2, set_3, set_4, set_5, set_6, set_7, set_8, -List.set_cons_succ, -List.set_cons_zero, A.ok, A.val, setSl, wrapG, guardB, getB, pickA, binA, binC, binD, cmpD, isCmp, unA, unD, lenA, AOp.total, kills, litB, FinQ, resOks, resOk, resA, resList, resOne, A.thaw, C.thaw, A.fits, As.fits, C.fits, evs, oks, callArgs, A.pure, C.pure, A.re, C.re, fieldAddrA, loadC, cut, A.cells, C.rows?, getOb, newOb, setOb, storeC, splice, Ob.re, Cs.fits, partsA, partsOk, parts2A, parts2Ok, fillC, fillRows, optInt, optOk, sliceA, clipC, optK_some, storeK_some, Option.map_some, toDs, C.toD, spliceD, appendA, capsOf, srcRows, allLen_nil_iff, allLen_cons_iff, allLen_append_iff, dropC, Obs.fits, eqCs, eqD, mapRow, mapPut, mapVal, mapOne, mapCells]
      refine qcall_pure (sameImpl_calls _ hsub _ hsub) (by simpa using hf1 m) rfl ?_
      simp -implicitDefEqProofs [hf1, aw_skip, aw_region, aw_seq, aw_block, aw_cond, aw_exit, aw_ret, kq_nil, kq_seq, kq_seq_ret, kq_seq_exit, kq_block, kq_block_ret, kq_block_exit, kq_loop, kq_loop_ret, kq_loop_exit, awOps_nil, awOps_cons, awOps_guardE, nx_eq, awOp, ev_k, ev_0, ev_1, ev_2, ev_3, ev_4, ev_5, ev_6, ev_7, ev_8, set_0, set_1, set_2, set_3, set_4, set_5, set_6, set_7, set_8, -List.set_cons_succ, -List.set_cons_zero, A.ok, A.val, setSl, wrapG, guardB, getB, pickA, binA, binC, binD, cmpD, isCmp, unA, unD, lenA, AOp.total, kills, litB, FinQ, resOks, resOk, resA, resList, resOne, A.thaw, C.thaw, A.fits, As.fits, C.fits, evs, oks, callArgs, A.pure, C.pure, A.re, C.re, fieldAddrA, loadC, cut, A.cells, C.rows?, getOb, newOb, setOb, storeC, splice, Ob.re, Cs.fits, partsA, partsOk, parts2A, parts2Ok, fillC, fillRows, optInt, optOk, sliceA, clipC, optK_some, storeK_some, Option.map_some, toDs, C.toD, spliceD, appendA, capsOf, srcRows, allLen_nil_iff, allLen_cons_iff, allLen_append_iff, dropC, Obs.fits, eqCs, eqD, mapRow, mapPut, mapVal, mapOne, mapCells]
      exact ⟨m, hm, rfl⟩
  · have e : (Tm.mk k n s l).sub1 f = .mk k n s (l.map (Tm.sub1 f)) := by rw [sub1_mk, if_neg hv]
    rw [e]
    rw [e] at hsub
    have hli : inR .i64 (l.length : Int) := small_i64 (by omega) (by omega)
    simp -implicitDefEqProofs [ac37, row_mk, hv, hli, hi, List.getElem?_set, aw_skip, aw_region, aw_seq, aw_block, aw_cond, aw_exit, aw_ret, kq_nil, kq_seq, kq_seq_ret, kq_seq_exit, kq_block, kq_block_ret, kq_block_exit, kq_loop, kq_loop_ret, kq_loop_exit, awOps_nil, awOps_cons, awOps_guardE, nx_eq, awOp, ev_k, ev_0, ev_1, ev_2, ev_3, ev_4, ev_5, ev_6, ev_7, ev_8, set_0, set_1, set_2, set_3, set_4, set_5, set_6, set_7, set_8, -List.set_cons_succ, -List.set_cons_zero, A.ok, A.val, setSl, wrapG, guardB, getB, pickA, binA, binC, binD, cmpD, isCmp, unA, unD, lenA, AOp.total, kills, litB, FinQ, resOks, resOk, resA, resList, resOne, A.thaw, C.thaw, A.fits, As.fits, C.fits, evs, oks, callArgs, A.pure, C.pure, A.re, C.re, fieldAddrA, loadC, cut, A.cells, C.rows?, getOb, newOb, setOb, storeC, splice, Ob.re, Cs.fits, partsA, partsOk, parts2A, parts2Ok, fillC, fillRows, optInt, optOk, sliceA, clipC, optK_some, storeK_some, Option.map_some, toDs, C.toD, spliceD, appendA, capsOf, srcRows, allLen_nil_iff, allLen_cons_iff, allLen_append_iff, dropC, Obs.fits, eqCs, eqD, mapRow, mapPut, mapVal, mapOne, mapCells]
    refine loop_set (σ := Nat × List (Int × List D)) (fun x => [(60, .c (.d (.int .i64 x.1)))]) (fun x => H.set i (.map x.2)) (fun _ => [_, _]) (fun x => x.1 ≤ l.length ∧ TellsF f x.2) (fun x => l.length - x.1) (0, m) rfl ⟨Nat.zero_le _, hm⟩ ?_
    rintro ⟨j, q⟩ ⟨hj, hq⟩
    simp only at hj hq
    by_cases hlt : j < l.length
    · have hj1 : inR .i64 ((j : Int) + 1) := small_i64 (by omega) (by omega)
      simp -implicitDefEqProofs [setAll, hlt, aw_skip, aw_region, aw_seq, aw_block, aw_cond, aw_exit, aw_ret, kq_nil, kq_seq, kq_seq_ret, kq_seq_exit, kq_block, kq_block_ret, kq_block_exit, kq_loop, kq_loop_ret, kq_loop_exit, awOps_nil, awOps_cons, awOps_guardE, nx_eq, awOp, ev_k, ev_0, ev_1, ev_2, ev_3, ev_4, ev_5, ev_6, ev_7, ev_8, set_0, set_1, set_2, set_3, set_4, set_5, set_6, set_7, set_8, -List.set_cons_succ, -List.set_cons_zero, A.ok, A.val, setSl, wrapG, guardB, getB, pickA, binA, binC, binD, cmpD, isCmp, unA, unD, lenA, AOp.total, kills, litB, FinQ, resOks, resOk, resA, resList, resOne, A.thaw, C.thaw, A.fits, As.fits, C.fits, evs, oks, callArgs, A.pure, C.pure, A.re, C.re, fieldAddrA, loadC, cut, A.cells, C.rows?, getOb, newOb, setOb, storeC, splice, Ob.re, Cs.fits, partsA, partsOk, parts2A, parts2Ok, fillC, fillRows, optInt, optOk, sliceA, clipC, optK_some, storeK_some, Option.map_some, toDs, C.toD, spliceD, appendA, capsOf, srcRows, allLen_nil_iff, allLen_cons_iff, allLen_append_iff, dropC, Obs.fits, eqCs, eqD, mapRow, mapPut, mapVal, mapOne, mapCells]
      refine row_of (g := Tm.row ∘ Tm.sub1 f) hlt (row_len _) ?_
      simp -implicitDefEqProofs [row_len, take_row, pure_d, re_d, aw_skip, aw_region, aw_seq, aw_block, aw_cond, aw_exit, aw_ret, kq_nil, kq_seq, kq_seq_ret, kq_seq_exit, kq_block, kq_block_ret, kq_block_exit, kq_loop, kq_loop_ret, kq_loop_exit, awOps_nil, awOps_cons, awOps_guardE, nx_eq, awOp, ev_k, ev_0, ev_1, ev_2, ev_3, ev_4, ev_5, ev_6, ev_7, ev_8, set_0, set_1, set_2, set_3, set_4, set_5, set_6, set_7, set_8, -List.set_cons_succ, -List.set_cons_zero, A.ok, A.val, setSl, wrapG, guardB, getB, pickA, binA, binC, binD, cmpD, isCmp, unA, unD, lenA, AOp.total, kills, litB, FinQ, resOks, resOk, resA, resList, resOne, A.thaw, C.thaw, A.fits, As.fits, C.fits, evs, oks, callArgs, A.pure, C.pure, A.re, C.re, fieldAddrA, loadC, cut, A.cells, C.rows?, getOb, newOb, setOb, storeC, splice, Ob.re, Cs.fits, partsA, partsOk, parts2A, parts2Ok, fillC, fillRows, optInt, optOk, sliceA, clipC, optK_some, storeK_some, Option.map_some, toDs, C.toD, spliceD, appendA, capsOf, srcRows, allLen_nil_iff, allLen_cons_iff, allLen_append_iff, dropC, Obs.fits, eqCs, eqD, mapRow, mapPut, mapVal, mapOne, mapCells]
      refine row_of hlt (row_len _) ?_
      simp -implicitDefEqProofs [row_len, take_row, pure_d, re_d, aw_skip, aw_region, aw_seq, aw_block, aw_cond, aw_exit, aw_ret, kq_nil, kq_seq, kq_seq_ret, kq_seq_exit, kq_block, kq_block_ret, kq_block_exit, kq_loop, kq_loop_ret, kq_loop_exit, awOps_nil, awOps_cons, awOps_guardE, nx_eq, awOp, ev_k, ev_0, ev_1, ev_2, ev_3, ev_4, ev_5, ev_6, ev_7, ev_8, set_0, set_1, set_2, set_3, set_4, set_5, set_6, set_7, set_8, -List.set_cons_succ, -List.set_cons_zero, A.ok, A.val, setSl, wrapG, guardB, getB, pickA, binA, binC, binD, cmpD, isCmp, unA, unD, lenA, AOp.total, kills, litB, FinQ, resOks, resOk, resA, resList, resOne, A.thaw, C.thaw, A.fits, As.fits, C.fits, evs, oks, callArgs, A.pure, C.pure, A.re, C.re, fieldAddrA, loadC, cut, A.cells, C.rows?, getOb, newOb, setOb, storeC, splice, Ob.re, Cs.fits, partsA, partsOk, parts2A, parts2Ok, fillC, fillRows, optInt, optOk, sliceA, clipC, optK_some, storeK_some, Option.map_some, toDs, C.toD, spliceD, appendA, capsOf, srcRows, allLen_nil_iff, allLen_cons_iff, allLen_append_iff, dropC, Obs.fits, eqCs, eqD, mapRow, mapPut, mapVal, mapOne, mapCells]
      refine call_inst (ih l[j] (List.getElem_mem hlt) (hkids _ (List.getElem_mem hlt))) hq hi (by simp [Ob.re, C.re]) (hf1 _) ?_
      intro q' hq'
      simp -implicitDefEqProofs [hj1, hf1, aw_skip, aw_region, aw_seq, aw_block, aw_cond, aw_exit, aw_ret, kq_nil, kq_seq, kq_seq_ret, kq_seq_exit, kq_block, kq_block_ret, kq_block_exit, kq_loop, kq_loop_ret, kq_loop_exit, awOps_nil, awOps_cons, awOps_guardE, nx_eq, awOp, ev_k, ev_0, ev_1, ev_2, ev_3, ev_4, ev_5, ev_6, ev_7, ev_8, set_0, set_1, set_2, set_3, set_4, set_5, set_6, set_7, set_8, -List.set_cons_succ, -List.set_cons_zero, A.ok, A.val, setSl, wrapG, guardB, getB, pickA, binA, binC, binD, cmpD, isCmp, unA, unD, lenA, AOp.total, kills, litB, FinQ, resOks, resOk, resA, resList, resOne, A.thaw, C.thaw, A.fits, As.fits, C.fits, evs, oks, callArgs, A.pure, C.pure, A.re, C.re, fieldAddrA, loadC, cut, A.cells, C.rows?, getOb, newOb, setOb, storeC, splice, Ob.re, Cs.fits, partsA, partsOk, parts2A, parts2Ok, fillC, fillRows, optInt, optOk, sliceA, clipC, optK_some, storeK_some, Option.map_some, toDs, C.toD, spliceD, appendA, capsOf, srcRows, allLen_nil_iff, allLen_cons_iff, allLen_append_iff, dropC, Obs.fits, eqCs, eqD, mapRow, mapPut, mapVal, mapOne, mapCells]
      exact loop_back (j + 1, q') (by simp [setAll]) ⟨hlt, hq'⟩ (by show l.length - (j + 1) < l.length - j; omega)
    · have hje : j = l.length := by omega
      subst hje
      simp -implicitDefEqProofs [setAll, hf1, aw_skip, aw_region, aw_seq, aw_block, aw_cond, aw_exit, aw_ret, kq_nil, kq_seq, kq_seq_ret, kq_seq_exit, kq_block, kq_block_ret, kq_block_exit, kq_loop, kq_loop_ret, kq_loop_exit, awOps_nil, awOps_cons, awOps_guardE, nx_eq, awOp, ev_k, ev_0, ev_1, ev_2, ev_3, ev_4, ev_5, ev_6, ev_7, ev_8, set_0, set_1, set_2, set_3, set_4, set_5, set_6, set_7, set_8, -List.set_cons_succ, -List.set_cons_zero, A.ok, A.val, setSl, wrapG, guardB, getB, pickA, binA, binC, binD, cmpD, isCmp, unA, unD, lenA, AOp.total, kills, litB, FinQ, resOks, resOk, resA, resList, resOne, A.thaw, C.thaw, A.fits, As.fits, C.fits, evs, oks, callArgs, A.pure, C.pure, A.re, C.re, fieldAddrA, loadC, cut, A.cells, C.rows?, getOb, newOb, setOb, storeC, splice, Ob.re, Cs.fits, partsA, partsOk, parts2A, parts2Ok, fillC, fillRows, optInt, optOk, sliceA, clipC, optK_some, storeK_some, Option.map_some, toDs, C.toD, spliceD, appendA, capsOf, srcRows, allLen_nil_iff, allLen_cons_iff, allLen_append_iff, dropC, Obs.fits, eqCs, eqD, mapRow, mapPut, mapVal, mapOne, mapCells]
      exact ⟨q, hq, rfl⟩
theorem instOf_calls (f : Int → Tm) (hff : ∀ n, inR .i64 n → (f n).fits) (u : Tm) (hu : u.fits) (hv : u.valid = true) (hw : (u.sub1 f).valid = true) (H : Heap) :
    ACalls Try.prog 9 [.agg ((u.sub1 f).row.map .d), .agg (u.row.map .d)] H (fun r H' => H' = H ∧ r = .c (.d (.bool true))) := by
  have hs := sub1_fits f hff u hu
  refine acalls Try.func9 (by kernel_rfl) ac9_ok fun hf => ?_
  simp -implicitDefEqProofs [ac9, row_len, take_row, pure_d, re_d, aw_skip, aw_region, aw_seq, aw_block, aw_cond, aw_exit, aw_ret, kq_nil, kq_seq, kq_seq_ret, kq_seq_exit, kq_block, kq_block_ret, kq_block_exit, kq_loop, kq_loop_ret, kq_loop_exit, awOps_nil, awOps_cons, awOps_guardE, nx_eq, awOp, ev_k, ev_0, ev_1, ev_2, ev_3, ev_4, ev_5, ev_6, ev_7, ev_8, set_0, set_1, set_2, set_3, set_4, set_5, set_6, set_7, set_8, -List.set_cons_succ, -List.set_cons_zero, A.ok, A.val, setSl, wrapG, guardB, getB, pickA, binA, binC, binD, cmpD, isCmp, unA, unD, lenA, AOp.total, kills, litB, FinQ, resOks, resOk, resA, resList, resOne, A.thaw, C.thaw, A.fits, As.fits, C.fits, evs, oks, callArgs, A.pure, C.pure, A.re, C.re, fieldAddrA, loadC, cut, A.cells, C.rows?, getOb, newOb, setOb, storeC, splice, Ob.re, Cs.fits, partsA, partsOk, parts2A, parts2Ok, fillC, fillRows, optInt, optOk, sliceA, clipC, optK_some, storeK_some, Option.map_some, toDs, C.toD, spliceD, appendA, capsOf, srcRows, allLen_nil_iff, allLen_cons_iff, allLen_append_iff, dropC, Obs.fits, eqCs, eqD, mapRow, mapPut, mapVal, mapOne, mapCells]
  refine qcall_pure (tvImpl_calls _ hs) hf rfl ?_
  simp -implicitDefEqProofs [hw, row_len, take_row, pure_d, re_d, aw_skip, aw_region, aw_seq, aw_block, aw_cond, aw_exit, aw_ret, kq_nil, kq_seq, kq_seq_ret, kq_seq_exit, kq_block, kq_block_ret, kq_block_exit, kq_loop, kq_loop_ret, kq_loop_exit, awOps_nil, awOps_cons, awOps_guardE, nx_eq, awOp, ev_k, ev_0, ev_1, ev_2, ev_3, ev_4, ev_5, ev_6, ev_7, ev_8, set_0, set_1, set_2, set_3, set_4, set_5, set_6, set_7, set_8, -List.set_cons_succ, -List.set_cons_zero, A.ok, A.val, setSl, wrapG, guardB, getB, pickA, binA, binC, binD, cmpD, isCmp, unA, unD, lenA, AOp.total, kills, litB, FinQ, resOks, resOk, resA, resList, resOne, A.thaw, C.thaw, A.fits, As.fits, C.fits, evs, oks, callArgs, A.pure, C.pure, A.re, C.re, fieldAddrA, loadC, cut, A.cells, C.rows?, getOb, newOb, setOb, storeC, splice, Ob.re, Cs.fits, partsA, partsOk, parts2A, parts2Ok, fillC, fillRows, optInt, optOk, sliceA, clipC, optK_some, storeK_some, Option.map_some, toDs, C.toD, spliceD, appendA, capsOf, srcRows, allLen_nil_iff, allLen_cons_iff, allLen_append_iff, dropC, Obs.fits, eqCs, eqD, mapRow, mapPut, mapVal, mapOne, mapCells]
  refine qcall_pure (tvImpl_calls _ hu) hf rfl ?_
  simp -implicitDefEqProofs [hv, row_len, take_row, pure_d, re_d, aw_skip, aw_region, aw_seq, aw_block, aw_cond, aw_exit, aw_ret, kq_nil, kq_seq, kq_seq_ret, kq_seq_exit, kq_block, kq_block_ret, kq_block_exit, kq_loop, kq_loop_ret, kq_loop_exit, awOps_nil, awOps_cons, awOps_guardE, nx_eq, awOp, ev_k, ev_0, ev_1, ev_2, ev_3, ev_4, ev_5, ev_6, ev_7, ev_8, set_0, set_1, set_2, set_3, set_4, set_5, set_6, set_7, set_8, -List.set_cons_succ, -List.set_cons_zero, A.ok, A.val, setSl, wrapG, guardB, getB, pickA, binA, binC, binD, cmpD, isCmp, unA, unD, lenA, AOp.total, kills, litB, FinQ, resOks, resOk, resA, resList, resOne, A.thaw, C.thaw, A.fits, As.fits, C.fits, evs, oks, callArgs, A.pure, C.pure, A.re, C.re, fieldAddrA, loadC, cut, A.cells, C.rows?, getOb, newOb, setOb, storeC, splice, Ob.re, Cs.fits, partsA, partsOk, parts2A, parts2Ok, fillC, fillRows, optInt, optOk, sliceA, clipC, optK_some, storeK_some, Option.map_some, toDs, C.toD, spliceD, appendA, capsOf, srcRows, allLen_nil_iff, allLen_cons_iff, allLen_append_iff, dropC, Obs.fits, eqCs, eqD, mapRow, mapPut, mapVal, mapOne, mapCells]
  have hset : ∀ q q' : List (Int × List D), (H ++ [Ob.cells ((u.sub1 f).row.map C.d), Ob.cells (u.row.map C.d), Ob.map q]).set (H.length + 2) (.map q') = H ++ [Ob.cells ((u.sub1 f).row.map C.d), Ob.cells (u.row.map C.d), Ob.map q'] := fun q q' => by
    rw [List.set_append_right _ _ (by omega)]
    simp
  have h := inst_calls f hff u hu [] (H ++ [Ob.cells ((u.sub1 f).row.map C.d), Ob.cells (u.row.map C.d), Ob.map []]) (H.length + 2) (fun kr hk => by cases hk) (by simp)
  rw [hset] at h
  refine h.mono fun r H' ⟨h1, m', h2, h3⟩ => ?_
  rw [hset] at h3
  subst h1; subst h3
  refine ⟨H, [Ob.cells ((u.sub1 f).row.map C.d), Ob.cells (u.row.map C.d), Ob.map m'], .c (.d (.bool true)), by simp [Ob.re, re_d], rfl, Nat.le_refl _, hf, rfl, ?_⟩
  simp -implicitDefEqProofs [aw_skip, aw_region, aw_seq, aw_block, aw_cond, aw_exit, aw_ret, kq_nil, kq_seq, kq_seq_ret, kq_seq_exit, kq_block, kq_block_ret, kq_block_exit, kq_loop, kq_loop_ret, kq_loop_exit, awOps_nil, awOps_cons, awOps_guardE, nx_eq, awOp, ev_k, ev_0, ev_1, ev_2, ev_3, ev_4, ev_5, ev_6, ev_7, ev_8, set_0, set_1, set_2, set_3, set_4, set_5, set_6, set_7, set_8, -List.set_cons_succ, -List.set_cons_zero, A.ok, A.val, setSl, wrapG, guardB, getB, pickA, binA, binC, binD, cmpD, isCmp, unA, unD, lenA, AOp.total, kills, litB, FinQ, resOks, resOk, resA, resList, resOne, A.thaw, C.thaw, A.fits, As.fits, C.fits, evs, oks, callArgs, A.pure, C.pure, A.re, C.re, fieldAddrA, loadC, cut, A.cells, C.rows?, getOb, newOb, setOb, storeC, splice, Ob.re, Cs.fits, partsA, partsOk, parts2A, parts2Ok, fillC, fillRows, optInt, optOk, sliceA, clipC, optK_some, storeK_some, Option.map_some, toDs, C.toD, spliceD, appendA, capsOf, srcRows, allLen_nil_iff, allLen_cons_iff, allLen_append_iff, dropC, Obs.fits, eqCs, eqD, mapRow, mapPut, mapVal, mapOne, mapCells]
end Go.Proofs.Ytddahocmlbnlfaa
