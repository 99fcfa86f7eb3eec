/-
  The law FnApplyBinds holds: a term after a replacement is an instance of it, and no bindings change nothing.
  Conditions: none.
-/
import Derived.Test.YtddahocmlbnlfaaInst
import Derived.Test.YtddahocmlbnlfaaBdDraw
import Derived.Test.YtddahocmlbnlfaaQv
import Derived.Test.YtddahocmlbnlfaaAbsN
open Go Go.AM Go.Proofs
namespace Go.Proofs.Ytddahocmlbnlfaa
open Go.ChangeShapes Go.WideShapes Go.ChangeAt Go.RowKit
set_option linter.unusedVariables false
set_option linter.unusedSimpArgs false
set_option maxRecDepth 100000
-- 10 loop.example/prologserver/impl.TermVars params 1 ntmps 8
def ac10 : Cd := .seq (.region [⟨(some 1), .box (.t 0), none⟩,
      ⟨(some 2), .mv (.k (.c (.full []))), none⟩] [0, 2])
  (.seq (.seq (.region [⟨(some 3), .load (some 4) (.t 1), none⟩,
        ⟨(some 4), .qcall 25 [(.t 3)], none⟩,
        ⟨(some 5), .un .not (.t 4), none⟩] [3, 4])
    (.cond (.t 5)
      (.seq (.region [⟨(some 2), .mv (.k (.c (.full []))), none⟩] [1, 5])
      (.ret))
      (.skip)))
  (.seq (.region [⟨(some 6), .load (some 4) (.t 1), none⟩,
      ⟨(some 7), .call true 38 [(.t 6), (.k (.c (.full [])))], none⟩,
      ⟨(some 2), .mv (.t 7), none⟩] [1, 5, 6, 7])
  (.ret)))
theorem ac10_ok : cFunc Try.prog [1000025, 38] [(0, [0, 2], []), (1, [3, 4], []), (2, [1, 5], []), (3, [1, 5, 6, 7], [])] Try.f10 = some (ac10, [.tmp 2], 8) := by kernel_rfl
-- 3 loop.example/prologserver/laws.FnApplyBinds params 1 ntmps 80
def ac3 : Cd := .seq (.region [⟨(some 2), .mv (.k (.c (.d (.bool false)))), none⟩] [2])
  (.seq (.seq (.region [⟨(some 11), .mv (.t 0), none⟩,
        ⟨(some 12), .len 1 (.t 11), none⟩,
        ⟨(some 13), .bin .gtr (.t 12) (.k (.c (.d (.int .i64 1048576)))), none⟩] [11, 12])
    (.cond (.t 13)
      (.seq (.region [⟨(some 2), .mv (.k (.c (.d (.bool true)))), none⟩] [0, 13])
      (.ret))
      (.skip)))
  (.seq (.region [⟨(some 15), .mv (.t 0), none⟩,
      ⟨(some 16), .call false 5 [(.t 15)], none⟩,
      ⟨(some 14), .mv (.t 16), none⟩,
      ⟨(some 17), .extract 0 (.t 14), none⟩,
      ⟨(some 18), .extract 1 (.t 14), none⟩,
      ⟨(some 3), .alloc [(.d (.int .i64 0)), (.d (.int .i64 0)), (.d (.str [])), (.full [])], none⟩,
      ⟨none, .store 4 (.t 3) (.t 17), none⟩,
      ⟨(some 4), .mv (.t 18), none⟩] [0, 2, 13, 14, 15, 16, 17, 18])
  (.seq (.region [⟨(some 20), .load (some 4) (.t 3), none⟩,
      ⟨(some 21), .mv (.t 4), none⟩,
      ⟨(some 22), .qcall 6 [(.t 20), (.t 21)], none⟩,
      ⟨(some 19), .mv (.t 22), none⟩,
      ⟨(some 23), .extract 0 (.t 19), none⟩,
      ⟨(some 24), .extract 1 (.t 19), none⟩,
      ⟨(some 5), .alloc [(.d (.int .i64 0)), (.d (.int .i64 0)), (.d (.str [])), (.full [])], none⟩,
      ⟨none, .store 4 (.t 5) (.t 23), none⟩,
      ⟨(some 6), .mv (.t 24), none⟩] [19, 20, 21, 22, 23, 24])
  (.seq (.region [⟨(some 26), .load (some 4) (.t 3), none⟩,
      ⟨(some 27), .mv (.t 4), none⟩,
      ⟨(some 28), .qcall 7 [(.t 26), (.t 27)], none⟩,
      ⟨(some 25), .mv (.t 28), none⟩,
      ⟨(some 29), .extract 0 (.t 25), none⟩,
      ⟨(some 30), .extract 1 (.t 25), none⟩,
      ⟨(some 7), .alloc [(.d (.int .i64 0)), (.d (.int .i64 0)), (.d (.str [])), (.full [])], none⟩,
      ⟨none, .store 4 (.t 7) (.t 29), none⟩,
      ⟨(some 8), .mv (.t 30), none⟩] [4, 25, 26, 27, 28, 29, 30])
  (.seq (.seq (.region [⟨(some 31), .mv (.t 6), none⟩,
        ⟨(some 32), .mv (.t 8), none⟩,
        ⟨(some 33), .binB true (.t 31) (.t 32), none⟩,
        ⟨(some 34), .mv (.t 33), none⟩,
        ⟨(some 35), .load (some 4) (.t 5), some (34, false)⟩,
        ⟨(some 36), .load (some 4) (.t 7), some (34, false)⟩,
        ⟨(some 37), .qcall 8 [(.t 35), (.t 36)], some (34, false)⟩,
        ⟨(some 38), .un .not (.t 37), some (34, false)⟩,
        ⟨(some 39), .pick (.t 34) (.k (.c (.d (.bool true)))) (.t 38), none⟩,
        ⟨(some 40), .mv (.t 39), none⟩,
        ⟨(some 41), .mv (.t 6), some (40, false)⟩,
        ⟨(some 42), .un .not (.t 41), some (40, false)⟩,
        ⟨(some 43), .pick (.t 40) (.k (.c (.d (.bool true)))) (.t 42), none⟩] [31, 32, 33, 34, 35, 36, 37, 38, 39, 40, 41, 42])
    (.cond (.t 43)
      (.seq (.region [⟨(some 44), .mv (.t 6), none⟩,
          ⟨(some 45), .mv (.t 8), none⟩,
          ⟨(some 46), .binB false (.t 44) (.t 45), none⟩,
          ⟨(some 47), .mv (.t 46), none⟩,
          ⟨(some 48), .load (some 4) (.t 5), some (47, true)⟩,
          ⟨(some 49), .load (some 4) (.t 7), some (47, true)⟩,
          ⟨(some 50), .qcall 8 [(.t 48), (.t 49)], some (47, true)⟩,
          ⟨(some 51), .pick (.t 47) (.t 50) (.k (.c (.d (.bool false)))), none⟩,
          ⟨(some 2), .mv (.t 51), none⟩] [3, 5, 6, 7, 8, 43, 44, 45, 46, 47, 48, 49, 50, 51])
      (.ret))
      (.skip)))
  (.seq (.region [⟨(some 53), .load (some 4) (.t 3), none⟩,
      ⟨(some 54), .buildSlice 5 0 [(.int .i64 0), (.int .i64 0), (.int .i64 0), (.str []), (.sl [])] [], none⟩,
      ⟨(some 55), .qcall 6 [(.t 53), (.t 54)], none⟩,
      ⟨(some 52), .mv (.t 55), none⟩,
      ⟨(some 56), .extract 0 (.t 52), none⟩,
      ⟨(some 57), .extract 1 (.t 52), none⟩,
      ⟨(some 9), .alloc [(.d (.int .i64 0)), (.d (.int .i64 0)), (.d (.str [])), (.full [])], none⟩,
      ⟨none, .store 4 (.t 9) (.t 56), none⟩,
      ⟨(some 10), .mv (.t 57), none⟩] [2, 6, 7, 8, 43, 52, 53, 54, 55, 56, 57])
  (.seq (.region [⟨(some 58), .load (some 4) (.t 5), none⟩,
      ⟨(some 59), .load (some 4) (.t 3), none⟩,
      ⟨(some 60), .qcall 9 [(.t 58), (.t 59)], none⟩,
      ⟨(some 61), .mv (.t 60), none⟩,
      ⟨(some 62), .mv (.t 10), some (61, true)⟩,
      ⟨(some 63), .pick (.t 61) (.t 62) (.k (.c (.d (.bool false)))), none⟩,
      ⟨(some 64), .mv (.t 63), none⟩,
      ⟨(some 65), .load (some 4) (.t 9), some (64, true)⟩,
      ⟨(some 66), .load (some 4) (.t 3), some (64, true)⟩,
      ⟨(some 67), .qcall 8 [(.t 65), (.t 66)], some (64, true)⟩,
      ⟨(some 68), .pick (.t 64) (.t 67) (.k (.c (.d (.bool false)))), none⟩,
      ⟨(some 69), .mv (.t 68), none⟩,
      ⟨(some 70), .load (some 4) (.t 3), some (69, true)⟩,
      ⟨(some 71), .qcall 10 [(.t 70)], some (69, true)⟩,
      ⟨(some 72), .len 1 (.t 71), some (69, true)⟩,
      ⟨(some 73), .bin .gtr (.t 72) (.k (.c (.d (.int .i64 0)))), some (69, true)⟩,
      ⟨(some 74), .mv (.t 73), some (69, true)⟩,
      ⟨(some 75), .load (some 4) (.t 5), some (74, false)⟩,
      ⟨(some 76), .load (some 4) (.t 3), some (74, false)⟩,
      ⟨(some 77), .qcall 8 [(.t 75), (.t 76)], some (74, false)⟩,
      ⟨(some 78), .pick (.t 74) (.k (.c (.d (.bool true)))) (.t 77), some (69, true)⟩,
      ⟨(some 79), .pick (.t 69) (.t 78) (.k (.c (.d (.bool false)))), none⟩,
      ⟨(some 2), .mv (.t 79), none⟩] [3, 5, 9, 10, 58, 59, 60, 61, 62, 63, 64, 65, 66, 67, 68, 69, 70, 71, 72, 73, 74, 75, 76, 77, 78, 79])
  (.ret))))))))
theorem ac3_ok : cFunc Try.prog [1000006, 1000007, 1000008, 1000009, 1000010] [(0, [2], []), (1, [11, 12], []), (2, [0, 13], []), (3, [0, 2, 13, 14, 15, 16, 17, 18], []), (4, [19, 20, 21, 22, 23, 24], []), (5, [4, 25, 26, 27, 28, 29, 30], []), (6, [31, 32, 33, 34, 35, 36, 37, 38, 39, 40, 41, 42], []), (7, [3, 5, 6, 7, 8, 43, 44, 45, 46, 47, 48, 49, 50, 51], []), (8, [2, 6, 7, 8, 43, 52, 53, 54, 55, 56, 57], []), (9, [3, 5, 9, 10, 58, 59, 60, 61, 62, 63, 64, 65, 66, 67, 68, 69, 70, 71, 72, 73, 74, 75, 76, 77, 78, 79], [])] Try.f3 = some (ac3, [.tmp 2], 80) := by kernel_rfl
theorem sub_sz : ∀ t : Tm, t.sub + 1 ≤ t.size := by
  refine Tm.ind fun k n s l ih => ?_
  simp only [sub_mk, Tm.size]
  have : Tm.cnt l ≤ sizes l := by
    clear k n s
    induction l with
    | nil => simp [cnt_nil]
    | cons t l ih2 =>
      rw [cnt_cons]
      have h1 := ih t (by simp)
      have h2 := ih2 fun t ht => ih t (by simp [ht])
      simp only [sizes]
      omega
  omega
theorem abT_fits (t : Tm) (ht : t.fits) (bs : List Bd) (hbs : FitsB bs) : (abT t bs).1.fits := by
  unfold abT
  split
  · exact sub1_fits (bdTo bs) (bdTo_fits hbs.2) t ht
  · exact .mk (small_i64 (by omega) (by omega)) (small_i64 (by omega) (by omega)) (by simp) (by simp) (by simp)
theorem sub1_none : ∀ t : Tm, t.bare → t.sub1 (bdTo []) = t := by
  refine Tm.ind fun k n s l ih hb => ?_
  rw [sub1_mk]
  obtain ⟨h1, h2⟩ := hb
  by_cases hk : k = 1
  · obtain ⟨rfl, rfl⟩ := h1 hk
    subst hk
    rfl
  · rw [if_neg hk]
    congr 1
    have : ∀ ts : List Tm, (∀ t ∈ ts, t.sub1 (bdTo []) = t) → ts.map (Tm.sub1 (bdTo [])) = ts := by
      intro ts
      induction ts with
      | nil => intro _; rfl
      | cons t ts ih2 => intro h; simp [h t (by simp), ih2 (fun t ht => h t (by simp [ht]))]
    exact this l fun t ht => ih t ht (h2 t ht)
theorem vars_grow : ∀ (t : Tm) (l : List Int), l.length ≤ (t.vars l).length := by
  refine Tm.ind fun k n s kids ih l => ?_
  rw [vars_mk]
  have h1 : l.length ≤ (if k = 1 then addI l n else l).length := by
    split
    · unfold addI; split <;> simp
    · exact Nat.le_refl _
  refine Nat.le_trans h1 ?_
  generalize (if k = 1 then addI l n else l) = q
  clear h1
  induction kids generalizing q with
  | nil => rw [varsL_nil]; exact Nat.le_refl _
  | cons t ts ih2 =>
    rw [varsL_cons]
    exact Nat.le_trans (ih t (by simp) q) (ih2 (fun t ht => ih t (by simp [ht])) _)
theorem varsL_grow : ∀ (ts : List Tm) (l : List Int), l.length ≤ (varsL ts l).length
  | [], l => by rw [varsL_nil]; exact Nat.le_refl _
  | t :: ts, l => by rw [varsL_cons]; exact Nat.le_trans (vars_grow t l) (varsL_grow ts _)
theorem sub1_closed (f : Int → Tm) : ∀ t : Tm, t.vars [] = [] → t.sub1 f = t := by
  refine Tm.ind fun k n s kids ih hv => ?_
  rw [vars_mk] at hv
  rw [sub1_mk]
  by_cases hk : k = 1
  · exfalso
    rw [if_pos hk] at hv
    have := varsL_grow kids (addI [] n)
    rw [hv] at this
    simp [addI] at this
  · rw [if_neg hk] at hv ⊢
    congr 1
    have hall : ∀ ts : List Tm, (∀ t ∈ ts, t.vars [] = [] → t.sub1 f = t) → varsL ts [] = [] → ts.map (Tm.sub1 f) = ts := by
      intro ts
      induction ts with
      | nil => intro _ _; rfl
      | cons t ts ih2 =>
        intro h1 h2
        rw [varsL_cons] at h2
        have h3 : t.vars [] = [] := by
          have := varsL_grow ts (t.vars [])
          rw [h2] at this
          exact List.eq_nil_of_length_eq_zero (by simpa using this)
        rw [h3] at h2
        simp [h1 t (by simp) h3, ih2 (fun t ht => h1 t (by simp [ht])) h2]
    exact hall kids ih hv
theorem termVars_calls (t : Tm) (ht : t.fits) (hv : t.valid = true) (H : Heap) : ACalls Try.prog 10 [.agg (t.row.map .d)] H (fun r H' => H' = H ∧ r = .c (.d (.sl (intRows (t.vars []))))) := by
  have hsz : t.sub ≤ 3000000 := by
    have h1 := sub_sz t
    have h2 : t.size ≤ 120 := by simp [Tm.valid] at hv; exact hv.2
    omega
  refine acalls Try.func10 (by kernel_rfl) ac10_ok fun hf => ?_
  simp -implicitDefEqProofs [ac10, row_len, take_row, pure_d, re_d, aw_skip, aw_region, aw_seq, aw_block, aw_cond, aw_exit, aw_ret, kq_nil, kq_seq, kq_seq_ret, kq_seq_exit, kq_block, kq_block_ret, kq_block_exit, kq_loop, kq_loop_ret, kq_loop_exit, awOps_nil, awOps_cons, awOps_guardE, nx_eq, awOp, ev_k, ev_0, ev_1, ev_2, ev_3, ev_4, ev_5, ev_6, ev_7, ev_8, set_0, set_1, set_2, set_3, set_4, set_5, set_6, set_7, set_8, -List.set_cons_succ, -List.set_cons_zero, A.ok, A.val, setSl, wrapG, guardB, getB, pickA, binA, binC, binD, cmpD, isCmp, unA, unD, lenA, AOp.total, kills, litB, FinQ, resOks, resOk, resA, resList, resOne, A.thaw, C.thaw, A.fits, As.fits, C.fits, evs, oks, callArgs, A.pure, C.pure, A.re, C.re, fieldAddrA, loadC, cut, A.cells, C.rows?, getOb, newOb, setOb, storeC, splice, Ob.re, Cs.fits, partsA, partsOk, parts2A, parts2Ok, fillC, fillRows, optInt, optOk, sliceA, clipC, optK_some, storeK_some, Option.map_some, toDs, C.toD, spliceD, appendA, capsOf, srcRows, allLen_nil_iff, allLen_cons_iff, allLen_append_iff, dropC, Obs.fits, eqCs, eqD, mapRow, mapPut, mapVal, mapOne, mapCells]
  refine qcall_pure (tvImpl_calls t ht) hf rfl ?_
  simp -implicitDefEqProofs [hv, row_len, take_row, pure_d, re_d, aw_skip, aw_region, aw_seq, aw_block, aw_cond, aw_exit, aw_ret, kq_nil, kq_seq, kq_seq_ret, kq_seq_exit, kq_block, kq_block_ret, kq_block_exit, kq_loop, kq_loop_ret, kq_loop_exit, awOps_nil, awOps_cons, awOps_guardE, nx_eq, awOp, ev_k, ev_0, ev_1, ev_2, ev_3, ev_4, ev_5, ev_6, ev_7, ev_8, set_0, set_1, set_2, set_3, set_4, set_5, set_6, set_7, set_8, -List.set_cons_succ, -List.set_cons_zero, A.ok, A.val, setSl, wrapG, guardB, getB, pickA, binA, binC, binD, cmpD, isCmp, unA, unD, lenA, AOp.total, kills, litB, FinQ, resOks, resOk, resA, resList, resOne, A.thaw, C.thaw, A.fits, As.fits, C.fits, evs, oks, callArgs, A.pure, C.pure, A.re, C.re, fieldAddrA, loadC, cut, A.cells, C.rows?, getOb, newOb, setOb, storeC, splice, Ob.re, Cs.fits, partsA, partsOk, parts2A, parts2Ok, fillC, fillRows, optInt, optOk, sliceA, clipC, optK_some, storeK_some, Option.map_some, toDs, C.toD, spliceD, appendA, capsOf, srcRows, allLen_nil_iff, allLen_cons_iff, allLen_append_iff, dropC, Obs.fits, eqCs, eqD, mapRow, mapPut, mapVal, mapOne, mapCells]
  have h := addVars_calls t ht [] (H ++ [Ob.cells (t.row.map C.d)] ++ [.grow 0 1]) (H.length + 1) (by simp) (by simpa using hsz)
  have hset : ∀ m : Nat, (H ++ [Ob.cells (t.row.map C.d)] ++ [Ob.grow 0 1]).set (H.length + 1) (.grow m 1) = H ++ [Ob.cells (t.row.map C.d), Ob.grow m 1] := fun m => by
    rw [List.append_assoc, List.set_append_right _ _ (by omega)]
    simp
  rw [hset] at h
  have h2 := acalls_token (f := 38) (pre := [.agg (t.row.map .d)]) (sz := 1) (H := H ++ [Ob.cells (t.row.map C.d)]) (Q := fun r H' => H' = H ++ [Ob.cells (t.row.map C.d), Ob.grow (t.vars []).length 1] ∧ r = .c (.own (.e (H.length + 1)) (t.vars []).length (intRows (t.vars [])))) (by simpa [intRows] using h)
  refine h2.mono fun r H' ⟨h3, h4⟩ => ⟨H, [Ob.cells (t.row.map C.d), Ob.grow (t.vars []).length 1], .c (.own (.l 1) (t.vars []).length (intRows (t.vars []))), by rw [h3]; simp [Ob.re, re_d], rfl, by simp, hf, by rw [h4]; simp [A.re, C.re, Ref.re], ?_⟩
  simp -implicitDefEqProofs [aw_skip, aw_region, aw_seq, aw_block, aw_cond, aw_exit, aw_ret, kq_nil, kq_seq, kq_seq_ret, kq_seq_exit, kq_block, kq_block_ret, kq_block_exit, kq_loop, kq_loop_ret, kq_loop_exit, awOps_nil, awOps_cons, awOps_guardE, nx_eq, awOp, ev_k, ev_0, ev_1, ev_2, ev_3, ev_4, ev_5, ev_6, ev_7, ev_8, set_0, set_1, set_2, set_3, set_4, set_5, set_6, set_7, set_8, -List.set_cons_succ, -List.set_cons_zero, A.ok, A.val, setSl, wrapG, guardB, getB, pickA, binA, binC, binD, cmpD, isCmp, unA, unD, lenA, AOp.total, kills, litB, FinQ, resOks, resOk, resA, resList, resOne, A.thaw, C.thaw, A.fits, As.fits, C.fits, evs, oks, callArgs, A.pure, C.pure, A.re, C.re, fieldAddrA, loadC, cut, A.cells, C.rows?, getOb, newOb, setOb, storeC, splice, Ob.re, Cs.fits, partsA, partsOk, parts2A, parts2Ok, fillC, fillRows, optInt, optOk, sliceA, clipC, optK_some, storeK_some, Option.map_some, toDs, C.toD, spliceD, appendA, capsOf, srcRows, allLen_nil_iff, allLen_cons_iff, allLen_append_iff, dropC, Obs.fits, eqCs, eqD, mapRow, mapPut, mapVal, mapOne, mapCells]
theorem abLaw_calls (b : List UInt8) (hb : b.length ≤ reachBytes) : ACalls Try.prog 3 [.c (.d (.sl (bytesRows b)))] [] (fun r _ => r = .c (.d (.bool true))) := by
  refine acalls Try.func3 (by kernel_rfl) ac3_ok fun hf => ?_
  have hlen := reach_i64 hb
  simp -implicitDefEqProofs [ac3, hlen, bytesRows_len, aw_skip, aw_region, aw_seq, aw_block, aw_cond, aw_exit, aw_ret, kq_nil, kq_seq, kq_seq_ret, kq_seq_exit, kq_block, kq_block_ret, kq_block_exit, kq_loop, kq_loop_ret, kq_loop_exit, awOps_nil, awOps_cons, awOps_guardE, nx_eq, awOp, ev_k, ev_0, ev_1, ev_2, ev_3, ev_4, ev_5, ev_6, ev_7, ev_8, set_0, set_1, set_2, set_3, set_4, set_5, set_6, set_7, set_8, -List.set_cons_succ, -List.set_cons_zero, A.ok, A.val, setSl, wrapG, guardB, getB, pickA, binA, binC, binD, cmpD, isCmp, unA, unD, lenA, AOp.total, kills, litB, FinQ, resOks, resOk, resA, resList, resOne, A.thaw, C.thaw, A.fits, As.fits, C.fits, evs, oks, callArgs, A.pure, C.pure, A.re, C.re, fieldAddrA, loadC, cut, A.cells, C.rows?, getOb, newOb, setOb, storeC, splice, Ob.re, Cs.fits, partsA, partsOk, parts2A, parts2Ok, fillC, fillRows, optInt, optOk, sliceA, clipC, optK_some, storeK_some, Option.map_some, toDs, C.toD, spliceD, appendA, capsOf, srcRows, allLen_nil_iff, allLen_cons_iff, allLen_append_iff, dropC, Obs.fits, eqCs, eqD, mapRow, mapPut, mapVal, mapOne, mapCells]
  intro hle
  have hle : b.length ≤ 1048576 := by omega
  refine call_some (drawAb_calls b hle _) (by simp) (fun r => TmBs.re) hf ?_
  rintro _ ⟨t, bs, rfl, ht, hbl, hbf⟩
  have hbs : FitsB bs := ⟨by omega, hbf⟩
  simp -implicitDefEqProofs [row_len, take_row, pure_d, re_d, hf, aw_skip, aw_region, aw_seq, aw_block, aw_cond, aw_exit, aw_ret, kq_nil, kq_seq, kq_seq_ret, kq_seq_exit, kq_block, kq_block_ret, kq_block_exit, kq_loop, kq_loop_ret, kq_loop_exit, awOps_nil, awOps_cons, awOps_guardE, nx_eq, awOp, ev_k, ev_0, ev_1, ev_2, ev_3, ev_4, ev_5, ev_6, ev_7, ev_8, set_0, set_1, set_2, set_3, set_4, set_5, set_6, set_7, set_8, -List.set_cons_succ, -List.set_cons_zero, A.ok, A.val, setSl, wrapG, guardB, getB, pickA, binA, binC, binD, cmpD, isCmp, unA, unD, lenA, AOp.total, kills, litB, FinQ, resOks, resOk, resA, resList, resOne, A.thaw, C.thaw, A.fits, As.fits, C.fits, evs, oks, callArgs, A.pure, C.pure, A.re, C.re, fieldAddrA, loadC, cut, A.cells, C.rows?, getOb, newOb, setOb, storeC, splice, Ob.re, Cs.fits, partsA, partsOk, parts2A, parts2Ok, fillC, fillRows, optInt, optOk, sliceA, clipC, optK_some, storeK_some, Option.map_some, toDs, C.toD, spliceD, appendA, capsOf, srcRows, allLen_nil_iff, allLen_cons_iff, allLen_append_iff, dropC, Obs.fits, eqCs, eqD, mapRow, mapPut, mapVal, mapOne, mapCells]
  refine qcall_pure (abImpl_calls t ht bs hbs) hf (by simp [A.re, A.res, C.re, re_d]) ?_
  simp -implicitDefEqProofs [row_len, take_row, pure_d, re_d, hf, aw_skip, aw_region, aw_seq, aw_block, aw_cond, aw_exit, aw_ret, kq_nil, kq_seq, kq_seq_ret, kq_seq_exit, kq_block, kq_block_ret, kq_block_exit, kq_loop, kq_loop_ret, kq_loop_exit, awOps_nil, awOps_cons, awOps_guardE, nx_eq, awOp, ev_k, ev_0, ev_1, ev_2, ev_3, ev_4, ev_5, ev_6, ev_7, ev_8, set_0, set_1, set_2, set_3, set_4, set_5, set_6, set_7, set_8, -List.set_cons_succ, -List.set_cons_zero, A.ok, A.val, setSl, wrapG, guardB, getB, pickA, binA, binC, binD, cmpD, isCmp, unA, unD, lenA, AOp.total, kills, litB, FinQ, resOks, resOk, resA, resList, resOne, A.thaw, C.thaw, A.fits, As.fits, C.fits, evs, oks, callArgs, A.pure, C.pure, A.re, C.re, fieldAddrA, loadC, cut, A.cells, C.rows?, getOb, newOb, setOb, storeC, splice, Ob.re, Cs.fits, partsA, partsOk, parts2A, parts2Ok, fillC, fillRows, optInt, optOk, sliceA, clipC, optK_some, storeK_some, Option.map_some, toDs, C.toD, spliceD, appendA, capsOf, srcRows, allLen_nil_iff, allLen_cons_iff, allLen_append_iff, dropC, Obs.fits, eqCs, eqD, mapRow, mapPut, mapVal, mapOne, mapCells]
  refine qcall_pure (abSpec_calls t ht bs hbs) hf (by simp [A.re, A.res, C.re, re_d]) ?_
  have hxf := abT_fits t ht bs hbs
  have hok : (abT t bs).2 = true → t.valid = true ∧ (abT t bs).1 = t.sub1 (bdTo bs) ∧ (t.sub1 (bdTo bs)).valid = true := fun h => by
    unfold abT at h ⊢
    split at h
    · rename_i hc
      simp only [Bool.and_eq_true] at hc
      rw [if_pos (by simpa using hc)]
      exact ⟨hc.1.1, rfl, hc.2⟩
    · cases h
  generalize abT t bs = y at hxf hok ⊢
  obtain ⟨x, ok⟩ := y
  simp only at hxf hok ⊢
  simp -implicitDefEqProofs [row_len, take_row, pure_d, re_d, hf, aw_skip, aw_region, aw_seq, aw_block, aw_cond, aw_exit, aw_ret, kq_nil, kq_seq, kq_seq_ret, kq_seq_exit, kq_block, kq_block_ret, kq_block_exit, kq_loop, kq_loop_ret, kq_loop_exit, awOps_nil, awOps_cons, awOps_guardE, nx_eq, awOp, ev_k, ev_0, ev_1, ev_2, ev_3, ev_4, ev_5, ev_6, ev_7, ev_8, set_0, set_1, set_2, set_3, set_4, set_5, set_6, set_7, set_8, -List.set_cons_succ, -List.set_cons_zero, A.ok, A.val, setSl, wrapG, guardB, getB, pickA, binA, binC, binD, cmpD, isCmp, unA, unD, lenA, AOp.total, kills, litB, FinQ, resOks, resOk, resA, resList, resOne, A.thaw, C.thaw, A.fits, As.fits, C.fits, evs, oks, callArgs, A.pure, C.pure, A.re, C.re, fieldAddrA, loadC, cut, A.cells, C.rows?, getOb, newOb, setOb, storeC, splice, Ob.re, Cs.fits, partsA, partsOk, parts2A, parts2Ok, fillC, fillRows, optInt, optOk, sliceA, clipC, optK_some, storeK_some, Option.map_some, toDs, C.toD, spliceD, appendA, capsOf, srcRows, allLen_nil_iff, allLen_cons_iff, allLen_append_iff, dropC, Obs.fits, eqCs, eqD, mapRow, mapPut, mapVal, mapOne, mapCells]
  refine qcall_pure (sameImpl_calls x hxf x hxf) hf rfl ?_
  cases ok with
  | false =>
    simp -implicitDefEqProofs [row_len, take_row, pure_d, re_d, hf, aw_skip, aw_region, aw_seq, aw_block, aw_cond, aw_exit, aw_ret, kq_nil, kq_seq, kq_seq_ret, kq_seq_exit, kq_block, kq_block_ret, kq_block_exit, kq_loop, kq_loop_ret, kq_loop_exit, awOps_nil, awOps_cons, awOps_guardE, nx_eq, awOp, ev_k, ev_0, ev_1, ev_2, ev_3, ev_4, ev_5, ev_6, ev_7, ev_8, set_0, set_1, set_2, set_3, set_4, set_5, set_6, set_7, set_8, -List.set_cons_succ, -List.set_cons_zero, A.ok, A.val, setSl, wrapG, guardB, getB, pickA, binA, binC, binD, cmpD, isCmp, unA, unD, lenA, AOp.total, kills, litB, FinQ, resOks, resOk, resA, resList, resOne, A.thaw, C.thaw, A.fits, As.fits, C.fits, evs, oks, callArgs, A.pure, C.pure, A.re, C.re, fieldAddrA, loadC, cut, A.cells, C.rows?, getOb, newOb, setOb, storeC, splice, Ob.re, Cs.fits, partsA, partsOk, parts2A, parts2Ok, fillC, fillRows, optInt, optOk, sliceA, clipC, optK_some, storeK_some, Option.map_some, toDs, C.toD, spliceD, appendA, capsOf, srcRows, allLen_nil_iff, allLen_cons_iff, allLen_append_iff, dropC, Obs.fits, eqCs, eqD, mapRow, mapPut, mapVal, mapOne, mapCells]
    refine qcall_pure (sameImpl_calls x hxf x hxf) hf rfl ?_
    simp -implicitDefEqProofs [aw_skip, aw_region, aw_seq, aw_block, aw_cond, aw_exit, aw_ret, kq_nil, kq_seq, kq_seq_ret, kq_seq_exit, kq_block, kq_block_ret, kq_block_exit, kq_loop, kq_loop_ret, kq_loop_exit, awOps_nil, awOps_cons, awOps_guardE, nx_eq, awOp, ev_k, ev_0, ev_1, ev_2, ev_3, ev_4, ev_5, ev_6, ev_7, ev_8, set_0, set_1, set_2, set_3, set_4, set_5, set_6, set_7, set_8, -List.set_cons_succ, -List.set_cons_zero, A.ok, A.val, setSl, wrapG, guardB, getB, pickA, binA, binC, binD, cmpD, isCmp, unA, unD, lenA, AOp.total, kills, litB, FinQ, resOks, resOk, resA, resList, resOne, A.thaw, C.thaw, A.fits, As.fits, C.fits, evs, oks, callArgs, A.pure, C.pure, A.re, C.re, fieldAddrA, loadC, cut, A.cells, C.rows?, getOb, newOb, setOb, storeC, splice, Ob.re, Cs.fits, partsA, partsOk, parts2A, parts2Ok, fillC, fillRows, optInt, optOk, sliceA, clipC, optK_some, storeK_some, Option.map_some, toDs, C.toD, spliceD, appendA, capsOf, srcRows, allLen_nil_iff, allLen_cons_iff, allLen_append_iff, dropC, Obs.fits, eqCs, eqD, mapRow, mapPut, mapVal, mapOne, mapCells]
  | true =>
    obtain ⟨hv, rfl, hxv⟩ := hok rfl
    have hff : ∀ n, inR .i64 n → (bdTo bs n).fits := fun n hn => bdTo_fits hbs.2 n hn
    have h0 := abImpl_calls t ht [] ⟨by simp, fun b h => by cases h⟩
    have e0 : abT t [] = (t, true) := by simp [abT, hv, sub1_none t (valid_bare hv)]
    rw [e0] at h0
    simp only [List.map_nil] at h0
    simp -implicitDefEqProofs [row_len, take_row, pure_d, re_d, hf, aw_skip, aw_region, aw_seq, aw_block, aw_cond, aw_exit, aw_ret, kq_nil, kq_seq, kq_seq_ret, kq_seq_exit, kq_block, kq_block_ret, kq_block_exit, kq_loop, kq_loop_ret, kq_loop_exit, awOps_nil, awOps_cons, awOps_guardE, nx_eq, awOp, ev_k, ev_0, ev_1, ev_2, ev_3, ev_4, ev_5, ev_6, ev_7, ev_8, set_0, set_1, set_2, set_3, set_4, set_5, set_6, set_7, set_8, -List.set_cons_succ, -List.set_cons_zero, A.ok, A.val, setSl, wrapG, guardB, getB, pickA, binA, binC, binD, cmpD, isCmp, unA, unD, lenA, AOp.total, kills, litB, FinQ, resOks, resOk, resA, resList, resOne, A.thaw, C.thaw, A.fits, As.fits, C.fits, evs, oks, callArgs, A.pure, C.pure, A.re, C.re, fieldAddrA, loadC, cut, A.cells, C.rows?, getOb, newOb, setOb, storeC, splice, Ob.re, Cs.fits, partsA, partsOk, parts2A, parts2Ok, fillC, fillRows, optInt, optOk, sliceA, clipC, optK_some, storeK_some, Option.map_some, toDs, C.toD, spliceD, appendA, capsOf, srcRows, allLen_nil_iff, allLen_cons_iff, allLen_append_iff, dropC, Obs.fits, eqCs, eqD, mapRow, mapPut, mapVal, mapOne, mapCells]
    refine qcall_pure h0 hf (by simp [A.re, A.res, C.re, re_d]) ?_
    simp -implicitDefEqProofs [row_len, take_row, pure_d, re_d, hf, aw_skip, aw_region, aw_seq, aw_block, aw_cond, aw_exit, aw_ret, kq_nil, kq_seq, kq_seq_ret, kq_seq_exit, kq_block, kq_block_ret, kq_block_exit, kq_loop, kq_loop_ret, kq_loop_exit, awOps_nil, awOps_cons, awOps_guardE, nx_eq, awOp, ev_k, ev_0, ev_1, ev_2, ev_3, ev_4, ev_5, ev_6, ev_7, ev_8, set_0, set_1, set_2, set_3, set_4, set_5, set_6, set_7, set_8, -List.set_cons_succ, -List.set_cons_zero, A.ok, A.val, setSl, wrapG, guardB, getB, pickA, binA, binC, binD, cmpD, isCmp, unA, unD, lenA, AOp.total, kills, litB, FinQ, resOks, resOk, resA, resList, resOne, A.thaw, C.thaw, A.fits, As.fits, C.fits, evs, oks, callArgs, A.pure, C.pure, A.re, C.re, fieldAddrA, loadC, cut, A.cells, C.rows?, getOb, newOb, setOb, storeC, splice, Ob.re, Cs.fits, partsA, partsOk, parts2A, parts2Ok, fillC, fillRows, optInt, optOk, sliceA, clipC, optK_some, storeK_some, Option.map_some, toDs, C.toD, spliceD, appendA, capsOf, srcRows, allLen_nil_iff, allLen_cons_iff, allLen_append_iff, dropC, Obs.fits, eqCs, eqD, mapRow, mapPut, mapVal, mapOne, mapCells]
    refine qcall_pure (instOf_calls (bdTo bs) hff t ht hv hxv) hf rfl ?_
    simp -implicitDefEqProofs [row_len, take_row, pure_d, re_d, hf, aw_skip, aw_region, aw_seq, aw_block, aw_cond, aw_exit, aw_ret, kq_nil, kq_seq, kq_seq_ret, kq_seq_exit, kq_block, kq_block_ret, kq_block_exit, kq_loop, kq_loop_ret, kq_loop_exit, awOps_nil, awOps_cons, awOps_guardE, nx_eq, awOp, ev_k, ev_0, ev_1, ev_2, ev_3, ev_4, ev_5, ev_6, ev_7, ev_8, set_0, set_1, set_2, set_3, set_4, set_5, set_6, set_7, set_8, -List.set_cons_succ, -List.set_cons_zero, A.ok, A.val, setSl, wrapG, guardB, getB, pickA, binA, binC, binD, cmpD, isCmp, unA, unD, lenA, AOp.total, kills, litB, FinQ, resOks, resOk, resA, resList, resOne, A.thaw, C.thaw, A.fits, As.fits, C.fits, evs, oks, callArgs, A.pure, C.pure, A.re, C.re, fieldAddrA, loadC, cut, A.cells, C.rows?, getOb, newOb, setOb, storeC, splice, Ob.re, Cs.fits, partsA, partsOk, parts2A, parts2Ok, fillC, fillRows, optInt, optOk, sliceA, clipC, optK_some, storeK_some, Option.map_some, toDs, C.toD, spliceD, appendA, capsOf, srcRows, allLen_nil_iff, allLen_cons_iff, allLen_append_iff, dropC, Obs.fits, eqCs, eqD, mapRow, mapPut, mapVal, mapOne, mapCells]
    refine qcall_pure (sameImpl_calls t ht t ht) hf rfl ?_
    simp -implicitDefEqProofs [row_len, take_row, pure_d, re_d, hf, aw_skip, aw_region, aw_seq, aw_block, aw_cond, aw_exit, aw_ret, kq_nil, kq_seq, kq_seq_ret, kq_seq_exit, kq_block, kq_block_ret, kq_block_exit, kq_loop, kq_loop_ret, kq_loop_exit, awOps_nil, awOps_cons, awOps_guardE, nx_eq, awOp, ev_k, ev_0, ev_1, ev_2, ev_3, ev_4, ev_5, ev_6, ev_7, ev_8, set_0, set_1, set_2, set_3, set_4, set_5, set_6, set_7, set_8, -List.set_cons_succ, -List.set_cons_zero, A.ok, A.val, setSl, wrapG, guardB, getB, pickA, binA, binC, binD, cmpD, isCmp, unA, unD, lenA, AOp.total, kills, litB, FinQ, resOks, resOk, resA, resList, resOne, A.thaw, C.thaw, A.fits, As.fits, C.fits, evs, oks, callArgs, A.pure, C.pure, A.re, C.re, fieldAddrA, loadC, cut, A.cells, C.rows?, getOb, newOb, setOb, storeC, splice, Ob.re, Cs.fits, partsA, partsOk, parts2A, parts2Ok, fillC, fillRows, optInt, optOk, sliceA, clipC, optK_some, storeK_some, Option.map_some, toDs, C.toD, spliceD, appendA, capsOf, srcRows, allLen_nil_iff, allLen_cons_iff, allLen_append_iff, dropC, Obs.fits, eqCs, eqD, mapRow, mapPut, mapVal, mapOne, mapCells]
    refine qcall_pure (termVars_calls t ht hv) hf rfl ?_
    have hvl : inR .i64 ((t.vars []).length : Int) := by
      have h1 := vars_len t []
      have h2 := sub_sz t
      have h3 : t.size ≤ 120 := by simp [Tm.valid] at hv; exact hv.2
      simp at h1
      exact small_i64 (by omega) (by omega)
    have hcl := sub1_closed (bdTo bs) t
    cases hvs : t.vars [] with
    | nil =>
      rw [hvs] at hvl
      simp at hvl
      rw [hcl hvs]
      simp -implicitDefEqProofs [row_len, take_row, pure_d, re_d, hf, intRows, hvl, aw_skip, aw_region, aw_seq, aw_block, aw_cond, aw_exit, aw_ret, kq_nil, kq_seq, kq_seq_ret, kq_seq_exit, kq_block, kq_block_ret, kq_block_exit, kq_loop, kq_loop_ret, kq_loop_exit, awOps_nil, awOps_cons, awOps_guardE, nx_eq, awOp, ev_k, ev_0, ev_1, ev_2, ev_3, ev_4, ev_5, ev_6, ev_7, ev_8, set_0, set_1, set_2, set_3, set_4, set_5, set_6, set_7, set_8, -List.set_cons_succ, -List.set_cons_zero, A.ok, A.val, setSl, wrapG, guardB, getB, pickA, binA, binC, binD, cmpD, isCmp, unA, unD, lenA, AOp.total, kills, litB, FinQ, resOks, resOk, resA, resList, resOne, A.thaw, C.thaw, A.fits, As.fits, C.fits, evs, oks, callArgs, A.pure, C.pure, A.re, C.re, fieldAddrA, loadC, cut, A.cells, C.rows?, getOb, newOb, setOb, storeC, splice, Ob.re, Cs.fits, partsA, partsOk, parts2A, parts2Ok, fillC, fillRows, optInt, optOk, sliceA, clipC, optK_some, storeK_some, Option.map_some, toDs, C.toD, spliceD, appendA, capsOf, srcRows, allLen_nil_iff, allLen_cons_iff, allLen_append_iff, dropC, Obs.fits, eqCs, eqD, mapRow, mapPut, mapVal, mapOne, mapCells]
      refine qcall_pure (sameImpl_calls t ht t ht) hf rfl ?_
      simp -implicitDefEqProofs [aw_skip, aw_region, aw_seq, aw_block, aw_cond, aw_exit, aw_ret, kq_nil, kq_seq, kq_seq_ret, kq_seq_exit, kq_block, kq_block_ret, kq_block_exit, kq_loop, kq_loop_ret, kq_loop_exit, awOps_nil, awOps_cons, awOps_guardE, nx_eq, awOp, ev_k, ev_0, ev_1, ev_2, ev_3, ev_4, ev_5, ev_6, ev_7, ev_8, set_0, set_1, set_2, set_3, set_4, set_5, set_6, set_7, set_8, -List.set_cons_succ, -List.set_cons_zero, A.ok, A.val, setSl, wrapG, guardB, getB, pickA, binA, binC, binD, cmpD, isCmp, unA, unD, lenA, AOp.total, kills, litB, FinQ, resOks, resOk, resA, resList, resOne, A.thaw, C.thaw, A.fits, As.fits, C.fits, evs, oks, callArgs, A.pure, C.pure, A.re, C.re, fieldAddrA, loadC, cut, A.cells, C.rows?, getOb, newOb, setOb, storeC, splice, Ob.re, Cs.fits, partsA, partsOk, parts2A, parts2Ok, fillC, fillRows, optInt, optOk, sliceA, clipC, optK_some, storeK_some, Option.map_some, toDs, C.toD, spliceD, appendA, capsOf, srcRows, allLen_nil_iff, allLen_cons_iff, allLen_append_iff, dropC, Obs.fits, eqCs, eqD, mapRow, mapPut, mapVal, mapOne, mapCells]
    | cons a l =>
      rw [hvs] at hvl
      simp at hvl
      have hpos : 0 < (l.length : Int) + 1 := by omega
      simp -implicitDefEqProofs [row_len, take_row, pure_d, re_d, hf, intRows, hvl, hpos, aw_skip, aw_region, aw_seq, aw_block, aw_cond, aw_exit, aw_ret, kq_nil, kq_seq, kq_seq_ret, kq_seq_exit, kq_block, kq_block_ret, kq_block_exit, kq_loop, kq_loop_ret, kq_loop_exit, awOps_nil, awOps_cons, awOps_guardE, nx_eq, awOp, ev_k, ev_0, ev_1, ev_2, ev_3, ev_4, ev_5, ev_6, ev_7, ev_8, set_0, set_1, set_2, set_3, set_4, set_5, set_6, set_7, set_8, -List.set_cons_succ, -List.set_cons_zero, A.ok, A.val, setSl, wrapG, guardB, getB, pickA, binA, binC, binD, cmpD, isCmp, unA, unD, lenA, AOp.total, kills, litB, FinQ, resOks, resOk, resA, resList, resOne, A.thaw, C.thaw, A.fits, As.fits, C.fits, evs, oks, callArgs, A.pure, C.pure, A.re, C.re, fieldAddrA, loadC, cut, A.cells, C.rows?, getOb, newOb, setOb, storeC, splice, Ob.re, Cs.fits, partsA, partsOk, parts2A, parts2Ok, fillC, fillRows, optInt, optOk, sliceA, clipC, optK_some, storeK_some, Option.map_some, toDs, C.toD, spliceD, appendA, capsOf, srcRows, allLen_nil_iff, allLen_cons_iff, allLen_append_iff, dropC, Obs.fits, eqCs, eqD, mapRow, mapPut, mapVal, mapOne, mapCells]
theorem law_run3 (rows : List (List D)) (hr : HasTys Try.prog (#[22] : Array TypeId).toList rows) : ACalls Try.prog 3 (argsA Try.prog (#[22] : Array TypeId).toList rows) [] (fun r _ => r = .c (.d (.bool true))) := by
  obtain ⟨r, rs, rfl, h1, h2⟩ := hr.cons
  obtain rfl := h2.nil
  obtain ⟨s, rfl, hs⟩ := bytes_ty h1
  simp only [argsA, argA, Try.underlying22, List.headD_cons]
  exact abLaw_calls s hs
namespace fnApplyBinds
theorem own : ownKnob Try.prog.godebug = none := by kernel_rfl
theorem contract (H : Type) (enc : TypeId × Value → H) (W : World) (base : Nat) (args : Array Value) (ds gs : List (DataW H)) (before : List MemPlace)
    (hval : ∀ (j : Nat) t v, Try.f3.params[j]? = some t → args[j]? = some v → Value.okWide Try.prog W .any base t v)
    (hW : DataW.Whole enc Try.prog Try.f3.params.toList Rows.fnApplyBindsSpec.vars false W args.toList ds gs before)
    (hw : (DataW.weightsEach Try.prog (Try.f3.params.toList ++ Rows.fnApplyBindsSpec.plain.varTypes Try.prog) (ds ++ gs)).all (· ≤ reachBytes) = true) :
    Calls Try.prog 3 args W fun e W' => ∃ v, e = .returned v ∧ Rows.fnApplyBindsSpec.post enc Try.prog Try.f3 false true false false W args v W' := by
  refine law_contract (L := [5, 22]) (tb := 4) (by kernel_rfl) (by kernel_rfl) (by kernel_rfl) rfl ?_ (by kernel_rfl) Try.underlying4 ?_ W base args ds gs before hval hW hw
  · intro ds hl
    match ds, hl with
    | [d0], _ => rfl
  · intro rows hr
    rw [Try.params3] at hr ⊢
    exact law_run3 rows hr

theorem lifted (os : Os) (started : os.Started) (H : Type) (enc : TypeId × Value → H) :
    ReturnsInHanded {} Try.checked os 3 .any (Rows.fnApplyBindsSpec.pre6 enc Try.prog Try.f3 Rows.fnApplyBindsRow.domain false) (Rows.fnApplyBindsSpec.post enc Try.prog Try.f3 false true false false) := by
  refine returnsInHanded_of_change_sized (C := Try.checked) own started (by kernel_rfl) Try.func3
    (ChangeSpec.witness6 (enc := enc) (C := Try.checked) false ⟨#[], #[.slice none 0 0], []⟩ 8 (by kernel_rfl) (by kernel_rfl) (by kernel_rfl) (by kernel_rfl)) ?_
  intro W base args ds gs before hval hW _ hw _
  exact contract H enc W base args ds gs before hval hW hw

theorem proved : Rows.FnApplyBindsSaid :=
  OpenClaim.holds_of_wide 3 Try.f3 rfl rfl rfl rfl rfl rfl rfl ⟨rfl, rfl, rfl, rfl, rfl⟩ rfl rfl rfl rfl rfl (by kernel_rfl) Try.func3 (by kernel_rfl)
    (of_decide_eq_true (by kernel_rfl)) (by unfold Func.isWrapper; first | (rw [if_pos (by decide +kernel)]; kernel_rfl) | (rw [if_neg (by decide +kernel)]; exact ⟨rfl, rfl⟩))
    (fun os started H enc _ => lifted os started H enc)
end fnApplyBinds

end Go.Proofs.Ytddahocmlbnlfaa
