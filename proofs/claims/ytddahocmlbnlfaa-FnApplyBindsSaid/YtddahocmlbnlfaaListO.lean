/-
  The program's copies of terms stand in arrays of their own.
  Conditions: none.
-/
import Derived.Test.YtddahocmlbnlfaaTermO
import Derived.Test.YtddahocmlbnlfaaListsA
open Go Go.AM Go.Proofs
namespace Go.Proofs.Ytddahocmlbnlfaa
open Go.ChangeShapes Go.WideShapes Go.ChangeAt Go.RowKit
set_option linter.unusedVariables false
set_option linter.unusedSimpArgs false
set_option maxRecDepth 100000
namespace Own
-- 55 loop.example/prologserver/impl.ownList params 1 ntmps 19
-- loop head live: [3, 6, 7, 8]
def ac55 : Cd := .seq (.region [⟨(some 2), .mv (.k (.c (.full []))), none⟩] [2])
  (.seq (.region [⟨(some 3), .mv (.k (.c (.full []))), none⟩] [])
  (.seq (.seq (.region [⟨(some 6), .mv (.t 0), none⟩,
        ⟨(some 7), .len 1 (.t 6), none⟩,
        ⟨(some 8), .mv (.k (.c (.d (.int .i64 0)))), none⟩] [0])
    (.block 0 (.loop (.seq (.region [⟨(some 9), .bin .lss (.t 8) (.t 7), none⟩] [])
        (.seq (.cond (.t 9)
            (.skip)
            (.exit 0))
        (.seq (.block 1 (.seq (.region [⟨(some 10), .indexAddr 4 (.t 6) (.t 8), none⟩,
                ⟨(some 11), .load (some 4) (.t 10), none⟩,
                ⟨(some 5), .alloc [(.d (.int .i64 0)), (.d (.int .i64 0)), (.d (.str [])), (.full [])], none⟩,
                ⟨none, .store 4 (.t 5) (.t 11), none⟩] [9, 10, 11])
            (.region [⟨(some 12), .mv (.t 3), none⟩,
              ⟨(some 13), .load (some 4) (.t 5), none⟩,
              ⟨(some 14), .call false 28 [(.t 13)], none⟩,
              ⟨(some 15), .buildSlice 4 1 [(.int .i64 0), (.int .i64 0), (.str []), (.sl [])] [(0, (.t 14))], none⟩,
              ⟨(some 16), .append false 4 (.t 12) (.t 15), none⟩,
              ⟨(some 3), .mv (.t 16), none⟩] [5, 12, 13, 14, 15, 16])))
        (.region [⟨(some 17), .bin .add (.t 8) (.k (.c (.d (.int .i64 1)))), none⟩,
          ⟨(some 8), .mv (.t 17), none⟩] [17])))))))
  (.seq (.region [⟨(some 18), .mv (.t 3), none⟩,
      ⟨(some 2), .mv (.t 18), none⟩] [3, 18])
  (.ret))))
theorem ac55_ok : cFunc Try.prog [] [(0, [2], []), (1, [], []), (2, [0], []), (3, [], []), (4, [9, 10, 11], []), (5, [5, 12, 13, 14, 15, 16], []), (6, [17], []), (7, [3, 18], [])] Try.f55 = some (ac55, [.tmp 2], 19) := by kernel_rfl
-- 28 loop.example/prologserver/impl.own params 1 ntmps 8
def ac28 : Cd := .seq (.region [⟨(some 1), .box (.t 0), none⟩,
      ⟨(some 2), .alloc [(.d (.int .i64 0)), (.d (.int .i64 0)), (.d (.str [])), (.full [])], none⟩] [0])
  (.seq (.region [⟨(some 3), .fieldAddr 3 (.t 1), none⟩,
      ⟨(some 4), .load none (.t 3), none⟩,
      ⟨(some 5), .call false 55 [(.t 4)], none⟩,
      ⟨(some 6), .fieldAddr 3 (.t 1), none⟩,
      ⟨none, .store 1 (.t 6) (.t 5), none⟩] [3, 4, 5, 6])
  (.seq (.region [⟨(some 7), .load (some 4) (.t 1), none⟩,
      ⟨none, .store 4 (.t 2) (.t 7), none⟩] [1, 7])
  (.ret)))
theorem ac28_ok : cFunc Try.prog [] [(0, [0], []), (1, [3, 4, 5, 6], []), (2, [1, 7], [])] Try.f28 = some (ac28, [.cell 2 (some 4)], 8) := by kernel_rfl
end Own
/-- dead objects and trees -/
def inter (l : List Tm) (vs : List Value) : Heap := (List.zipWith (fun t v => [Ob.dead, ktree t v]) l vs).flatten
theorem inter_snoc (l : List Tm) (vs : List Value) (v : Value) (h : vs.length < l.length) : inter l (vs ++ [v]) = inter l vs ++ [.dead, ktree l[vs.length] v] := by
  rw [inter, inter, zip_snoc _ _ _ _ h]; simp
theorem inter_get : ∀ (l : List Tm) (vs : List Value) (m : Nat), m < vs.length → vs.length ≤ l.length → (inter l vs)[2 * m + 1]? = (List.zipWith ktree l vs)[m]?
  | [], [], m, h, _ => by simp at h
  | [], _ :: _, m, h, h' => by simp at h'
  | _ :: _, [], m, h, _ => by simp at h
  | t :: l, v :: vs, 0, h, _ => by simp [inter]
  | t :: l, v :: vs, m + 1, h, h' => by
    have := inter_get l vs m (by simpa using h) (by simpa using h')
    simp only [inter] at this ⊢
    simp only [List.zipWith_cons_cons, List.flatten_cons, show 2 * (m + 1) + 1 = (2 * m + 1) + 1 + 1 by omega, List.cons_append, List.nil_append, List.getElem?_cons_succ, this]
theorem inter_re (l : List Tm) (vs : List Value) (n : Nat) : (inter l vs).map (Ob.re n) = inter l vs := by
  induction l generalizing vs with
  | nil => simp [inter]
  | cons t l ih =>
    cases vs with
    | nil => simp [inter]
    | cons v vs =>
      have := ih vs
      simp only [inter] at this ⊢
      simp only [List.zipWith_cons_cons, List.flatten_cons, List.map_append, this]
      rfl
theorem set_end (X : Heap) (a b : Ob) : (X ++ [a]).set X.length b = X ++ [b] := by rw [List.set_append_right _ _ (Nat.le_refl _)]; simp
theorem allLen_zip (l : List Tm) (vs : List Value) : allLen 4 (List.zipWith srow l vs) := by
  induction l generalizing vs with
  | nil => intro r hr; simp at hr
  | cons t l ih =>
    cases vs with
    | nil => intro r hr; simp at hr
    | cons v vs =>
      intro r hr
      rw [List.zipWith_cons_cons] at hr
      rcases List.mem_cons.1 hr with rfl | hr
      · rfl
      · exact ih vs r hr
def OwnO (t : Tm) : Prop := ACalls Try.prog 28 [.agg (t.row.map .d)] [] (HandsTm t)
theorem ownListOwn_of (l : List Tm) (hl : l.length ≤ 1048576) (h : ∀ t ∈ l, OwnO t) : ACalls Try.prog 55 [.c (.d (.sl (l.map Tm.row)))] [] (HandsRows (l.map Tm.row)) := by
  refine acallsT Try.func55 (by kernel_rfl) Own.ac55_ok ?_
  have hli : inR .i64 (l.length : Int) := small_i64 (by omega) (by omega)
  simp -implicitDefEqProofs [Own.ac55, hli, aw_skip, aw_region, aw_seq, aw_block, aw_cond, aw_exit, aw_ret, kq_nil, kq_seq, kq_seq_ret, kq_seq_exit, kq_block, kq_block_ret, kq_block_exit, kq_loop, kq_loop_ret, kq_loop_exit, awOps_nil, awOps_cons, awOps_guardE, nx_eq, awOp, ev_k, ev_0, ev_1, ev_2, ev_3, ev_4, ev_5, ev_6, ev_7, ev_8, set_0, set_1, set_2, set_3, set_4, set_5, set_6, set_7, set_8, -List.set_cons_succ, -List.set_cons_zero, A.ok, A.val, setSl, wrapG, guardB, getB, pickA, binA, binC, binD, cmpD, isCmp, unA, unD, lenA, AOp.total, kills, litB, FinQ, resOks, resOk, resA, resList, resOne, A.thaw, C.thaw, A.fits, As.fits, C.fits, evs, oks, callArgs, A.pure, C.pure, A.re, C.re, fieldAddrA, loadC, cut, A.cells, C.rows?, getOb, newOb, setOb, storeC, splice, Ob.re, Cs.fits, partsA, partsOk, parts2A, parts2Ok, fillC, fillRows, optInt, optOk, sliceA, clipC, optK_some, storeK_some, Option.map_some, toDs, C.toD, spliceD, appendA, capsOf, srcRows, allLen_nil_iff, allLen_cons_iff, allLen_append_iff, dropC, Obs.fits, eqCs, eqD, mapRow, mapPut, mapVal, mapOne, mapCells]
  refine loop_enter (St.le_token 3 4 rfl) ?_
  refine loop_set (σ := List Value) (fun vs => [(8, .c (.d (.int .i64 vs.length))), (3, .c (.own (.l 0) vs.length (List.zipWith srow l vs)))]) (fun _ => []) (fun vs => .grow vs.length 4 :: inter l vs) (fun vs => vs.length ≤ l.length) (fun vs => l.length - vs.length) [] (by simp [setAll, inter]) (Nat.zero_le _) ?_
  intro vs hi
  simp -implicitDefEqProofs [setAll, hli, aw_skip, aw_region, aw_seq, aw_block, aw_cond, aw_exit, aw_ret, kq_nil, kq_seq, kq_seq_ret, kq_seq_exit, kq_block, kq_block_ret, kq_block_exit, kq_loop, kq_loop_ret, kq_loop_exit, awOps_nil, awOps_cons, awOps_guardE, nx_eq, awOp, ev_k, ev_0, ev_1, ev_2, ev_3, ev_4, ev_5, ev_6, ev_7, ev_8, set_0, set_1, set_2, set_3, set_4, set_5, set_6, set_7, set_8, -List.set_cons_succ, -List.set_cons_zero, A.ok, A.val, setSl, wrapG, guardB, getB, pickA, binA, binC, binD, cmpD, isCmp, unA, unD, lenA, AOp.total, kills, litB, FinQ, resOks, resOk, resA, resList, resOne, A.thaw, C.thaw, A.fits, As.fits, C.fits, evs, oks, callArgs, A.pure, C.pure, A.re, C.re, fieldAddrA, loadC, cut, A.cells, C.rows?, getOb, newOb, setOb, storeC, splice, Ob.re, Cs.fits, partsA, partsOk, parts2A, parts2Ok, fillC, fillRows, optInt, optOk, sliceA, clipC, optK_some, storeK_some, Option.map_some, toDs, C.toD, spliceD, appendA, capsOf, srcRows, allLen_nil_iff, allLen_cons_iff, allLen_append_iff, dropC, Obs.fits, eqCs, eqD, mapRow, mapPut, mapVal, mapOne, mapCells]
  refine ⟨fun hlt => ?_, fun hge => ?_⟩
  · have hadd : inR .i64 ((vs.length : Int) + 1) := small_i64 (by omega) (by omega)
    refine row_of hlt (row_len _) ?_
    simp -implicitDefEqProofs [row_len, take_row, pure_d, re_d, inter_re, List.set_cons_succ, set_end, aw_skip, aw_region, aw_seq, aw_block, aw_cond, aw_exit, aw_ret, kq_nil, kq_seq, kq_seq_ret, kq_seq_exit, kq_block, kq_block_ret, kq_block_exit, kq_loop, kq_loop_ret, kq_loop_exit, awOps_nil, awOps_cons, awOps_guardE, nx_eq, awOp, ev_k, ev_0, ev_1, ev_2, ev_3, ev_4, ev_5, ev_6, ev_7, ev_8, set_0, set_1, set_2, set_3, set_4, set_5, set_6, set_7, set_8, -List.set_cons_succ, -List.set_cons_zero, A.ok, A.val, setSl, wrapG, guardB, getB, pickA, binA, binC, binD, cmpD, isCmp, unA, unD, lenA, AOp.total, kills, litB, FinQ, resOks, resOk, resA, resList, resOne, A.thaw, C.thaw, A.fits, As.fits, C.fits, evs, oks, callArgs, A.pure, C.pure, A.re, C.re, fieldAddrA, loadC, cut, A.cells, C.rows?, getOb, newOb, setOb, storeC, splice, Ob.re, Cs.fits, partsA, partsOk, parts2A, parts2Ok, fillC, fillRows, optInt, optOk, sliceA, clipC, optK_some, storeK_some, Option.map_some, toDs, C.toD, spliceD, appendA, capsOf, srcRows, allLen_nil_iff, allLen_cons_iff, allLen_append_iff, dropC, Obs.fits, eqCs, eqD, mapRow, mapPut, mapVal, mapOne, mapCells]
    refine call_loc (J := []) (h l[vs.length] (List.getElem_mem hlt)) (fun r H' h => h.handed) (by simp [inter_re, Ob.re, re_d]) (.cons (.agg (fzCs_id _)) .nil) List.nodup_nil rfl rfl ?_
    rintro _ _ ⟨v, rfl, rfl⟩ _
    simp -implicitDefEqProofs [putAll, hadd, aw_skip, aw_region, aw_seq, aw_block, aw_cond, aw_exit, aw_ret, kq_nil, kq_seq, kq_seq_ret, kq_seq_exit, kq_block, kq_block_ret, kq_block_exit, kq_loop, kq_loop_ret, kq_loop_exit, awOps_nil, awOps_cons, awOps_guardE, nx_eq, awOp, ev_k, ev_0, ev_1, ev_2, ev_3, ev_4, ev_5, ev_6, ev_7, ev_8, set_0, set_1, set_2, set_3, set_4, set_5, set_6, set_7, set_8, -List.set_cons_succ, -List.set_cons_zero, A.ok, A.val, setSl, wrapG, guardB, getB, pickA, binA, binC, binD, cmpD, isCmp, unA, unD, lenA, AOp.total, kills, litB, FinQ, resOks, resOk, resA, resList, resOne, A.thaw, C.thaw, A.fits, As.fits, C.fits, evs, oks, callArgs, A.pure, C.pure, A.re, C.re, fieldAddrA, loadC, cut, A.cells, C.rows?, getOb, newOb, setOb, storeC, splice, Ob.re, Cs.fits, partsA, partsOk, parts2A, parts2Ok, fillC, fillRows, optInt, optOk, sliceA, clipC, optK_some, storeK_some, Option.map_some, toDs, C.toD, spliceD, appendA, capsOf, srcRows, allLen_nil_iff, allLen_cons_iff, allLen_append_iff, dropC, Obs.fits, eqCs, eqD, mapRow, mapPut, mapVal, mapOne, mapCells]
    refine ⟨allLen_zip l vs, by unfold maxApp; omega, ?_⟩
    have hloc : ∀ (c d g g' t : Ob), ((g :: (inter l vs ++ [c])).set ((inter l vs).length + 1) d).set 0 g' ++ [t] = g' :: (inter l vs ++ [d, t]) := fun c d g g' t => by rw [List.set_cons_succ, set_end]; simp
    rw [hloc]
    have hs1 := zip_snoc srow l vs v hlt
    rw [srow] at hs1
    rw [← hs1]
    refine loop_less (vs ++ [v]) (St.le_more (by simp [setAll, Sl.le, A.le_refl_iff, A.le_u_iff, As.lo, A.lo, C.lo, Ref.lo, Cs.lo, Obs.lo, Ob.lo, setAll, and_true, true_and, List.length_nil, List.length_cons]) ?_) (by simp; omega) (by show l.length - (vs ++ [v]).length < l.length - vs.length; simp; omega)
    simp only [inter_snoc l vs v hlt, List.length_append, List.length_cons, List.length_nil]
    exact ⟨.refl _, Obs.le_append (Obs.le_refl _) ⟨.dead _, .refl _, trivial⟩⟩
  · have hvl : vs.length = l.length := by omega
    have hn : (0 :: (List.range vs.length).map fun m => 2 * m + 2).Nodup := by
      refine List.nodup_cons.2 ⟨by simp, ?_⟩
      exact List.Pairwise.map _ (fun a b (h : a ≠ b) => by simp; omega) List.nodup_range
    refine finT_ret _ ⟨trivial, trivial⟩ rfl fun kv => ⟨_, _, _, .one (.c (.own (js := (List.range vs.length).map fun m => 2 * m + 2) rfl (by simp [hvl]) (strip_terms l vs hvl) (by rw [zip_lens hvl]) (fun m hm => ?_))), hn, _, rfl, rfl⟩
    have hm' : m < vs.length := by simp at hm; omega
    exact ⟨2 * m + 2, by simp [hm'], by rw [List.getElem?_cons_succ]; exact inter_get l vs m hm' (by omega)⟩
theorem ownO_calls : ∀ t : Tm, t.fits → OwnO t := by
  refine Tm.ind fun k n s l ih hfits => ?_
  obtain ⟨hk, hn, hs, hl, hkids⟩ := hfits
  refine acallsT Try.func28 (by kernel_rfl) Own.ac28_ok ?_
  simp -implicitDefEqProofs [Own.ac28, row_mk, aw_skip, aw_region, aw_seq, aw_block, aw_cond, aw_exit, aw_ret, kq_nil, kq_seq, kq_seq_ret, kq_seq_exit, kq_block, kq_block_ret, kq_block_exit, kq_loop, kq_loop_ret, kq_loop_exit, awOps_nil, awOps_cons, awOps_guardE, nx_eq, awOp, ev_k, ev_0, ev_1, ev_2, ev_3, ev_4, ev_5, ev_6, ev_7, ev_8, set_0, set_1, set_2, set_3, set_4, set_5, set_6, set_7, set_8, -List.set_cons_succ, -List.set_cons_zero, A.ok, A.val, setSl, wrapG, guardB, getB, pickA, binA, binC, binD, cmpD, isCmp, unA, unD, lenA, AOp.total, kills, litB, FinQ, resOks, resOk, resA, resList, resOne, A.thaw, C.thaw, A.fits, As.fits, C.fits, evs, oks, callArgs, A.pure, C.pure, A.re, C.re, fieldAddrA, loadC, cut, A.cells, C.rows?, getOb, newOb, setOb, storeC, splice, Ob.re, Cs.fits, partsA, partsOk, parts2A, parts2Ok, fillC, fillRows, optInt, optOk, sliceA, clipC, optK_some, storeK_some, Option.map_some, toDs, C.toD, spliceD, appendA, capsOf, srcRows, allLen_nil_iff, allLen_cons_iff, allLen_append_iff, dropC, Obs.fits, eqCs, eqD, mapRow, mapPut, mapVal, mapOne, mapCells]
  refine call_loc (J := []) (ownListOwn_of l hl fun t ht => ih t ht (hkids t ht)) (fun r H' h => h.handed) rfl (.cons (.c .d) .nil) List.nodup_nil rfl rfl ?_
  rintro _ _ ⟨v, rfl, rfl⟩ _
  simp -implicitDefEqProofs [putAll, aw_skip, aw_region, aw_seq, aw_block, aw_cond, aw_exit, aw_ret, kq_nil, kq_seq, kq_seq_ret, kq_seq_exit, kq_block, kq_block_ret, kq_block_exit, kq_loop, kq_loop_ret, kq_loop_exit, awOps_nil, awOps_cons, awOps_guardE, nx_eq, awOp, ev_k, ev_0, ev_1, ev_2, ev_3, ev_4, ev_5, ev_6, ev_7, ev_8, set_0, set_1, set_2, set_3, set_4, set_5, set_6, set_7, set_8, -List.set_cons_succ, -List.set_cons_zero, A.ok, A.val, setSl, wrapG, guardB, getB, pickA, binA, binC, binD, cmpD, isCmp, unA, unD, lenA, AOp.total, kills, litB, FinQ, resOks, resOk, resA, resList, resOne, A.thaw, C.thaw, A.fits, As.fits, C.fits, evs, oks, callArgs, A.pure, C.pure, A.re, C.re, fieldAddrA, loadC, cut, A.cells, C.rows?, getOb, newOb, setOb, storeC, splice, Ob.re, Cs.fits, partsA, partsOk, parts2A, parts2Ok, fillC, fillRows, optInt, optOk, sliceA, clipC, optK_some, storeK_some, Option.map_some, toDs, C.toD, spliceD, appendA, capsOf, srcRows, allLen_nil_iff, allLen_cons_iff, allLen_append_iff, dropC, Obs.fits, eqCs, eqD, mapRow, mapPut, mapVal, mapOne, mapCells]
  exact finT_ret _ ⟨trivial, trivial⟩ rfl fun kv => ⟨_, _, _, .one (.agg (.cons (.leaf rfl) (.cons (.leaf rfl) (.cons (.leaf rfl) (.cons (.tree (j := 2) rfl) .nil))))), by simp, _, rfl, rfl⟩
theorem ownListOwn_calls (l : List Tm) (hl : l.length ≤ 1048576) (h : ∀ t ∈ l, t.fits) : ACalls Try.prog 55 [.c (.d (.sl (l.map Tm.row)))] [] (HandsRows (l.map Tm.row)) :=
  ownListOwn_of l hl fun t ht => ownO_calls t (h t ht)
end Go.Proofs.Ytddahocmlbnlfaa
