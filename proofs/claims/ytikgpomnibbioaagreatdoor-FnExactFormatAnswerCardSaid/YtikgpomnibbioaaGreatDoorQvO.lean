/-
  QueryVars of the program and of the reference.
  Conditions: none.
-/
import Derived.Test.YtikgpomnibbioaaGreatDoorQv
import Derived.Test.YtikgpomnibbioaaGreatDoorGoals
import Derived.Test.YtikgpomnibbioaaGreatDoorAbsN
open Go Go.AM Go.Proofs
namespace Go.Proofs.YtikgpomnibbioaaGreatDoor
open Go.ChangeShapes Go.WideShapes Go.ChangeAt Go.RowKit
set_option linter.unusedVariables false
set_option linter.unusedSimpArgs false
set_option maxRecDepth 100000
-- 32 loop.example/prologserver/spec.l1Vars params 2 ntmps 44
-- loop head live: [0, 3, 5]
-- loop head live: [0, 3, 6]
def ac32 : Cd := .seq (.region [⟨(some 3), .box (.t 1), none⟩,
      ⟨(some 4), .mv (.k (.c (.full []))), none⟩] [1, 4])
  (.seq (.seq (.region [⟨(some 7), .fieldAddr 0 (.t 3), none⟩,
        ⟨(some 8), .load none (.t 7), none⟩,
        ⟨(some 9), .bin .eql (.t 8) (.k (.c (.d (.int .i64 1)))), none⟩] [7, 8])
    (.cond (.t 9)
      (.seq (.seq (.region [⟨(some 5), .mv (.k (.c (.d (.int .i64 0)))), none⟩] [9])
        (.block 0 (.loop (.seq (.seq (.region [⟨(some 10), .mv (.t 5), none⟩,
                  ⟨(some 11), .mv (.t 0), none⟩,
                  ⟨(some 12), .len 1 (.t 11), none⟩,
                  ⟨(some 13), .bin .lss (.t 10) (.t 12), none⟩] [10, 11, 12])
              (.cond (.t 13)
                (.skip)
                (.exit 0)))
            (.seq (.block 1 (.seq (.region [⟨(some 16), .mv (.t 0), none⟩,
                    ⟨(some 17), .mv (.t 5), none⟩,
                    ⟨(some 18), .indexAddr 1 (.t 16) (.t 17), none⟩,
                    ⟨(some 20), .fieldAddr 1 (.t 3), none⟩,
                    ⟨(some 19), .load none (.t 18), none⟩,
                    ⟨(some 21), .load none (.t 20), none⟩,
                    ⟨(some 22), .bin .eql (.t 19) (.t 21), none⟩] [13, 16, 17, 18, 19, 20, 21])
                (.cond (.t 22)
                  (.seq (.region [⟨(some 23), .mv (.t 0), none⟩,
                      ⟨(some 4), .mv (.t 23), none⟩] [0, 3, 5, 22, 23])
                  (.ret))
                  (.skip))))
            (.region [⟨(some 14), .mv (.t 5), none⟩,
              ⟨(some 15), .bin .add (.t 14) (.k (.c (.d (.int .i64 1)))), none⟩,
              ⟨(some 5), .mv (.t 15), none⟩] [4, 14, 15, 22]))))))
      (.seq (.region [⟨(some 24), .mv (.t 0), none⟩,
          ⟨(some 25), .fieldAddr 1 (.t 3), none⟩,
          ⟨(some 26), .load none (.t 25), none⟩,
          ⟨(some 27), .buildSlice 1 1 [(.int .i64 0)] [(0, (.t 26))], none⟩,
          ⟨(some 28), .append false 1 (.t 24) (.t 27), none⟩,
          ⟨(some 4), .mv (.t 28), none⟩] [0, 3, 24, 25, 26, 27, 28])
      (.ret)))
      (.skip)))
  (.seq (.seq (.region [⟨(some 6), .mv (.k (.c (.d (.int .i64 0)))), none⟩] [4, 9])
    (.block 2 (.loop (.seq (.seq (.region [⟨(some 29), .mv (.t 6), none⟩,
              ⟨(some 30), .fieldAddr 3 (.t 3), none⟩,
              ⟨(some 31), .load none (.t 30), none⟩,
              ⟨(some 32), .len 1 (.t 31), none⟩,
              ⟨(some 33), .bin .lss (.t 29) (.t 32), none⟩] [29, 30, 31, 32])
          (.cond (.t 33)
            (.skip)
            (.exit 2)))
        (.seq (.block 3 (.region [⟨(some 36), .mv (.t 0), none⟩,
              ⟨(some 37), .fieldAddr 3 (.t 3), none⟩,
              ⟨(some 38), .load none (.t 37), none⟩,
              ⟨(some 39), .mv (.t 6), none⟩,
              ⟨(some 40), .indexAddr 4 (.t 38) (.t 39), none⟩,
              ⟨(some 41), .load (some 4) (.t 40), none⟩,
              ⟨(some 42), .call true 32 [(.t 36), (.t 41)], none⟩,
              ⟨(some 0), .mv (.t 42), none⟩] [33, 36, 37, 38, 39, 40, 41, 42]))
        (.region [⟨(some 34), .mv (.t 6), none⟩,
          ⟨(some 35), .bin .add (.t 34) (.k (.c (.d (.int .i64 1)))), none⟩,
          ⟨(some 6), .mv (.t 35), none⟩] [34, 35]))))))
  (.seq (.region [⟨(some 43), .mv (.t 0), none⟩,
      ⟨(some 4), .mv (.t 43), none⟩] [0, 43])
  (.ret))))
theorem ac32_ok : cFunc Tryz.prog [32] [(0, [1, 4], []), (1, [7, 8], []), (2, [9], []), (3, [10, 11, 12], []), (5, [13, 16, 17, 18, 19, 20, 21], [0, 1, 2, 4, 3, 5, 6]), (6, [0, 3, 5, 22, 23], []), (4, [4, 14, 15, 22], []), (7, [0, 3, 24, 25, 26, 27, 28], []), (8, [4, 9], []), (9, [29, 30, 31, 32], []), (11, [33, 36, 37, 38, 39, 40, 41, 42], []), (10, [34, 35], []), (12, [0, 43], [])] Tryz.f32 = some (ac32, [.tmp 4], 44) := by kernel_rfl
-- 21 loop.example/prologserver/spec.l6Vars params 1 ntmps 19
-- loop head live: [0, 3, 4]
def ac21 : Cd := .seq (.region [⟨(some 2), .mv (.k (.c (.full []))), none⟩] [2])
  (.seq (.region [⟨(some 5), .buildSlice 1 0 [(.int .i64 0)] [], none⟩,
      ⟨(some 3), .mv (.t 5), none⟩] [5])
  (.seq (.seq (.region [⟨(some 4), .mv (.k (.c (.d (.int .i64 0)))), none⟩] [])
    (.block 0 (.loop (.seq (.seq (.region [⟨(some 6), .mv (.t 4), none⟩,
              ⟨(some 7), .mv (.t 0), none⟩,
              ⟨(some 8), .len 1 (.t 7), none⟩,
              ⟨(some 9), .bin .lss (.t 6) (.t 8), none⟩] [6, 7, 8])
          (.cond (.t 9)
            (.skip)
            (.exit 0)))
        (.seq (.block 1 (.region [⟨(some 12), .mv (.t 3), none⟩,
              ⟨(some 13), .mv (.t 0), none⟩,
              ⟨(some 14), .mv (.t 4), none⟩,
              ⟨(some 15), .indexAddr 4 (.t 13) (.t 14), none⟩,
              ⟨(some 16), .load (some 4) (.t 15), none⟩,
              ⟨(some 17), .call true 32 [(.t 12), (.t 16)], none⟩,
              ⟨(some 3), .mv (.t 17), none⟩] [9, 12, 13, 14, 15, 16, 17]))
        (.region [⟨(some 10), .mv (.t 4), none⟩,
          ⟨(some 11), .bin .add (.t 10) (.k (.c (.d (.int .i64 1)))), none⟩,
          ⟨(some 4), .mv (.t 11), none⟩] [10, 11]))))))
  (.seq (.region [⟨(some 18), .mv (.t 3), none⟩,
      ⟨(some 2), .mv (.t 18), none⟩] [3, 18])
  (.ret))))
theorem ac21_ok : cFunc Tryz.prog [32] [(0, [2], []), (1, [5], []), (2, [], []), (3, [6, 7, 8], []), (5, [9, 12, 13, 14, 15, 16, 17], []), (4, [10, 11], []), (6, [3, 18], [])] Tryz.f21 = some (ac21, [.tmp 2], 19) := by kernel_rfl
-- 13 loop.example/prologserver/spec.QueryVars params 1 ntmps 9
def ac13 : Cd := .seq (.region [⟨(some 2), .mv (.k (.c (.full []))), none⟩] [2])
  (.seq (.seq (.region [⟨(some 3), .mv (.t 0), none⟩,
        ⟨(some 4), .qcall 14 [(.t 3)], none⟩,
        ⟨(some 5), .un .not (.t 4), none⟩] [3, 4])
    (.cond (.t 5)
      (.seq (.region [⟨(some 6), .buildSlice 1 0 [(.int .i64 0)] [], none⟩,
          ⟨(some 2), .mv (.t 6), none⟩] [0, 5, 6])
      (.ret))
      (.skip)))
  (.seq (.region [⟨(some 7), .mv (.t 0), none⟩,
      ⟨(some 8), .qcall 21 [(.t 7)], none⟩,
      ⟨(some 2), .mv (.t 8), none⟩] [0, 5, 7, 8])
  (.ret)))
theorem ac13_ok : cFunc Tryz.prog [1000014, 1000021] [(0, [2], []), (1, [3, 4], []), (2, [0, 5, 6], []), (3, [0, 5, 7, 8], [])] Tryz.f13 = some (ac13, [.tmp 2], 9) := by kernel_rfl
-- 27 loop.example/prologserver/impl.varsOf params 1 ntmps 17
-- loop head live: [3, 6, 7, 8]
def ac27 : Cd := .seq (.region [⟨(some 2), .mv (.k (.c (.full []))), none⟩] [2])
  (.seq (.region [⟨(some 3), .mv (.k (.c (.full []))), none⟩] [])
  (.seq (.seq (.region [⟨(some 6), .mv (.t 0), none⟩,
        ⟨(some 7), .len 1 (.t 6), none⟩,
        ⟨(some 8), .mv (.k (.c (.d (.int .i64 0)))), none⟩] [0])
    (.block 0 (.loop (.seq (.region [⟨(some 9), .bin .lss (.t 8) (.t 7), none⟩] [])
        (.seq (.cond (.t 9)
            (.skip)
            (.exit 0))
        (.seq (.block 1 (.seq (.region [⟨(some 10), .indexAddr 4 (.t 6) (.t 8), none⟩,
                ⟨(some 11), .load (some 4) (.t 10), none⟩,
                ⟨(some 5), .alloc [(.d (.int .i64 0)), (.d (.int .i64 0)), (.d (.str [])), (.full [])], none⟩,
                ⟨none, .store 4 (.t 5) (.t 11), none⟩] [9, 10, 11])
            (.region [⟨(some 12), .load (some 4) (.t 5), none⟩,
              ⟨(some 13), .mv (.t 3), none⟩,
              ⟨(some 14), .call true 46 [(.t 12), (.t 13)], none⟩,
              ⟨(some 3), .mv (.t 14), none⟩] [5, 12, 13, 14])))
        (.region [⟨(some 15), .bin .add (.t 8) (.k (.c (.d (.int .i64 1)))), none⟩,
          ⟨(some 8), .mv (.t 15), none⟩] [15])))))))
  (.seq (.region [⟨(some 16), .mv (.t 3), none⟩,
      ⟨(some 2), .mv (.t 16), none⟩] [3, 16])
  (.ret))))
theorem ac27_ok : cFunc Tryz.prog [46] [(0, [2], []), (1, [], []), (2, [0], []), (3, [], []), (4, [9, 10, 11], []), (5, [5, 12, 13, 14], []), (6, [15], []), (7, [3, 16], [])] Tryz.f27 = some (ac27, [.tmp 2], 17) := by kernel_rfl
theorem call_addL {P : Program} {f : FuncId} {args : List A} {sl : List A} {ext loc H₂ : Heap} {j : Nat} {g : Ob} {r r0 : A} {K : A → St → Prop} (hc : ACalls P f args H₂ (fun r' H' => H' = H₂.set (ext.length + j) g ∧ r' = r0)) (hg : Ob.re ext.length g = g) (hr : r0 = A.re ext.length r)
    (hf : Obs.fits ext.length 0 ext) (hH : H₂ = ext ++ loc.map (Ob.re ext.length)) (hk : K r ⟨sl, ext, loc.set j g⟩) : ACalls P f args H₂ (CallK K ⟨sl, ext, loc⟩) := by
  subst hH
  refine hc.mono fun r' H' ⟨h1, h2⟩ => ⟨ext, loc.set j g, r, ?_, rfl, by simp, hf, by rw [h2, hr], hk⟩
  rw [h1, List.set_append_right _ _ (by omega), Nat.add_sub_cancel_left, List.map_set, hg]
theorem varsOf_calls (l : List Tm) (hl : l.length ≤ 1048576) (h : ∀ t ∈ l, t.fits) (hc : Tm.cnt l ≤ 3000000) (H : Heap) : ACalls Tryz.prog 27 [.c (.d (.sl (l.map Tm.row)))] H
    (fun r H' => H' = H ++ [.grow (varsL l []).length 1] ∧ r = .c (.own (.e H.length) (varsL l []).length (intRows (varsL l [])))) := by
  have hli : inR .i64 (l.length : Int) := small_i64 (by omega) (by omega)
  refine acallsK Tryz.func27 (by kernel_rfl) ac27_ok fun hf => ?_
  simp -implicitDefEqProofs [ac27, hli, kw, ew, sw, aw_cond, awOps_nil, awOps_cons, awOps_guardE, nx_eq, awOp, -List.set_cons_succ, -List.set_cons_zero, A.ok, A.val, setSl, wrapG, guardB, getB, pickA, binA, binC, binD, cmpD, isCmp, unA, unD, lenA, AOp.total, kills, litB, FinQ, resOks, resOk, resA, resList, resOne, A.thaw, C.thaw, A.fits, As.fits, C.fits, evs, oks, callArgs, A.pure, C.pure, A.re, C.re, fieldAddrA, loadC, cut, A.cells, C.rows?, getOb, newOb, setOb, storeC, splice, Ob.re, Cs.fits, partsA, partsOk, parts2A, parts2Ok, fillC, fillRows, optInt, optOk, sliceA, clipC, optK_some, storeK_some, Option.map_some, toDs, C.toD, spliceD, appendA, capsOf, srcRows, allLen_nil_iff, allLen_cons_iff, allLen_append_iff, dropC, Obs.fits, eqCs, eqD, mapRow, mapPut, mapVal, mapOne, mapCells]
  refine loop_enter (St.le_token 3 1 rfl) ?_
  refine loop_set (σ := Nat) (fun j => [(8, .c (.d (.int .i64 j))), (3, .c (.own (.l 0) (varsL (l.take j) []).length (intRows (varsL (l.take j) []))))]) (fun _ => H) (fun j => [.grow (varsL (l.take j) []).length 1]) (fun j => j ≤ l.length) (fun j => l.length - j) 0 (by simp [setAll, varsL_nil, intRows]) (Nat.zero_le _) ?_
  intro j hj
  obtain ⟨W, hW⟩ : ∃ W, W = varsL (l.take j) [] := ⟨_, rfl⟩
  have hWl : W.length ≤ Tm.cnt (l.take j) := by
    have h1 := varsL_len (l.take j) []
    rw [hW]; simpa using h1
  rw [← hW]
  simp -implicitDefEqProofs [setAll, hli, kw, ew, sw, aw_cond, awOps_nil, awOps_cons, awOps_guardE, nx_eq, awOp, -List.set_cons_succ, -List.set_cons_zero, A.ok, A.val, setSl, wrapG, guardB, getB, pickA, binA, binC, binD, cmpD, isCmp, unA, unD, lenA, AOp.total, kills, litB, FinQ, resOks, resOk, resA, resList, resOne, A.thaw, C.thaw, A.fits, As.fits, C.fits, evs, oks, callArgs, A.pure, C.pure, A.re, C.re, fieldAddrA, loadC, cut, A.cells, C.rows?, getOb, newOb, setOb, storeC, splice, Ob.re, Cs.fits, partsA, partsOk, parts2A, parts2Ok, fillC, fillRows, optInt, optOk, sliceA, clipC, optK_some, storeK_some, Option.map_some, toDs, C.toD, spliceD, appendA, capsOf, srcRows, allLen_nil_iff, allLen_cons_iff, allLen_append_iff, dropC, Obs.fits, eqCs, eqD, mapRow, mapPut, mapVal, mapOne, mapCells]
  refine ⟨fun hjl => ?_, fun hje => ?_⟩
  · have hadd : inR .i64 ((j : Int) + 1) := small_i64 (by omega) (by omega)
    have hw1 := varsL_succ l [] hjl
    rw [← hW] at hw1
    have hs1 := cnt_take_sub l hjl
    refine row_of hjl (row_len _) ?_
    simp -implicitDefEqProofs [row_len, take_row, pure_d, re_d, hf, kw, ew, sw, aw_cond, awOps_nil, awOps_cons, awOps_guardE, nx_eq, awOp, -List.set_cons_succ, -List.set_cons_zero, A.ok, A.val, setSl, wrapG, guardB, getB, pickA, binA, binC, binD, cmpD, isCmp, unA, unD, lenA, AOp.total, kills, litB, FinQ, resOks, resOk, resA, resList, resOne, A.thaw, C.thaw, A.fits, As.fits, C.fits, evs, oks, callArgs, A.pure, C.pure, A.re, C.re, fieldAddrA, loadC, cut, A.cells, C.rows?, getOb, newOb, setOb, storeC, splice, Ob.re, Cs.fits, partsA, partsOk, parts2A, parts2Ok, fillC, fillRows, optInt, optOk, sliceA, clipC, optK_some, storeK_some, Option.map_some, toDs, C.toD, spliceD, appendA, capsOf, srcRows, allLen_nil_iff, allLen_cons_iff, allLen_append_iff, dropC, Obs.fits, eqCs, eqD, mapRow, mapPut, mapVal, mapOne, mapCells]
    refine call_addL (j := 0) (r := .c (.own (.l 0) (l[j].vars W).length (intRows (l[j].vars W)))) (addVars_calls l[j] (h _ (List.getElem_mem hjl)) W _ (H.length + 0) (by simp) (by omega)) rfl rfl hf (by simp [Ob.re, C.re, re_d]) ?_
    simp -implicitDefEqProofs [hadd, kw, ew, sw, aw_cond, awOps_nil, awOps_cons, awOps_guardE, nx_eq, awOp, -List.set_cons_succ, -List.set_cons_zero, A.ok, A.val, setSl, wrapG, guardB, getB, pickA, binA, binC, binD, cmpD, isCmp, unA, unD, lenA, AOp.total, kills, litB, FinQ, resOks, resOk, resA, resList, resOne, A.thaw, C.thaw, A.fits, As.fits, C.fits, evs, oks, callArgs, A.pure, C.pure, A.re, C.re, fieldAddrA, loadC, cut, A.cells, C.rows?, getOb, newOb, setOb, storeC, splice, Ob.re, Cs.fits, partsA, partsOk, parts2A, parts2Ok, fillC, fillRows, optInt, optOk, sliceA, clipC, optK_some, storeK_some, Option.map_some, toDs, C.toD, spliceD, appendA, capsOf, srcRows, allLen_nil_iff, allLen_cons_iff, allLen_append_iff, dropC, Obs.fits, eqCs, eqD, mapRow, mapPut, mapVal, mapOne, mapCells]
    rw [← hw1]
    refine loop_less (j + 1) (St.le_cut [_] ?_ (by simp [Sl.le, A.le_refl_iff, A.le_u_iff, As.lo, A.lo, C.lo, Ref.lo, Cs.lo, Obs.lo, Ob.lo, setAll, and_true, true_and, List.length_nil, List.length_cons]) rfl ⟨trivial, trivial⟩) hjl (by show l.length - (j + 1) < l.length - j; omega)
    simp [setAll, Sl.le, A.le_refl_iff, A.le_u_iff, As.lo, A.lo, C.lo, Ref.lo, Cs.lo, Obs.lo, Ob.lo, setAll, and_true, true_and, List.length_nil, List.length_cons]
  · obtain rfl : j = l.length := by omega
    rw [List.take_length] at hW
    rw [← hW]
    exact finK_ret _ ⟨trivial, trivial⟩ rfl ⟨rfl, rfl⟩
theorem sl_kill : ∀ (l : List A) (i : Nat), Sl.le l (l.set i .u)
  | [], _ => trivial
  | a :: l, 0 => ⟨.u a, slr l⟩
  | a :: l, i + 1 => ⟨.refl a, sl_kill l i⟩
theorem finK_kill {rs : List Rv} {Q : A → Heap → Prop} {sl : List A} {ext loc : Heap} (i : Nat) (r : A) (hlo : As.lo ext.length 0 (sl.set i .u)) (hok : resOks ⟨sl.set i .u, ext, []⟩ rs) (hr : resRaw ⟨sl.set i .u, ext, []⟩ rs = some r) (hq : Q (r.re ext.length) ext) : FinK rs Q .ret ⟨sl, ext, loc⟩ :=
  ⟨⟨sl.set i .u, ext, []⟩, St.le_cut loc (sl_kill sl i) hlo rfl trivial, hok, r, hr, by simpa using hq⟩
/-- a term whose variables have nothing below them -/
inductive Tm.clean : Tm → Prop
  | mk {k n : Int} {s : List UInt8} {l : List Tm} : (k = 1 → l = []) → (∀ t ∈ l, t.clean) → (Tm.mk k n s l).clean
theorem shape_clean : ∀ t : Tm, ∀ d, t.shape d = true → t.clean := by
  refine Tm.ind fun k n s l ih d h => ?_
  simp only [Tm.shape, Bool.and_eq_true] at h
  refine .mk (fun hk => own_leaf (by omega) h.2.1) ?_
  have hL : ∀ (l : List Tm), (∀ t ∈ l, ∀ d, t.shape d = true → t.clean) → shapes (d - 1) l = true → ∀ t ∈ l, t.clean := by
    intro l
    induction l with
    | nil => intro _ _ t ht; cases ht
    | cons x l ih2 =>
      intro h1 h2 t ht
      simp only [shapes, Bool.and_eq_true] at h2
      rcases List.mem_cons.1 ht with rfl | ht
      · exact h1 _ (by simp) _ h2.1
      · exact ih2 (fun t ht => h1 t (by simp [ht])) h2.2 t ht
  exact hL l ih h.2.2
def AddS (t : Tm) : Prop := ∀ (l : List Int) (H : Heap) (i : Nat), H[i]? = some (.grow l.length 1) → l.length + t.sub ≤ 3000000 → ACalls Tryz.prog 32 [.c (.own (.e i) l.length (intRows l)), .agg (t.row.map .d)] H
  (fun r H' => H' = H.set i (.grow (t.vars l).length 1) ∧ r = .c (.own (.e i) (t.vars l).length (intRows (t.vars l))))
theorem l1Vars_calls : ∀ t : Tm, t.fits → t.clean → AddS t := by
  refine Tm.ind fun k n s kids ih hfits hclean l H i hgi hlen => ?_
  obtain ⟨hk, hn, hs, hl, hkids⟩ := hfits
  obtain ⟨hck, hckids⟩ := hclean
  rw [sub_mk] at hlen
  have hilt : i < H.length := (List.getElem?_eq_some_iff.1 hgi).1
  have hli : inR .i64 (kids.length : Int) := small_i64 (by omega) (by omega)
  have hll : inR .i64 (l.length : Int) := small_i64 (by omega) (by omega)
  have hself : H.set i (.grow l.length 1) = H := by
    refine List.ext_getElem? fun j => ?_
    by_cases hj : j = i
    · subst hj; rw [List.getElem?_set_self hilt, hgi]
    · rw [List.getElem?_set_ne (fun h => hj h.symm)]
  refine acallsK Tryz.func32 (by kernel_rfl) ac32_ok fun hf => ?_
  simp -implicitDefEqProofs [ac32, row_mk, hli, kw, ew, sw, aw_cond, awOps_nil, awOps_cons, awOps_guardE, nx_eq, awOp, -List.set_cons_succ, -List.set_cons_zero, A.ok, A.val, setSl, wrapG, guardB, getB, pickA, binA, binC, binD, cmpD, isCmp, unA, unD, lenA, AOp.total, kills, litB, FinQ, resOks, resOk, resA, resList, resOne, A.thaw, C.thaw, A.fits, As.fits, C.fits, evs, oks, callArgs, A.pure, C.pure, A.re, C.re, fieldAddrA, loadC, cut, A.cells, C.rows?, getOb, newOb, setOb, storeC, splice, Ob.re, Cs.fits, partsA, partsOk, parts2A, parts2Ok, fillC, fillRows, optInt, optOk, sliceA, clipC, optK_some, storeK_some, Option.map_some, toDs, C.toD, spliceD, appendA, capsOf, srcRows, allLen_nil_iff, allLen_cons_iff, allLen_append_iff, dropC, Obs.fits, eqCs, eqD, mapRow, mapPut, mapVal, mapOne, mapCells]
  refine ⟨fun hk1 => ?_, fun hk1 => ?_⟩
  · obtain rfl := hk1
    obtain rfl := hck rfl
    have hv : (Tm.mk 1 n s []).vars l = addI l n := by rw [vars_mk, if_pos rfl, varsL_nil]
    rw [hv]
    refine loop_set (σ := Nat) (fun j => [(5, .c (.d (.int .i64 j)))]) (fun _ => H) (fun _ => [.cells [.d (.int .i64 1), .d (.int .i64 n), .d (.str s), .d (.sl [])]]) (fun j => j ≤ l.length ∧ n ∉ l.take j) (fun j => l.length - j) 0 (by simp [setAll]) ⟨Nat.zero_le _, by simp⟩ ?_
    rintro j ⟨hj, hno⟩
    simp -implicitDefEqProofs [setAll, hll, intRows_len, kw, ew, sw, aw_cond, awOps_nil, awOps_cons, awOps_guardE, nx_eq, awOp, -List.set_cons_succ, -List.set_cons_zero, A.ok, A.val, setSl, wrapG, guardB, getB, pickA, binA, binC, binD, cmpD, isCmp, unA, unD, lenA, AOp.total, kills, litB, FinQ, resOks, resOk, resA, resList, resOne, A.thaw, C.thaw, A.fits, As.fits, C.fits, evs, oks, callArgs, A.pure, C.pure, A.re, C.re, fieldAddrA, loadC, cut, A.cells, C.rows?, getOb, newOb, setOb, storeC, splice, Ob.re, Cs.fits, partsA, partsOk, parts2A, parts2Ok, fillC, fillRows, optInt, optOk, sliceA, clipC, optK_some, storeK_some, Option.map_some, toDs, C.toD, spliceD, appendA, capsOf, srcRows, allLen_nil_iff, allLen_cons_iff, allLen_append_iff, dropC, Obs.fits, eqCs, eqD, mapRow, mapPut, mapVal, mapOne, mapCells]
    refine ⟨fun hjl => ?_, fun hje => ?_⟩
    · have hadd : inR .i64 ((j : Int) + 1) := small_i64 (by omega) (by omega)
      refine row_nat [.int .i64 l[j]] (by simp [intRows, hjl]) rfl ?_
      simp -implicitDefEqProofs [hadd, kw, ew, sw, aw_cond, awOps_nil, awOps_cons, awOps_guardE, nx_eq, awOp, -List.set_cons_succ, -List.set_cons_zero, A.ok, A.val, setSl, wrapG, guardB, getB, pickA, binA, binC, binD, cmpD, isCmp, unA, unD, lenA, AOp.total, kills, litB, FinQ, resOks, resOk, resA, resList, resOne, A.thaw, C.thaw, A.fits, As.fits, C.fits, evs, oks, callArgs, A.pure, C.pure, A.re, C.re, fieldAddrA, loadC, cut, A.cells, C.rows?, getOb, newOb, setOb, storeC, splice, Ob.re, Cs.fits, partsA, partsOk, parts2A, parts2Ok, fillC, fillRows, optInt, optOk, sliceA, clipC, optK_some, storeK_some, Option.map_some, toDs, C.toD, spliceD, appendA, capsOf, srcRows, allLen_nil_iff, allLen_cons_iff, allLen_append_iff, dropC, Obs.fits, eqCs, eqD, mapRow, mapPut, mapVal, mapOne, mapCells]
      refine ⟨fun he => ?_, fun he => ?_⟩
      · have : addI l n = l := by rw [addI, if_pos]; subst he; simp
        rw [this]
        exact finK_cut _ (by simp [hilt, Sl.le, A.le_refl_iff, A.le_u_iff, As.lo, A.lo, C.lo, Ref.lo, Cs.lo, Obs.lo, Ob.lo, setAll, and_true, true_and, List.length_nil, List.length_cons]) ⟨trivial, trivial⟩ rfl ⟨hself.symm, rfl⟩
      · refine loop_back (j + 1) (by simp [setAll]) ⟨hjl, ?_⟩ (by show l.length - (j + 1) < l.length - j; omega)
        rw [List.take_succ_eq_append_getElem hjl, List.mem_append]
        rintro (h' | h')
        · exact hno h'
        · simp at h'; exact he h'.symm
    · rw [List.take_of_length_le hje] at hno
      have : addI l n = l ++ [n] := by rw [addI, if_neg]; simpa using hno
      rw [this]
      simp -implicitDefEqProofs [hgi, allLen_ints, kw, ew, sw, aw_cond, awOps_nil, awOps_cons, awOps_guardE, nx_eq, awOp, -List.set_cons_succ, -List.set_cons_zero, A.ok, A.val, setSl, wrapG, guardB, getB, pickA, binA, binC, binD, cmpD, isCmp, unA, unD, lenA, AOp.total, kills, litB, FinQ, resOks, resOk, resA, resList, resOne, A.thaw, C.thaw, A.fits, As.fits, C.fits, evs, oks, callArgs, A.pure, C.pure, A.re, C.re, fieldAddrA, loadC, cut, A.cells, C.rows?, getOb, newOb, setOb, storeC, splice, Ob.re, Cs.fits, partsA, partsOk, parts2A, parts2Ok, fillC, fillRows, optInt, optOk, sliceA, clipC, optK_some, storeK_some, Option.map_some, toDs, C.toD, spliceD, appendA, capsOf, srcRows, allLen_nil_iff, allLen_cons_iff, allLen_append_iff, dropC, Obs.fits, eqCs, eqD, mapRow, mapPut, mapVal, mapOne, mapCells]
      refine ⟨by have := intRows_len l; unfold maxApp; omega, ?_⟩
      exact finK_cut _ (by simp [hilt, Sl.le, A.le_refl_iff, A.le_u_iff, As.lo, A.lo, C.lo, Ref.lo, Cs.lo, Obs.lo, Ob.lo, setAll, and_true, true_and, List.length_nil, List.length_cons]) ⟨trivial, trivial⟩ rfl ⟨by simp, by simp [intRows, A.re, C.re, Ref.re, A.val]⟩
  · have hv : (Tm.mk k n s kids).vars l = varsL kids l := by rw [vars_mk, if_neg hk1]
    rw [hv]
    refine loop_set (σ := Nat) (fun j => [(6, .c (.d (.int .i64 j))), (0, .c (.own (.e i) (varsL (kids.take j) l).length (intRows (varsL (kids.take j) l))))]) (fun j => H.set i (.grow (varsL (kids.take j) l).length 1)) (fun _ => [.cells [.d (.int .i64 k), .d (.int .i64 n), .d (.str s), .d (.sl (kids.map Tm.row))]]) (fun j => j ≤ kids.length) (fun j => kids.length - j) 0 (by simp [setAll, varsL_nil, hself, intRows]) (Nat.zero_le _) ?_
    intro j hj
    obtain ⟨W, hW⟩ : ∃ W, W = varsL (kids.take j) l := ⟨_, rfl⟩
    have hWH : (H.set i (.grow W.length 1))[i]? = some (.grow W.length 1) := List.getElem?_set_self hilt
    have hfW : Obs.fits (H.set i (.grow W.length 1)).length 0 (H.set i (.grow W.length 1)) := by rw [List.length_set]; exact Obs_fits_set hf trivial
    rw [← hW]
    simp -implicitDefEqProofs [setAll, hli, kw, ew, sw, aw_cond, awOps_nil, awOps_cons, awOps_guardE, nx_eq, awOp, -List.set_cons_succ, -List.set_cons_zero, A.ok, A.val, setSl, wrapG, guardB, getB, pickA, binA, binC, binD, cmpD, isCmp, unA, unD, lenA, AOp.total, kills, litB, FinQ, resOks, resOk, resA, resList, resOne, A.thaw, C.thaw, A.fits, As.fits, C.fits, evs, oks, callArgs, A.pure, C.pure, A.re, C.re, fieldAddrA, loadC, cut, A.cells, C.rows?, getOb, newOb, setOb, storeC, splice, Ob.re, Cs.fits, partsA, partsOk, parts2A, parts2Ok, fillC, fillRows, optInt, optOk, sliceA, clipC, optK_some, storeK_some, Option.map_some, toDs, C.toD, spliceD, appendA, capsOf, srcRows, allLen_nil_iff, allLen_cons_iff, allLen_append_iff, dropC, Obs.fits, eqCs, eqD, mapRow, mapPut, mapVal, mapOne, mapCells]
    refine ⟨fun hjl => ?_, fun hje => ?_⟩
    · have hadd : inR .i64 ((j : Int) + 1) := small_i64 (by omega) (by omega)
      have hw1 := varsL_succ kids l hjl
      rw [← hW] at hw1
      have hs1 := cnt_take_sub kids hjl
      have hWb : W.length + kids[j].sub ≤ 3000000 := by
        have h1 := varsL_len (kids.take j) l
        rw [hW]; omega
      refine row_of hjl (row_len _) ?_
      simp -implicitDefEqProofs [row_len, take_row, pure_d, re_d, kw, ew, sw, aw_cond, awOps_nil, awOps_cons, awOps_guardE, nx_eq, awOp, -List.set_cons_succ, -List.set_cons_zero, A.ok, A.val, setSl, wrapG, guardB, getB, pickA, binA, binC, binD, cmpD, isCmp, unA, unD, lenA, AOp.total, kills, litB, FinQ, resOks, resOk, resA, resList, resOne, A.thaw, C.thaw, A.fits, As.fits, C.fits, evs, oks, callArgs, A.pure, C.pure, A.re, C.re, fieldAddrA, loadC, cut, A.cells, C.rows?, getOb, newOb, setOb, storeC, splice, Ob.re, Cs.fits, partsA, partsOk, parts2A, parts2Ok, fillC, fillRows, optInt, optOk, sliceA, clipC, optK_some, storeK_some, Option.map_some, toDs, C.toD, spliceD, appendA, capsOf, srcRows, allLen_nil_iff, allLen_cons_iff, allLen_append_iff, dropC, Obs.fits, eqCs, eqD, mapRow, mapPut, mapVal, mapOne, mapCells]
      refine call_addE (i := i) (ih kids[j] (List.getElem_mem hjl) (hkids _ (List.getElem_mem hjl)) (hckids _ (List.getElem_mem hjl)) W _ i (by rw [List.getElem?_append_left (by simpa using hilt)]; exact hWH) hWb) trivial (by simpa using hilt) rfl (by simpa using hfW) (by simp [Ob.re, C.re, re_d]) ?_
      simp -implicitDefEqProofs [hadd, kw, ew, sw, aw_cond, awOps_nil, awOps_cons, awOps_guardE, nx_eq, awOp, -List.set_cons_succ, -List.set_cons_zero, A.ok, A.val, setSl, wrapG, guardB, getB, pickA, binA, binC, binD, cmpD, isCmp, unA, unD, lenA, AOp.total, kills, litB, FinQ, resOks, resOk, resA, resList, resOne, A.thaw, C.thaw, A.fits, As.fits, C.fits, evs, oks, callArgs, A.pure, C.pure, A.re, C.re, fieldAddrA, loadC, cut, A.cells, C.rows?, getOb, newOb, setOb, storeC, splice, Ob.re, Cs.fits, partsA, partsOk, parts2A, parts2Ok, fillC, fillRows, optInt, optOk, sliceA, clipC, optK_some, storeK_some, Option.map_some, toDs, C.toD, spliceD, appendA, capsOf, srcRows, allLen_nil_iff, allLen_cons_iff, allLen_append_iff, dropC, Obs.fits, eqCs, eqD, mapRow, mapPut, mapVal, mapOne, mapCells]
      rw [← hw1]
      exact loop_back (j + 1) (by simp [setAll]) hjl (by show kids.length - (j + 1) < kids.length - j; omega)
    · obtain rfl : j = kids.length := by omega
      have hWV : varsL kids l = W := by rw [hW, List.take_length]
      rw [hWV]
      exact finK_kill 3 _ (by simp [hilt, Sl.le, A.le_refl_iff, A.le_u_iff, As.lo, A.lo, C.lo, Ref.lo, Cs.lo, Obs.lo, Ob.lo, setAll, and_true, true_and, List.length_nil, List.length_cons]) ⟨trivial, trivial⟩ rfl ⟨rfl, rfl⟩
end Go.Proofs.YtikgpomnibbioaaGreatDoor
