/-
  The variables of terms, in an array of its own.
  Conditions: none.
-/
import Derived.Test.YtikgpomnibbioaaGreatDoorTermW
open Go Go.AM Go.Proofs
namespace Go.Proofs.YtikgpomnibbioaaGreatDoor
open Go.ChangeShapes Go.WideShapes Go.ChangeAt Go.RowKit
set_option linter.unusedVariables false
set_option linter.unusedSimpArgs false
set_option maxRecDepth 100000
-- 90 slices.Index[[]int,int] params 2 ntmps 19
-- loop head live: [0, 1, 7, 8]
def ac90 : Cd := .seq (.region [⟨(some 4), .mv (.k (.c (.d (.int .i64 0)))), none⟩] [4])
  (.seq (.seq (.region [⟨(some 6), .mv (.t 0), none⟩,
        ⟨(some 7), .len 1 (.t 6), none⟩,
        ⟨(some 8), .mv (.k (.c (.d (.int .i64 0)))), none⟩] [6])
    (.block 0 (.loop (.seq (.region [⟨(some 9), .bin .lss (.t 8) (.t 7), none⟩] [])
        (.seq (.cond (.t 9)
            (.skip)
            (.exit 0))
        (.seq (.block 1 (.seq (.region [⟨(some 10), .mv (.t 8), none⟩,
                ⟨(some 5), .mv (.t 10), none⟩] [9, 10])
            (.seq (.region [⟨(some 11), .mv (.t 1), none⟩,
                ⟨(some 12), .mv (.t 0), none⟩,
                ⟨(some 13), .mv (.t 5), none⟩,
                ⟨(some 14), .indexAddr 1 (.t 12) (.t 13), none⟩,
                ⟨(some 15), .load none (.t 14), none⟩,
                ⟨(some 16), .bin .eql (.t 11) (.t 15), none⟩] [11, 12, 13, 14, 15])
            (.cond (.t 16)
              (.seq (.region [⟨(some 17), .mv (.t 5), none⟩,
                  ⟨(some 4), .mv (.t 17), none⟩] [0, 1, 5, 7, 8, 16, 17])
              (.ret))
              (.skip)))))
        (.region [⟨(some 18), .bin .add (.t 8) (.k (.c (.d (.int .i64 1)))), none⟩,
          ⟨(some 8), .mv (.t 18), none⟩] [4, 5, 16, 18])))))))
  (.seq (.region [⟨(some 4), .mv (.k (.c (.d (.int .i64 (-1))))), none⟩] [])
  (.ret)))
theorem ac90_ok : cFunc Tryz.prog [] [(0, [4], []), (1, [6], []), (2, [], []), (3, [9, 10], []), (4, [11, 12, 13, 14, 15], []), (5, [0, 1, 5, 7, 8, 16, 17], []), (6, [4, 5, 16, 18], []), (7, [], [])] Tryz.f90 = some (ac90, [.tmp 4], 19) := by kernel_rfl
-- 71 slices.Contains[[]int,int] params 2 ntmps 9
def ac71 : Cd := .seq (.region [⟨(some 4), .mv (.k (.c (.d (.bool false)))), none⟩] [4])
  (.seq (.region [⟨(some 5), .mv (.t 0), none⟩,
      ⟨(some 6), .mv (.t 1), none⟩,
      ⟨(some 7), .call false 90 [(.t 5), (.t 6)], none⟩,
      ⟨(some 8), .bin .geq (.t 7) (.k (.c (.d (.int .i64 0)))), none⟩,
      ⟨(some 4), .mv (.t 8), none⟩] [0, 1, 5, 6, 7, 8])
  (.ret))
theorem ac71_ok : cFunc Tryz.prog [] [(0, [4], []), (1, [0, 1, 5, 6, 7, 8], [])] Tryz.f71 = some (ac71, [.tmp 4], 9) := by kernel_rfl
theorem indexI_calls (l : List Int) (hl : l.length ≤ 4000000) (s : Int) (H : Heap) : ACalls Tryz.prog 90 [.c (.d (.sl (intRows l))), .c (.d (.int .i64 s))] H (fun r H' => H' = H ∧ ∃ k : Int, r = .c (.d (.int .i64 k)) ∧ decide (0 ≤ k) = l.contains s) := by
  refine acalls Tryz.func90 (by kernel_rfl) ac90_ok fun hf => ?_
  have hli : inR .i64 (l.length : Int) := small_i64 (by omega) (by omega)
  simp -implicitDefEqProofs [ac90, hli, intRows_len, kw, ew, sw, aw_cond, awOps_nil, awOps_cons, awOps_guardE, nx_eq, awOp, -List.set_cons_succ, -List.set_cons_zero, A.ok, A.val, setSl, wrapG, guardB, getB, pickA, binA, binC, binD, cmpD, isCmp, unA, unD, lenA, AOp.total, kills, litB, FinQ, resOks, resOk, resA, resList, resOne, A.thaw, C.thaw, A.fits, As.fits, C.fits, evs, oks, callArgs, A.pure, C.pure, A.re, C.re, fieldAddrA, loadC, cut, A.cells, C.rows?, getOb, newOb, setOb, storeC, splice, Ob.re, Cs.fits, partsA, partsOk, parts2A, parts2Ok, fillC, fillRows, optInt, optOk, sliceA, clipC, optK_some, storeK_some, Option.map_some, toDs, C.toD, spliceD, appendA, capsOf, srcRows, allLen_nil_iff, allLen_cons_iff, allLen_append_iff, dropC, Obs.fits, eqCs, eqD, mapRow, mapPut, mapVal, mapOne, mapCells]
  refine loop_set (σ := Nat) (fun i => [(8, .c (.d (.int .i64 i)))]) (fun _ => H) (fun _ => []) (fun i => i ≤ l.length ∧ s ∉ l.take i) (fun i => l.length - i) 0 rfl ⟨Nat.zero_le _, by simp⟩ ?_
  rintro i ⟨hi, hno⟩
  simp -implicitDefEqProofs [setAll, hli, intRows_len, kw, ew, sw, aw_cond, awOps_nil, awOps_cons, awOps_guardE, nx_eq, awOp, -List.set_cons_succ, -List.set_cons_zero, A.ok, A.val, setSl, wrapG, guardB, getB, pickA, binA, binC, binD, cmpD, isCmp, unA, unD, lenA, AOp.total, kills, litB, FinQ, resOks, resOk, resA, resList, resOne, A.thaw, C.thaw, A.fits, As.fits, C.fits, evs, oks, callArgs, A.pure, C.pure, A.re, C.re, fieldAddrA, loadC, cut, A.cells, C.rows?, getOb, newOb, setOb, storeC, splice, Ob.re, Cs.fits, partsA, partsOk, parts2A, parts2Ok, fillC, fillRows, optInt, optOk, sliceA, clipC, optK_some, storeK_some, Option.map_some, toDs, C.toD, spliceD, appendA, capsOf, srcRows, allLen_nil_iff, allLen_cons_iff, allLen_append_iff, dropC, Obs.fits, eqCs, eqD, mapRow, mapPut, mapVal, mapOne, mapCells]
  refine ⟨fun hlt => ?_, fun hge => ?_⟩
  · refine row_nat [.int .i64 l[i]] (by simp [intRows, hlt]) rfl ?_
    have hadd : inR .i64 ((i : Int) + 1) := small_i64 (by omega) (by omega)
    simp -implicitDefEqProofs [hadd, kw, ew, sw, aw_cond, awOps_nil, awOps_cons, awOps_guardE, nx_eq, awOp, -List.set_cons_succ, -List.set_cons_zero, A.ok, A.val, setSl, wrapG, guardB, getB, pickA, binA, binC, binD, cmpD, isCmp, unA, unD, lenA, AOp.total, kills, litB, FinQ, resOks, resOk, resA, resList, resOne, A.thaw, C.thaw, A.fits, As.fits, C.fits, evs, oks, callArgs, A.pure, C.pure, A.re, C.re, fieldAddrA, loadC, cut, A.cells, C.rows?, getOb, newOb, setOb, storeC, splice, Ob.re, Cs.fits, partsA, partsOk, parts2A, parts2Ok, fillC, fillRows, optInt, optOk, sliceA, clipC, optK_some, storeK_some, Option.map_some, toDs, C.toD, spliceD, appendA, capsOf, srcRows, allLen_nil_iff, allLen_cons_iff, allLen_append_iff, dropC, Obs.fits, eqCs, eqD, mapRow, mapPut, mapVal, mapOne, mapCells]
    refine ⟨fun h => ?_, fun h => ?_⟩
    · subst h; exact List.getElem_mem hlt
    · refine loop_back (i + 1) (by simp [setAll]) ⟨hlt, ?_⟩ (by show l.length - (i + 1) < l.length - i; omega)
      rw [List.take_succ_eq_append_getElem hlt, List.mem_append]
      rintro (h' | h')
      · exact hno h'
      · simp at h'; exact h h'
  · rw [List.take_of_length_le hge] at hno
    simp [hno]
theorem containsI_calls (l : List Int) (hl : l.length ≤ 4000000) (s : Int) (H : Heap) : ACalls Tryz.prog 71 [.c (.d (.sl (intRows l))), .c (.d (.int .i64 s))] H (fun r H' => H' = H ∧ r = .c (.d (.bool (l.contains s)))) := by
  refine acalls Tryz.func71 (by kernel_rfl) ac71_ok fun hf => ?_
  simp -implicitDefEqProofs [ac71, kw, ew, sw, aw_cond, awOps_nil, awOps_cons, awOps_guardE, nx_eq, awOp, -List.set_cons_succ, -List.set_cons_zero, A.ok, A.val, setSl, wrapG, guardB, getB, pickA, binA, binC, binD, cmpD, isCmp, unA, unD, lenA, AOp.total, kills, litB, FinQ, resOks, resOk, resA, resList, resOne, A.thaw, C.thaw, A.fits, As.fits, C.fits, evs, oks, callArgs, A.pure, C.pure, A.re, C.re, fieldAddrA, loadC, cut, A.cells, C.rows?, getOb, newOb, setOb, storeC, splice, Ob.re, Cs.fits, partsA, partsOk, parts2A, parts2Ok, fillC, fillRows, optInt, optOk, sliceA, clipC, optK_some, storeK_some, Option.map_some, toDs, C.toD, spliceD, appendA, capsOf, srcRows, allLen_nil_iff, allLen_cons_iff, allLen_append_iff, dropC, Obs.fits, eqCs, eqD, mapRow, mapPut, mapVal, mapOne, mapCells]
  refine call_some (indexI_calls l hl s _) (by simp) (fun r ⟨k, hk, _⟩ => by subst hk; rfl) hf ?_
  rintro _ ⟨k, rfl, hk⟩
  simp -implicitDefEqProofs [kw, ew, sw, aw_cond, awOps_nil, awOps_cons, awOps_guardE, nx_eq, awOp, -List.set_cons_succ, -List.set_cons_zero, A.ok, A.val, setSl, wrapG, guardB, getB, pickA, binA, binC, binD, cmpD, isCmp, unA, unD, lenA, AOp.total, kills, litB, FinQ, resOks, resOk, resA, resList, resOne, A.thaw, C.thaw, A.fits, As.fits, C.fits, evs, oks, callArgs, A.pure, C.pure, A.re, C.re, fieldAddrA, loadC, cut, A.cells, C.rows?, getOb, newOb, setOb, storeC, splice, Ob.re, Cs.fits, partsA, partsOk, parts2A, parts2Ok, fillC, fillRows, optInt, optOk, sliceA, clipC, optK_some, storeK_some, Option.map_some, toDs, C.toD, spliceD, appendA, capsOf, srcRows, allLen_nil_iff, allLen_cons_iff, allLen_append_iff, dropC, Obs.fits, eqCs, eqD, mapRow, mapPut, mapVal, mapOne, mapCells]
  simpa using hk
-- 46 loop.example/prologserver/impl.addVars params 2 ntmps 34
-- loop head live: [1, 23, 24, 25]
def ac46 : Cd := .seq (.region [⟨(some 2), .box (.t 0), none⟩,
      ⟨(some 4), .mv (.k (.c (.full []))), none⟩] [0, 4])
  (.seq (.seq (.region [⟨(some 7), .fieldAddr 0 (.t 2), none⟩,
        ⟨(some 8), .load none (.t 7), none⟩,
        ⟨(some 9), .bin .eql (.t 8) (.k (.c (.d (.int .i64 1)))), none⟩,
        ⟨(some 10), .mv (.t 9), none⟩,
        ⟨(some 11), .mv (.t 1), some (10, true)⟩,
        ⟨(some 12), .fieldAddr 1 (.t 2), some (10, true)⟩,
        ⟨(some 13), .load none (.t 12), some (10, true)⟩,
        ⟨(some 14), .qcall 71 [(.t 11), (.t 13)], some (10, true)⟩,
        ⟨(some 15), .un .not (.t 14), some (10, true)⟩,
        ⟨(some 16), .pick (.t 10) (.t 15) (.k (.c (.d (.bool false)))), none⟩] [7, 8, 9, 10, 11, 12, 13, 14, 15])
    (.cond (.t 16)
      (.region [⟨(some 17), .mv (.t 1), none⟩,
        ⟨(some 18), .fieldAddr 1 (.t 2), none⟩,
        ⟨(some 19), .load none (.t 18), none⟩,
        ⟨(some 20), .buildSlice 1 1 [(.int .i64 0)] [(0, (.t 19))], none⟩,
        ⟨(some 21), .append false 1 (.t 17) (.t 20), none⟩,
        ⟨(some 1), .mv (.t 21), none⟩] [16, 17, 18, 19, 20, 21])
      (.skip)))
  (.seq (.seq (.region [⟨(some 22), .fieldAddr 3 (.t 2), none⟩,
        ⟨(some 23), .load none (.t 22), none⟩,
        ⟨(some 24), .len 1 (.t 23), none⟩,
        ⟨(some 25), .mv (.k (.c (.d (.int .i64 0)))), none⟩] [2, 16, 22])
    (.block 0 (.loop (.seq (.region [⟨(some 26), .bin .lss (.t 25) (.t 24), none⟩] [])
        (.seq (.cond (.t 26)
            (.skip)
            (.exit 0))
        (.seq (.block 1 (.seq (.region [⟨(some 27), .indexAddr 4 (.t 23) (.t 25), none⟩,
                ⟨(some 28), .load (some 4) (.t 27), none⟩,
                ⟨(some 6), .alloc [(.d (.int .i64 0)), (.d (.int .i64 0)), (.d (.str [])), (.full [])], none⟩,
                ⟨none, .store 4 (.t 6) (.t 28), none⟩] [26, 27, 28])
            (.region [⟨(some 29), .load (some 4) (.t 6), none⟩,
              ⟨(some 30), .mv (.t 1), none⟩,
              ⟨(some 31), .call true 46 [(.t 29), (.t 30)], none⟩,
              ⟨(some 1), .mv (.t 31), none⟩] [6, 29, 30, 31])))
        (.region [⟨(some 32), .bin .add (.t 25) (.k (.c (.d (.int .i64 1)))), none⟩,
          ⟨(some 25), .mv (.t 32), none⟩] [32])))))))
  (.seq (.region [⟨(some 33), .mv (.t 1), none⟩,
      ⟨(some 4), .mv (.t 33), none⟩] [1, 33])
  (.ret))))
theorem ac46_ok : cFunc Tryz.prog [46, 1000071] [(0, [0, 4], []), (1, [7, 8, 9, 10, 11, 12, 13, 14, 15], []), (2, [16, 17, 18, 19, 20, 21], []), (3, [2, 16, 22], []), (4, [], []), (5, [26, 27, 28], []), (6, [6, 29, 30, 31], []), (7, [32], []), (8, [1, 33], [])] Tryz.f46 = some (ac46, [.tmp 4], 34) := by kernel_rfl
def addI (l : List Int) (n : Int) : List Int := if l.contains n then l else l ++ [n]
theorem addI_len (l : List Int) (n : Int) : (addI l n).length ≤ l.length + 1 := by unfold addI; split <;> simp
mutual
/-- the variables of a term behind others -/
def Tm.vars : Tm → List Int → List Int
  | .mk k n _ kids, l => varsL kids (if k = 1 then addI l n else l)
def varsL : List Tm → List Int → List Int
  | [], l => l
  | t :: ts, l => varsL ts (t.vars l)
end
theorem vars_mk (k n : Int) (s : List UInt8) (kids : List Tm) (l : List Int) : (Tm.mk k n s kids).vars l = varsL kids (if k = 1 then addI l n else l) := by rw [Tm.vars]
theorem varsL_nil (l : List Int) : varsL [] l = l := by rw [varsL]
theorem varsL_cons (t : Tm) (ts : List Tm) (l : List Int) : varsL (t :: ts) l = varsL ts (t.vars l) := by rw [varsL]
theorem varsL_append (a b : List Tm) (l : List Int) : varsL (a ++ b) l = varsL b (varsL a l) := by
  induction a generalizing l with
  | nil => rw [List.nil_append, varsL_nil]
  | cons t a ih => rw [List.cons_append, varsL_cons, varsL_cons, ih]
theorem varsL_succ (ts : List Tm) (l : List Int) {i : Nat} (h : i < ts.length) : varsL (ts.take (i + 1)) l = ts[i].vars (varsL (ts.take i) l) := by
  rw [List.take_succ_eq_append_getElem h, varsL_append, varsL_cons, varsL_nil]
theorem vars_len : ∀ (t : Tm) (l : List Int), (t.vars l).length ≤ l.length + 1 + t.sub := by
  refine Tm.ind fun k n s kids ih l => ?_
  have hL : ∀ (ts : List Tm), (∀ t ∈ ts, ∀ l, (t.vars l).length ≤ l.length + 1 + t.sub) → ∀ l, (varsL ts l).length ≤ l.length + Tm.cnt ts := by
    intro ts
    induction ts with
    | nil => intro _ l; rw [varsL_nil]; omega
    | cons t ts ih2 =>
      intro h l
      rw [varsL_cons, cnt_cons]
      have h1 := ih2 (fun t ht => h t (by simp [ht])) (t.vars l)
      have h2 := h t (by simp) l
      omega
  rw [vars_mk, sub_mk]
  have h1 := hL kids ih (if k = 1 then addI l n else l)
  have h2 : (if k = 1 then addI l n else l).length ≤ l.length + 1 := by
    split
    · exact addI_len l n
    · omega
  omega
theorem varsL_len (ts : List Tm) (l : List Int) : (varsL ts l).length ≤ l.length + Tm.cnt ts := by
  induction ts generalizing l with
  | nil => rw [varsL_nil]; omega
  | cons t ts ih =>
    rw [varsL_cons, cnt_cons]
    have h1 := ih (t.vars l)
    have h2 := vars_len t l
    omega
theorem slr : ∀ l : List A, Sl.le l l
  | [] => trivial
  | a :: l => ⟨.refl a, slr l⟩
/-- the end of a function whose own objects are of no account -/
theorem finK_cut {rs : List Rv} {Q : A → Heap → Prop} {sl : List A} {ext loc : Heap} (r : A) (hlo : As.lo ext.length 0 sl) (hok : resOks ⟨sl, ext, []⟩ rs) (hr : resRaw ⟨sl, ext, []⟩ rs = some r) (hq : Q (r.re ext.length) ext) : FinK rs Q .ret ⟨sl, ext, loc⟩ :=
  ⟨⟨sl, ext, []⟩, St.le_cut loc (slr sl) hlo rfl trivial, hok, r, hr, by simpa using hq⟩
/-- a call that adds the variables of a term -/
def AddV (t : Tm) : Prop := ∀ (l : List Int) (H : Heap) (i : Nat), H[i]? = some (.grow l.length 1) → l.length + t.sub ≤ 3000000 → ACalls Tryz.prog 46 [.agg (t.row.map .d), .c (.own (.e i) l.length (intRows l))] H
  (fun r H' => H' = H.set i (.grow (t.vars l).length 1) ∧ r = .c (.own (.e i) (t.vars l).length (intRows (t.vars l))))
theorem call_addE {P : Program} {f : FuncId} {args : List A} {sl : List A} {ext loc H₂ : Heap} {i : Nat} {g : Ob} {r : A} {K : A → St → Prop} (hc : ACalls P f args H₂ (fun r' H' => H' = H₂.set i g ∧ r' = r)) (hg : g.fits ext.length 0) (hi : i < ext.length) (hr : A.re ext.length r = r)
    (hf : Obs.fits ext.length 0 ext) (hH : H₂ = ext ++ loc.map (Ob.re ext.length)) (hk : K r ⟨sl, ext.set i g, loc⟩) : ACalls P f args H₂ (CallK K ⟨sl, ext, loc⟩) := by
  subst hH
  refine hc.mono fun r' H' ⟨h1, h2⟩ => ⟨ext.set i g, loc, r, ?_, by simp, Nat.le_refl _, Obs_fits_set hf hg, by rw [h2, hr], hk⟩
  rw [h1, List.set_append_left _ _ hi]
theorem addVars_calls : ∀ t : Tm, t.fits → AddV t := by
  refine Tm.ind fun k n s kids ih hfits l H i hgi hlen => ?_
  obtain ⟨hk, hn, hs, hl, hkids⟩ := hfits
  rw [sub_mk] at hlen
  have hgd : H.getD i .dead = .grow l.length 1 := by simp [List.getD, hgi]
  have hilt : i < H.length := (List.getElem?_eq_some_iff.1 hgi).1
  have hli : inR .i64 (kids.length : Int) := small_i64 (by omega) (by omega)
  refine acallsK Tryz.func46 (by kernel_rfl) ac46_ok fun hf => ?_
  simp -implicitDefEqProofs [ac46, row_mk, hli, kw, ew, sw, aw_cond, awOps_nil, awOps_cons, awOps_guardE, nx_eq, awOp, -List.set_cons_succ, -List.set_cons_zero, A.ok, A.val, setSl, wrapG, guardB, getB, pickA, binA, binC, binD, cmpD, isCmp, unA, unD, lenA, AOp.total, kills, litB, FinQ, resOks, resOk, resA, resList, resOne, A.thaw, C.thaw, A.fits, As.fits, C.fits, evs, oks, callArgs, A.pure, C.pure, A.re, C.re, fieldAddrA, loadC, cut, A.cells, C.rows?, getOb, newOb, setOb, storeC, splice, Ob.re, Cs.fits, partsA, partsOk, parts2A, parts2Ok, fillC, fillRows, optInt, optOk, sliceA, clipC, optK_some, storeK_some, Option.map_some, toDs, C.toD, spliceD, appendA, capsOf, srcRows, allLen_nil_iff, allLen_cons_iff, allLen_append_iff, dropC, Obs.fits, eqCs, eqD, mapRow, mapPut, mapVal, mapOne, mapCells]
  have hself : H.set i (.grow l.length 1) = H := by
    refine List.ext_getElem? fun j => ?_
    by_cases hj : j = i
    · subst hj; rw [List.getElem?_set_self hilt, hgi]
    · rw [List.getElem?_set_ne (fun h => hj h.symm)]
  refine ⟨fun hk1 => ⟨hk1, ?_⟩, fun hk1 => ?_⟩
  · refine qcall_pure (containsI_calls l (by omega) n) hf rfl ?_
    obtain rfl := hk1
    cases hc : l.contains n with
    | true =>
      simp -implicitDefEqProofs [hc, hli, kw, ew, sw, aw_cond, awOps_nil, awOps_cons, awOps_guardE, nx_eq, awOp, -List.set_cons_succ, -List.set_cons_zero, A.ok, A.val, setSl, wrapG, guardB, getB, pickA, binA, binC, binD, cmpD, isCmp, unA, unD, lenA, AOp.total, kills, litB, FinQ, resOks, resOk, resA, resList, resOne, A.thaw, C.thaw, A.fits, As.fits, C.fits, evs, oks, callArgs, A.pure, C.pure, A.re, C.re, fieldAddrA, loadC, cut, A.cells, C.rows?, getOb, newOb, setOb, storeC, splice, Ob.re, Cs.fits, partsA, partsOk, parts2A, parts2Ok, fillC, fillRows, optInt, optOk, sliceA, clipC, optK_some, storeK_some, Option.map_some, toDs, C.toD, spliceD, appendA, capsOf, srcRows, allLen_nil_iff, allLen_cons_iff, allLen_append_iff, dropC, Obs.fits, eqCs, eqD, mapRow, mapPut, mapVal, mapOne, mapCells]
      have HL1 : (l).length + Tm.cnt kids ≤ 3000001 := by omega
      have HV1 : varsL kids (if (1 : Int) = 1 then addI l n else l) = varsL kids (l) := by simp [addI]; simp at hc; simp [hc]
      refine loop_set (σ := Nat) (fun j => [(25, .c (.d (.int .i64 j))), (1, .c (.own (.e i) (varsL (kids.take j) (l)).length (intRows (varsL (kids.take j) (l)))))]) (fun j => H.set i (.grow (varsL (kids.take j) (l)).length 1)) (fun _ => [.cells [.d (.int .i64 1), .d (.int .i64 n), .d (.str s), .d (.sl (kids.map Tm.row))]]) (fun j => j ≤ kids.length) (fun j => kids.length - j) 0 (by simp [setAll, varsL_nil, hself, intRows]) (Nat.zero_le _) ?_
      intro j hj
      obtain ⟨W, hW⟩ : ∃ W, W = varsL (kids.take j) l := ⟨_, rfl⟩
      have hWl : W.length ≤ 3000001 := by
        have h1 := varsL_len (kids.take j) (l)
        have h2 := cnt_take_le kids j
        rw [hW]; omega
      have hWH : (H.set i (.grow W.length 1))[i]? = some (.grow W.length 1) := List.getElem?_set_self hilt
      have hfW : Obs.fits (H.set i (.grow W.length 1)).length 0 (H.set i (.grow W.length 1)) := by rw [List.length_set]; exact Obs_fits_set hf trivial
      rw [← hW]
      simp -implicitDefEqProofs [setAll, hli, kw, ew, sw, aw_cond, awOps_nil, awOps_cons, awOps_guardE, nx_eq, awOp, -List.set_cons_succ, -List.set_cons_zero, A.ok, A.val, setSl, wrapG, guardB, getB, pickA, binA, binC, binD, cmpD, isCmp, unA, unD, lenA, AOp.total, kills, litB, FinQ, resOks, resOk, resA, resList, resOne, A.thaw, C.thaw, A.fits, As.fits, C.fits, evs, oks, callArgs, A.pure, C.pure, A.re, C.re, fieldAddrA, loadC, cut, A.cells, C.rows?, getOb, newOb, setOb, storeC, splice, Ob.re, Cs.fits, partsA, partsOk, parts2A, parts2Ok, fillC, fillRows, optInt, optOk, sliceA, clipC, optK_some, storeK_some, Option.map_some, toDs, C.toD, spliceD, appendA, capsOf, srcRows, allLen_nil_iff, allLen_cons_iff, allLen_append_iff, dropC, Obs.fits, eqCs, eqD, mapRow, mapPut, mapVal, mapOne, mapCells]
      refine ⟨fun hjl => ?_, fun hje => ?_⟩
      · have hadd : inR .i64 ((j : Int) + 1) := small_i64 (by omega) (by omega)
        have hw1 := varsL_succ kids (l) hjl
        rw [← hW] at hw1
        have hs1 := cnt_take_sub kids hjl
        have hWb : W.length + kids[j].sub ≤ 3000000 := by
          have h1 := varsL_len (kids.take j) (l)
          rw [hW]; omega
        refine row_of hjl (row_len _) ?_
        simp -implicitDefEqProofs [row_len, take_row, pure_d, re_d, kw, ew, sw, aw_cond, awOps_nil, awOps_cons, awOps_guardE, nx_eq, awOp, -List.set_cons_succ, -List.set_cons_zero, A.ok, A.val, setSl, wrapG, guardB, getB, pickA, binA, binC, binD, cmpD, isCmp, unA, unD, lenA, AOp.total, kills, litB, FinQ, resOks, resOk, resA, resList, resOne, A.thaw, C.thaw, A.fits, As.fits, C.fits, evs, oks, callArgs, A.pure, C.pure, A.re, C.re, fieldAddrA, loadC, cut, A.cells, C.rows?, getOb, newOb, setOb, storeC, splice, Ob.re, Cs.fits, partsA, partsOk, parts2A, parts2Ok, fillC, fillRows, optInt, optOk, sliceA, clipC, optK_some, storeK_some, Option.map_some, toDs, C.toD, spliceD, appendA, capsOf, srcRows, allLen_nil_iff, allLen_cons_iff, allLen_append_iff, dropC, Obs.fits, eqCs, eqD, mapRow, mapPut, mapVal, mapOne, mapCells]
        refine ⟨by simpa using hfW, ?_⟩
        refine call_addE (i := i) (ih kids[j] (List.getElem_mem hjl) (hkids _ (List.getElem_mem hjl)) W _ i (by rw [List.getElem?_append_left (by simpa using hilt)]; exact hWH) hWb) trivial (by simpa using hilt) rfl (by simpa using hfW) (by simp [Ob.re, C.re, re_d]) ?_
        simp -implicitDefEqProofs [hadd, kw, ew, sw, aw_cond, awOps_nil, awOps_cons, awOps_guardE, nx_eq, awOp, -List.set_cons_succ, -List.set_cons_zero, A.ok, A.val, setSl, wrapG, guardB, getB, pickA, binA, binC, binD, cmpD, isCmp, unA, unD, lenA, AOp.total, kills, litB, FinQ, resOks, resOk, resA, resList, resOne, A.thaw, C.thaw, A.fits, As.fits, C.fits, evs, oks, callArgs, A.pure, C.pure, A.re, C.re, fieldAddrA, loadC, cut, A.cells, C.rows?, getOb, newOb, setOb, storeC, splice, Ob.re, Cs.fits, partsA, partsOk, parts2A, parts2Ok, fillC, fillRows, optInt, optOk, sliceA, clipC, optK_some, storeK_some, Option.map_some, toDs, C.toD, spliceD, appendA, capsOf, srcRows, allLen_nil_iff, allLen_cons_iff, allLen_append_iff, dropC, Obs.fits, eqCs, eqD, mapRow, mapPut, mapVal, mapOne, mapCells]
        rw [← hw1]
        refine loop_less (j + 1) (St.le_cut [_] ?_ (by simp [hilt, Sl.le, A.le_refl_iff, A.le_u_iff, As.lo, A.lo, C.lo, Ref.lo, Cs.lo, Obs.lo, Ob.lo, setAll, and_true, true_and, List.length_nil, List.length_cons]) rfl ⟨⟨trivial, trivial, trivial, trivial, trivial⟩, trivial⟩) hjl (by show kids.length - (j + 1) < kids.length - j; omega)
        simp [setAll, Sl.le, A.le_refl_iff, A.le_u_iff, As.lo, A.lo, C.lo, Ref.lo, Cs.lo, Obs.lo, Ob.lo, setAll, and_true, true_and, List.length_nil, List.length_cons]
      · obtain rfl : j = kids.length := by omega
        have hWV : (Tm.mk 1 n s kids).vars l = W := by rw [vars_mk, hW, List.take_length]; exact HV1
        rw [hWV]
        exact finK_cut _ (by simp [hilt, Sl.le, A.le_refl_iff, A.le_u_iff, As.lo, A.lo, C.lo, Ref.lo, Cs.lo, Obs.lo, Ob.lo, setAll, and_true, true_and, List.length_nil, List.length_cons]) ⟨trivial, trivial⟩ rfl ⟨rfl, rfl⟩
    | false =>
      simp -implicitDefEqProofs [hc, hli, hgi, allLen_ints, kw, ew, sw, aw_cond, awOps_nil, awOps_cons, awOps_guardE, nx_eq, awOp, -List.set_cons_succ, -List.set_cons_zero, A.ok, A.val, setSl, wrapG, guardB, getB, pickA, binA, binC, binD, cmpD, isCmp, unA, unD, lenA, AOp.total, kills, litB, FinQ, resOks, resOk, resA, resList, resOne, A.thaw, C.thaw, A.fits, As.fits, C.fits, evs, oks, callArgs, A.pure, C.pure, A.re, C.re, fieldAddrA, loadC, cut, A.cells, C.rows?, getOb, newOb, setOb, storeC, splice, Ob.re, Cs.fits, partsA, partsOk, parts2A, parts2Ok, fillC, fillRows, optInt, optOk, sliceA, clipC, optK_some, storeK_some, Option.map_some, toDs, C.toD, spliceD, appendA, capsOf, srcRows, allLen_nil_iff, allLen_cons_iff, allLen_append_iff, dropC, Obs.fits, eqCs, eqD, mapRow, mapPut, mapVal, mapOne, mapCells]
      refine ⟨by rw [intRows_len]; unfold maxApp; omega, ?_⟩
      have HL1 : (l ++ [n]).length + Tm.cnt kids ≤ 3000001 := by simp; omega
      have HV1 : varsL kids (if (1 : Int) = 1 then addI l n else l) = varsL kids (l ++ [n]) := by simp [addI]; simp at hc; simp [hc]
      refine loop_set (σ := Nat) (fun j => [(25, .c (.d (.int .i64 j))), (1, .c (.own (.e i) (varsL (kids.take j) (l ++ [n])).length (intRows (varsL (kids.take j) (l ++ [n])))))]) (fun j => H.set i (.grow (varsL (kids.take j) (l ++ [n])).length 1)) (fun _ => [.cells [.d (.int .i64 1), .d (.int .i64 n), .d (.str s), .d (.sl (kids.map Tm.row))]]) (fun j => j ≤ kids.length) (fun j => kids.length - j) 0 (by simp [setAll, varsL_nil, hself, intRows]) (Nat.zero_le _) ?_
      intro j hj
      obtain ⟨W, hW⟩ : ∃ W, W = varsL (kids.take j) (l ++ [n]) := ⟨_, rfl⟩
      have hWl : W.length ≤ 3000001 := by
        have h1 := varsL_len (kids.take j) (l ++ [n])
        have h2 := cnt_take_le kids j
        rw [hW]; omega
      have hWH : (H.set i (.grow W.length 1))[i]? = some (.grow W.length 1) := List.getElem?_set_self hilt
      have hfW : Obs.fits (H.set i (.grow W.length 1)).length 0 (H.set i (.grow W.length 1)) := by rw [List.length_set]; exact Obs_fits_set hf trivial
      rw [← hW]
      simp -implicitDefEqProofs [setAll, hli, kw, ew, sw, aw_cond, awOps_nil, awOps_cons, awOps_guardE, nx_eq, awOp, -List.set_cons_succ, -List.set_cons_zero, A.ok, A.val, setSl, wrapG, guardB, getB, pickA, binA, binC, binD, cmpD, isCmp, unA, unD, lenA, AOp.total, kills, litB, FinQ, resOks, resOk, resA, resList, resOne, A.thaw, C.thaw, A.fits, As.fits, C.fits, evs, oks, callArgs, A.pure, C.pure, A.re, C.re, fieldAddrA, loadC, cut, A.cells, C.rows?, getOb, newOb, setOb, storeC, splice, Ob.re, Cs.fits, partsA, partsOk, parts2A, parts2Ok, fillC, fillRows, optInt, optOk, sliceA, clipC, optK_some, storeK_some, Option.map_some, toDs, C.toD, spliceD, appendA, capsOf, srcRows, allLen_nil_iff, allLen_cons_iff, allLen_append_iff, dropC, Obs.fits, eqCs, eqD, mapRow, mapPut, mapVal, mapOne, mapCells]
      refine ⟨fun hjl => ?_, fun hje => ?_⟩
      · have hadd : inR .i64 ((j : Int) + 1) := small_i64 (by omega) (by omega)
        have hw1 := varsL_succ kids (l ++ [n]) hjl
        rw [← hW] at hw1
        have hs1 := cnt_take_sub kids hjl
        have hWb : W.length + kids[j].sub ≤ 3000000 := by
          have h1 := varsL_len (kids.take j) (l ++ [n])
          rw [hW]; omega
        refine row_of hjl (row_len _) ?_
        simp -implicitDefEqProofs [row_len, take_row, pure_d, re_d, kw, ew, sw, aw_cond, awOps_nil, awOps_cons, awOps_guardE, nx_eq, awOp, -List.set_cons_succ, -List.set_cons_zero, A.ok, A.val, setSl, wrapG, guardB, getB, pickA, binA, binC, binD, cmpD, isCmp, unA, unD, lenA, AOp.total, kills, litB, FinQ, resOks, resOk, resA, resList, resOne, A.thaw, C.thaw, A.fits, As.fits, C.fits, evs, oks, callArgs, A.pure, C.pure, A.re, C.re, fieldAddrA, loadC, cut, A.cells, C.rows?, getOb, newOb, setOb, storeC, splice, Ob.re, Cs.fits, partsA, partsOk, parts2A, parts2Ok, fillC, fillRows, optInt, optOk, sliceA, clipC, optK_some, storeK_some, Option.map_some, toDs, C.toD, spliceD, appendA, capsOf, srcRows, allLen_nil_iff, allLen_cons_iff, allLen_append_iff, dropC, Obs.fits, eqCs, eqD, mapRow, mapPut, mapVal, mapOne, mapCells]
        refine ⟨by simpa using hfW, ?_⟩
        refine call_addE (i := i) (ih kids[j] (List.getElem_mem hjl) (hkids _ (List.getElem_mem hjl)) W _ i (by rw [List.getElem?_append_left (by simpa using hilt)]; exact hWH) hWb) trivial (by simpa using hilt) rfl (by simpa using hfW) (by simp [Ob.re, C.re, re_d]) ?_
        simp -implicitDefEqProofs [hadd, kw, ew, sw, aw_cond, awOps_nil, awOps_cons, awOps_guardE, nx_eq, awOp, -List.set_cons_succ, -List.set_cons_zero, A.ok, A.val, setSl, wrapG, guardB, getB, pickA, binA, binC, binD, cmpD, isCmp, unA, unD, lenA, AOp.total, kills, litB, FinQ, resOks, resOk, resA, resList, resOne, A.thaw, C.thaw, A.fits, As.fits, C.fits, evs, oks, callArgs, A.pure, C.pure, A.re, C.re, fieldAddrA, loadC, cut, A.cells, C.rows?, getOb, newOb, setOb, storeC, splice, Ob.re, Cs.fits, partsA, partsOk, parts2A, parts2Ok, fillC, fillRows, optInt, optOk, sliceA, clipC, optK_some, storeK_some, Option.map_some, toDs, C.toD, spliceD, appendA, capsOf, srcRows, allLen_nil_iff, allLen_cons_iff, allLen_append_iff, dropC, Obs.fits, eqCs, eqD, mapRow, mapPut, mapVal, mapOne, mapCells]
        rw [← hw1]
        refine loop_less (j + 1) (St.le_cut [_] ?_ (by simp [hilt, Sl.le, A.le_refl_iff, A.le_u_iff, As.lo, A.lo, C.lo, Ref.lo, Cs.lo, Obs.lo, Ob.lo, setAll, and_true, true_and, List.length_nil, List.length_cons]) rfl ⟨⟨trivial, trivial, trivial, trivial, trivial⟩, trivial⟩) hjl (by show kids.length - (j + 1) < kids.length - j; omega)
        simp [setAll, Sl.le, A.le_refl_iff, A.le_u_iff, As.lo, A.lo, C.lo, Ref.lo, Cs.lo, Obs.lo, Ob.lo, setAll, and_true, true_and, List.length_nil, List.length_cons]
      · obtain rfl : j = kids.length := by omega
        have hWV : (Tm.mk 1 n s kids).vars l = W := by rw [vars_mk, hW, List.take_length]; exact HV1
        rw [hWV]
        exact finK_cut _ (by simp [hilt, Sl.le, A.le_refl_iff, A.le_u_iff, As.lo, A.lo, C.lo, Ref.lo, Cs.lo, Obs.lo, Ob.lo, setAll, and_true, true_and, List.length_nil, List.length_cons]) ⟨trivial, trivial⟩ rfl ⟨rfl, rfl⟩
  · have HL1 : (l).length + Tm.cnt kids ≤ 3000001 := by omega
    have HV1 : varsL kids (if k = 1 then addI l n else l) = varsL kids (l) := by rw [if_neg hk1]
    refine loop_set (σ := Nat) (fun j => [(25, .c (.d (.int .i64 j))), (1, .c (.own (.e i) (varsL (kids.take j) l).length (intRows (varsL (kids.take j) l))))]) (fun j => H.set i (.grow (varsL (kids.take j) l).length 1)) (fun _ => [.cells [.d (.int .i64 k), .d (.int .i64 n), .d (.str s), .d (.sl (kids.map Tm.row))]]) (fun j => j ≤ kids.length) (fun j => kids.length - j) 0 (by simp [setAll, varsL_nil, hself, intRows]) (Nat.zero_le _) ?_
    intro j hj
    obtain ⟨W, hW⟩ : ∃ W, W = varsL (kids.take j) l := ⟨_, rfl⟩
    have hWl : W.length ≤ 3000001 := by
      have h1 := varsL_len (kids.take j) l
      have h2 := cnt_take_le kids j
      rw [hW]; omega
    have hWH : (H.set i (.grow W.length 1))[i]? = some (.grow W.length 1) := List.getElem?_set_self hilt
    have hfW : Obs.fits (H.set i (.grow W.length 1)).length 0 (H.set i (.grow W.length 1)) := by rw [List.length_set]; exact Obs_fits_set hf trivial
    rw [← hW]
    simp -implicitDefEqProofs [setAll, hli, kw, ew, sw, aw_cond, awOps_nil, awOps_cons, awOps_guardE, nx_eq, awOp, -List.set_cons_succ, -List.set_cons_zero, A.ok, A.val, setSl, wrapG, guardB, getB, pickA, binA, binC, binD, cmpD, isCmp, unA, unD, lenA, AOp.total, kills, litB, FinQ, resOks, resOk, resA, resList, resOne, A.thaw, C.thaw, A.fits, As.fits, C.fits, evs, oks, callArgs, A.pure, C.pure, A.re, C.re, fieldAddrA, loadC, cut, A.cells, C.rows?, getOb, newOb, setOb, storeC, splice, Ob.re, Cs.fits, partsA, partsOk, parts2A, parts2Ok, fillC, fillRows, optInt, optOk, sliceA, clipC, optK_some, storeK_some, Option.map_some, toDs, C.toD, spliceD, appendA, capsOf, srcRows, allLen_nil_iff, allLen_cons_iff, allLen_append_iff, dropC, Obs.fits, eqCs, eqD, mapRow, mapPut, mapVal, mapOne, mapCells]
    refine ⟨fun hjl => ?_, fun hje => ?_⟩
    · have hadd : inR .i64 ((j : Int) + 1) := small_i64 (by omega) (by omega)
      have hw1 := varsL_succ kids l hjl
      rw [← hW] at hw1
      have hs1 := cnt_take_sub kids hjl
      have hWb : W.length + kids[j].sub ≤ 3000000 := by
        have h1 := varsL_len (kids.take j) l
        rw [hW]; omega
      refine row_of hjl (row_len _) ?_
      simp -implicitDefEqProofs [row_len, take_row, pure_d, re_d, kw, ew, sw, aw_cond, awOps_nil, awOps_cons, awOps_guardE, nx_eq, awOp, -List.set_cons_succ, -List.set_cons_zero, A.ok, A.val, setSl, wrapG, guardB, getB, pickA, binA, binC, binD, cmpD, isCmp, unA, unD, lenA, AOp.total, kills, litB, FinQ, resOks, resOk, resA, resList, resOne, A.thaw, C.thaw, A.fits, As.fits, C.fits, evs, oks, callArgs, A.pure, C.pure, A.re, C.re, fieldAddrA, loadC, cut, A.cells, C.rows?, getOb, newOb, setOb, storeC, splice, Ob.re, Cs.fits, partsA, partsOk, parts2A, parts2Ok, fillC, fillRows, optInt, optOk, sliceA, clipC, optK_some, storeK_some, Option.map_some, toDs, C.toD, spliceD, appendA, capsOf, srcRows, allLen_nil_iff, allLen_cons_iff, allLen_append_iff, dropC, Obs.fits, eqCs, eqD, mapRow, mapPut, mapVal, mapOne, mapCells]
      refine ⟨by simpa using hfW, ?_⟩
      refine call_addE (i := i) (ih kids[j] (List.getElem_mem hjl) (hkids _ (List.getElem_mem hjl)) W _ i (by rw [List.getElem?_append_left (by simpa using hilt)]; exact hWH) hWb) trivial (by simpa using hilt) rfl (by simpa using hfW) (by simp [Ob.re, C.re, re_d]) ?_
      simp -implicitDefEqProofs [hadd, kw, ew, sw, aw_cond, awOps_nil, awOps_cons, awOps_guardE, nx_eq, awOp, -List.set_cons_succ, -List.set_cons_zero, A.ok, A.val, setSl, wrapG, guardB, getB, pickA, binA, binC, binD, cmpD, isCmp, unA, unD, lenA, AOp.total, kills, litB, FinQ, resOks, resOk, resA, resList, resOne, A.thaw, C.thaw, A.fits, As.fits, C.fits, evs, oks, callArgs, A.pure, C.pure, A.re, C.re, fieldAddrA, loadC, cut, A.cells, C.rows?, getOb, newOb, setOb, storeC, splice, Ob.re, Cs.fits, partsA, partsOk, parts2A, parts2Ok, fillC, fillRows, optInt, optOk, sliceA, clipC, optK_some, storeK_some, Option.map_some, toDs, C.toD, spliceD, appendA, capsOf, srcRows, allLen_nil_iff, allLen_cons_iff, allLen_append_iff, dropC, Obs.fits, eqCs, eqD, mapRow, mapPut, mapVal, mapOne, mapCells]
      rw [← hw1]
      refine loop_less (j + 1) (St.le_cut [_] ?_ (by simp [hilt, Sl.le, A.le_refl_iff, A.le_u_iff, As.lo, A.lo, C.lo, Ref.lo, Cs.lo, Obs.lo, Ob.lo, setAll, and_true, true_and, List.length_nil, List.length_cons]) rfl ⟨⟨trivial, trivial, trivial, trivial, trivial⟩, trivial⟩) hjl (by show kids.length - (j + 1) < kids.length - j; omega)
      simp [setAll, Sl.le, A.le_refl_iff, A.le_u_iff, As.lo, A.lo, C.lo, Ref.lo, Cs.lo, Obs.lo, Ob.lo, setAll, and_true, true_and, List.length_nil, List.length_cons]
    · obtain rfl : j = kids.length := by omega
      have hWV : (Tm.mk k n s kids).vars l = W := by rw [vars_mk, hW, List.take_length]; exact HV1
      rw [hWV]
      exact finK_cut _ (by simp [hilt, Sl.le, A.le_refl_iff, A.le_u_iff, As.lo, A.lo, C.lo, Ref.lo, Cs.lo, Obs.lo, Ob.lo, setAll, and_true, true_and, List.length_nil, List.length_cons]) ⟨trivial, trivial⟩ rfl ⟨rfl, rfl⟩
end Go.Proofs.YtikgpomnibbioaaGreatDoor
