/-
  Code as the program makes it: the object that is worked on.
  Conditions: none.
-/
import Derived.Test.YtaegeehpajlebaaCmB
import Derived.Test.YtaegeehpajlebaaAbsN
open Go Go.AM Go.Proofs
namespace Go.Proofs.Ytaegeehpajlebaa
open Go.ChangeShapes Go.WideShapes Go.ChangeAt Go.RowKit
set_option linter.unusedVariables false
set_option linter.unusedSimpArgs false
set_option maxRecDepth 100000
-- 61 loop.example/prologserver/impl.newCoding params 0 ntmps 4
def ac61 : Cd := .seq (.region [⟨(some 0), .mv (.k (.c (.d (.v (.pointer none))))), none⟩] [0])
  (.seq (.region [⟨(some 1), .mkMap, none⟩,
      ⟨(some 2), .build [(.d (.v (.map none))), (.d (.int .i64 0)), (.full [])] [(0, 1, (.t 1)), (1, 1, (.k (.c (.d (.int .i64 4)))))], none⟩,
      ⟨(some 3), .box (.t 2), none⟩,
      ⟨(some 0), .mv (.t 3), none⟩] [1, 2, 3])
  (.ret))
theorem ac61_ok : cFunc Try.prog [] [(0, [0], []), (1, [1, 2, 3], [])] Try.f61 = some (ac61, [.tmp 0], 4) := by kernel_rfl
-- 82 (*loop.example/prologserver/impl.coding).add params 2 ntmps 14
def ac82 : Cd := .seq (.region [⟨(some 3), .box (.t 1), none⟩] [1])
  (.region [⟨(some 4), .mv (.t 0), none⟩,
    ⟨(some 5), .mv (.t 0), none⟩,
    ⟨(some 6), .nilCheck (.t 5), none⟩,
    ⟨(some 7), .fieldAddr 2 (.t 6), none⟩,
    ⟨(some 8), .load none (.t 7), none⟩,
    ⟨(some 9), .load (some 4) (.t 3), none⟩,
    ⟨(some 10), .buildSlice 4 1 [(.int .i64 0), (.int .i64 0), (.int .i64 0), (.str [])] [(0, (.t 9))], none⟩,
    ⟨(some 11), .append false 4 (.t 8) (.t 10), none⟩,
    ⟨(some 12), .nilCheck (.t 4), none⟩,
    ⟨(some 13), .fieldAddr 2 (.t 12), none⟩,
    ⟨none, .store 1 (.t 13) (.t 11), none⟩] [0, 3, 4, 5, 6, 7, 8, 9, 10, 11, 12, 13])
theorem ac82_ok : cFunc Try.prog [] [(0, [1], []), (1, [0, 3, 4, 5, 6, 7, 8, 9, 10, 11, 12, 13], [0, 1, 2, 3, 4, 5, 6, 7, 8, 9, 10])] Try.f82 = some (ac82, [], 14) := by kernel_rfl
-- 102 (*loop.example/prologserver/impl.coding).slot params 1 ntmps 15
def ac102 : Cd := .seq (.region [⟨(some 2), .mv (.k (.c (.d (.int .i64 0)))), none⟩] [2])
  (.seq (.region [⟨(some 3), .mv (.t 0), none⟩,
      ⟨(some 4), .nilCheck (.t 3), none⟩,
      ⟨(some 5), .fieldAddr 1 (.t 4), none⟩,
      ⟨(some 6), .load none (.t 5), none⟩,
      ⟨(some 7), .bin .add (.t 6) (.k (.c (.d (.int .i64 1)))), none⟩,
      ⟨(some 8), .nilCheck (.t 3), none⟩,
      ⟨(some 9), .fieldAddr 1 (.t 8), none⟩,
      ⟨none, .store 1 (.t 9) (.t 7), none⟩] [3, 4, 5, 6, 7, 8, 9])
  (.seq (.region [⟨(some 10), .mv (.t 0), none⟩,
      ⟨(some 11), .nilCheck (.t 10), none⟩,
      ⟨(some 12), .fieldAddr 1 (.t 11), none⟩,
      ⟨(some 13), .load none (.t 12), none⟩,
      ⟨(some 14), .bin .sub (.t 13) (.k (.c (.d (.int .i64 1)))), none⟩,
      ⟨(some 2), .mv (.t 14), none⟩] [0, 10, 11, 12, 13, 14])
  (.ret)))
theorem ac102_ok : cFunc Try.prog [] [(0, [2], []), (1, [3, 4, 5, 6, 7, 8, 9], []), (2, [0, 10, 11, 12, 13, 14], [])] Try.f102 = some (ac102, [.tmp 2], 15) := by kernel_rfl
-- 111 (*loop.example/prologserver/impl.coding).described params 2 ntmps 47
def ac111 : Cd := .seq (.region [⟨(some 3), .box (.t 1), none⟩] [1])
  (.seq (.seq (.region [⟨(some 6), .fieldAddr 0 (.t 3), none⟩,
        ⟨(some 7), .load none (.t 6), none⟩,
        ⟨(some 8), .bin .eql (.t 7) (.k (.c (.d (.int .i64 2)))), none⟩] [6, 7])
    (.cond (.t 8)
      (.seq (.region [⟨(some 9), .mv (.t 0), none⟩,
          ⟨(some 10), .fieldAddr 1 (.t 3), none⟩,
          ⟨(some 11), .load none (.t 10), none⟩,
          ⟨(some 12), .build [(.d (.int .i64 0)), (.d (.int .i64 0)), (.d (.int .i64 0)), (.d (.str []))] [(0, 1, (.k (.c (.d (.int .i64 6))))), (1, 1, (.t 11))], none⟩,
          ⟨(some 13), .call false 82 [(.t 9), (.t 12)], none⟩] [0, 3, 8, 9, 10, 11, 12, 13])
      (.ret))
      (.skip)))
  (.seq (.seq (.region [⟨(some 15), .mv (.t 0), none⟩,
        ⟨(some 16), .nilCheck (.t 15), none⟩,
        ⟨(some 17), .fieldAddr 0 (.t 16), none⟩,
        ⟨(some 19), .fieldAddr 1 (.t 3), none⟩,
        ⟨(some 18), .load none (.t 17), none⟩,
        ⟨(some 20), .load none (.t 19), none⟩,
        ⟨(some 21), .mapGet none [(.int .i64 0)] true (.t 18) (.t 20), none⟩,
        ⟨(some 14), .mv (.t 21), none⟩,
        ⟨(some 22), .extract 0 (.t 14), none⟩,
        ⟨(some 23), .extract 1 (.t 14), none⟩,
        ⟨(some 4), .mv (.t 22), none⟩,
        ⟨(some 5), .mv (.t 23), none⟩] [8, 14, 15, 16, 17, 18, 19, 20, 21, 22, 23])
    (.seq (.region [⟨(some 24), .mv (.t 5), none⟩] [5])
    (.cond (.t 24)
      (.seq (.region [⟨(some 25), .mv (.t 0), none⟩,
          ⟨(some 26), .mv (.t 4), none⟩,
          ⟨(some 27), .build [(.d (.int .i64 0)), (.d (.int .i64 0)), (.d (.int .i64 0)), (.d (.str []))] [(0, 1, (.k (.c (.d (.int .i64 5))))), (1, 1, (.t 26))], none⟩,
          ⟨(some 28), .call false 82 [(.t 25), (.t 27)], none⟩] [0, 3, 4, 24, 25, 26, 27, 28])
      (.ret))
      (.skip))))
  (.seq (.region [⟨(some 29), .mv (.t 0), none⟩,
      ⟨(some 30), .nilCheck (.t 29), none⟩,
      ⟨(some 31), .fieldAddr 0 (.t 30), none⟩,
      ⟨(some 33), .fieldAddr 1 (.t 3), none⟩,
      ⟨(some 35), .mv (.t 0), none⟩,
      ⟨(some 32), .loadL true none (.t 31), none⟩,
      ⟨(some 34), .loadL false none (.t 33), none⟩,
      ⟨(some 36), .callL true false 102 [(.t 35)], none⟩,
      ⟨none, .mapSet (.t 32) (.t 34) (.t 36), none⟩] [4, 24, 29, 30, 31, 32, 33, 34, 35, 36])
  (.region [⟨(some 37), .mv (.t 0), none⟩,
    ⟨(some 38), .mv (.t 0), none⟩,
    ⟨(some 39), .nilCheck (.t 38), none⟩,
    ⟨(some 40), .fieldAddr 0 (.t 39), none⟩,
    ⟨(some 42), .fieldAddr 1 (.t 3), none⟩,
    ⟨(some 41), .load none (.t 40), none⟩,
    ⟨(some 43), .load none (.t 42), none⟩,
    ⟨(some 44), .mapGet none [(.int .i64 0)] false (.t 41) (.t 43), none⟩,
    ⟨(some 45), .build [(.d (.int .i64 0)), (.d (.int .i64 0)), (.d (.int .i64 0)), (.d (.str []))] [(0, 1, (.k (.c (.d (.int .i64 4))))), (1, 1, (.t 44))], none⟩,
    ⟨(some 46), .call false 82 [(.t 37), (.t 45)], none⟩] [0, 3, 37, 38, 39, 40, 41, 42, 43, 44, 45, 46]))))
theorem ac111_ok : cFunc Try.prog [12000102, 11000031, 5000033] [(0, [1], []), (1, [6, 7], []), (2, [0, 3, 8, 9, 10, 11, 12, 13], []), (3, [8, 14, 15, 16, 17, 18, 19, 20, 21, 22, 23], [0, 1, 2, 4, 3, 5, 6, 7, 8, 9, 10, 11]), (4, [5], []), (5, [0, 3, 4, 24, 25, 26, 27, 28], []), (6, [4, 24, 29, 30, 31, 32, 33, 34, 35, 36], [0, 1, 2, 4, 6, 3, 5, 7, 8]), (7, [0, 3, 37, 38, 39, 40, 41, 42, 43, 44, 45, 46], [0, 1, 2, 3, 5, 4, 6, 7, 8, 9])] Try.f111 = some (ac111, [], 47) := by kernel_rfl
def cdM (M : Mk) : Ob := .map (slotsM M.sl)
def cdC (i : Nat) (M : Mk) : Ob := .cells [.map (.e i), .d (.int .i64 M.next), .own (.e (i + 2)) M.code.length M.code]
def cdG (M : Mk) : Ob := .grow M.code.length 4
/-- the code that is made, in the heap: the map, the record, the array -/
def cd (H : Heap) (i : Nat) (M : Mk) : Heap := ((H.set i (cdM M)).set (i + 1) (cdC i M)).set (i + 2) (cdG M)
theorem cd_len (H : Heap) (i : Nat) (M : Mk) : (cd H i M).length = H.length := by simp [cd]
theorem cd_0 {H : Heap} {i : Nat} (M : Mk) (h : i + 2 < H.length) : (cd H i M)[i]? = some (.map (slotsM M.sl)) := by
  simp [cd, cdM, List.getElem?_set]; omega
theorem cd_1 {H : Heap} {i : Nat} (M : Mk) (h : i + 2 < H.length) : (cd H i M)[i + 1]? = some (.cells [.map (.e i), .d (.int .i64 M.next), .own (.e (i + 2)) M.code.length M.code]) := by
  simp [cd, cdC, List.getElem?_set]; omega
theorem cd_2 {H : Heap} {i : Nat} (M : Mk) (h : i + 2 < H.length) : (cd H i M)[i + 2]? = some (.grow M.code.length 4) := by
  simp [cd, cdG, List.getElem?_set]; omega
theorem cd_set0 (H : Heap) (i : Nat) (M M' : Mk) (h1 : M'.next = M.next) (h2 : M'.code = M.code) : (cd H i M).set i (.map (slotsM M'.sl)) = cd H i M' := by
  refine List.ext_getElem? fun j => ?_
  simp only [cd, cdM, cdC, cdG, List.getElem?_set, List.length_set, h1, h2]
  by_cases e0 : i = j <;> by_cases e1 : i + 1 = j <;> by_cases e2 : i + 2 = j <;> simp [e0, e1, e2] <;> omega
theorem cd_set1 (H : Heap) (i : Nat) (M M' : Mk) (h1 : M'.sl = M.sl) (h2 : M'.code = M.code) : (cd H i M).set (i + 1) (.cells [.map (.e i), .d (.int .i64 M'.next), .own (.e (i + 2)) M.code.length M.code]) = cd H i M' := by
  refine List.ext_getElem? fun j => ?_
  simp only [cd, cdM, cdC, cdG, List.getElem?_set, List.length_set, h1, h2]
  by_cases e0 : i = j <;> by_cases e1 : i + 1 = j <;> by_cases e2 : i + 2 = j <;> simp [e0, e1, e2] <;> omega
theorem cd_set21 (H : Heap) (i : Nat) (M M' : Mk) (h1 : M'.sl = M.sl) (h2 : M'.next = M.next) : ((cd H i M).set (i + 2) (.grow M'.code.length 4)).set (i + 1) (.cells [.map (.e i), .d (.int .i64 M.next), .own (.e (i + 2)) M'.code.length M'.code]) = cd H i M' := by
  refine List.ext_getElem? fun j => ?_
  simp only [cd, cdM, cdC, cdG, List.getElem?_set, List.length_set, h1, h2]
  by_cases e0 : i = j <;> by_cases e1 : i + 1 = j <;> by_cases e2 : i + 2 = j <;> simp [e0, e1, e2] <;> omega
theorem cd_append {H L : Heap} {i : Nat} (M : Mk) (h : i + 2 < H.length) : cd H i M ++ L = cd (H ++ L) i M := by
  simp only [cd]
  rw [List.set_append_left _ _ (by omega), List.set_append_left _ _ (by simp; omega), List.set_append_left _ _ (by simp; omega)]
theorem cd_fits {H : Heap} {i : Nat} {M M' : Mk} (h : Obs.fits H.length 0 (cd H i M)) (hi : i + 2 < H.length) : Obs.fits H.length 0 (cd H i M') := by
  have h0 : Obs.fits H.length 0 (cd H i M') := by
    have e : cd H i M' = ((((cd H i M).set i (cdM M')).set (i + 1) (cdC i M')).set (i + 2) (cdG M')) := by
      refine List.ext_getElem? fun j => ?_
      simp only [cd, List.getElem?_set, List.length_set]
      by_cases e0 : i = j <;> by_cases e1 : i + 1 = j <;> by_cases e2 : i + 2 = j <;> simp [e0, e1, e2]
    rw [e]
    refine Obs_fits_set (Obs_fits_set (Obs_fits_set h ?_) ?_) ?_
    · exact trivial
    · exact ⟨by show i < H.length + 0; omega, trivial, by show i + 2 < H.length + 0; omega, trivial⟩
    · exact trivial
  exact h0
theorem cd_other {H : Heap} {i j : Nat} (M : Mk) (h0 : j ≠ i) (h1 : j ≠ i + 1) (h2 : j ≠ i + 2) : (cd H i M)[j]? = H[j]? := by
  simp only [cd, List.getElem?_set, List.length_set]
  rw [if_neg (fun e => h2 e.symm), if_neg (fun e => h1 e.symm), if_neg (fun e => h0 e.symm)]
theorem cd_head {H : Heap} {i : Nat} (M M' : Mk) (hi : i + 2 < H.length) : HeadSame (cd H i M) (cd H i M') := fun j cs e => by
  simp only [List.getD] at e ⊢
  by_cases h0 : j = i
  · subst h0; rw [cd_0 M hi] at e; cases e
  · by_cases h1 : j = i + 1
    · subst h1
      rw [cd_1 M hi] at e
      rw [cd_1 M' hi]
      simp at e
      subst e
      exact ⟨_, rfl, rfl⟩
    · by_cases h2 : j = i + 2
      · subst h2; rw [cd_2 M hi] at e; cases e
      · rw [cd_other M h0 h1 h2] at e
        rw [cd_other M' h0 h1 h2]
        exact ⟨cs, e, rfl⟩
/-- what a function that makes code does -/
def Makes (f : FuncId) (xs : List A) (M M' : Mk) (r : A) : Prop := ∀ (H : Heap) (i : Nat), i + 2 < H.length → ACalls Try.prog f (.c (.ptr (.e (i + 1)) 0) :: xs) (cd H i M) (fun r' H' => r' = r ∧ H' = cd H i M')
theorem call_mk {f : FuncId} {xs : List A} {M M' : Mk} {r : A} (hd : Makes f xs M M' r) {H : Heap} {i : Nat} {sl : List A} {loc H₂ : Heap} {K : A → St → Prop} (hi : i + 2 < H.length)
    (hH : H₂ = cd H i M ++ loc.map (Ob.re H.length)) (hr : A.re H.length r = r) (hf : Obs.fits H.length 0 (cd H i M)) (hk : K r ⟨sl, cd H i M', loc⟩) :
    ACalls Try.prog f (.c (.ptr (.e (i + 1)) 0) :: xs) H₂ (CallK K ⟨sl, cd H i M, loc⟩) := by
  subst hH
  have h := hd (H ++ loc.map (Ob.re H.length)) i (by simp; omega)
  rw [cd_append _ hi]
  refine h.mono fun r' H' ⟨h1, h2⟩ => ?_
  rw [← cd_append _ hi] at h2
  exact ⟨cd H i M', loc, r, by simpa [cd_len] using h2, by simp [cd_len], Nat.le_refl _, by simpa [cd_len] using cd_fits hf hi, by rw [h1]; simpa [cd_len] using hr.symm, hk⟩
theorem add_makes (M : Mk) (op a b : Int) (s : List UInt8) (hc : M.code.length ≤ 1000000) (ha : allLen 4 M.code) : Makes 82 [.agg [.d (.int .i64 op), .d (.int .i64 a), .d (.int .i64 b), .d (.str s)]] M (M.emit op a b s) (.tup []) := fun H i hi => by
  refine acalls Try.func82 (by kernel_rfl) ac82_ok fun hf => ?_
  rw [cd_len] at hf
  have e1 : ((cd H i M).set (i + 2) (.grow (M.code.length + 1) 4)).set (i + 1) (.cells [.map (.e i), .d (.int .i64 M.next), .own (.e (i + 2)) (M.code.length + 1) (M.code ++ [[.int .i64 op, .int .i64 a, .int .i64 b, .str s]])]) = cd H i (M.emit op a b s) := by
    have := cd_set21 H i M (M.emit op a b s) rfl rfl
    simpa [Mk.emit, insR] using this
  simp -implicitDefEqProofs [ac82, cd_0 M hi, cd_1 M hi, cd_2 M hi, cd_len, Ref.re, e1, kw, ew, sw, tw, a_, b_, c_, -List.set_cons_succ, -List.set_cons_zero, A.ok, A.val, d_, e_, f_, g_, h_, i_, j_, k_, l_, m_, unA, unD, n_, AOp.total, o_, p_, q_, r_, s_, t_, u_, v_, A.thaw, C.thaw, A.fits, As.fits, C.fits, evs, oks, w_, A.pure, C.pure, A.re, C.re, x_, y_, cut, A.cells, C.rows?, z_, A_, B_, C_, D_, Ob.re, Cs.fits, E_, F_, G_, H_, I_, J_, K_, L_, M_, N_, O_, C.toD, P_, Q_, R_, S_, T_, Obs.fits, U_, eqD, V_, W_, X_, Y_, Z_]
  exact ⟨ha, by unfold maxApp; omega, cd_fits hf hi⟩
theorem slot_makes (M : Mk) (h : M.next ≤ 1000000) : Makes 102 [] M M.bump (.c (.d (.int .i64 M.next))) := fun H i hi => by
  refine acalls Try.func102 (by kernel_rfl) ac102_ok fun hf => ?_
  rw [cd_len] at hf
  have hn : inR .i64 ((M.next : Int) + 1) := small_i64 (by omega) (by omega)
  have hn2 : inR .i64 (M.next : Int) := small_i64 (by omega) (by omega)
  have e1 : (cd H i M).set (i + 1) (.cells [.map (.e i), .d (.int .i64 ((M.next : Int) + 1)), .own (.e (i + 2)) M.code.length M.code]) = cd H i M.bump := by
    have := cd_set1 H i M M.bump rfl rfl
    simpa [Mk.bump] using this
  have hb : (M.bump.next : Int) = M.next + 1 := by simp [Mk.bump]
  simp -implicitDefEqProofs [ac102, cd_0 M hi, cd_1 M hi, cd_2 M hi, cd_1 M.bump hi, cd_len, hn, hn2, Ref.re, e1, hb, kw, ew, sw, tw, a_, b_, c_, -List.set_cons_succ, -List.set_cons_zero, A.ok, A.val, d_, e_, f_, g_, h_, i_, j_, k_, l_, m_, unA, unD, n_, AOp.total, o_, p_, q_, r_, s_, t_, u_, v_, A.thaw, C.thaw, A.fits, As.fits, C.fits, evs, oks, w_, A.pure, C.pure, A.re, C.re, x_, y_, cut, A.cells, C.rows?, z_, A_, B_, C_, D_, Ob.re, Cs.fits, E_, F_, G_, H_, I_, J_, K_, L_, M_, N_, O_, C.toD, P_, Q_, R_, S_, T_, Obs.fits, U_, eqD, V_, W_, X_, Y_, Z_]
  exact cd_fits hf hi
theorem described_makes (t : Tm) (hg : t.good) (hk : t.k ≠ 3) (M : Mk) (B : Nat) (hM : M.fit B) (hB : B ≤ 900000) : Makes 111 [.agg (t.row.map .d)] M (M.desc t) (.tup []) := fun H i hi => by
  have hvs := var_slot hg
  have hnx := hM.next
  have hcd := hM.code
  have hal := hM.all
  refine acalls Try.func111 (by kernel_rfl) ac111_ok fun hf => ?_
  rw [cd_len] at hf
  obtain ⟨k, n, s, kids⟩ := t
  cases hg with
  | mk ho _ =>
    rcases own_cases ho with ⟨rfl, n0, n1, rfl, rfl⟩ | ⟨rfl, n0, n1, rfl, rfl⟩ | ⟨rfl, rfl, hs2, hl4⟩
    · obtain ⟨v, hv, hv26⟩ := hvs rfl
      simp only [Tm.n] at hv
      subst hv
      cases hsv : slotO M.sl v with
      | some u =>
        have e1 : M.desc (.mk 1 v [] []) = M.emit 5 u 0 [] := by simp [Mk.desc, Tm.k, Tm.n, hsv]
        rw [e1]
        simp -implicitDefEqProofs [ac111, row_mk, cd_0 M hi, cd_1 M hi, cd_2 M hi, cd_len, Ref.re, hf, slotsM_row, hsv, kw, ew, sw, tw, a_, b_, c_, -List.set_cons_succ, -List.set_cons_zero, A.ok, A.val, d_, e_, f_, g_, h_, i_, j_, k_, l_, m_, unA, unD, n_, AOp.total, o_, p_, q_, r_, s_, t_, u_, v_, A.thaw, C.thaw, A.fits, As.fits, C.fits, evs, oks, w_, A.pure, C.pure, A.re, C.re, x_, y_, cut, A.cells, C.rows?, z_, A_, B_, C_, D_, Ob.re, Cs.fits, E_, F_, G_, H_, I_, J_, K_, L_, M_, N_, O_, C.toD, P_, Q_, R_, S_, T_, Obs.fits, U_, eqD, V_, W_, X_, Y_, Z_]
        refine call_mk (add_makes M 5 u 0 [] (by omega) hal) hi (by simp [Ob.re, C.re]) rfl hf ?_
        simp -implicitDefEqProofs [cd_len, kw, ew, sw, tw, a_, b_, c_, -List.set_cons_succ, -List.set_cons_zero, A.ok, A.val, d_, e_, f_, g_, h_, i_, j_, k_, l_, m_, unA, unD, n_, AOp.total, o_, p_, q_, r_, s_, t_, u_, v_, A.thaw, C.thaw, A.fits, As.fits, C.fits, evs, oks, w_, A.pure, C.pure, A.re, C.re, x_, y_, cut, A.cells, C.rows?, z_, A_, B_, C_, D_, Ob.re, Cs.fits, E_, F_, G_, H_, I_, J_, K_, L_, M_, N_, O_, C.toD, P_, Q_, R_, S_, T_, Obs.fits, U_, eqD, V_, W_, X_, Y_, Z_]
      | none =>
        have e1 : M.desc (.mk 1 v [] []) = ((M.give v M.next).bump).emit 4 M.next 0 [] := by simp [Mk.desc, Tm.k, Tm.n, hsv, Mk.bump, Mk.emit, Mk.give]
        have hf1 := fun M' => cd_fits (M' := M') hf hi
        have hput := slotsM_put v M.next M.sl hsv
        have hset := cd_set0 H i M.bump (M.give v M.next).bump rfl rfl
        have hse2 : slotO (M.sl ++ [((v : Int), M.next)]) v = some M.next := by rw [slotO_snoc _ _ _ _ hsv, if_pos rfl]
        rw [e1]
        simp -implicitDefEqProofs [ac111, row_mk, cd_0 M hi, cd_1 M hi, cd_2 M hi, cd_len, Ref.re, hf, slotsM_row, hsv, kw, ew, sw, tw, a_, b_, c_, -List.set_cons_succ, -List.set_cons_zero, A.ok, A.val, d_, e_, f_, g_, h_, i_, j_, k_, l_, m_, unA, unD, n_, AOp.total, o_, p_, q_, r_, s_, t_, u_, v_, A.thaw, C.thaw, A.fits, As.fits, C.fits, evs, oks, w_, A.pure, C.pure, A.re, C.re, x_, y_, cut, A.cells, C.rows?, z_, A_, B_, C_, D_, Ob.re, Cs.fits, E_, F_, G_, H_, I_, J_, K_, L_, M_, N_, O_, C.toD, P_, Q_, R_, S_, T_, Obs.fits, U_, eqD, V_, W_, X_, Y_, Z_]
        refine call_mk (slot_makes M (by omega)) hi (by simp [Ob.re, C.re]) rfl hf ?_
        refine ⟨⟨LocSame.refl _, cd_head _ _ hi⟩, ?_⟩
        simp -implicitDefEqProofs [cd_0 M.bump hi, cd_len, kw, ew, sw, tw, a_, b_, c_, -List.set_cons_succ, -List.set_cons_zero, A.ok, A.val, d_, e_, f_, g_, h_, i_, j_, k_, l_, m_, unA, unD, n_, AOp.total, o_, p_, q_, r_, s_, t_, u_, v_, A.thaw, C.thaw, A.fits, As.fits, C.fits, evs, oks, w_, A.pure, C.pure, A.re, C.re, x_, y_, cut, A.cells, C.rows?, z_, A_, B_, C_, D_, Ob.re, Cs.fits, E_, F_, G_, H_, I_, J_, K_, L_, M_, N_, O_, C.toD, P_, Q_, R_, S_, T_, Obs.fits, U_, eqD, V_, W_, X_, Y_, Z_]
        have hs0 : M.bump.sl = M.sl := rfl
        rw [hs0, hput, show M.sl ++ [((v : Int), M.next)] = (M.give v M.next).bump.sl from rfl, hset]
        refine ⟨hf1 _, ?_⟩
        simp -implicitDefEqProofs [cd_0 _ hi, cd_1 _ hi, cd_2 _ hi, cd_len, Ref.re, hf1, slotsM_row, kw, ew, sw, tw, a_, b_, c_, -List.set_cons_succ, -List.set_cons_zero, A.ok, A.val, d_, e_, f_, g_, h_, i_, j_, k_, l_, m_, unA, unD, n_, AOp.total, o_, p_, q_, r_, s_, t_, u_, v_, A.thaw, C.thaw, A.fits, As.fits, C.fits, evs, oks, w_, A.pure, C.pure, A.re, C.re, x_, y_, cut, A.cells, C.rows?, z_, A_, B_, C_, D_, Ob.re, Cs.fits, E_, F_, G_, H_, I_, J_, K_, L_, M_, N_, O_, C.toD, P_, Q_, R_, S_, T_, Obs.fits, U_, eqD, V_, W_, X_, Y_, Z_]
        rw [show (M.give v M.next).bump.sl = M.sl ++ [((v : Int), M.next)] from rfl, hse2]
        simp -implicitDefEqProofs [cd_len, kw, ew, sw, tw, a_, b_, c_, -List.set_cons_succ, -List.set_cons_zero, A.ok, A.val, d_, e_, f_, g_, h_, i_, j_, k_, l_, m_, unA, unD, n_, AOp.total, o_, p_, q_, r_, s_, t_, u_, v_, A.thaw, C.thaw, A.fits, As.fits, C.fits, evs, oks, w_, A.pure, C.pure, A.re, C.re, x_, y_, cut, A.cells, C.rows?, z_, A_, B_, C_, D_, Ob.re, Cs.fits, E_, F_, G_, H_, I_, J_, K_, L_, M_, N_, O_, C.toD, P_, Q_, R_, S_, T_, Obs.fits, U_, eqD, V_, W_, X_, Y_, Z_]
        refine call_mk (add_makes (M.give v M.next).bump 4 M.next 0 [] (by show M.code.length ≤ _; omega) hal) hi (by simp [Ob.re, C.re]) rfl (hf1 _) ?_
        simp -implicitDefEqProofs [cd_len, kw, ew, sw, tw, a_, b_, c_, -List.set_cons_succ, -List.set_cons_zero, A.ok, A.val, d_, e_, f_, g_, h_, i_, j_, k_, l_, m_, unA, unD, n_, AOp.total, o_, p_, q_, r_, s_, t_, u_, v_, A.thaw, C.thaw, A.fits, As.fits, C.fits, evs, oks, w_, A.pure, C.pure, A.re, C.re, x_, y_, cut, A.cells, C.rows?, z_, A_, B_, C_, D_, Ob.re, Cs.fits, E_, F_, G_, H_, I_, J_, K_, L_, M_, N_, O_, C.toD, P_, Q_, R_, S_, T_, Obs.fits, U_, eqD, V_, W_, X_, Y_, Z_]
    · have e1 : M.desc (.mk 2 n [] []) = M.emit 6 n 0 [] := by simp [Mk.desc, Tm.k, Tm.n]
      rw [e1]
      simp -implicitDefEqProofs [ac111, row_mk, cd_0 M hi, cd_1 M hi, cd_2 M hi, cd_len, Ref.re, hf, kw, ew, sw, tw, a_, b_, c_, -List.set_cons_succ, -List.set_cons_zero, A.ok, A.val, d_, e_, f_, g_, h_, i_, j_, k_, l_, m_, unA, unD, n_, AOp.total, o_, p_, q_, r_, s_, t_, u_, v_, A.thaw, C.thaw, A.fits, As.fits, C.fits, evs, oks, w_, A.pure, C.pure, A.re, C.re, x_, y_, cut, A.cells, C.rows?, z_, A_, B_, C_, D_, Ob.re, Cs.fits, E_, F_, G_, H_, I_, J_, K_, L_, M_, N_, O_, C.toD, P_, Q_, R_, S_, T_, Obs.fits, U_, eqD, V_, W_, X_, Y_, Z_]
      refine call_mk (add_makes M 6 n 0 [] (by omega) hal) hi (by simp [Ob.re, C.re]) rfl hf ?_
      simp -implicitDefEqProofs [cd_len, kw, ew, sw, tw, a_, b_, c_, -List.set_cons_succ, -List.set_cons_zero, A.ok, A.val, d_, e_, f_, g_, h_, i_, j_, k_, l_, m_, unA, unD, n_, AOp.total, o_, p_, q_, r_, s_, t_, u_, v_, A.thaw, C.thaw, A.fits, As.fits, C.fits, evs, oks, w_, A.pure, C.pure, A.re, C.re, x_, y_, cut, A.cells, C.rows?, z_, A_, B_, C_, D_, Ob.re, Cs.fits, E_, F_, G_, H_, I_, J_, K_, L_, M_, N_, O_, C.toD, P_, Q_, R_, S_, T_, Obs.fits, U_, eqD, V_, W_, X_, Y_, Z_]
    · exact absurd rfl hk
end Go.Proofs.Ytaegeehpajlebaa
