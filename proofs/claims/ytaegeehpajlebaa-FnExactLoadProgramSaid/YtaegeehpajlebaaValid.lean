/-
  Valid terms: TermValid of the program and of the reference.
  Conditions: none.
-/
import Derived.Test.YtaegeehpajlebaaTerm
import Derived.Test.YtaegeehpajlebaaNames
open Go Go.AM Go.Proofs
namespace Go.Proofs.Ytaegeehpajlebaa
open Go.ChangeShapes Go.WideShapes Go.ChangeAt Go.RowKit
set_option linter.unusedVariables false
set_option linter.unusedSimpArgs false
set_option maxRecDepth 100000
-- 116 slices.IndexFunc[[]loop.example/prologserver/impl.Term,loop.example/prologserver/impl.Term] params 2 ntmps 19
-- loop head live: [0, 1, 7, 8]
def ac116 : Cd := .seq (.region [⟨(some 4), .mv (.k (.c (.d (.int .i64 0)))), none⟩] [4])
  (.seq (.seq (.region [⟨(some 6), .mv (.t 0), none⟩,
        ⟨(some 7), .len 1 (.t 6), none⟩,
        ⟨(some 8), .mv (.k (.c (.d (.int .i64 0)))), none⟩] [6])
    (.block 0 (.loop (.seq (.region [⟨(some 9), .bin .lss (.t 8) (.t 7), none⟩] [])
        (.seq (.cond (.t 9)
            (.skip)
            (.exit 0))
        (.seq (.block 1 (.seq (.region [⟨(some 10), .mv (.t 8), none⟩,
                ⟨(some 5), .mv (.t 10), none⟩] [9, 10])
            (.seq (.region [⟨(some 11), .mv (.t 1), none⟩,
                ⟨(some 12), .mv (.t 0), none⟩,
                ⟨(some 13), .mv (.t 5), none⟩,
                ⟨(some 14), .indexAddr 4 (.t 12) (.t 13), none⟩,
                ⟨(some 15), .load (some 4) (.t 14), none⟩,
                ⟨(some 16), .callv (.t 11) [(.t 15)], none⟩] [11, 12, 13, 14, 15])
            (.cond (.t 16)
              (.seq (.region [⟨(some 17), .mv (.t 5), none⟩,
                  ⟨(some 4), .mv (.t 17), none⟩] [0, 1, 5, 7, 8, 16, 17])
              (.ret))
              (.skip)))))
        (.region [⟨(some 18), .bin .add (.t 8) (.k (.c (.d (.int .i64 1)))), none⟩,
          ⟨(some 8), .mv (.t 18), none⟩] [4, 5, 16, 18])))))))
  (.seq (.region [⟨(some 4), .mv (.k (.c (.d (.int .i64 (-1))))), none⟩] [])
  (.ret)))
theorem ac116_ok : cFunc Try.prog [] [(0, [4], []), (1, [6], []), (2, [], []), (3, [9, 10], []), (4, [11, 12, 13, 14, 15], []), (5, [0, 1, 5, 7, 8, 16, 17], []), (6, [4, 5, 16, 18], []), (7, [], [])] Try.f116 = some (ac116, [.tmp 4], 19) := by kernel_rfl
-- 92 slices.ContainsFunc[[]loop.example/prologserver/impl.Term,loop.example/prologserver/impl.Term] params 2 ntmps 9
def ac92 : Cd := .seq (.region [⟨(some 4), .mv (.k (.c (.d (.bool false)))), none⟩] [4])
  (.seq (.region [⟨(some 5), .mv (.t 0), none⟩,
      ⟨(some 6), .mv (.t 1), none⟩,
      ⟨(some 7), .call false 116 [(.t 5), (.t 6)], none⟩,
      ⟨(some 8), .bin .geq (.t 7) (.k (.c (.d (.int .i64 0)))), none⟩,
      ⟨(some 4), .mv (.t 8), none⟩] [0, 1, 5, 6, 7, 8])
  (.ret))
theorem ac92_ok : cFunc Try.prog [] [(0, [4], []), (1, [0, 1, 5, 6, 7, 8], [])] Try.f92 = some (ac92, [.tmp 4], 9) := by kernel_rfl
theorem tmF_idx {σ : Type} (Hp : σ → Heap) (n : Nat) (hn : ∀ s, (Hp s).length = n) (hfit : ∀ s, Obs.fits n 0 (Hp s)) (g : FuncId) (caps : List (Nat × Nat)) (step : σ → Tm → Bool × σ) (P : σ → Prop) (l : List Tm) (hl : l.length ≤ 1048576)
    (h : ∀ s, P s → ∀ t ∈ l, ACalls Try.prog g (.agg ((Tm.row t).map .d) :: caps.map fun x => .c (.ptr (.e x.1) x.2)) (Hp s) (fun r H' => r = .c (.d (.bool (step s t).1)) ∧ H' = Hp (step s t).2)) (hP : ∀ s, P s → ∀ t ∈ l, (step s t).1 = false → P (step s t).2) (s : σ) (h0 : P s) :
    ACalls Try.prog 116 [.c (.d (.sl (l.map Tm.row))), .c (.fn g (caps.map fun x => (.e x.1, x.2)))] (Hp s) (fun r H' => (∃ k : Int, r = .c (.d (.int .i64 k)) ∧ decide (0 ≤ k) = (anyS step l s).1) ∧ H' = Hp (anyS step l s).2) := by
  refine acalls Try.func116 (by kernel_rfl) ac116_ok fun hf => ?_
  have hli : inR .i64 (l.length : Int) := small_i64 (by omega) (by omega)
  simp -implicitDefEqProofs [ac116, hli, kw, ew, sw, tw, a_, b_, c_, -List.set_cons_succ, -List.set_cons_zero, A.ok, A.val, d_, e_, f_, g_, h_, i_, j_, k_, l_, m_, unA, unD, n_, AOp.total, o_, p_, q_, r_, s_, t_, u_, v_, A.thaw, C.thaw, A.fits, As.fits, C.fits, evs, oks, w_, A.pure, C.pure, A.re, C.re, x_, y_, cut, A.cells, C.rows?, z_, A_, B_, C_, D_, Ob.re, Cs.fits, E_, F_, G_, H_, I_, J_, K_, L_, M_, N_, O_, C.toD, P_, Q_, R_, S_, T_, Obs.fits, U_, eqD, V_, W_, X_, Y_, Z_]
  refine loop_set (σ := Nat × σ) (fun x => [(8, .c (.d (.int .i64 x.1)))]) (fun x => Hp x.2) (fun _ => []) (fun x => x.1 ≤ l.length ∧ P x.2 ∧ anyS step (l.drop x.1) x.2 = anyS step l s) (fun x => l.length - x.1) (0, s) rfl ⟨Nat.zero_le _, h0, rfl⟩ ?_
  rintro ⟨i, q⟩ ⟨hi, hq, hrun⟩
  simp only at hi hq hrun
  simp -implicitDefEqProofs [setAll, hli, kw, ew, sw, tw, a_, b_, c_, -List.set_cons_succ, -List.set_cons_zero, A.ok, A.val, d_, e_, f_, g_, h_, i_, j_, k_, l_, m_, unA, unD, n_, AOp.total, o_, p_, q_, r_, s_, t_, u_, v_, A.thaw, C.thaw, A.fits, As.fits, C.fits, evs, oks, w_, A.pure, C.pure, A.re, C.re, x_, y_, cut, A.cells, C.rows?, z_, A_, B_, C_, D_, Ob.re, Cs.fits, E_, F_, G_, H_, I_, J_, K_, L_, M_, N_, O_, C.toD, P_, Q_, R_, S_, T_, Obs.fits, U_, eqD, V_, W_, X_, Y_, Z_]
  refine ⟨fun hlt => ?_, fun hge => ?_⟩
  · refine row_of hlt (row_len _) ?_
    simp -implicitDefEqProofs [row_len, take_row, pure_d, re_d, callArgs_ptrs, kw, ew, sw, tw, a_, b_, c_, -List.set_cons_succ, -List.set_cons_zero, A.ok, A.val, d_, e_, f_, g_, h_, i_, j_, k_, l_, m_, unA, unD, n_, AOp.total, o_, p_, q_, r_, s_, t_, u_, v_, A.thaw, C.thaw, A.fits, As.fits, C.fits, evs, oks, w_, A.pure, C.pure, A.re, C.re, x_, y_, cut, A.cells, C.rows?, z_, A_, B_, C_, D_, Ob.re, Cs.fits, E_, F_, G_, H_, I_, J_, K_, L_, M_, N_, O_, C.toD, P_, Q_, R_, S_, T_, Obs.fits, U_, eqD, V_, W_, X_, Y_, Z_]
    have hd : l.drop i = l[i] :: l.drop (i + 1) := List.drop_eq_getElem_cons hlt
    rw [hd, anyS] at hrun
    have hadd : inR .i64 ((i : Int) + 1) := small_i64 (by omega) (by omega)
    refine (h q hq l[i] (List.getElem_mem hlt)).mono fun r H' ⟨h1, h2⟩ => ⟨Hp (step q l[i]).2, [], .c (.d (.bool (step q l[i]).1)), by simpa using h2, by simp only [hn], Nat.le_refl _, by simp only [hn]; exact hfit _, h1, ?_⟩
    cases hs : (step q l[i]).1 with
    | true =>
      rw [if_pos hs] at hrun
      simp -implicitDefEqProofs [hs, kw, ew, sw, tw, a_, b_, c_, -List.set_cons_succ, -List.set_cons_zero, A.ok, A.val, d_, e_, f_, g_, h_, i_, j_, k_, l_, m_, unA, unD, n_, AOp.total, o_, p_, q_, r_, s_, t_, u_, v_, A.thaw, C.thaw, A.fits, As.fits, C.fits, evs, oks, w_, A.pure, C.pure, A.re, C.re, x_, y_, cut, A.cells, C.rows?, z_, A_, B_, C_, D_, Ob.re, Cs.fits, E_, F_, G_, H_, I_, J_, K_, L_, M_, N_, O_, C.toD, P_, Q_, R_, S_, T_, Obs.fits, U_, eqD, V_, W_, X_, Y_, Z_]
      rw [← hrun]
      exact ⟨by simp, rfl⟩
    | false =>
      rw [if_neg (by simp [hs])] at hrun
      simp -implicitDefEqProofs [hs, hadd, kw, ew, sw, tw, a_, b_, c_, -List.set_cons_succ, -List.set_cons_zero, A.ok, A.val, d_, e_, f_, g_, h_, i_, j_, k_, l_, m_, unA, unD, n_, AOp.total, o_, p_, q_, r_, s_, t_, u_, v_, A.thaw, C.thaw, A.fits, As.fits, C.fits, evs, oks, w_, A.pure, C.pure, A.re, C.re, x_, y_, cut, A.cells, C.rows?, z_, A_, B_, C_, D_, Ob.re, Cs.fits, E_, F_, G_, H_, I_, J_, K_, L_, M_, N_, O_, C.toD, P_, Q_, R_, S_, T_, Obs.fits, U_, eqD, V_, W_, X_, Y_, Z_]
      exact loop_back (i + 1, (step q l[i]).2) (by simp [setAll]) ⟨hlt, hP q hq _ (List.getElem_mem hlt) hs, hrun⟩ (by show l.length - (i + 1) < l.length - i; omega)
  · rw [List.drop_of_length_le hge] at hrun
    simp only [anyS] at hrun
    rw [← hrun]
    exact ⟨by simp, rfl⟩
theorem tmF_con {σ : Type} (Hp : σ → Heap) (n : Nat) (hn : ∀ s, (Hp s).length = n) (hfit : ∀ s, Obs.fits n 0 (Hp s)) (g : FuncId) (caps : List (Nat × Nat)) (step : σ → Tm → Bool × σ) (P : σ → Prop) (l : List Tm) (hl : l.length ≤ 1048576)
    (h : ∀ s, P s → ∀ t ∈ l, ACalls Try.prog g (.agg ((Tm.row t).map .d) :: caps.map fun x => .c (.ptr (.e x.1) x.2)) (Hp s) (fun r H' => r = .c (.d (.bool (step s t).1)) ∧ H' = Hp (step s t).2)) (hP : ∀ s, P s → ∀ t ∈ l, (step s t).1 = false → P (step s t).2) (s : σ) (h0 : P s) :
    ACalls Try.prog 92 [.c (.d (.sl (l.map Tm.row))), .c (.fn g (caps.map fun x => (.e x.1, x.2)))] (Hp s) (fun r H' => r = .c (.d (.bool (anyS step l s).1)) ∧ H' = Hp (anyS step l s).2) := by
  refine acalls Try.func92 (by kernel_rfl) ac92_ok fun hf => ?_
  simp -implicitDefEqProofs [ac92, kw, ew, sw, tw, a_, b_, c_, -List.set_cons_succ, -List.set_cons_zero, A.ok, A.val, d_, e_, f_, g_, h_, i_, j_, k_, l_, m_, unA, unD, n_, AOp.total, o_, p_, q_, r_, s_, t_, u_, v_, A.thaw, C.thaw, A.fits, As.fits, C.fits, evs, oks, w_, A.pure, C.pure, A.re, C.re, x_, y_, cut, A.cells, C.rows?, z_, A_, B_, C_, D_, Ob.re, Cs.fits, E_, F_, G_, H_, I_, J_, K_, L_, M_, N_, O_, C.toD, P_, Q_, R_, S_, T_, Obs.fits, U_, eqD, V_, W_, X_, Y_, Z_]
  simp only [List.map_map, Function.comp_def, Ref.re]
  refine (tmF_idx Hp n hn hfit g caps step P l hl h hP s h0).mono fun r H' ⟨⟨k, h1, h2⟩, h3⟩ => ⟨Hp (anyS step l s).2, [], .c (.d (.int .i64 k)), by simpa using h3, by simp only [hn], Nat.le_refl _, by simp only [hn]; exact hfit _, h1, ?_⟩
  simp -implicitDefEqProofs [kw, ew, sw, tw, a_, b_, c_, -List.set_cons_succ, -List.set_cons_zero, A.ok, A.val, d_, e_, f_, g_, h_, i_, j_, k_, l_, m_, unA, unD, n_, AOp.total, o_, p_, q_, r_, s_, t_, u_, v_, A.thaw, C.thaw, A.fits, As.fits, C.fits, evs, oks, w_, A.pure, C.pure, A.re, C.re, x_, y_, cut, A.cells, C.rows?, z_, A_, B_, C_, D_, Ob.re, Cs.fits, E_, F_, G_, H_, I_, J_, K_, L_, M_, N_, O_, C.toD, P_, Q_, R_, S_, T_, Obs.fits, U_, eqD, V_, W_, X_, Y_, Z_]
  rw [← h2]
/-- .. where the function looks at what it is given alone -/
theorem tmF_any (g : FuncId) (p : Tm → Bool) (l : List Tm) (hl : l.length ≤ 1048576) (h : ∀ t ∈ l, ∀ H, ACalls Try.prog g [.agg ((Tm.row t).map .d)] H (fun r H' => H' = H ∧ r = .c (.d (.bool (p t))))) (H : Heap) :
    ACalls Try.prog 92 [.c (.d (.sl (l.map Tm.row))), .c (.fn g [])] H (fun r H' => H' = H ∧ r = .c (.d (.bool (l.any p)))) := by
  refine acalls_fits Try.func92 (by kernel_rfl) (by kernel_rfl) fun hf => ?_
  have := tmF_con (σ := Unit) (fun _ => H) H.length (fun _ => rfl) (fun _ => hf) g [] (fun _ t => (p t, ())) (fun _ => True) l hl (fun s _ t ht => (h t ht H).mono fun r H' ⟨h1, h2⟩ => ⟨h2, h1⟩) (fun _ _ _ _ _ => trivial) () trivial
  rw [anyS_const] at this
  exact this.mono fun r H' ⟨h1, h2⟩ => ⟨h2, h1⟩

/-- a node's own fields -/
def Tm.ownB : Tm → Bool
  | .mk k n s l => if k = 1 then ((decide (0 ≤ n) && decide (n ≤ 25)) && s == []) && l.isEmpty
    else if k = 2 then ((decide (-999 ≤ n) && decide (n ≤ 999)) && s == []) && l.isEmpty
    else if k = 3 then (decide (n = 0) && nameB s) && decide (l.length ≤ 4)
    else false
mutual
/-- well-formed, down to a depth -/
def Tm.shape : Nat → Tm → Bool
  | d, .mk k n s l => decide (1 ≤ d) && ((Tm.mk k n s l).ownB && shapes (d - 1) l)
def shapes : Nat → List Tm → Bool
  | _, [] => true
  | d, t :: l => t.shape d && shapes d l
end
mutual
/-- the number of nodes -/
def Tm.size : Tm → Nat
  | .mk _ _ _ l => 1 + sizes l
def sizes : List Tm → Nat
  | [] => 0
  | t :: l => t.size + sizes l
end
def Tm.valid (t : Tm) : Bool := t.shape 30 && decide (t.size ≤ 120)
mutual
/-- the program's check: nodes are counted -/
def scanT : Nat → Tm → Nat → Bool × Nat
  | deep, .mk k n s l, c => if 120 < c + 1 ∨ 30 < deep then (false, c + 1) else if !(Tm.mk k n s l).ownB then (false, c + 1) else scanL (deep + 1) l (c + 1)
def scanL : Nat → List Tm → Nat → Bool × Nat
  | _, [], c => (true, c)
  | deep, t :: l, c => if (scanT deep t c).1 = true then scanL deep l (scanT deep t c).2 else (false, (scanT deep t c).2)
end
theorem shapes_all : ∀ (l : List Tm) (d : Nat), shapes d l = l.all fun t => t.shape d
  | [], _ => rfl
  | t :: l, d => by rw [shapes, shapes_all l d]; rfl
theorem own_leaf {k n : Int} {s : List UInt8} {l : List Tm} (hk : k ≠ 3) (h : (Tm.mk k n s l).ownB = true) : l = [] := by
  simp only [Tm.ownB] at h
  by_cases k1 : k = 1
  · rw [if_pos k1] at h; simp at h; exact h.2
  · rw [if_neg k1] at h
    by_cases k2 : k = 2
    · rw [if_pos k2] at h; simp at h; exact h.2
    · rw [if_neg k2, if_neg hk] at h; cases h
theorem size_pos (t : Tm) : 1 ≤ t.size := by cases t; rw [Tm.size]; omega
/-- what the program's check answers -/
theorem scan_spec : ∀ t : Tm, ∀ (deep c : Nat), c ≤ 120 → ((scanT deep t c).1 = true → (scanT deep t c).2 = c + t.size ∧ (scanT deep t c).2 ≤ 120) ∧ ((scanT deep t c).1 = (t.shape (31 - deep) && decide (c + t.size ≤ 120))) := by
  refine Tm.ind fun k n s l ih deep c hc => ?_
  have hl : ∀ (l : List Tm), (∀ t ∈ l, ∀ (deep c : Nat), c ≤ 120 → ((scanT deep t c).1 = true → (scanT deep t c).2 = c + t.size ∧ (scanT deep t c).2 ≤ 120) ∧ ((scanT deep t c).1 = (t.shape (31 - deep) && decide (c + t.size ≤ 120)))) →
      ∀ (deep c : Nat), c ≤ 120 → ((scanL deep l c).1 = true → (scanL deep l c).2 = c + sizes l ∧ (scanL deep l c).2 ≤ 120) ∧ ((scanL deep l c).1 = (shapes (31 - deep) l && decide (c + sizes l ≤ 120))) := by
    intro l
    induction l with
    | nil => intro _ deep c hc; simp [scanL, shapes, sizes, hc]
    | cons t l ih2 =>
      intro h deep c hc
      obtain ⟨h1, h2⟩ := h t (by simp) deep c hc
      rw [scanL, shapes, sizes]
      cases hs : (scanT deep t c).1 with
      | true =>
        obtain ⟨h3, h4⟩ := h1 hs
        obtain ⟨h5, h6⟩ := ih2 (fun x hx => h x (by simp [hx])) deep (scanT deep t c).2 h4
        rw [hs] at h2
        simp only [if_true]
        rw [h3] at h5 h6 ⊢
        have h7 := h2.symm
        simp only [Bool.and_eq_true] at h7
        rw [h7.1, Bool.true_and]
        refine ⟨fun h => ⟨by have := (h5 h).1; omega, (h5 h).2⟩, ?_⟩
        rw [h6, show c + t.size + sizes l = c + (t.size + sizes l) by omega]
      | false =>
        rw [hs] at h2
        simp only [Bool.false_eq_true, if_false]
        refine ⟨fun h => (by cases h), ?_⟩
        have h7 := h2.symm
        rw [Bool.and_eq_false_iff] at h7
        symm
        rcases h7 with h7 | h7
        · simp [h7]
        · simp only [decide_eq_false_iff_not] at h7
          have : ¬ c + (t.size + sizes l) ≤ 120 := by omega
          simp [this]
  rw [scanT, Tm.shape, Tm.size]
  by_cases h1 : 120 < c + 1 ∨ 30 < deep
  · rw [if_pos h1]
    refine ⟨fun h => (by cases h), ?_⟩
    symm
    rcases h1 with h1 | h1
    · have : ¬ c + (1 + sizes l) ≤ 120 := by omega
      simp [this]
    · have : ¬ 1 ≤ 31 - deep := by omega
      simp [this]
  · rw [if_neg h1]
    have hd : 1 ≤ 31 - deep := by omega
    cases ho : (Tm.mk k n s l).ownB with
    | false => exact ⟨fun h => (by simp at h), by simp⟩
    | true =>
      simp only [Bool.not_true, Bool.false_eq_true, if_false]
      obtain ⟨h3, h4⟩ := hl l ih (deep + 1) (c + 1) (by omega)
      refine ⟨fun h => ⟨by have := (h3 h).1; omega, (h3 h).2⟩, ?_⟩
      rw [h4, show 31 - (deep + 1) = 31 - deep - 1 by omega, show c + 1 + sizes l = c + (1 + sizes l) by omega]
      simp [hd]
theorem scan_valid (t : Tm) : (scanT 1 t 0).1 = t.valid := by
  have := (scan_spec t 1 0 (by omega)).2
  rw [this, Tm.valid]
  simp
end Go.Proofs.Ytaegeehpajlebaa
