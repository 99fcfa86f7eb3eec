/-
  Terms: how many there are.
  Conditions: none.
-/
import Derived.Test.YtaegeehpajlebaaTerm
open Go Go.AM Go.Proofs
namespace Go.Proofs.Ytaegeehpajlebaa
open Go.ChangeShapes Go.WideShapes Go.ChangeAt Go.RowKit
set_option linter.unusedVariables false
set_option linter.unusedSimpArgs false
set_option maxRecDepth 100000
mutual
/-- what a law's size takes off for a term -/
def Tm.wt : Tm → Nat
  | .mk _ _ s l => s.length + Tm.wts l
def Tm.wts : List Tm → Nat
  | [] => 0
  | t :: l => 1 + t.wt + Tm.wts l
end
mutual
/-- the terms below a term -/
def Tm.sub : Tm → Nat
  | .mk _ _ _ l => Tm.cnt l
def Tm.cnt : List Tm → Nat
  | [] => 0
  | t :: l => 1 + t.sub + Tm.cnt l
end
theorem sub_mk (k n : Int) (s : List UInt8) (l : List Tm) : (Tm.mk k n s l).sub = Tm.cnt l := by rw [Tm.sub]
theorem sub_eq (t : Tm) : t.sub = Tm.cnt t.kids := by cases t; rw [Tm.sub]; rfl
theorem cnt_nil : Tm.cnt [] = 0 := by rw [Tm.cnt]
theorem cnt_cons (t : Tm) (l : List Tm) : Tm.cnt (t :: l) = 1 + t.sub + Tm.cnt l := by rw [Tm.cnt]
theorem wts_cons (t : Tm) (l : List Tm) : Tm.wts (t :: l) = 1 + t.wt + Tm.wts l := by rw [Tm.wts]
theorem wts_append (l r : List Tm) : Tm.wts (l ++ r) = Tm.wts l + Tm.wts r := by
  induction l with
  | nil => simp [Tm.wts]
  | cons t l ih => rw [List.cons_append, wts_cons, wts_cons, ih]; omega
theorem cnt_append (l r : List Tm) : Tm.cnt (l ++ r) = Tm.cnt l + Tm.cnt r := by
  induction l with
  | nil => simp [Tm.cnt]
  | cons t l ih => rw [List.cons_append, cnt_cons, cnt_cons, ih]; omega
theorem cnt_take_succ (l : List Tm) {i : Nat} (h : i < l.length) : Tm.cnt (l.take (i + 1)) = Tm.cnt (l.take i) + 1 + l[i].sub := by
  rw [List.take_succ_eq_append_getElem h, cnt_append, cnt_cons, cnt_nil]; omega
theorem wts_take_succ (l : List Tm) {i : Nat} (h : i < l.length) : Tm.wts (l.take (i + 1)) = Tm.wts (l.take i) + 1 + l[i].wt := by
  rw [List.take_succ_eq_append_getElem h, wts_append, wts_cons, Tm.wts]; omega
theorem cnt_take_le (l : List Tm) (i : Nat) : Tm.cnt (l.take i) ≤ Tm.cnt l := by
  have := cnt_append (l.take i) (l.drop i)
  rw [List.take_append_drop] at this
  omega
theorem cnt_take_sub (l : List Tm) {i : Nat} (h : i < l.length) : Tm.cnt (l.take i) + 1 + l[i].sub ≤ Tm.cnt l := by
  rw [← cnt_take_succ l h]; exact cnt_take_le l _
theorem cnt_len (l : List Tm) : l.length ≤ Tm.cnt l := by
  induction l with
  | nil => simp
  | cons t l ih => rw [cnt_cons]; simp; omega
theorem sub_wt : ∀ t : Tm, t.sub ≤ t.wt := by
  refine Tm.ind fun k n s l ih => ?_
  rw [Tm.sub, Tm.wt]
  have : Tm.cnt l ≤ Tm.wts l := by
    clear k n s
    induction l with
    | nil => simp [Tm.cnt]
    | cons t l ih2 =>
      rw [cnt_cons, wts_cons]
      have := ih t (by simp)
      have := ih2 fun t ht => ih t (by simp [ht])
      omega
  omega
theorem cnt_wts (l : List Tm) : Tm.cnt l ≤ Tm.wts l := by
  induction l with
  | nil => simp [Tm.cnt]
  | cons t l ih => rw [cnt_cons, wts_cons]; have := sub_wt t; omega
/-- what is left, where enough is -/
def LeftW (m : Int) (p : Prop) (w : Nat) (r : A) : Prop := ∃ q : Int, r = .c (.d (.int .i64 q)) ∧ -1 ≤ q ∧ q ≤ m ∧ (0 ≤ q → p ∧ q + w ≤ m)
theorem LeftW.re {n : Nat} {m : Int} {p : Prop} {w : Nat} {r : A} (h : LeftW m p w r) : A.re n r = r := by
  obtain ⟨q, rfl, _⟩ := h
  rfl
theorem LeftW.left {m : Int} {p : Prop} {w : Nat} {r : A} (h : LeftW m p w r) : Left m p r := by
  obtain ⟨q, h1, h2, h3, h4⟩ := h
  exact ⟨q, h1, h2, h3, fun h => (h4 h).1⟩
def SzW (t : Tm) : Prop := ∀ (m : Int), 0 ≤ m → m ≤ 1048576 → ∀ H, ACalls Try.prog 7 [.agg (t.row.map .d), .c (.d (.int .i64 m))] H (fun r H' => H' = H ∧ LeftW m t.fits t.wt r)
theorem szwTermS_of (l : List Tm) (hl : l.length ≤ reachBytes) (h : ∀ t ∈ l, SzW t) (m : Int) (h0 : 0 ≤ m) (h1 : m ≤ 1048576) (H : Heap) :
    ACalls Try.prog 18 [.c (.d (.sl (l.map Tm.row))), .c (.d (.int .i64 m))] H (fun r H' => H' = H ∧ LeftW m (l.length ≤ 1048576 ∧ ∀ t ∈ l, t.fits) (Tm.wts l) r) := by
  refine acalls Try.func18 (by kernel_rfl) ac18_ok fun hf => ?_
  have hlen := reach_i64 hl
  have hsm := reach_small hl
  have hsub : inR .i64 (m - (l.length : Int)) := small_i64 (by omega) (by omega)
  simp -implicitDefEqProofs [ac18, hlen, hsub, kw, ew, sw, tw, a_, b_, c_, -List.set_cons_succ, -List.set_cons_zero, A.ok, A.val, d_, e_, f_, g_, h_, i_, j_, k_, l_, m_, unA, unD, n_, AOp.total, o_, p_, q_, r_, s_, t_, u_, v_, A.thaw, C.thaw, A.fits, As.fits, C.fits, evs, oks, w_, A.pure, C.pure, A.re, C.re, x_, y_, cut, A.cells, C.rows?, z_, A_, B_, C_, D_, Ob.re, Cs.fits, E_, F_, G_, H_, I_, J_, K_, L_, M_, N_, O_, C.toD, P_, Q_, R_, S_, T_, Obs.fits, U_, eqD, V_, W_, X_, Y_, Z_]
  refine ⟨fun _ => ⟨-1, rfl, by omega, by omega, fun h => by omega⟩, fun hge => ?_⟩
  have hsmall : l.length ≤ 1048576 := by omega
  refine loop_set (σ := Nat × Int) (fun x => [(5, .c (.d (.int .i64 x.1))), (1, .c (.d (.int .i64 x.2)))]) (fun _ => H) (fun _ => []) (fun x => x.1 ≤ l.length ∧ 0 ≤ x.2 ∧ x.2 + Tm.wts (l.take x.1) + (l.length - x.1 : Nat) ≤ m ∧ ∀ t ∈ l.take x.1, t.fits) (fun x => l.length - x.1) (0, m - l.length) rfl ⟨Nat.zero_le _, by simp; omega, by simp [Tm.wts], by simp⟩ ?_
  rintro ⟨i, k⟩ ⟨hi, hm0, hm1, hall⟩
  simp only at hi hm0 hm1 hall
  simp -implicitDefEqProofs [setAll, hlen, kw, ew, sw, tw, a_, b_, c_, -List.set_cons_succ, -List.set_cons_zero, A.ok, A.val, d_, e_, f_, g_, h_, i_, j_, k_, l_, m_, unA, unD, n_, AOp.total, o_, p_, q_, r_, s_, t_, u_, v_, A.thaw, C.thaw, A.fits, As.fits, C.fits, evs, oks, w_, A.pure, C.pure, A.re, C.re, x_, y_, cut, A.cells, C.rows?, z_, A_, B_, C_, D_, Ob.re, Cs.fits, E_, F_, G_, H_, I_, J_, K_, L_, M_, N_, O_, C.toD, P_, Q_, R_, S_, T_, Obs.fits, U_, eqD, V_, W_, X_, Y_, Z_]
  refine ⟨fun hlt => ?_, fun hge => ⟨k, rfl, by omega, by omega, fun _ => ⟨⟨hsmall, by rw [List.take_of_length_le hge] at hall; exact hall⟩, by rw [List.take_of_length_le hge] at hm1; omega⟩⟩⟩
  refine row_of hlt (row_len _) ?_
  simp -implicitDefEqProofs [row_len, take_row, pure_d, re_d, kw, ew, sw, tw, a_, b_, c_, -List.set_cons_succ, -List.set_cons_zero, A.ok, A.val, d_, e_, f_, g_, h_, i_, j_, k_, l_, m_, unA, unD, n_, AOp.total, o_, p_, q_, r_, s_, t_, u_, v_, A.thaw, C.thaw, A.fits, As.fits, C.fits, evs, oks, w_, A.pure, C.pure, A.re, C.re, x_, y_, cut, A.cells, C.rows?, z_, A_, B_, C_, D_, Ob.re, Cs.fits, E_, F_, G_, H_, I_, J_, K_, L_, M_, N_, O_, C.toD, P_, Q_, R_, S_, T_, Obs.fits, U_, eqD, V_, W_, X_, Y_, Z_]
  refine call_some (h l[i] (List.getElem_mem hlt) k hm0 (by omega) _) (by simp) (fun r => LeftW.re) hf ?_
  rintro _ ⟨q, rfl, hq0, hq1, hq2⟩
  have hadd : inR .i64 ((i : Int) + 1) := small_i64 (by omega) (by omega)
  simp -implicitDefEqProofs [hadd, kw, ew, sw, tw, a_, b_, c_, -List.set_cons_succ, -List.set_cons_zero, A.ok, A.val, d_, e_, f_, g_, h_, i_, j_, k_, l_, m_, unA, unD, n_, AOp.total, o_, p_, q_, r_, s_, t_, u_, v_, A.thaw, C.thaw, A.fits, As.fits, C.fits, evs, oks, w_, A.pure, C.pure, A.re, C.re, x_, y_, cut, A.cells, C.rows?, z_, A_, B_, C_, D_, Ob.re, Cs.fits, E_, F_, G_, H_, I_, J_, K_, L_, M_, N_, O_, C.toD, P_, Q_, R_, S_, T_, Obs.fits, U_, eqD, V_, W_, X_, Y_, Z_]
  refine ⟨fun _ => ⟨-1, rfl, by omega, by omega, fun h => by omega⟩, fun hk => ?_⟩
  have hw := wts_take_succ l hlt
  have hq3 := (hq2 hk).2
  refine loop_back (i + 1, q) (by simp [setAll]) ⟨hlt, hk, by simp only [hw]; omega, fun t ht => ?_⟩ (by show l.length - (i + 1) < l.length - i; omega)
  rw [List.take_succ_eq_append_getElem hlt, List.mem_append] at ht
  rcases ht with ht | ht
  · exact hall t ht
  · simp at ht; subst ht; exact (hq2 hk).1
theorem szwTerm_calls : ∀ t : Tm, t.fine → SzW t := by
  refine Tm.ind fun k n s l ih hfine m h0 h1 H => ?_
  obtain ⟨hk, hn, hs, hl, hkids⟩ := hfine
  refine acalls Try.func7 (by kernel_rfl) ac7_ok fun hf => ?_
  have hlen := reach_i64 hs
  have hsm := reach_small hs
  have hsub : inR .i64 (m - (s.length : Int)) := small_i64 (by omega) (by omega)
  simp -implicitDefEqProofs [ac7, row_mk, hlen, hsub, kw, ew, sw, tw, a_, b_, c_, -List.set_cons_succ, -List.set_cons_zero, A.ok, A.val, d_, e_, f_, g_, h_, i_, j_, k_, l_, m_, unA, unD, n_, AOp.total, o_, p_, q_, r_, s_, t_, u_, v_, A.thaw, C.thaw, A.fits, As.fits, C.fits, evs, oks, w_, A.pure, C.pure, A.re, C.re, x_, y_, cut, A.cells, C.rows?, z_, A_, B_, C_, D_, Ob.re, Cs.fits, E_, F_, G_, H_, I_, J_, K_, L_, M_, N_, O_, C.toD, P_, Q_, R_, S_, T_, Obs.fits, U_, eqD, V_, W_, X_, Y_, Z_]
  refine ⟨fun _ => ⟨-1, rfl, by omega, by omega, fun h => by omega⟩, fun hge => ?_⟩
  refine call_some (szwTermS_of l hl (fun t ht => ih t ht (hkids t ht)) (m - s.length) (by omega) (by omega) _) (by simp [Ob.re, C.re]) (fun r => LeftW.re) hf ?_
  rintro _ ⟨q, rfl, hq0, hq1, hq2⟩
  simp -implicitDefEqProofs [kw, ew, sw, tw, a_, b_, c_, -List.set_cons_succ, -List.set_cons_zero, A.ok, A.val, d_, e_, f_, g_, h_, i_, j_, k_, l_, m_, unA, unD, n_, AOp.total, o_, p_, q_, r_, s_, t_, u_, v_, A.thaw, C.thaw, A.fits, As.fits, C.fits, evs, oks, w_, A.pure, C.pure, A.re, C.re, x_, y_, cut, A.cells, C.rows?, z_, A_, B_, C_, D_, Ob.re, Cs.fits, E_, F_, G_, H_, I_, J_, K_, L_, M_, N_, O_, C.toD, P_, Q_, R_, S_, T_, Obs.fits, U_, eqD, V_, W_, X_, Y_, Z_]
  exact ⟨fun _ => ⟨-1, rfl, by omega, by omega, fun h => by omega⟩, fun hq => ⟨q, rfl, by omega, by omega, fun _ => ⟨.mk hk hn (by omega) (hq2 hq).1.1 (hq2 hq).1.2, by have := (hq2 hq).2; rw [Tm.wt]; omega⟩⟩⟩
theorem szwTermS_calls (l : List Tm) (hl : l.length ≤ reachBytes) (h : ∀ t ∈ l, t.fine) (m : Int) (h0 : 0 ≤ m) (h1 : m ≤ 1048576) (H : Heap) :
    ACalls Try.prog 18 [.c (.d (.sl (l.map Tm.row))), .c (.d (.int .i64 m))] H (fun r H' => H' = H ∧ LeftW m (l.length ≤ 1048576 ∧ ∀ t ∈ l, t.fits) (Tm.wts l) r) :=
  szwTermS_of l hl (fun t ht => szwTerm_calls t (h t ht)) m h0 h1 H
end Go.Proofs.Ytaegeehpajlebaa
