/-
  Contracts of functions that the law reaches, and plain lemmas: several texts in one.
  Conditions: none.
-/
import Derived.Test.YteighafofbohcaaBundB
import Derived.Test.YteighafofbohcaaBundA
import Derived.Lib.ItoaNum
import Derived.Lib.ItoaMem
/-
  The reference's parser does what it is said to do: the whole.
  Conditions: none.
-/
open Go Go.AM Go.Proofs
namespace Go.Proofs.Yteighafofbohcaa
open Go.ChangeShapes Go.WideShapes Go.ChangeAt Go.RowKit
set_option linter.unusedVariables false
set_option linter.unusedSimpArgs false
set_option maxRecDepth 100000
def Rs.app (out : List Tm) : Rs → Rs
  | .ok us k => .ok (out ++ us) k
  | .bad e => .bad e
theorem opR_lv {s : List UInt8} {i j : Nat} {n : List UInt8} (h : opR s i = some (n, j)) : ¬ levelN n = 0 := by
  unfold opR at h
  generalize (if sgn s i 32 then i + 1 else i) = p at h
  split at h
  · cases h
  · cases hn : nameR s p with
    | none => rw [hn] at h; cases h
    | some q =>
      obtain ⟨m, k⟩ := q
      rw [hn] at h
      simp only at h
      split at h
      · cases h
      · rename_i hl
        split at h
        · cases h
        · simp only [Option.some.injEq, Prod.mk.injEq] at h
          rw [← h.1]; exact hl
section
variable {s : List UInt8} (hs : s.length ≤ 1000000) {f : Nat} (h : ∀ g, g ≤ f → Par s g)
include hs h
theorem terms_step (i d : Nat) (e o : UInt8) (r : Rs) (hi : i ≤ s.length) (hd : d ≤ 1000) (hr : rd s (f + 1) (.terms i d e o) = some r) (H : Heap) :
    ACalls Try.prog 79 [.c (.d (.str s)), .c (.d (.int .i64 i)), .c (.d (.int .i64 d)), .c (.d (.int .u8 e.toNat)), .c (.d (.int .u8 o.toNat))] H (fun r' H' => H' = H ∧ r' = termsA r) := by
  refine acalls Try.func79 (by kernel_rfl) ac79_ok fun hf => ?_
  simp -implicitDefEqProofs [ac79, kw, ew, sw, tw, a_, b_, c_, -List.set_cons_succ, -List.set_cons_zero, A.ok, A.val, d_, e_, f_, g_, h_, i_, j_, k_, l_, m_, unA, unD, n_, AOp.total, o_, p_, q_, r_, s_, t_, u_, v_, A.thaw, C.thaw, A.fits, As.fits, C.fits, evs, oks, w_, A.pure, C.pure, A.re, C.re, x_, y_, cut, A.cells, C.rows?, z_, A_, B_, C_, D_, Ob.re, Cs.fits, E_, F_, G_, H_, I_, J_, K_, L_, M_, N_, O_, C.toD, P_, Q_, R_, S_, T_, Obs.fits, U_, eqD, V_, W_, X_, Y_, Z_]
  refine loop_enter (St.le_token 12 4 rfl) ?_
  refine loop_set (σ := Nat × List Tm × Nat × Rs) (fun x => [(1, .c (.d (.int .i64 x.1))), (12, .c (.own (.l 0) x.2.1.length (x.2.1.map Tm.row)))]) (fun _ => H) (fun x => [.grow x.2.1.length 4])
    (fun x => x.1 ≤ s.length ∧ x.2.1.length ≤ x.1 ∧ x.2.2.1 ≤ f + 1 ∧ rd s x.2.2.1 (.terms x.1 d e o) = some x.2.2.2 ∧ x.2.2.2.app x.2.1 = r) (fun x => x.2.2.1) (i, [], f + 1, r) (by simp [setAll]) ⟨hi, by simp, Nat.le_refl _, hr, by cases r <;> rfl⟩ ?_
  rintro ⟨p, out, g, q⟩ ⟨hp, hol, hg, hq, happ⟩
  simp only at hp hol hg hq happ
  cases g with
  | zero => cases hq
  | succ g =>
    have hq : step s (rd s g) (.terms p d e o) = some q := hq
    simp only [step] at hq
    have hpar := h g (by omega)
    simp -implicitDefEqProofs [setAll, hf, kw, ew, sw, tw, a_, b_, c_, -List.set_cons_succ, -List.set_cons_zero, A.ok, A.val, d_, e_, f_, g_, h_, i_, j_, k_, l_, m_, unA, unD, n_, AOp.total, o_, p_, q_, r_, s_, t_, u_, v_, A.thaw, C.thaw, A.fits, As.fits, C.fits, evs, oks, w_, A.pure, C.pure, A.re, C.re, x_, y_, cut, A.cells, C.rows?, z_, A_, B_, C_, D_, Ob.re, Cs.fits, E_, F_, G_, H_, I_, J_, K_, L_, M_, N_, O_, C.toD, P_, Q_, R_, S_, T_, Obs.fits, U_, eqD, V_, W_, X_, Y_, Z_]
    cases hx : rd s g (.read p d 3) with
    | none => rw [hx] at hq; cases hq
    | some v =>
      rw [hx] at hq
      have c1 := hpar.read p d 3 v hp hd (by omega) hx
      have p1 := rd_post hs (j := .read p d 3) ⟨hp, by omega⟩ hx
      refine qcall_pure c1 hf (readA_re _ _) ?_
      cases v with
      | bad x =>
        cases hq
        have hx2 : x ≤ s.length := p1
        have hneg : (-1 - (x : Int)) < 0 := by omega
        subst happ
        simp -implicitDefEqProofs [readA, termsA, Rs.app, hneg, row_mk, hf, kw, ew, sw, tw, a_, b_, c_, -List.set_cons_succ, -List.set_cons_zero, A.ok, A.val, d_, e_, f_, g_, h_, i_, j_, k_, l_, m_, unA, unD, n_, AOp.total, o_, p_, q_, r_, s_, t_, u_, v_, A.thaw, C.thaw, A.fits, As.fits, C.fits, evs, oks, w_, A.pure, C.pure, A.re, C.re, x_, y_, cut, A.cells, C.rows?, z_, A_, B_, C_, D_, Ob.re, Cs.fits, E_, F_, G_, H_, I_, J_, K_, L_, M_, N_, O_, C.toD, P_, Q_, R_, S_, T_, Obs.fits, U_, eqD, V_, W_, X_, Y_, Z_]
      | ok ts j =>
        obtain ⟨g1, g2, t, rfl, g3⟩ := p1
        simp only at hq
        have hj0 : ¬ (j : Int) < 0 := by omega
        have hj1 : inR .i64 ((j : Int) + 1) := small_i64 (by omega) (by omega)
        have hjm : inR .i64 (-1 - (j : Int)) := small_i64 (by omega) (by omega)
        simp -implicitDefEqProofs [readA, Rs.tm, hj0, row_len, take_row, pure_d, re_d, toDs_map, hf, kw, ew, sw, tw, a_, b_, c_, -List.set_cons_succ, -List.set_cons_zero, A.ok, A.val, d_, e_, f_, g_, h_, i_, j_, k_, l_, m_, unA, unD, n_, AOp.total, o_, p_, q_, r_, s_, t_, u_, v_, A.thaw, C.thaw, A.fits, As.fits, C.fits, evs, oks, w_, A.pure, C.pure, A.re, C.re, x_, y_, cut, A.cells, C.rows?, z_, A_, B_, C_, D_, Ob.re, Cs.fits, E_, F_, G_, H_, I_, J_, K_, L_, M_, N_, O_, C.toD, P_, Q_, R_, S_, T_, Obs.fits, U_, eqD, V_, W_, X_, Y_, Z_]
        refine ⟨allLen_map row_len, by unfold maxApp; omega, ?_⟩
        refine qcall_pure (sign_calls s hs j (by omega) e) hf rfl ?_
        refine (fun (key1 : some (Rs.ok [t] j) = some q → (?done : Prop)) (key2 : (if sgn s j 44 then match rd s g (.terms (j + 1) d e o) with
        | none => none
        | some (.bad x) => some (.bad x)
        | some (.ok us k) => some (.ok (t :: us) k)
      else some (.bad j)) = some q → (?more : Prop)) => ?main) ?rest1 ?rest2
        case main =>
          cases he : sgn s j e with
          | true =>
            rw [he] at hq
            simp only [Bool.true_or, if_true] at hq
            simp -implicitDefEqProofs [hf, kw, ew, sw, tw, a_, b_, c_, -List.set_cons_succ, -List.set_cons_zero, A.ok, A.val, d_, e_, f_, g_, h_, i_, j_, k_, l_, m_, unA, unD, n_, AOp.total, o_, p_, q_, r_, s_, t_, u_, v_, A.thaw, C.thaw, A.fits, As.fits, C.fits, evs, oks, w_, A.pure, C.pure, A.re, C.re, x_, y_, cut, A.cells, C.rows?, z_, A_, B_, C_, D_, Ob.re, Cs.fits, E_, F_, G_, H_, I_, J_, K_, L_, M_, N_, O_, C.toD, P_, Q_, R_, S_, T_, Obs.fits, U_, eqD, V_, W_, X_, Y_, Z_]
            exact key1 hq
          | false =>
            rw [he] at hq
            simp only [Bool.false_or] at hq
            simp -implicitDefEqProofs [hf, kw, ew, sw, tw, a_, b_, c_, -List.set_cons_succ, -List.set_cons_zero, A.ok, A.val, d_, e_, f_, g_, h_, i_, j_, k_, l_, m_, unA, unD, n_, AOp.total, o_, p_, q_, r_, s_, t_, u_, v_, A.thaw, C.thaw, A.fits, As.fits, C.fits, evs, oks, w_, A.pure, C.pure, A.re, C.re, x_, y_, cut, A.cells, C.rows?, z_, A_, B_, C_, D_, Ob.re, Cs.fits, E_, F_, G_, H_, I_, J_, K_, L_, M_, N_, O_, C.toD, P_, Q_, R_, S_, T_, Obs.fits, U_, eqD, V_, W_, X_, Y_, Z_]
            refine qcall_pure (sign_calls s hs j (by omega) o) hf rfl ?_
            cases ho : sgn s j o with
            | true =>
              rw [ho] at hq
              simp only [if_true] at hq
              simp -implicitDefEqProofs [hf, kw, ew, sw, tw, a_, b_, c_, -List.set_cons_succ, -List.set_cons_zero, A.ok, A.val, d_, e_, f_, g_, h_, i_, j_, k_, l_, m_, unA, unD, n_, AOp.total, o_, p_, q_, r_, s_, t_, u_, v_, A.thaw, C.thaw, A.fits, As.fits, C.fits, evs, oks, w_, A.pure, C.pure, A.re, C.re, x_, y_, cut, A.cells, C.rows?, z_, A_, B_, C_, D_, Ob.re, Cs.fits, E_, F_, G_, H_, I_, J_, K_, L_, M_, N_, O_, C.toD, P_, Q_, R_, S_, T_, Obs.fits, U_, eqD, V_, W_, X_, Y_, Z_]
              exact key1 hq
            | false =>
              rw [ho] at hq
              simp only [Bool.false_eq_true, if_false] at hq
              simp -implicitDefEqProofs [hf, kw, ew, sw, tw, a_, b_, c_, -List.set_cons_succ, -List.set_cons_zero, A.ok, A.val, d_, e_, f_, g_, h_, i_, j_, k_, l_, m_, unA, unD, n_, AOp.total, o_, p_, q_, r_, s_, t_, u_, v_, A.thaw, C.thaw, A.fits, As.fits, C.fits, evs, oks, w_, A.pure, C.pure, A.re, C.re, x_, y_, cut, A.cells, C.rows?, z_, A_, B_, C_, D_, Ob.re, Cs.fits, E_, F_, G_, H_, I_, J_, K_, L_, M_, N_, O_, C.toD, P_, Q_, R_, S_, T_, Obs.fits, U_, eqD, V_, W_, X_, Y_, Z_]
              exact key2 hq
        case rest1 =>
          intro hq
          cases hq
          subst happ
          simp [termsA, Rs.app]
        case rest2 =>
          intro hq
          refine qcall_pure (sign_calls s hs j (by omega) 44) hf rfl ?_
          cases hsg : sgn s j 44 with
          | false =>
            rw [hsg] at hq
            simp only [Bool.false_eq_true, if_false] at hq
            cases hq
            subst happ
            simp -implicitDefEqProofs [hjm, termsA, Rs.app, hf, kw, ew, sw, tw, a_, b_, c_, -List.set_cons_succ, -List.set_cons_zero, A.ok, A.val, d_, e_, f_, g_, h_, i_, j_, k_, l_, m_, unA, unD, n_, AOp.total, o_, p_, q_, r_, s_, t_, u_, v_, A.thaw, C.thaw, A.fits, As.fits, C.fits, evs, oks, w_, A.pure, C.pure, A.re, C.re, x_, y_, cut, A.cells, C.rows?, z_, A_, B_, C_, D_, Ob.re, Cs.fits, E_, F_, G_, H_, I_, J_, K_, L_, M_, N_, O_, C.toD, P_, Q_, R_, S_, T_, Obs.fits, U_, eqD, V_, W_, X_, Y_, Z_]
          | true =>
            rw [hsg] at hq
            simp only [if_true] at hq
            have hjl := sgn_lt hsg
            simp -implicitDefEqProofs [hj1, hf, kw, ew, sw, tw, a_, b_, c_, -List.set_cons_succ, -List.set_cons_zero, A.ok, A.val, d_, e_, f_, g_, h_, i_, j_, k_, l_, m_, unA, unD, n_, AOp.total, o_, p_, q_, r_, s_, t_, u_, v_, A.thaw, C.thaw, A.fits, As.fits, C.fits, evs, oks, w_, A.pure, C.pure, A.re, C.re, x_, y_, cut, A.cells, C.rows?, z_, A_, B_, C_, D_, Ob.re, Cs.fits, E_, F_, G_, H_, I_, J_, K_, L_, M_, N_, O_, C.toD, P_, Q_, R_, S_, T_, Obs.fits, U_, eqD, V_, W_, X_, Y_, Z_]
            have hq2 : ∃ w, rd s g (.terms (j + 1) d e o) = some w ∧ w.app (out ++ [t]) = r := by
              cases hy : rd s g (.terms (j + 1) d e o) with
              | none => rw [hy] at hq; cases hq
              | some w =>
                rw [hy] at hq
                refine ⟨w, rfl, ?_⟩
                cases w with
                | bad x => cases hq; exact happ
                | ok us k => cases hq; rw [← happ]; simp [Rs.app]
            obtain ⟨w, hw, hwa⟩ := hq2
            refine loop_less (j + 1, out ++ [t], g, w) (St.le_cut [_] ?_ (by simp [Sl.le, A.le_refl_iff, A.le_u_iff, As.lo, A.lo, C.lo, Ref.lo, Cs.lo, Obs.lo, Ob.lo, setAll, and_true, true_and, List.length_nil, List.length_cons]) (by simp; rfl) (by simp [Sl.le, A.le_refl_iff, A.le_u_iff, As.lo, A.lo, C.lo, Ref.lo, Cs.lo, Obs.lo, Ob.lo, setAll, and_true, true_and, List.length_nil, List.length_cons])) ⟨by dsimp only; omega, by simp; omega, by dsimp only; omega, hw, hwa⟩ (by show g < g + 1; omega)
            simp [setAll, Sl.le, A.le_refl_iff, A.le_u_iff, As.lo, A.lo, C.lo, Ref.lo, Cs.lo, Obs.lo, Ob.lo, setAll, and_true, true_and, List.length_nil, List.length_cons]
theorem read_step (i d l : Nat) (r : Rs) (hi : i ≤ s.length) (hd : d ≤ 1000) (hl : l ≤ 3) (hr : rd s (f + 1) (.read i d l) = some r) (H : Heap) :
    ACalls Try.prog 57 [.c (.d (.str s)), .c (.d (.int .i64 i)), .c (.d (.int .i64 d)), .c (.d (.int .i64 l))] H (fun r' H' => H' = H ∧ r' = readA r) := by
  refine acalls Try.func57 (by kernel_rfl) ac57_ok fun hf => ?_
  have hpar := h f (Nat.le_refl _)
  have hr : step s (rd s f) (.read i d l) = some r := hr
  cases l with
  | zero =>
    have c1 := hpar.prime i d r hi hd hr
    simp -implicitDefEqProofs [ac57, kw, ew, sw, tw, a_, b_, c_, -List.set_cons_succ, -List.set_cons_zero, A.ok, A.val, d_, e_, f_, g_, h_, i_, j_, k_, l_, m_, unA, unD, n_, AOp.total, o_, p_, q_, r_, s_, t_, u_, v_, A.thaw, C.thaw, A.fits, As.fits, C.fits, evs, oks, w_, A.pure, C.pure, A.re, C.re, x_, y_, cut, A.cells, C.rows?, z_, A_, B_, C_, D_, Ob.re, Cs.fits, E_, F_, G_, H_, I_, J_, K_, L_, M_, N_, O_, C.toD, P_, Q_, R_, S_, T_, Obs.fits, U_, eqD, V_, W_, X_, Y_, Z_]
    refine qcall_pure c1 hf (readA_re _ _) ?_
    cases r with
    | bad e => simp -implicitDefEqProofs [readA, row_mk, hf, kw, ew, sw, tw, a_, b_, c_, -List.set_cons_succ, -List.set_cons_zero, A.ok, A.val, d_, e_, f_, g_, h_, i_, j_, k_, l_, m_, unA, unD, n_, AOp.total, o_, p_, q_, r_, s_, t_, u_, v_, A.thaw, C.thaw, A.fits, As.fits, C.fits, evs, oks, w_, A.pure, C.pure, A.re, C.re, x_, y_, cut, A.cells, C.rows?, z_, A_, B_, C_, D_, Ob.re, Cs.fits, E_, F_, G_, H_, I_, J_, K_, L_, M_, N_, O_, C.toD, P_, Q_, R_, S_, T_, Obs.fits, U_, eqD, V_, W_, X_, Y_, Z_]
    | ok ts j => simp -implicitDefEqProofs [readA, row_len, take_row, pure_d, re_d, thaw_d, fits_map, hf, kw, ew, sw, tw, a_, b_, c_, -List.set_cons_succ, -List.set_cons_zero, A.ok, A.val, d_, e_, f_, g_, h_, i_, j_, k_, l_, m_, unA, unD, n_, AOp.total, o_, p_, q_, r_, s_, t_, u_, v_, A.thaw, C.thaw, A.fits, As.fits, C.fits, evs, oks, w_, A.pure, C.pure, A.re, C.re, x_, y_, cut, A.cells, C.rows?, z_, A_, B_, C_, D_, Ob.re, Cs.fits, E_, F_, G_, H_, I_, J_, K_, L_, M_, N_, O_, C.toD, P_, Q_, R_, S_, T_, Obs.fits, U_, eqD, V_, W_, X_, Y_, Z_]
  | succ l =>
    simp only [step] at hr
    have hl1 : ¬ ((l : Int) + 1 = 0) := by omega
    have hl2 : ((l : Int) + 1 == 0) = false := by simp; omega
    have hl3 : inR .i64 ((l : Int) + 1 - 1) := small_i64 (by omega) (by omega)
    have hl4 : (l : Int) + 1 - 1 = l := by omega
    cases hx : rd s f (.read i d l) with
    | none => rw [hx] at hr; cases hr
    | some v =>
      rw [hx] at hr
      have c1 := hpar.read i d l v hi hd (by omega) hx
      have p1 := rd_post hs (j := .read i d l) ⟨hi, by omega⟩ hx
      have hli : inR .i64 (l : Int) := small_i64 (by omega) (by omega)
      simp -implicitDefEqProofs [ac57, hl1, hl2, hl3, hl4, hli, kw, ew, sw, tw, a_, b_, c_, -List.set_cons_succ, -List.set_cons_zero, A.ok, A.val, d_, e_, f_, g_, h_, i_, j_, k_, l_, m_, unA, unD, n_, AOp.total, o_, p_, q_, r_, s_, t_, u_, v_, A.thaw, C.thaw, A.fits, As.fits, C.fits, evs, oks, w_, A.pure, C.pure, A.re, C.re, x_, y_, cut, A.cells, C.rows?, z_, A_, B_, C_, D_, Ob.re, Cs.fits, E_, F_, G_, H_, I_, J_, K_, L_, M_, N_, O_, C.toD, P_, Q_, R_, S_, T_, Obs.fits, U_, eqD, V_, W_, X_, Y_, Z_]
      refine qcall_pure c1 hf (readA_re _ _) ?_
      cases v with
      | bad e =>
        cases hr
        have he : e ≤ s.length := p1
        have hneg : ¬ (0 : Int) ≤ -1 - (e : Int) := by omega
        simp -implicitDefEqProofs [readA, row_mk, hf, kw, ew, sw, tw, a_, b_, c_, -List.set_cons_succ, -List.set_cons_zero, A.ok, A.val, d_, e_, f_, g_, h_, i_, j_, k_, l_, m_, unA, unD, n_, AOp.total, o_, p_, q_, r_, s_, t_, u_, v_, A.thaw, C.thaw, A.fits, As.fits, C.fits, evs, oks, w_, A.pure, C.pure, A.re, C.re, x_, y_, cut, A.cells, C.rows?, z_, A_, B_, C_, D_, Ob.re, Cs.fits, E_, F_, G_, H_, I_, J_, K_, L_, M_, N_, O_, C.toD, P_, Q_, R_, S_, T_, Obs.fits, U_, eqD, V_, W_, X_, Y_, Z_]
        refine loop_set (σ := Unit) (fun _ => []) (fun _ => H) (fun _ => [.cells [.d (.int .i64 0), .d (.int .i64 0), .d (.str []), .full []], .cells [.d (.int .i64 0), .d (.int .i64 0), .d (.str []), .d (.sl [])]]) (fun _ => True) (fun _ => 0) () rfl trivial ?_
        intro _ _
        simp -implicitDefEqProofs [setAll, hneg, row_mk, hf, kw, ew, sw, tw, a_, b_, c_, -List.set_cons_succ, -List.set_cons_zero, A.ok, A.val, d_, e_, f_, g_, h_, i_, j_, k_, l_, m_, unA, unD, n_, AOp.total, o_, p_, q_, r_, s_, t_, u_, v_, A.thaw, C.thaw, A.fits, As.fits, C.fits, evs, oks, w_, A.pure, C.pure, A.re, C.re, x_, y_, cut, A.cells, C.rows?, z_, A_, B_, C_, D_, Ob.re, Cs.fits, E_, F_, G_, H_, I_, J_, K_, L_, M_, N_, O_, C.toD, P_, Q_, R_, S_, T_, Obs.fits, U_, eqD, V_, W_, X_, Y_, Z_]
        intro he2
        omega
      | ok ts j =>
        obtain ⟨g1, g2, t0, rfl, g3⟩ := p1
        simp only at hr
        simp -implicitDefEqProofs [readA, Rs.tm, row_len, take_row, pure_d, re_d, hf, kw, ew, sw, tw, a_, b_, c_, -List.set_cons_succ, -List.set_cons_zero, A.ok, A.val, d_, e_, f_, g_, h_, i_, j_, k_, l_, m_, unA, unD, n_, AOp.total, o_, p_, q_, r_, s_, t_, u_, v_, A.thaw, C.thaw, A.fits, As.fits, C.fits, evs, oks, w_, A.pure, C.pure, A.re, C.re, x_, y_, cut, A.cells, C.rows?, z_, A_, B_, C_, D_, Ob.re, Cs.fits, E_, F_, G_, H_, I_, J_, K_, L_, M_, N_, O_, C.toD, P_, Q_, R_, S_, T_, Obs.fits, U_, eqD, V_, W_, X_, Y_, Z_]
        refine loop_set (σ := Nat × Tm × Nat) (fun x => [(11, .c (.d (.int .i64 x.1)))]) (fun _ => H) (fun x => [.cells [.d (.int .i64 0), .d (.int .i64 0), .d (.str []), .full []], .cells (x.2.1.row.map .d)])
          (fun x => x.1 ≤ s.length ∧ x.2.1.fits ∧ x.2.2 ≤ f ∧ rd s x.2.2 (.ops x.2.1 x.1 d (l + 1)) = some r) (fun x => x.2.2) (j, t0, f) (by simp [setAll]) ⟨g2, g3, Nat.le_refl _, hr⟩ ?_
        rintro ⟨p, t, g⟩ ⟨hp, htf, hg, hq⟩
        simp only at hp htf hg hq
        cases g with
        | zero => cases hq
        | succ g =>
          have hq : step s (rd s g) (.ops t p d (l + 1)) = some r := hq
          simp only [step] at hq
          have hp0 : (0 : Int) ≤ (p : Int) := by omega
          have co := op_calls s hs p hp
          simp -implicitDefEqProofs [setAll, hp0, hf, kw, ew, sw, tw, a_, b_, c_, -List.set_cons_succ, -List.set_cons_zero, A.ok, A.val, d_, e_, f_, g_, h_, i_, j_, k_, l_, m_, unA, unD, n_, AOp.total, o_, p_, q_, r_, s_, t_, u_, v_, A.thaw, C.thaw, A.fits, As.fits, C.fits, evs, oks, w_, A.pure, C.pure, A.re, C.re, x_, y_, cut, A.cells, C.rows?, z_, A_, B_, C_, D_, Ob.re, Cs.fits, E_, F_, G_, H_, I_, J_, K_, L_, M_, N_, O_, C.toD, P_, Q_, R_, S_, T_, Obs.fits, U_, eqD, V_, W_, X_, Y_, Z_]
          cases ho : opR s p with
          | none =>
            rw [ho] at hq co
            cases hq
            refine qcall_pure co hf (by simp [opA, A.re, A.res, C.re]) ?_
            simp -implicitDefEqProofs [opA, readA, Rs.tm, row_len, take_row, pure_d, re_d, thaw_d, fits_map, hf, kw, ew, sw, tw, a_, b_, c_, -List.set_cons_succ, -List.set_cons_zero, A.ok, A.val, d_, e_, f_, g_, h_, i_, j_, k_, l_, m_, unA, unD, n_, AOp.total, o_, p_, q_, r_, s_, t_, u_, v_, A.thaw, C.thaw, A.fits, As.fits, C.fits, evs, oks, w_, A.pure, C.pure, A.re, C.re, x_, y_, cut, A.cells, C.rows?, z_, A_, B_, C_, D_, Ob.re, Cs.fits, E_, F_, G_, H_, I_, J_, K_, L_, M_, N_, O_, C.toD, P_, Q_, R_, S_, T_, Obs.fits, U_, eqD, V_, W_, X_, Y_, Z_]
          | some q =>
            obtain ⟨n, k⟩ := q
            rw [ho] at hq co
            have hlv := opR_lv ho
            have hok := opR_ok hp ho
            have hne : n ≠ [] := fun e => hlv (by rw [e]; rfl)
            have hne2 : (n == []) = false := by simp [hne]
            simp only at hq
            refine qcall_pure co hf (by simp [opA, A.re, A.res, C.re]) ?_
            simp -implicitDefEqProofs [opA, hne, hne2, hf, kw, ew, sw, tw, a_, b_, c_, -List.set_cons_succ, -List.set_cons_zero, A.ok, A.val, d_, e_, f_, g_, h_, i_, j_, k_, l_, m_, unA, unD, n_, AOp.total, o_, p_, q_, r_, s_, t_, u_, v_, A.thaw, C.thaw, A.fits, As.fits, C.fits, evs, oks, w_, A.pure, C.pure, A.re, C.re, x_, y_, cut, A.cells, C.rows?, z_, A_, B_, C_, D_, Ob.re, Cs.fits, E_, F_, G_, H_, I_, J_, K_, L_, M_, N_, O_, C.toD, P_, Q_, R_, S_, T_, Obs.fits, U_, eqD, V_, W_, X_, Y_, Z_]
            refine qcall_pure (level_calls n) hf rfl ?_
            by_cases hll : levelN n = (l + 1 : Nat)
            · rw [if_pos hll] at hq
              have hll1 : levelN n = (l : Int) + 1 := by rw [hll]; simp
              simp only [Nat.add_sub_cancel] at hq
              simp -implicitDefEqProofs [hll1, hl3, hl4, hli, hf, kw, ew, sw, tw, a_, b_, c_, -List.set_cons_succ, -List.set_cons_zero, A.ok, A.val, d_, e_, f_, g_, h_, i_, j_, k_, l_, m_, unA, unD, n_, AOp.total, o_, p_, q_, r_, s_, t_, u_, v_, A.thaw, C.thaw, A.fits, As.fits, C.fits, evs, oks, w_, A.pure, C.pure, A.re, C.re, x_, y_, cut, A.cells, C.rows?, z_, A_, B_, C_, D_, Ob.re, Cs.fits, E_, F_, G_, H_, I_, J_, K_, L_, M_, N_, O_, C.toD, P_, Q_, R_, S_, T_, Obs.fits, U_, eqD, V_, W_, X_, Y_, Z_]
              cases hy : rd s g (.read k d l) with
              | none => rw [hy] at hq; cases hq
              | some w =>
                rw [hy] at hq
                have hpg := h g (by omega)
                have c2 := hpg.read k d l w hok.2.1 hd (by omega) hy
                have p2 := rd_post hs (j := .read k d l) ⟨hok.2.1, by omega⟩ hy
                refine qcall_pure c2 hf (readA_re _ _) ?_
                cases w with
                | bad e =>
                  cases hq
                  have he : e ≤ s.length := p2
                  have hneg : (-1 - (e : Int)) < 0 := by omega
                  simp -implicitDefEqProofs [readA, hneg, row_mk, hf, kw, ew, sw, tw, a_, b_, c_, -List.set_cons_succ, -List.set_cons_zero, A.ok, A.val, d_, e_, f_, g_, h_, i_, j_, k_, l_, m_, unA, unD, n_, AOp.total, o_, p_, q_, r_, s_, t_, u_, v_, A.thaw, C.thaw, A.fits, As.fits, C.fits, evs, oks, w_, A.pure, C.pure, A.re, C.re, x_, y_, cut, A.cells, C.rows?, z_, A_, B_, C_, D_, Ob.re, Cs.fits, E_, F_, G_, H_, I_, J_, K_, L_, M_, N_, O_, C.toD, P_, Q_, R_, S_, T_, Obs.fits, U_, eqD, V_, W_, X_, Y_, Z_]
                | ok us m =>
                  obtain ⟨q1, q2, u, rfl, q3⟩ := p2
                  simp only at hq
                  have hm0 : ¬ (m : Int) < 0 := by omega
                  have hst := struct_calls n [t, u] (by simp)
                  simp only [List.map_cons, List.map_nil] at hst
                  simp -implicitDefEqProofs [readA, Rs.tm, hm0, row_len, take_row, pure_d, re_d, toDs_map, hf, kw, ew, sw, tw, a_, b_, c_, -List.set_cons_succ, -List.set_cons_zero, A.ok, A.val, d_, e_, f_, g_, h_, i_, j_, k_, l_, m_, unA, unD, n_, AOp.total, o_, p_, q_, r_, s_, t_, u_, v_, A.thaw, C.thaw, A.fits, As.fits, C.fits, evs, oks, w_, A.pure, C.pure, A.re, C.re, x_, y_, cut, A.cells, C.rows?, z_, A_, B_, C_, D_, Ob.re, Cs.fits, E_, F_, G_, H_, I_, J_, K_, L_, M_, N_, O_, C.toD, P_, Q_, R_, S_, T_, Obs.fits, U_, eqD, V_, W_, X_, Y_, Z_]
                  refine qcall_pure hst hf (by simp [A.re, re_d]) ?_
                  simp -implicitDefEqProofs [row_len, take_row, pure_d, re_d, hf, kw, ew, sw, tw, a_, b_, c_, -List.set_cons_succ, -List.set_cons_zero, A.ok, A.val, d_, e_, f_, g_, h_, i_, j_, k_, l_, m_, unA, unD, n_, AOp.total, o_, p_, q_, r_, s_, t_, u_, v_, A.thaw, C.thaw, A.fits, As.fits, C.fits, evs, oks, w_, A.pure, C.pure, A.re, C.re, x_, y_, cut, A.cells, C.rows?, z_, A_, B_, C_, D_, Ob.re, Cs.fits, E_, F_, G_, H_, I_, J_, K_, L_, M_, N_, O_, C.toD, P_, Q_, R_, S_, T_, Obs.fits, U_, eqD, V_, W_, X_, Y_, Z_]
                  by_cases h3 : l + 1 = 3
                  · have h3' : (l : Int) + 1 = 3 := by omega
                    rw [if_pos h3] at hq
                    cases hq
                    simp -implicitDefEqProofs [h3', readA, Rs.tm, row_len, take_row, pure_d, re_d, thaw_d, fits_map, hf, kw, ew, sw, tw, a_, b_, c_, -List.set_cons_succ, -List.set_cons_zero, A.ok, A.val, d_, e_, f_, g_, h_, i_, j_, k_, l_, m_, unA, unD, n_, AOp.total, o_, p_, q_, r_, s_, t_, u_, v_, A.thaw, C.thaw, A.fits, As.fits, C.fits, evs, oks, w_, A.pure, C.pure, A.re, C.re, x_, y_, cut, A.cells, C.rows?, z_, A_, B_, C_, D_, Ob.re, Cs.fits, E_, F_, G_, H_, I_, J_, K_, L_, M_, N_, O_, C.toD, P_, Q_, R_, S_, T_, Obs.fits, U_, eqD, V_, W_, X_, Y_, Z_]
                  · have h3' : ¬ (l : Int) + 1 = 3 := by omega
                    have h3'' : ((l : Int) + 1 == 3) = false := by simp; omega
                    rw [if_neg h3] at hq
                    simp -implicitDefEqProofs [h3', h3'', row_len, take_row, pure_d, re_d, hf, kw, ew, sw, tw, a_, b_, c_, -List.set_cons_succ, -List.set_cons_zero, A.ok, A.val, d_, e_, f_, g_, h_, i_, j_, k_, l_, m_, unA, unD, n_, AOp.total, o_, p_, q_, r_, s_, t_, u_, v_, A.thaw, C.thaw, A.fits, As.fits, C.fits, evs, oks, w_, A.pure, C.pure, A.re, C.re, x_, y_, cut, A.cells, C.rows?, z_, A_, B_, C_, D_, Ob.re, Cs.fits, E_, F_, G_, H_, I_, J_, K_, L_, M_, N_, O_, C.toD, P_, Q_, R_, S_, T_, Obs.fits, U_, eqD, V_, W_, X_, Y_, Z_]
                    refine loop_less (m, .mk 3 0 n [t, u], g) (St.le_cut [_] ?_ (by simp [Sl.le, A.le_refl_iff, A.le_u_iff, As.lo, A.lo, C.lo, Ref.lo, Cs.lo, Obs.lo, Ob.lo, setAll, and_true, true_and, List.length_nil, List.length_cons]) (by simp [row_len]; rfl) (by simp [row_mk, Sl.le, A.le_refl_iff, A.le_u_iff, As.lo, A.lo, C.lo, Ref.lo, Cs.lo, Obs.lo, Ob.lo, setAll, and_true, true_and, List.length_nil, List.length_cons])) ⟨q2, fits_st hok.2.2 (by simp) (by simp [htf, q3]), by dsimp only; omega, hq⟩ (by show g < g + 1; omega)
                    simp [setAll, Sl.le, A.le_refl_iff, A.le_u_iff, As.lo, A.lo, C.lo, Ref.lo, Cs.lo, Obs.lo, Ob.lo, setAll, and_true, true_and, List.length_nil, List.length_cons]
            · rw [if_neg hll] at hq
              cases hq
              have hll1 : ¬ levelN n = (l : Int) + 1 := fun e => hll (by rw [e]; simp)
              have hll2 : (levelN n != (l : Int) + 1) = true := by simpa using hll1
              simp -implicitDefEqProofs [hll1, hll2, readA, Rs.tm, row_len, take_row, pure_d, re_d, thaw_d, fits_map, hf, kw, ew, sw, tw, a_, b_, c_, -List.set_cons_succ, -List.set_cons_zero, A.ok, A.val, d_, e_, f_, g_, h_, i_, j_, k_, l_, m_, unA, unD, n_, AOp.total, o_, p_, q_, r_, s_, t_, u_, v_, A.thaw, C.thaw, A.fits, As.fits, C.fits, evs, oks, w_, A.pure, C.pure, A.re, C.re, x_, y_, cut, A.cells, C.rows?, z_, A_, B_, C_, D_, Ob.re, Cs.fits, E_, F_, G_, H_, I_, J_, K_, L_, M_, N_, O_, C.toD, P_, Q_, R_, S_, T_, Obs.fits, U_, eqD, V_, W_, X_, Y_, Z_]
end
/-- the parser does what it is said to do -/
theorem par (s : List UInt8) (hs : s.length ≤ 1000000) : ∀ f, Par s f := by
  intro f
  induction f using Nat.strongRecOn with
  | ind f ih =>
    cases f with
    | zero => exact ⟨fun _ _ _ _ _ _ _ h => (by cases h), fun _ _ _ _ _ h => (by cases h), fun _ _ _ _ _ _ _ h => (by cases h)⟩
    | succ f =>
      have h : ∀ g, g ≤ f → Par s g := fun g hg => ih g (by omega)
      exact ⟨fun i d l r hi hd hl hr H => read_step hs h i d l r hi hd hl hr H, fun i d r hi hd hr H => prime_step hs (h f (Nat.le_refl _)) i d hi hd r hr H, fun i d e o r hi hd hr H => terms_step hs h i d e o r hi hd hr H⟩
end Go.Proofs.Yteighafofbohcaa

/-
  Terms as they are written: the plain text, its length, its first byte.
  Conditions: none.
-/
open Go Go.AM Go.Proofs
namespace Go.Proofs.Yteighafofbohcaa
open Go.ChangeShapes Go.WideShapes Go.ChangeAt Go.RowKit
set_option linter.unusedVariables false
set_option linter.unusedSimpArgs false
set_option maxRecDepth 100000
/-- texts, with a byte between them -/
def joinS (c : UInt8) : List (List UInt8) → List UInt8
  | [] => []
  | [a] => a
  | a :: b :: l => a ++ c :: joinS c (b :: l)
def Tm.atomB (t : Tm) : Bool := decide (t.k = 3) && t.kids.isEmpty
def Tm.lv (t : Tm) : Int := if t.kids.length = 2 then levelN t.s else 0
def plainC (b : UInt8) : Bool := decide (97 ≤ b.toNat ∧ b.toNat ≤ 122) || decide (65 ≤ b.toNat ∧ b.toNat ≤ 90) || decide (48 ≤ b.toNat ∧ b.toNat ≤ 57) || b == 91 || b == 40
def opnd (t : Tm) (w : List UInt8) (most : Int) (right : Bool) : List UInt8 :=
  if decide (most < t.lv) || (t.atomB && decide (0 < levelN t.s)) || (right && !plainC (w.headD 0)) then 40 :: w ++ [41] else w
def opSp (s : List UInt8) : List UInt8 := if lettersB s then 32 :: s ++ [32] else s
def leftMost (s : List UInt8) : Int := if leftB s then levelN s else levelN s - 1
def leafT : Tm := .mk 3 0 [91, 93] []
def wrNode (k n : Int) (s : List UInt8) (l : List Tm) (ws ts : List (List UInt8)) : List UInt8 :=
  if k = 1 then [UInt8.ofNat (65 + n.toNat)]
  else if k = 2 then Lib.itoa n
  else if s = [46] ∧ l.length = 2 then 91 :: ws.headD [] ++ ts.getD 1 [] ++ [93]
  else if l.length = 2 ∧ 0 < levelN s then opnd (l.getD 0 leafT) (ws.getD 0 []) (leftMost s) false ++ opSp s ++ opnd (l.getD 1 leafT) (ws.getD 1 []) (levelN s - 1) true
  else if l = [] then s else s ++ 40 :: joinS 44 ws ++ [41]
mutual
def Tm.wr : Tm → List UInt8
  | .mk k n s l => wrNode k n s l (wrs l) (wrts l)
/-- the rest of a list -/
def Tm.wrt : Tm → List UInt8
  | .mk k n s l => if k = 3 ∧ s = [46] ∧ l.length = 2 then 44 :: (wrs l).headD [] ++ (wrts l).getD 1 []
    else if k = 3 ∧ s = [91, 93] ∧ l = [] then [] else 124 :: wrNode k n s l (wrs l) (wrts l)
def wrs : List Tm → List (List UInt8)
  | [] => []
  | t :: l => t.wr :: wrs l
def wrts : List Tm → List (List UInt8)
  | [] => []
  | t :: l => t.wrt :: wrts l
end
theorem wrs_map : ∀ l : List Tm, wrs l = l.map Tm.wr
  | [] => by rw [wrs]; rfl
  | t :: l => by rw [wrs, wrs_map l]; rfl
theorem wrts_map : ∀ l : List Tm, wrts l = l.map Tm.wrt
  | [] => by rw [wrts]; rfl
  | t :: l => by rw [wrts, wrts_map l]; rfl
theorem joinS_snoc (c : UInt8) : ∀ (l : List (List UInt8)) (x : List UInt8), joinS c (l ++ [x]) = if l = [] then x else joinS c l ++ c :: x
  | [], x => rfl
  | [a], x => rfl
  | a :: b :: l, x => by
    have ih := joinS_snoc c (b :: l) x
    simp at ih
    simp [joinS, ih]
theorem joinS_len (c : UInt8) : ∀ (l : List (List UInt8)), (joinS c l).length ≤ (l.map fun x => x.length + 1).sum
  | [] => by simp [joinS]
  | [a] => by simp [joinS]
  | a :: b :: l => by
    have ih := joinS_len c (b :: l)
    simp [joinS] at ih ⊢
    omega
theorem itoa_short {n : Int} (h0 : -999 ≤ n) (h1 : n ≤ 999) : 1 ≤ (Lib.itoa n).length ∧ (Lib.itoa n).length ≤ 5 := by
  have key : ∀ u : Nat, u ≤ 999 → 1 ≤ (Lib.decDigits u).length ∧ (Lib.decDigits u).length ≤ 4 := by
    intro u hu
    rw [Lib.decDigits]
    split
    · simp
    · rw [Lib.decDigits]
      split
      · simp
      · rw [Lib.decDigits]
        split
        · simp
        · rw [Lib.decDigits, dif_pos (by omega)]
          simp
  unfold Lib.itoa
  split
  · have := key n.natAbs (by omega)
    simp
    omega
  · have := key n.toNat (by omega)
    omega
theorem opnd_len (t : Tm) (w : List UInt8) (m : Int) (r : Bool) : (opnd t w m r).length ≤ w.length + 2 := by
  unfold opnd
  split <;> simp
theorem opnd_ne {t : Tm} {w : List UInt8} {m : Int} {r : Bool} (h : w ≠ []) : opnd t w m r ≠ [] := by
  unfold opnd
  split
  · simp
  · exact h
theorem opSp_len (s : List UInt8) : (opSp s).length ≤ s.length + 2 := by
  unfold opSp
  split <;> simp
theorem sizes_mem {t : Tm} : ∀ {l : List Tm}, t ∈ l → t.size ≤ sizes l
  | a :: l, h => by
    simp only [sizes]
    rcases List.mem_cons.1 h with rfl | h
    · omega
    · have := sizes_mem h; omega
theorem sum_wr : ∀ l : List Tm, (∀ t ∈ l, t.wr.length ≤ 20 * t.size) → ((l.map Tm.wr).map fun x => x.length + 1).sum ≤ 20 * sizes l + l.length
  | [], _ => by simp [sizes]
  | a :: l, h => by
    have ha := h a (by simp)
    have := sum_wr l fun t ht => h t (by simp [ht])
    simp [sizes] at this ⊢
    omega
/-- how long a text is -/
theorem wr_len : ∀ t : Tm, t.good → (t.wr.length ≤ 20 * t.size ∧ t.wrt.length ≤ 20 * t.size + 1) ∧ t.wr ≠ [] := by
  refine Tm.ind fun k n s l ih hg => ?_
  obtain ⟨ho, hk⟩ := hg
  have ih2 := fun t ht => ih t ht (hk t ht)
  have hnode : (wrNode k n s l (wrs l) (wrts l)).length ≤ 20 * (Tm.mk k n s l).size ∧ wrNode k n s l (wrs l) (wrts l) ≠ [] := by
    unfold wrNode
    rw [wrs_map, wrts_map, Tm.size]
    rcases own_cases ho with ⟨rfl, _, _, rfl, rfl⟩ | ⟨rfl, n0, n1, rfl, rfl⟩ | ⟨rfl, rfl, hs, hl⟩
    · simp; omega
    · have := itoa_short n0 n1
      simp
      refine ⟨by omega, fun h => ?_⟩
      rw [h] at this
      simp at this
    · obtain ⟨s1, s6⟩ := name_len hs
      have hsne : s ≠ [] := by intro h; subst h; simp at s1
      simp only [show ¬ (3 : Int) = 1 by decide, show ¬ (3 : Int) = 2 by decide, if_false]
      split
      · rename_i hp
        match l, hp.2, ih2 with
        | [a, b], _, ih2 =>
          have ha := ih2 a (by simp)
          have hb := ih2 b (by simp)
          simp [sizes]
          omega
      · split
        · rename_i hp hq
          match l, hq.1, ih2 with
          | [a, b], _, ih2 =>
            have ha := ih2 a (by simp)
            have hb := ih2 b (by simp)
            have h1 := opnd_len a a.wr (leftMost s) false
            have h2 := opnd_len b b.wr (levelN s - 1) true
            have h3 := opSp_len s
            simp [sizes, opnd_ne ha.2]
            omega
        · split
          · simp [hsne]; omega
          · refine ⟨?_, by simp⟩
            have hj := joinS_len 44 (l.map Tm.wr)
            have hsum := sum_wr l (fun t ht => (ih2 t ht).1.1)
            simp
            omega
  refine ⟨⟨by rw [Tm.wr]; exact hnode.1, ?_⟩, by rw [Tm.wr]; exact hnode.2⟩
  rw [Tm.wrt]
  split
  · rename_i hp
    rw [wrs_map, wrts_map, Tm.size]
    match l, hp.2.2, ih2 with
    | [a, b], _, ih2 =>
      have ha := ih2 a (by simp)
      have hb := ih2 b (by simp)
      simp [sizes]
      omega
  · split
    · simp
    · simp
      exact hnode.1
end Go.Proofs.Yteighafofbohcaa

/-
  Lists of goals, for the program.
  Conditions: none.
-/
open Go Go.AM Go.Proofs
namespace Go.Proofs.Yteighafofbohcaa
open Go.ChangeShapes Go.WideShapes Go.ChangeAt Go.RowKit
set_option linter.unusedVariables false
set_option linter.unusedSimpArgs false
set_option maxRecDepth 100000
-- 29 loop.example/prologserver/impl.goalsValid$1 params 1 ntmps 6
def ac29 : Cd := .seq (.region [⟨(some 1), .box (.t 0), none⟩,
      ⟨(some 2), .mv (.k (.c (.d (.bool false)))), none⟩] [0, 2])
  (.seq (.region [⟨(some 3), .load (some 4) (.t 1), none⟩,
      ⟨(some 4), .qcall 30 [(.t 3)], none⟩,
      ⟨(some 5), .un .not (.t 4), none⟩,
      ⟨(some 2), .mv (.t 5), none⟩] [1, 3, 4, 5])
  (.ret))
theorem ac29_ok : cFunc Try.prog [1000030] [(0, [0, 2], []), (1, [1, 3, 4, 5], [])] Try.f29 = some (ac29, [.tmp 2], 6) := by kernel_rfl
-- 17 loop.example/prologserver/impl.goalsValid params 1 ntmps 11
def ac17 : Cd := .seq (.region [⟨(some 2), .mv (.k (.c (.d (.bool false)))), none⟩] [2])
  (.seq (.region [⟨(some 3), .mv (.t 0), none⟩,
      ⟨(some 4), .len 1 (.t 3), none⟩,
      ⟨(some 5), .bin .leq (.t 4) (.k (.c (.d (.int .i64 6)))), none⟩,
      ⟨(some 6), .mv (.t 5), none⟩,
      ⟨(some 7), .mv (.t 0), some (6, true)⟩,
      ⟨(some 8), .qcall 28 [(.t 7), (.k (.c (.fn 29 [])))], some (6, true)⟩,
      ⟨(some 9), .un .not (.t 8), some (6, true)⟩,
      ⟨(some 10), .pick (.t 6) (.t 9) (.k (.c (.d (.bool false)))), none⟩,
      ⟨(some 2), .mv (.t 10), none⟩] [0, 3, 4, 5, 6, 7, 8, 9, 10])
  (.ret))
theorem ac17_ok : cFunc Try.prog [1000028] [(0, [2], []), (1, [0, 3, 4, 5, 6, 7, 8, 9, 10], [])] Try.f17 = some (ac17, [.tmp 2], 11) := by kernel_rfl
/-- as many goals as a body may have -/
def goalsB (l : List Tm) : Bool := decide (l.length ≤ 6) && l.all Tm.goal
theorem any_not (l : List Tm) : (l.any fun t => !t.goal) = !l.all Tm.goal := by
  induction l with
  | nil => rfl
  | cons t l ih => simp only [List.any_cons, List.all_cons, ih, Bool.not_and]
theorem notGoal_calls (t : Tm) (ht : t.fits) (H : Heap) : ACalls Try.prog 29 [.agg (t.row.map .d)] H (fun r H' => H' = H ∧ r = .c (.d (.bool (!t.goal)))) := by
  refine acalls Try.func29 (by kernel_rfl) ac29_ok fun hf => ?_
  simp -implicitDefEqProofs [ac29, row_len, take_row, pure_d, re_d, kw, ew, sw, tw, a_, b_, c_, -List.set_cons_succ, -List.set_cons_zero, A.ok, A.val, d_, e_, f_, g_, h_, i_, j_, k_, l_, m_, unA, unD, n_, AOp.total, o_, p_, q_, r_, s_, t_, u_, v_, A.thaw, C.thaw, A.fits, As.fits, C.fits, evs, oks, w_, A.pure, C.pure, A.re, C.re, x_, y_, cut, A.cells, C.rows?, z_, A_, B_, C_, D_, Ob.re, Cs.fits, E_, F_, G_, H_, I_, J_, K_, L_, M_, N_, O_, C.toD, P_, Q_, R_, S_, T_, Obs.fits, U_, eqD, V_, W_, X_, Y_, Z_]
  refine qcall_pure (goalImpl_calls t ht) hf rfl ?_
  simp -implicitDefEqProofs [kw, ew, sw, tw, a_, b_, c_, -List.set_cons_succ, -List.set_cons_zero, A.ok, A.val, d_, e_, f_, g_, h_, i_, j_, k_, l_, m_, unA, unD, n_, AOp.total, o_, p_, q_, r_, s_, t_, u_, v_, A.thaw, C.thaw, A.fits, As.fits, C.fits, evs, oks, w_, A.pure, C.pure, A.re, C.re, x_, y_, cut, A.cells, C.rows?, z_, A_, B_, C_, D_, Ob.re, Cs.fits, E_, F_, G_, H_, I_, J_, K_, L_, M_, N_, O_, C.toD, P_, Q_, R_, S_, T_, Obs.fits, U_, eqD, V_, W_, X_, Y_, Z_]
theorem goalsImpl_calls (l : List Tm) (hl : l.length ≤ 1048576) (h : ∀ t ∈ l, t.fits) (H : Heap) : ACalls Try.prog 17 [.c (.d (.sl (l.map Tm.row)))] H (fun r H' => H' = H ∧ r = .c (.d (.bool (goalsB l)))) := by
  refine acalls Try.func17 (by kernel_rfl) ac17_ok fun hf => ?_
  have hli : inR .i64 (l.length : Int) := small_i64 (by omega) (by omega)
  by_cases h6 : l.length ≤ 6
  · have h6' : (l.length : Int) ≤ 6 := by omega
    simp -implicitDefEqProofs [ac17, hli, h6', kw, ew, sw, tw, a_, b_, c_, -List.set_cons_succ, -List.set_cons_zero, A.ok, A.val, d_, e_, f_, g_, h_, i_, j_, k_, l_, m_, unA, unD, n_, AOp.total, o_, p_, q_, r_, s_, t_, u_, v_, A.thaw, C.thaw, A.fits, As.fits, C.fits, evs, oks, w_, A.pure, C.pure, A.re, C.re, x_, y_, cut, A.cells, C.rows?, z_, A_, B_, C_, D_, Ob.re, Cs.fits, E_, F_, G_, H_, I_, J_, K_, L_, M_, N_, O_, C.toD, P_, Q_, R_, S_, T_, Obs.fits, U_, eqD, V_, W_, X_, Y_, Z_]
    refine qcall_pure (tmF_any 29 (fun t => !t.goal) l hl fun t ht => notGoal_calls t (h t ht)) hf rfl ?_
    rw [any_not]
    simp -implicitDefEqProofs [h6, goalsB, kw, ew, sw, tw, a_, b_, c_, -List.set_cons_succ, -List.set_cons_zero, A.ok, A.val, d_, e_, f_, g_, h_, i_, j_, k_, l_, m_, unA, unD, n_, AOp.total, o_, p_, q_, r_, s_, t_, u_, v_, A.thaw, C.thaw, A.fits, As.fits, C.fits, evs, oks, w_, A.pure, C.pure, A.re, C.re, x_, y_, cut, A.cells, C.rows?, z_, A_, B_, C_, D_, Ob.re, Cs.fits, E_, F_, G_, H_, I_, J_, K_, L_, M_, N_, O_, C.toD, P_, Q_, R_, S_, T_, Obs.fits, U_, eqD, V_, W_, X_, Y_, Z_]
  · have h6' : ¬ (l.length : Int) ≤ 6 := by omega
    simp -implicitDefEqProofs [ac17, hli, h6', h6, goalsB, kw, ew, sw, tw, a_, b_, c_, -List.set_cons_succ, -List.set_cons_zero, A.ok, A.val, d_, e_, f_, g_, h_, i_, j_, k_, l_, m_, unA, unD, n_, AOp.total, o_, p_, q_, r_, s_, t_, u_, v_, A.thaw, C.thaw, A.fits, As.fits, C.fits, evs, oks, w_, A.pure, C.pure, A.re, C.re, x_, y_, cut, A.cells, C.rows?, z_, A_, B_, C_, D_, Ob.re, Cs.fits, E_, F_, G_, H_, I_, J_, K_, L_, M_, N_, O_, C.toD, P_, Q_, R_, S_, T_, Obs.fits, U_, eqD, V_, W_, X_, Y_, Z_]
theorem goal_take {l : List Tm} {i : Nat} (h : i < l.length) (ha : ∀ t ∈ l.take i, t.goal = true) (hb : l[i].goal = true) : ∀ t ∈ l.take (i + 1), t.goal = true := by
  intro t h'
  rw [List.take_succ_eq_append_getElem h, List.mem_append] at h'
  rcases h' with h' | h'
  · exact ha t h'
  · simp at h'; subst h'; exact hb
end Go.Proofs.Yteighafofbohcaa

/-
  Terms that are handed to a law.
  Conditions: none.
-/
open Go Go.AM Go.Proofs
namespace Go.Proofs.Yteighafofbohcaa
open Go.ChangeShapes Go.WideShapes Go.ChangeAt Go.RowKit
set_option linter.unusedVariables false
set_option linter.unusedSimpArgs false
set_option maxRecDepth 100000
end Go.Proofs.Yteighafofbohcaa

/-
  Clauses as data: what the laws' sizes, copies and comparisons of clauses answer, and ClauseSame.
  Conditions: none.
-/
open Go Go.AM Go.Proofs
namespace Go.Proofs.Yteighafofbohcaa
open Go.ChangeShapes Go.WideShapes Go.ChangeAt Go.RowKit
set_option linter.unusedVariables false
set_option linter.unusedSimpArgs false
set_option maxRecDepth 100000
/-- a clause -/
structure Cl where
  head : Tm
  body : List Tm
noncomputable instance : DecidableEq Cl := fun a b => Classical.propDecidable (a = b)
def Cl.row (c : Cl) : List D := [.int .i64 c.head.k, .int .i64 c.head.n, .str c.head.s, .sl (c.head.kids.map Tm.row), .sl (c.body.map Tm.row)]
theorem crow_len (c : Cl) : c.row.length = 5 := rfl
theorem take_crow (c : Cl) : List.take 5 (List.map C.d c.row) = List.map C.d c.row := List.take_of_length_le (by simp [crow_len])
structure Cl.fine (c : Cl) : Prop where
  head : c.head.fine
  len : c.body.length ≤ reachBytes
  body : ∀ t ∈ c.body, t.fine
structure Cl.fits (c : Cl) : Prop where
  head : c.head.fits
  len : c.body.length ≤ 1048576
  body : ∀ t ∈ c.body, t.fits
/-- clauses that a law looks at -/
def FitsC (l : List Cl) : Prop := l.length ≤ 1048576 ∧ ∀ c ∈ l, c.fits
end Go.Proofs.Yteighafofbohcaa

/-
  Valid clauses and programs.
  Conditions: none.
-/
open Go Go.AM Go.Proofs
namespace Go.Proofs.Yteighafofbohcaa
open Go.ChangeShapes Go.WideShapes Go.ChangeAt Go.RowKit
set_option linter.unusedVariables false
set_option linter.unusedSimpArgs false
set_option maxRecDepth 100000
def Cl.validB (c : Cl) : Bool := (c.head.valid && c.head.plain) && goalsB c.body
/-- as many valid clauses as a program may have -/
def progB (p : List Cl) : Bool := decide (p.length ≤ 20) && p.all Cl.validB
theorem any_notC (l : List Cl) : (l.any fun t => !t.validB) = !l.all Cl.validB := by
  induction l with
  | nil => rfl
  | cons t l ih => simp only [List.any_cons, List.all_cons, ih, Bool.not_and]
theorem valid_take {l : List Cl} {i : Nat} (h : i < l.length) (ha : ∀ t ∈ l.take i, t.validB = true) (hb : l[i].validB = true) : ∀ t ∈ l.take (i + 1), t.validB = true := by
  intro t h'
  rw [List.take_succ_eq_append_getElem h, List.mem_append] at h'
  rcases h' with h' | h'
  · exact ha t h'
  · simp at h'; subst h'; exact hb
end Go.Proofs.Yteighafofbohcaa

/-
  Clauses and programs as they are read, in plain Lean.
  Conditions: none.
-/
open Go Go.AM Go.Proofs
namespace Go.Proofs.Yteighafofbohcaa
set_option linter.unusedVariables false
set_option linter.unusedSimpArgs false
set_option maxRecDepth 100000
/-- the parser with steps enough -/
def rdF (s : List UInt8) (j : Job) : Option Rs := rd s (8 * s.length + 20) j
/-- goals, separated by commas -/
def goalsR (s : List UInt8) : Nat → Nat → Option (List Tm × Nat)
  | 0, _ => none
  | n + 1, i => match rdF s (.read i 30 3) with
    | some (.ok ts j) => if sgn s j 44 then match goalsR s n (j + 1) with
        | some (us, k) => some (Rs.tm ts :: us, k)
        | none => none
      else some ([Rs.tm ts], j)
    | _ => none
/-- the text of a clause -/
def goalsW (W : Tm → List UInt8) (first : Bool) : List Tm → List UInt8
  | [] => []
  | t :: l => (if first then [58, 45] else [44]) ++ W t ++ goalsW W false l
def clW (W : Tm → List UInt8) (c : Cl) : List UInt8 := W c.head ++ goalsW W true c.body ++ [46]
def clauseB (W : Tm → List UInt8) (s : List UInt8) (c : Cl) (j : Nat) : Option Cl :=
  if decide (j + 1 = s.length) && sgn s j 46 && c.validB && clW W c == s then some c else none
def clauseR (W : Tm → List UInt8) (s : List UInt8) : Option Cl :=
  if 1000 < s.length then none
  else match rdF s (.read 0 30 3) with
    | some (.ok ts j) => if sgn s j 58 && sgn s (j + 1) 45 then match goalsR s 7 (j + 2) with
        | some (b, k) => clauseB W s ⟨Rs.tm ts, b⟩ k
        | none => none
      else clauseB W s ⟨Rs.tm ts, []⟩ j
    | _ => none
/-- a text, cut at each of a byte -/
def cutAt (c : UInt8) : List UInt8 → List (List UInt8)
  | [] => [[]]
  | b :: s => if b = c then [] :: cutAt c s else match cutAt c s with
    | l :: r => (b :: l) :: r
    | [] => [[b]]
def linesR (W : Tm → List UInt8) : List (List UInt8) → Option (List Cl)
  | [] => some []
  | [l] => some []
  | l :: r => match clauseR W l, linesR W r with
    | some c, some p => some (c :: p)
    | _, _ => none
def progR (W : Tm → List UInt8) (s : List UInt8) : List Cl × Bool :=
  if decide (21 < (cutAt 10 s).length) || !((cutAt 10 s).getLastD []).isEmpty then ([], false)
  else match linesR W (cutAt 10 s) with
    | some p => (p, true)
    | none => ([], false)
/-- small numbers in decimal -/
def dec3 (u : Nat) : List UInt8 := if u < 10 then [UInt8.ofNat (48 + u)] else if u < 100 then [UInt8.ofNat (48 + u / 10), UInt8.ofNat (48 + u % 10)] else [UInt8.ofNat (48 + u / 100), UInt8.ofNat (48 + u / 10 % 10), UInt8.ofNat (48 + u % 10)]
def itoa3 (n : Int) : List UInt8 := if n < 0 then 45 :: dec3 n.natAbs else dec3 n.toNat
def wrNode3 (k n : Int) (s : List UInt8) (l : List Tm) (ws ts : List (List UInt8)) : List UInt8 :=
  if k = 1 then [UInt8.ofNat (65 + n.toNat)]
  else if k = 2 then itoa3 n
  else if s = [46] ∧ l.length = 2 then 91 :: ws.headD [] ++ ts.getD 1 [] ++ [93]
  else if l.length = 2 ∧ 0 < levelN s then opnd (l.getD 0 leafT) (ws.getD 0 []) (leftMost s) false ++ opSp s ++ opnd (l.getD 1 leafT) (ws.getD 1 []) (levelN s - 1) true
  else if l.isEmpty then s else s ++ 40 :: joinS 44 ws ++ [41]
mutual
def Tm.wr3 : Tm → List UInt8
  | .mk k n s l => wrNode3 k n s l (wrs3 l) (wrts3 l)
def Tm.wrt3 : Tm → List UInt8
  | .mk k n s l => if k = 3 ∧ s = [46] ∧ l.length = 2 then 44 :: (wrs3 l).headD [] ++ (wrts3 l).getD 1 []
    else if (decide (k = 3) && decide (s = [91, 93]) && l.isEmpty) = true then [] else 124 :: wrNode3 k n s l (wrs3 l) (wrts3 l)
def wrs3 : List Tm → List (List UInt8)
  | [] => []
  | t :: l => t.wr3 :: wrs3 l
def wrts3 : List Tm → List (List UInt8)
  | [] => []
  | t :: l => t.wrt3 :: wrts3 l
end
theorem dd_lt {u : Nat} (h : u < 10) : Lib.decDigits u = [UInt8.ofNat (48 + u)] := by rw [Lib.decDigits, dif_pos h]
theorem dd_ge {u : Nat} (h : ¬ u < 10) : Lib.decDigits u = Lib.decDigits (u / 10) ++ [UInt8.ofNat (48 + u % 10)] := by rw [Lib.decDigits, dif_neg h]
theorem dec3_eq {u : Nat} (h : u ≤ 999) : dec3 u = Lib.decDigits u := by
  unfold dec3
  by_cases h1 : u < 10
  · rw [if_pos h1, dd_lt h1]
  · rw [if_neg h1, dd_ge h1]
    by_cases h2 : u < 100
    · rw [if_pos h2, dd_lt (by omega)]; rfl
    · rw [if_neg h2, dd_ge (u := u / 10) (by omega), dd_lt (u := u / 10 / 10) (by omega)]
      have : u / 10 / 10 = u / 100 := by omega
      rw [this]; rfl
theorem itoa3_eq {n : Int} (h0 : -999 ≤ n) (h1 : n ≤ 999) : itoa3 n = Lib.itoa n := by
  unfold itoa3 Lib.itoa
  split
  · rw [dec3_eq (by omega)]
  · rw [dec3_eq (by omega)]
theorem wr3_eq : ∀ t : Tm, t.good → t.wr3 = t.wr ∧ t.wrt3 = t.wrt := by
  refine Tm.ind fun k n s l ih hg => ?_
  obtain ⟨ho, hk⟩ := hg
  have hl : ∀ l : List Tm, (∀ t ∈ l, t.wr3 = t.wr ∧ t.wrt3 = t.wrt) → wrs3 l = wrs l ∧ wrts3 l = wrts l := by
    intro l
    induction l with
    | nil => intro _; exact ⟨by rw [wrs3, wrs], by rw [wrts3, wrts]⟩
    | cons a l ih2 =>
      intro h
      obtain ⟨h1, h2⟩ := ih2 fun t ht => h t (by simp [ht])
      obtain ⟨h3, h4⟩ := h a (by simp)
      exact ⟨by rw [wrs3, wrs, h1, h3], by rw [wrts3, wrts, h2, h4]⟩
  obtain ⟨e1, e2⟩ := hl l fun t ht => ih t ht (hk t ht)
  have hnode : wrNode3 k n s l (wrs3 l) (wrts3 l) = wrNode k n s l (wrs l) (wrts l) := by
    rw [e1, e2]
    unfold wrNode3 wrNode
    rcases own_cases ho with ⟨rfl, _, _, rfl, rfl⟩ | ⟨rfl, n0, n1, rfl, rfl⟩ | ⟨rfl, rfl, hs, hl⟩
    · rfl
    · rw [itoa3_eq n0 n1]; rfl
    · cases l <;> rfl
  refine ⟨by rw [Tm.wr3, Tm.wr, hnode], ?_⟩
  rw [Tm.wrt3, Tm.wrt, hnode, e1, e2]
  cases l <;> simp
theorem goalsW_eq : ∀ (b : Bool) (l : List Tm), (∀ t ∈ l, t.good) → goalsW Tm.wr3 b l = goalsW Tm.wr b l
  | _, [], _ => rfl
  | b, t :: l, h => by
    simp only [goalsW]
    rw [(wr3_eq t (h t (by simp))).1, goalsW_eq false l fun t ht => h t (by simp [ht])]
theorem clW_eq {c : Cl} (hv : c.validB = true) : clW Tm.wr3 c = clW Tm.wr c := by
  simp only [Cl.validB, Bool.and_eq_true, goalsB, List.all_eq_true, decide_eq_true_eq] at hv
  unfold clW
  rw [(wr3_eq c.head (valid_good hv.1.1)).1, goalsW_eq true c.body fun t ht => ?_]
  have := hv.2.2 t ht
  simp only [Tm.goal, Bool.and_eq_true] at this
  exact valid_good this.1
theorem clauseB_eq (s : List UInt8) (c : Cl) (j : Nat) : clauseB Tm.wr3 s c j = clauseB Tm.wr s c j := by
  unfold clauseB
  cases hv : c.validB with
  | false => simp
  | true => rw [clW_eq hv]
theorem clauseR_eq (s : List UInt8) : clauseR Tm.wr3 s = clauseR Tm.wr s := by
  simp only [clauseR, clauseB_eq]
theorem linesR_eq : ∀ l : List (List UInt8), linesR Tm.wr3 l = linesR Tm.wr l
  | [] => rfl
  | [_] => rfl
  | a :: b :: l => by
    have ih := linesR_eq (b :: l)
    show (match clauseR Tm.wr3 a, linesR Tm.wr3 (b :: l) with | some c, some p => some (c :: p) | _, _ => none) = (match clauseR Tm.wr a, linesR Tm.wr (b :: l) with | some c, some p => some (c :: p) | _, _ => none)
    rw [ih, clauseR_eq]
theorem progR_eq (s : List UInt8) : progR Tm.wr3 s = progR Tm.wr s := by
  simp only [progR, linesR_eq]
end Go.Proofs.Yteighafofbohcaa

/-
  QueryValid of the program and of the reference.
  Conditions: none.
-/
open Go Go.AM Go.Proofs
namespace Go.Proofs.Yteighafofbohcaa
open Go.ChangeShapes Go.WideShapes Go.ChangeAt Go.RowKit
set_option linter.unusedVariables false
set_option linter.unusedSimpArgs false
set_option maxRecDepth 100000
-- 9 loop.example/prologserver/impl.QueryValid params 1 ntmps 5
def ac9 : Cd := .seq (.region [⟨(some 2), .mv (.k (.c (.d (.bool false)))), none⟩] [2])
  (.seq (.region [⟨(some 3), .mv (.t 0), none⟩,
      ⟨(some 4), .qcall 17 [(.t 3)], none⟩,
      ⟨(some 2), .mv (.t 4), none⟩] [0, 3, 4])
  (.ret))
theorem ac9_ok : cFunc Try.prog [1000017] [(0, [2], []), (1, [0, 3, 4], [])] Try.f9 = some (ac9, [.tmp 2], 5) := by kernel_rfl
-- 12 loop.example/prologserver/spec.QueryValid params 1 ntmps 23
-- loop head live: [0, 3]
def ac12 : Cd := .seq (.region [⟨(some 2), .mv (.k (.c (.d (.bool false)))), none⟩] [2])
  (.seq (.seq (.region [⟨(some 3), .mv (.k (.c (.d (.int .i64 0)))), none⟩] [])
    (.block 0 (.loop (.seq (.seq (.region [⟨(some 4), .mv (.t 3), none⟩,
              ⟨(some 5), .mv (.t 0), none⟩,
              ⟨(some 6), .len 1 (.t 5), none⟩,
              ⟨(some 7), .bin .lss (.t 4) (.t 6), none⟩,
              ⟨(some 8), .mv (.t 7), none⟩,
              ⟨(some 9), .mv (.t 3), some (8, true)⟩,
              ⟨(some 10), .bin .leq (.t 9) (.k (.c (.d (.int .i64 6)))), some (8, true)⟩,
              ⟨(some 11), .pick (.t 8) (.t 10) (.k (.c (.d (.bool false)))), none⟩] [4, 5, 6, 7, 8, 9, 10])
          (.cond (.t 11)
            (.skip)
            (.exit 0)))
        (.seq (.block 1 (.seq (.region [⟨(some 14), .mv (.t 0), none⟩,
                ⟨(some 15), .mv (.t 3), none⟩,
                ⟨(some 16), .indexAddr 4 (.t 14) (.t 15), none⟩,
                ⟨(some 17), .load (some 4) (.t 16), none⟩,
                ⟨(some 18), .qcall 20 [(.t 17)], none⟩,
                ⟨(some 19), .un .not (.t 18), none⟩] [11, 14, 15, 16, 17, 18])
            (.cond (.t 19)
              (.seq (.region [⟨(some 2), .mv (.k (.c (.d (.bool false)))), none⟩] [0, 3, 19])
              (.ret))
              (.skip))))
        (.region [⟨(some 12), .mv (.t 3), none⟩,
          ⟨(some 13), .bin .add (.t 12) (.k (.c (.d (.int .i64 1)))), none⟩,
          ⟨(some 3), .mv (.t 13), none⟩] [2, 12, 13, 19]))))))
  (.seq (.region [⟨(some 20), .mv (.t 0), none⟩,
      ⟨(some 21), .len 1 (.t 20), none⟩,
      ⟨(some 22), .bin .leq (.t 21) (.k (.c (.d (.int .i64 6)))), none⟩,
      ⟨(some 2), .mv (.t 22), none⟩] [0, 20, 21, 22])
  (.ret)))
theorem ac12_ok : cFunc Try.prog [1000020] [(0, [2], []), (1, [], []), (2, [4, 5, 6, 7, 8, 9, 10], []), (4, [11, 14, 15, 16, 17, 18], []), (5, [0, 3, 19], []), (3, [2, 12, 13, 19], []), (6, [0, 20, 21, 22], [])] Try.f12 = some (ac12, [.tmp 2], 23) := by kernel_rfl
theorem qvImpl_calls (l : List Tm) (hl : l.length ≤ 1048576) (h : ∀ t ∈ l, t.fits) (H : Heap) : ACalls Try.prog 9 [.c (.d (.sl (l.map Tm.row)))] H (fun r H' => H' = H ∧ r = .c (.d (.bool (goalsB l)))) := by
  refine acalls Try.func9 (by kernel_rfl) ac9_ok fun hf => ?_
  simp -implicitDefEqProofs [ac9, kw, ew, sw, tw, a_, b_, c_, -List.set_cons_succ, -List.set_cons_zero, A.ok, A.val, d_, e_, f_, g_, h_, i_, j_, k_, l_, m_, unA, unD, n_, AOp.total, o_, p_, q_, r_, s_, t_, u_, v_, A.thaw, C.thaw, A.fits, As.fits, C.fits, evs, oks, w_, A.pure, C.pure, A.re, C.re, x_, y_, cut, A.cells, C.rows?, z_, A_, B_, C_, D_, Ob.re, Cs.fits, E_, F_, G_, H_, I_, J_, K_, L_, M_, N_, O_, C.toD, P_, Q_, R_, S_, T_, Obs.fits, U_, eqD, V_, W_, X_, Y_, Z_]
  refine qcall_pure (goalsImpl_calls l hl h) hf rfl ?_
  simp -implicitDefEqProofs [kw, ew, sw, tw, a_, b_, c_, -List.set_cons_succ, -List.set_cons_zero, A.ok, A.val, d_, e_, f_, g_, h_, i_, j_, k_, l_, m_, unA, unD, n_, AOp.total, o_, p_, q_, r_, s_, t_, u_, v_, A.thaw, C.thaw, A.fits, As.fits, C.fits, evs, oks, w_, A.pure, C.pure, A.re, C.re, x_, y_, cut, A.cells, C.rows?, z_, A_, B_, C_, D_, Ob.re, Cs.fits, E_, F_, G_, H_, I_, J_, K_, L_, M_, N_, O_, C.toD, P_, Q_, R_, S_, T_, Obs.fits, U_, eqD, V_, W_, X_, Y_, Z_]
theorem qvSpec_calls (l : List Tm) (hl : l.length ≤ 1048576) (h : ∀ t ∈ l, t.fits) (H : Heap) : ACalls Try.prog 12 [.c (.d (.sl (l.map Tm.row)))] H (fun r H' => H' = H ∧ r = .c (.d (.bool (goalsB l)))) := by
  refine acalls Try.func12 (by kernel_rfl) ac12_ok fun hf => ?_
  have hli : inR .i64 (l.length : Int) := small_i64 (by omega) (by omega)
  simp -implicitDefEqProofs [ac12, hli, kw, ew, sw, tw, a_, b_, c_, -List.set_cons_succ, -List.set_cons_zero, A.ok, A.val, d_, e_, f_, g_, h_, i_, j_, k_, l_, m_, unA, unD, n_, AOp.total, o_, p_, q_, r_, s_, t_, u_, v_, A.thaw, C.thaw, A.fits, As.fits, C.fits, evs, oks, w_, A.pure, C.pure, A.re, C.re, x_, y_, cut, A.cells, C.rows?, z_, A_, B_, C_, D_, Ob.re, Cs.fits, E_, F_, G_, H_, I_, J_, K_, L_, M_, N_, O_, C.toD, P_, Q_, R_, S_, T_, Obs.fits, U_, eqD, V_, W_, X_, Y_, Z_]
  refine loop_set (σ := Nat) (fun i => [(3, .c (.d (.int .i64 i)))]) (fun _ => H) (fun _ => []) (fun i => i ≤ l.length ∧ ∀ t ∈ l.take i, t.goal = true) (fun i => l.length - i) 0 rfl ⟨Nat.zero_le _, by simp⟩ ?_
  rintro i ⟨hi, hall⟩
  by_cases hlt : i < l.length
  · by_cases hi6 : i ≤ 6
    · have hi6' : (i : Int) ≤ 6 := by omega
      simp -implicitDefEqProofs [setAll, hli, hlt, hi6, hi6', kw, ew, sw, tw, a_, b_, c_, -List.set_cons_succ, -List.set_cons_zero, A.ok, A.val, d_, e_, f_, g_, h_, i_, j_, k_, l_, m_, unA, unD, n_, AOp.total, o_, p_, q_, r_, s_, t_, u_, v_, A.thaw, C.thaw, A.fits, As.fits, C.fits, evs, oks, w_, A.pure, C.pure, A.re, C.re, x_, y_, cut, A.cells, C.rows?, z_, A_, B_, C_, D_, Ob.re, Cs.fits, E_, F_, G_, H_, I_, J_, K_, L_, M_, N_, O_, C.toD, P_, Q_, R_, S_, T_, Obs.fits, U_, eqD, V_, W_, X_, Y_, Z_]
      refine row_of hlt (row_len _) ?_
      simp -implicitDefEqProofs [row_len, take_row, pure_d, re_d, kw, ew, sw, tw, a_, b_, c_, -List.set_cons_succ, -List.set_cons_zero, A.ok, A.val, d_, e_, f_, g_, h_, i_, j_, k_, l_, m_, unA, unD, n_, AOp.total, o_, p_, q_, r_, s_, t_, u_, v_, A.thaw, C.thaw, A.fits, As.fits, C.fits, evs, oks, w_, A.pure, C.pure, A.re, C.re, x_, y_, cut, A.cells, C.rows?, z_, A_, B_, C_, D_, Ob.re, Cs.fits, E_, F_, G_, H_, I_, J_, K_, L_, M_, N_, O_, C.toD, P_, Q_, R_, S_, T_, Obs.fits, U_, eqD, V_, W_, X_, Y_, Z_]
      refine qcall_pure (goalSpec_calls l[i] (h _ (List.getElem_mem hlt))) hf rfl ?_
      have hadd : inR .i64 ((i : Int) + 1) := small_i64 (by omega) (by omega)
      simp -implicitDefEqProofs [hadd, kw, ew, sw, tw, a_, b_, c_, -List.set_cons_succ, -List.set_cons_zero, A.ok, A.val, d_, e_, f_, g_, h_, i_, j_, k_, l_, m_, unA, unD, n_, AOp.total, o_, p_, q_, r_, s_, t_, u_, v_, A.thaw, C.thaw, A.fits, As.fits, C.fits, evs, oks, w_, A.pure, C.pure, A.re, C.re, x_, y_, cut, A.cells, C.rows?, z_, A_, B_, C_, D_, Ob.re, Cs.fits, E_, F_, G_, H_, I_, J_, K_, L_, M_, N_, O_, C.toD, P_, Q_, R_, S_, T_, Obs.fits, U_, eqD, V_, W_, X_, Y_, Z_]
      refine ⟨fun hg => ?_, fun hg => loop_back (i + 1) (by simp [setAll]) ⟨hlt, goal_take hlt hall hg⟩ (by show l.length - (i + 1) < l.length - i; omega)⟩
      have : l.all Tm.goal = false := by
        rw [List.all_eq_false]
        exact ⟨l[i], List.getElem_mem hlt, by simp [hg]⟩
      simp [goalsB, this]
    · have hl6 : ¬ l.length ≤ 6 := by omega
      have hl6' : ¬ (l.length : Int) ≤ 6 := by omega
      have hi6' : ¬ (i : Int) ≤ 6 := by omega
      simp -implicitDefEqProofs [setAll, hli, hlt, hi6, hi6', hl6, hl6', goalsB, kw, ew, sw, tw, a_, b_, c_, -List.set_cons_succ, -List.set_cons_zero, A.ok, A.val, d_, e_, f_, g_, h_, i_, j_, k_, l_, m_, unA, unD, n_, AOp.total, o_, p_, q_, r_, s_, t_, u_, v_, A.thaw, C.thaw, A.fits, As.fits, C.fits, evs, oks, w_, A.pure, C.pure, A.re, C.re, x_, y_, cut, A.cells, C.rows?, z_, A_, B_, C_, D_, Ob.re, Cs.fits, E_, F_, G_, H_, I_, J_, K_, L_, M_, N_, O_, C.toD, P_, Q_, R_, S_, T_, Obs.fits, U_, eqD, V_, W_, X_, Y_, Z_]
  · have hil : i = l.length := by omega
    subst hil
    rw [List.take_length] at hall
    have hal : l.all Tm.goal = true := List.all_eq_true.2 hall
    simp -implicitDefEqProofs [setAll, hli, goalsB, hal, kw, ew, sw, tw, a_, b_, c_, -List.set_cons_succ, -List.set_cons_zero, A.ok, A.val, d_, e_, f_, g_, h_, i_, j_, k_, l_, m_, unA, unD, n_, AOp.total, o_, p_, q_, r_, s_, t_, u_, v_, A.thaw, C.thaw, A.fits, As.fits, C.fits, evs, oks, w_, A.pure, C.pure, A.re, C.re, x_, y_, cut, A.cells, C.rows?, z_, A_, B_, C_, D_, Ob.re, Cs.fits, E_, F_, G_, H_, I_, J_, K_, L_, M_, N_, O_, C.toD, P_, Q_, R_, S_, T_, Obs.fits, U_, eqD, V_, W_, X_, Y_, Z_]
    all_goals omega
end Go.Proofs.Yteighafofbohcaa

/-
  TermSame of the program.
  Conditions: none.
-/
open Go Go.AM Go.Proofs
namespace Go.Proofs.Yteighafofbohcaa
open Go.ChangeShapes Go.WideShapes Go.ChangeAt Go.RowKit
set_option linter.unusedVariables false
set_option linter.unusedSimpArgs false
set_option maxRecDepth 100000
end Go.Proofs.Yteighafofbohcaa

/-
  TermSame of the reference.
  Conditions: none.
-/
open Go Go.AM Go.Proofs
namespace Go.Proofs.Yteighafofbohcaa
open Go.ChangeShapes Go.WideShapes Go.ChangeAt Go.RowKit
set_option linter.unusedVariables false
set_option linter.unusedSimpArgs false
set_option maxRecDepth 100000
end Go.Proofs.Yteighafofbohcaa

/-
  Queries as the reference reads them.
  Conditions: none.
-/
open Go Go.AM Go.Proofs
namespace Go.Proofs.Yteighafofbohcaa
open Go.ChangeShapes Go.WideShapes Go.ChangeAt Go.RowKit
set_option linter.unusedVariables false
set_option linter.unusedSimpArgs false
set_option maxRecDepth 100000
-- 45 loop.example/prologserver/spec.l4Goals params 2 ntmps 33
-- loop head live: [0, 1, 6]
def ac45 : Cd := .seq (.region [⟨(some 4), .mv (.k (.c (.full []))), none⟩,
      ⟨(some 5), .mv (.k (.c (.d (.int .i64 0)))), none⟩] [4, 5])
  (.seq (.region [⟨(some 9), .buildSlice 4 0 [(.int .i64 0), (.int .i64 0), (.str []), (.sl [])] [], none⟩,
      ⟨(some 6), .mv (.t 9), none⟩] [9])
  (.seq (.block 0 (.loop (.seq (.seq (.region [⟨(some 10), .mv (.t 6), none⟩,
              ⟨(some 11), .len 1 (.t 10), none⟩,
              ⟨(some 12), .bin .leq (.t 11) (.k (.c (.d (.int .i64 6)))), none⟩] [10, 11])
          (.cond (.t 12)
            (.skip)
            (.exit 0)))
        (.block 1 (.seq (.region [⟨(some 14), .mv (.t 0), none⟩,
              ⟨(some 15), .mv (.t 1), none⟩,
              ⟨(some 16), .qcall 57 [(.t 14), (.t 15), (.k (.c (.d (.int .i64 30)))), (.k (.c (.d (.int .i64 3))))], none⟩,
              ⟨(some 13), .mv (.t 16), none⟩,
              ⟨(some 17), .extract 0 (.t 13), none⟩,
              ⟨(some 18), .extract 1 (.t 13), none⟩,
              ⟨(some 7), .alloc [(.d (.int .i64 0)), (.d (.int .i64 0)), (.d (.str [])), (.full [])], none⟩,
              ⟨none, .store 4 (.t 7) (.t 17), none⟩,
              ⟨(some 8), .mv (.t 18), none⟩] [1, 12, 13, 14, 15, 16, 17, 18])
          (.seq (.seq (.region [⟨(some 19), .mv (.t 8), none⟩,
                ⟨(some 20), .bin .lss (.t 19) (.k (.c (.d (.int .i64 0)))), none⟩] [19])
            (.cond (.t 20)
              (.seq (.region [⟨(some 4), .mv (.k (.c (.full []))), none⟩,
                  ⟨(some 5), .mv (.k (.c (.d (.int .i64 (-1))))), none⟩] [0, 6, 7, 8, 20])
              (.ret))
              (.skip)))
          (.seq (.region [⟨(some 21), .mv (.t 6), none⟩,
              ⟨(some 22), .load (some 4) (.t 7), none⟩,
              ⟨(some 23), .buildSlice 4 1 [(.int .i64 0), (.int .i64 0), (.str []), (.sl [])] [(0, (.t 22))], none⟩,
              ⟨(some 24), .append false 4 (.t 21) (.t 23), none⟩,
              ⟨(some 6), .mv (.t 24), none⟩] [4, 5, 7, 20, 21, 22, 23, 24])
          (.seq (.seq (.region [⟨(some 25), .mv (.t 0), none⟩,
                ⟨(some 26), .mv (.t 8), none⟩,
                ⟨(some 27), .qcall 58 [(.t 25), (.t 26), (.k (.c (.d (.int .u8 44))))], none⟩,
                ⟨(some 28), .un .not (.t 27), none⟩] [25, 26, 27])
            (.cond (.t 28)
              (.seq (.region [⟨(some 29), .mv (.t 6), none⟩,
                  ⟨(some 30), .mv (.t 8), none⟩,
                  ⟨(some 4), .mv (.t 29), none⟩,
                  ⟨(some 5), .mv (.t 30), none⟩] [0, 6, 8, 28, 29, 30])
              (.ret))
              (.skip)))
          (.region [⟨(some 31), .mv (.t 8), none⟩,
            ⟨(some 32), .bin .add (.t 31) (.k (.c (.d (.int .i64 1)))), none⟩,
            ⟨(some 1), .mv (.t 32), none⟩] [4, 5, 8, 28, 31, 32])))))))))
  (.seq (.region [⟨(some 4), .mv (.k (.c (.full []))), none⟩,
      ⟨(some 5), .mv (.k (.c (.d (.int .i64 (-1))))), none⟩] [])
  (.ret))))
theorem ac45_ok : cFunc Try.prog [1000057, 1000058] [(0, [4, 5], []), (1, [9], []), (2, [10, 11], []), (3, [1, 12, 13, 14, 15, 16, 17, 18], []), (4, [19], []), (5, [0, 6, 7, 8, 20], []), (6, [4, 5, 7, 20, 21, 22, 23, 24], []), (7, [25, 26, 27], []), (8, [0, 6, 8, 28, 29, 30], []), (9, [4, 5, 8, 28, 31, 32], []), (10, [], [])] Try.f45 = some (ac45, [.tmp 4, .tmp 5], 33) := by kernel_rfl
-- 27 loop.example/prologserver/spec.ParseQuery params 1 ntmps 43
-- loop head live: [4, 6, 7]
def ac27 : Cd := .seq (.region [⟨(some 2), .mv (.k (.c (.full []))), none⟩,
      ⟨(some 3), .mv (.k (.c (.d (.bool false)))), none⟩] [2, 3])
  (.seq (.seq (.region [⟨(some 8), .mv (.t 0), none⟩,
        ⟨(some 9), .len 0 (.t 8), none⟩,
        ⟨(some 10), .bin .gtr (.t 9) (.k (.c (.d (.int .i64 1000)))), none⟩] [8, 9])
    (.cond (.t 10)
      (.seq (.region [⟨(some 11), .buildSlice 4 0 [(.int .i64 0), (.int .i64 0), (.str []), (.sl [])] [], none⟩,
          ⟨(some 2), .mv (.t 11), none⟩,
          ⟨(some 3), .mv (.k (.c (.d (.bool false)))), none⟩] [0, 10, 11])
      (.ret))
      (.skip)))
  (.seq (.region [⟨(some 13), .mv (.t 0), none⟩,
      ⟨(some 14), .qcall 45 [(.t 13), (.k (.c (.d (.int .i64 0))))], none⟩,
      ⟨(some 12), .mv (.t 14), none⟩,
      ⟨(some 15), .extract 0 (.t 12), none⟩,
      ⟨(some 16), .extract 1 (.t 12), none⟩,
      ⟨(some 4), .mv (.t 15), none⟩,
      ⟨(some 5), .mv (.t 16), none⟩] [2, 3, 10, 12, 13, 14, 15, 16])
  (.seq (.seq (.region [⟨(some 17), .mv (.t 5), none⟩,
        ⟨(some 18), .mv (.t 0), none⟩,
        ⟨(some 19), .len 0 (.t 18), none⟩,
        ⟨(some 20), .bin .neq (.t 17) (.t 19), none⟩,
        ⟨(some 21), .mv (.t 20), none⟩,
        ⟨(some 22), .mv (.t 4), some (21, false)⟩,
        ⟨(some 23), .qcall 12 [(.t 22)], some (21, false)⟩,
        ⟨(some 24), .un .not (.t 23), some (21, false)⟩,
        ⟨(some 25), .pick (.t 21) (.k (.c (.d (.bool true)))) (.t 24), none⟩] [0, 5, 17, 18, 19, 20, 21, 22, 23, 24])
    (.cond (.t 25)
      (.seq (.region [⟨(some 26), .buildSlice 4 0 [(.int .i64 0), (.int .i64 0), (.str []), (.sl [])] [], none⟩,
          ⟨(some 2), .mv (.t 26), none⟩,
          ⟨(some 3), .mv (.k (.c (.d (.bool false)))), none⟩] [4, 25, 26])
      (.ret))
      (.skip)))
  (.seq (.region [⟨(some 27), .buildSlice 4 0 [(.int .i64 0), (.int .i64 0), (.str []), (.sl [])] [], none⟩,
      ⟨(some 6), .mv (.t 27), none⟩] [2, 3, 25, 27])
  (.seq (.seq (.region [⟨(some 7), .mv (.k (.c (.d (.int .i64 0)))), none⟩] [])
    (.block 0 (.loop (.seq (.seq (.region [⟨(some 28), .mv (.t 7), none⟩,
              ⟨(some 29), .mv (.t 4), none⟩,
              ⟨(some 30), .len 1 (.t 29), none⟩,
              ⟨(some 31), .bin .lss (.t 28) (.t 30), none⟩] [28, 29, 30])
          (.cond (.t 31)
            (.skip)
            (.exit 0)))
        (.seq (.block 1 (.region [⟨(some 34), .mv (.t 6), none⟩,
              ⟨(some 35), .mv (.t 4), none⟩,
              ⟨(some 36), .mv (.t 7), none⟩,
              ⟨(some 37), .indexAddr 4 (.t 35) (.t 36), none⟩,
              ⟨(some 38), .load (some 4) (.t 37), none⟩,
              ⟨(some 39), .qcall 41 [(.t 38)], none⟩,
              ⟨(some 40), .buildSlice 4 1 [(.int .i64 0), (.int .i64 0), (.str []), (.sl [])] [(0, (.t 39))], none⟩,
              ⟨(some 41), .append false 4 (.t 34) (.t 40), none⟩,
              ⟨(some 6), .mv (.t 41), none⟩] [31, 34, 35, 36, 37, 38, 39, 40, 41]))
        (.region [⟨(some 32), .mv (.t 7), none⟩,
          ⟨(some 33), .bin .add (.t 32) (.k (.c (.d (.int .i64 1)))), none⟩,
          ⟨(some 7), .mv (.t 33), none⟩] [32, 33]))))))
  (.seq (.region [⟨(some 42), .mv (.t 6), none⟩,
      ⟨(some 2), .mv (.t 42), none⟩,
      ⟨(some 3), .mv (.k (.c (.d (.bool true)))), none⟩] [6, 42])
  (.ret)))))))
theorem ac27_ok : cFunc Try.prog [1000012, 1000041, 1000045] [(0, [2, 3], []), (1, [8, 9], []), (2, [0, 10, 11], []), (3, [2, 3, 10, 12, 13, 14, 15, 16], []), (4, [0, 5, 17, 18, 19, 20, 21, 22, 23, 24], []), (5, [4, 25, 26], []), (6, [2, 3, 25, 27], []), (7, [], []), (8, [28, 29, 30], []), (10, [31, 34, 35, 36, 37, 38, 39, 40, 41], []), (9, [32, 33], []), (11, [6, 42], [])] Try.f27 = some (ac27, [.tmp 2, .tmp 3], 43) := by kernel_rfl
def goalsA : Option (List Tm × Nat) → A
  | some (ts, k) => .tup [.c (.d (.sl (ts.map Tm.row))), .c (.d (.int .i64 k))]
  | none => .tup [.c (.d (.sl [])), .c (.d (.int .i64 (-1)))]
def appG (out : List Tm) : Option (List Tm × Nat) → Option (List Tm × Nat)
  | some (us, k) => some (out ++ us, k)
  | none => none
theorem rdF_ok (s : List UInt8) (hs : s.length ≤ 1000000) (i d : Nat) (hi : i ≤ s.length) : ∃ r, rdF s (.read i d 3) = some r ∧ (Job.read i d 3).post s r :=
  rd_total s hs _ (.read i d 3) (by simp only [Job.m]; omega) ⟨hi, by omega⟩
theorem l4Goals_calls (s : List UInt8) (hs : s.length ≤ 1000000) (i : Nat) (hi : i ≤ s.length) (H : Heap) : ACalls Try.prog 45 [.c (.d (.str s)), .c (.d (.int .i64 i))] H (fun r H' => H' = H ∧ r = goalsA (goalsR s 7 i)) := by
  refine acalls Try.func45 (by kernel_rfl) ac45_ok fun hf => ?_
  simp -implicitDefEqProofs [ac45, kw, ew, sw, tw, a_, b_, c_, -List.set_cons_succ, -List.set_cons_zero, A.ok, A.val, d_, e_, f_, g_, h_, i_, j_, k_, l_, m_, unA, unD, n_, AOp.total, o_, p_, q_, r_, s_, t_, u_, v_, A.thaw, C.thaw, A.fits, As.fits, C.fits, evs, oks, w_, A.pure, C.pure, A.re, C.re, x_, y_, cut, A.cells, C.rows?, z_, A_, B_, C_, D_, Ob.re, Cs.fits, E_, F_, G_, H_, I_, J_, K_, L_, M_, N_, O_, C.toD, P_, Q_, R_, S_, T_, Obs.fits, U_, eqD, V_, W_, X_, Y_, Z_]
  refine loop_enter (St.le_token 6 4 rfl) ?_
  obtain ⟨G, hG⟩ : ∃ G, G = goalsR s 7 i := ⟨_, rfl⟩
  rw [← hG]
  refine loop_set (σ := Nat × List Tm × Nat) (fun x => [(1, .c (.d (.int .i64 x.1))), (6, .c (.own (.l 0) x.2.1.length (x.2.1.map Tm.row)))]) (fun _ => H) (fun x => [.grow x.2.1.length 4])
    (fun x => x.1 ≤ s.length ∧ x.2.1.length + x.2.2 = 7 ∧ appG x.2.1 (goalsR s x.2.2 x.1) = G) (fun x => x.2.2) (i, [], 7) (by simp [setAll]) ⟨hi, by simp, by rw [hG]; cases goalsR s 7 i <;> simp [appG]⟩ ?_
  rintro ⟨p, out, n⟩ ⟨hp, hn, h1⟩
  simp only at hp hn h1
  have hol : inR .i64 (out.length : Int) := small_i64 (by omega) (by omega)
  simp -implicitDefEqProofs [setAll, hol, kw, ew, sw, tw, a_, b_, c_, -List.set_cons_succ, -List.set_cons_zero, A.ok, A.val, d_, e_, f_, g_, h_, i_, j_, k_, l_, m_, unA, unD, n_, AOp.total, o_, p_, q_, r_, s_, t_, u_, v_, A.thaw, C.thaw, A.fits, As.fits, C.fits, evs, oks, w_, A.pure, C.pure, A.re, C.re, x_, y_, cut, A.cells, C.rows?, z_, A_, B_, C_, D_, Ob.re, Cs.fits, E_, F_, G_, H_, I_, J_, K_, L_, M_, N_, O_, C.toD, P_, Q_, R_, S_, T_, Obs.fits, U_, eqD, V_, W_, X_, Y_, Z_]
  cases n with
  | zero =>
    have h6 : ¬ (out.length : Int) ≤ 6 := by omega
    have h7 : (6 : Int) < (out.length : Int) := by omega
    rw [goalsR] at h1
    subst h1
    simp -implicitDefEqProofs [h6, h7, appG, goalsA, hf, kw, ew, sw, tw, a_, b_, c_, -List.set_cons_succ, -List.set_cons_zero, A.ok, A.val, d_, e_, f_, g_, h_, i_, j_, k_, l_, m_, unA, unD, n_, AOp.total, o_, p_, q_, r_, s_, t_, u_, v_, A.thaw, C.thaw, A.fits, As.fits, C.fits, evs, oks, w_, A.pure, C.pure, A.re, C.re, x_, y_, cut, A.cells, C.rows?, z_, A_, B_, C_, D_, Ob.re, Cs.fits, E_, F_, G_, H_, I_, J_, K_, L_, M_, N_, O_, C.toD, P_, Q_, R_, S_, T_, Obs.fits, U_, eqD, V_, W_, X_, Y_, Z_]
  | succ n =>
    have h6 : (out.length : Int) ≤ 6 := by omega
    have h7 : ¬ (6 : Int) < (out.length : Int) := by omega
    obtain ⟨r, hr, hpost⟩ := rdF_ok s hs p 30 hp
    rw [goalsR, hr] at h1
    have c1 := (par s hs _).read p 30 3 r hp (by omega) (by omega) hr
    simp only [Int.cast_ofNat_Int] at c1
    simp -implicitDefEqProofs [h6, h7, hf, kw, ew, sw, tw, a_, b_, c_, -List.set_cons_succ, -List.set_cons_zero, A.ok, A.val, d_, e_, f_, g_, h_, i_, j_, k_, l_, m_, unA, unD, n_, AOp.total, o_, p_, q_, r_, s_, t_, u_, v_, A.thaw, C.thaw, A.fits, As.fits, C.fits, evs, oks, w_, A.pure, C.pure, A.re, C.re, x_, y_, cut, A.cells, C.rows?, z_, A_, B_, C_, D_, Ob.re, Cs.fits, E_, F_, G_, H_, I_, J_, K_, L_, M_, N_, O_, C.toD, P_, Q_, R_, S_, T_, Obs.fits, U_, eqD, V_, W_, X_, Y_, Z_]
    refine qcall_pure c1 hf (readA_re _ _) ?_
    cases r with
    | bad e =>
      have he : e ≤ s.length := hpost
      have hneg : (-1 - (e : Int)) < 0 := by omega
      subst h1
      simp -implicitDefEqProofs [readA, hneg, appG, goalsA, row_mk, hf, kw, ew, sw, tw, a_, b_, c_, -List.set_cons_succ, -List.set_cons_zero, A.ok, A.val, d_, e_, f_, g_, h_, i_, j_, k_, l_, m_, unA, unD, n_, AOp.total, o_, p_, q_, r_, s_, t_, u_, v_, A.thaw, C.thaw, A.fits, As.fits, C.fits, evs, oks, w_, A.pure, C.pure, A.re, C.re, x_, y_, cut, A.cells, C.rows?, z_, A_, B_, C_, D_, Ob.re, Cs.fits, E_, F_, G_, H_, I_, J_, K_, L_, M_, N_, O_, C.toD, P_, Q_, R_, S_, T_, Obs.fits, U_, eqD, V_, W_, X_, Y_, Z_]
    | ok ts j =>
      obtain ⟨g1, g2, t, rfl, g3⟩ := hpost
      simp only [Rs.tm] at h1
      have hj0 : ¬ (j : Int) < 0 := by omega
      have hj1 : inR .i64 ((j : Int) + 1) := small_i64 (by omega) (by omega)
      simp -implicitDefEqProofs [readA, Rs.tm, hj0, row_len, take_row, pure_d, re_d, toDs_map, hf, kw, ew, sw, tw, a_, b_, c_, -List.set_cons_succ, -List.set_cons_zero, A.ok, A.val, d_, e_, f_, g_, h_, i_, j_, k_, l_, m_, unA, unD, n_, AOp.total, o_, p_, q_, r_, s_, t_, u_, v_, A.thaw, C.thaw, A.fits, As.fits, C.fits, evs, oks, w_, A.pure, C.pure, A.re, C.re, x_, y_, cut, A.cells, C.rows?, z_, A_, B_, C_, D_, Ob.re, Cs.fits, E_, F_, G_, H_, I_, J_, K_, L_, M_, N_, O_, C.toD, P_, Q_, R_, S_, T_, Obs.fits, U_, eqD, V_, W_, X_, Y_, Z_]
      refine ⟨allLen_map row_len, by unfold maxApp; omega, ?_⟩
      refine qcall_pure (sign_calls s hs j (by omega) 44) hf rfl ?_
      cases hsg : sgn s j 44 with
      | false =>
        rw [hsg] at h1
        simp only [Bool.false_eq_true, if_false] at h1
        subst h1
        simp -implicitDefEqProofs [appG, goalsA, hf, kw, ew, sw, tw, a_, b_, c_, -List.set_cons_succ, -List.set_cons_zero, A.ok, A.val, d_, e_, f_, g_, h_, i_, j_, k_, l_, m_, unA, unD, n_, AOp.total, o_, p_, q_, r_, s_, t_, u_, v_, A.thaw, C.thaw, A.fits, As.fits, C.fits, evs, oks, w_, A.pure, C.pure, A.re, C.re, x_, y_, cut, A.cells, C.rows?, z_, A_, B_, C_, D_, Ob.re, Cs.fits, E_, F_, G_, H_, I_, J_, K_, L_, M_, N_, O_, C.toD, P_, Q_, R_, S_, T_, Obs.fits, U_, eqD, V_, W_, X_, Y_, Z_]
      | true =>
        rw [hsg] at h1
        simp only [if_true] at h1
        have hjl := sgn_lt hsg
        simp -implicitDefEqProofs [hj1, hf, kw, ew, sw, tw, a_, b_, c_, -List.set_cons_succ, -List.set_cons_zero, A.ok, A.val, d_, e_, f_, g_, h_, i_, j_, k_, l_, m_, unA, unD, n_, AOp.total, o_, p_, q_, r_, s_, t_, u_, v_, A.thaw, C.thaw, A.fits, As.fits, C.fits, evs, oks, w_, A.pure, C.pure, A.re, C.re, x_, y_, cut, A.cells, C.rows?, z_, A_, B_, C_, D_, Ob.re, Cs.fits, E_, F_, G_, H_, I_, J_, K_, L_, M_, N_, O_, C.toD, P_, Q_, R_, S_, T_, Obs.fits, U_, eqD, V_, W_, X_, Y_, Z_]
        refine loop_less (j + 1, out ++ [t], n) (St.le_cut [_] ?_ (by simp [Sl.le, A.le_refl_iff, A.le_u_iff, As.lo, A.lo, C.lo, Ref.lo, Cs.lo, Obs.lo, Ob.lo, setAll, and_true, true_and, List.length_nil, List.length_cons]) (by simp; rfl) (by simp [Sl.le, A.le_refl_iff, A.le_u_iff, As.lo, A.lo, C.lo, Ref.lo, Cs.lo, Obs.lo, Ob.lo, setAll, and_true, true_and, List.length_nil, List.length_cons])) ⟨by dsimp only; omega, by simp; omega, ?_⟩ (by show n < n + 1; omega)
        · simp [setAll, Sl.le, A.le_refl_iff, A.le_u_iff, As.lo, A.lo, C.lo, Ref.lo, Cs.lo, Obs.lo, Ob.lo, setAll, and_true, true_and, List.length_nil, List.length_cons]
        · rw [← h1]
          show appG (out ++ [t]) (goalsR s n (j + 1)) = _
          cases goalsR s n (j + 1) with
          | none => rfl
          | some q => obtain ⟨us, k⟩ := q; simp [appG]
theorem goalsR_ok (s : List UInt8) (hs : s.length ≤ 1000000) : ∀ (n i : Nat) (ts : List Tm) (k : Nat), i ≤ s.length → goalsR s n i = some (ts, k) → k ≤ s.length ∧ ts.length ≤ n ∧ (∀ t ∈ ts, t.fits) ∧ 1 ≤ ts.length
  | 0, i, ts, k, _, h => by cases h
  | n + 1, i, ts, k, hi, h => by
    obtain ⟨r, hr, hpost⟩ := rdF_ok s hs i 30 hi
    rw [goalsR, hr] at h
    cases r with
    | bad e => cases h
    | ok us j =>
      obtain ⟨g1, g2, t, rfl, g3⟩ := hpost
      simp only [Rs.tm] at h
      split at h
      · rename_i hc
        have hjl := sgn_lt hc
        cases hg : goalsR s n (j + 1) with
        | none => rw [hg] at h; cases h
        | some q =>
          obtain ⟨vs, m⟩ := q
          rw [hg] at h
          cases h
          obtain ⟨q1, q2, q3, q4⟩ := goalsR_ok s hs n (j + 1) _ _ (by omega) hg
          exact ⟨q1, by simp; omega, fun u hu => by
            rcases List.mem_cons.1 hu with rfl | hu
            · exact g3
            · exact q3 u hu, by simp⟩
      · cases h
        exact ⟨g2, by simp, by simpa using g3, by simp⟩
/-- what ParseQuery answers -/
def queryR (s : List UInt8) : List Tm × Bool :=
  if 1000 < s.length then ([], false)
  else match goalsR s 7 0 with
    | some (l, k) => if k = s.length ∧ goalsB l = true then (l, true) else ([], false)
    | none => ([], false)
theorem queryR_fits (s : List UInt8) (hs : s.length ≤ 1000000) : (queryR s).1.length ≤ 7 ∧ ∀ t ∈ (queryR s).1, t.fits := by
  unfold queryR
  split
  · simp
  · cases hg : goalsR s 7 0 with
    | none => simp
    | some q =>
      obtain ⟨l, k⟩ := q
      obtain ⟨_, h2, h3, _⟩ := goalsR_ok s hs 7 0 l k (by omega) hg
      simp only
      split
      · exact ⟨h2, h3⟩
      · simp
theorem pqSpec_calls (s : List UInt8) (hs : s.length ≤ 1000000) (H : Heap) : ACalls Try.prog 27 [.c (.d (.str s))] H (fun r H' => H' = H ∧ r = .tup [.c (.d (.sl ((queryR s).1.map Tm.row))), .c (.d (.bool (queryR s).2))]) := by
  refine acalls Try.func27 (by kernel_rfl) ac27_ok fun hf => ?_
  have hli : inR .i64 (s.length : Int) := small_i64 (by omega) (by omega)
  unfold queryR
  by_cases h1000 : 1000 < s.length
  · have h1 : (1000 : Int) < s.length := by omega
    simp -implicitDefEqProofs [ac27, hli, h1, h1000, kw, ew, sw, tw, a_, b_, c_, -List.set_cons_succ, -List.set_cons_zero, A.ok, A.val, d_, e_, f_, g_, h_, i_, j_, k_, l_, m_, unA, unD, n_, AOp.total, o_, p_, q_, r_, s_, t_, u_, v_, A.thaw, C.thaw, A.fits, As.fits, C.fits, evs, oks, w_, A.pure, C.pure, A.re, C.re, x_, y_, cut, A.cells, C.rows?, z_, A_, B_, C_, D_, Ob.re, Cs.fits, E_, F_, G_, H_, I_, J_, K_, L_, M_, N_, O_, C.toD, P_, Q_, R_, S_, T_, Obs.fits, U_, eqD, V_, W_, X_, Y_, Z_]
  · have h1 : ¬ (1000 : Int) < s.length := by omega
    rw [if_neg h1000]
    have cg := l4Goals_calls s hs 0 (by omega)
    simp only [Int.cast_ofNat_Int] at cg
    simp -implicitDefEqProofs [ac27, hli, h1, kw, ew, sw, tw, a_, b_, c_, -List.set_cons_succ, -List.set_cons_zero, A.ok, A.val, d_, e_, f_, g_, h_, i_, j_, k_, l_, m_, unA, unD, n_, AOp.total, o_, p_, q_, r_, s_, t_, u_, v_, A.thaw, C.thaw, A.fits, As.fits, C.fits, evs, oks, w_, A.pure, C.pure, A.re, C.re, x_, y_, cut, A.cells, C.rows?, z_, A_, B_, C_, D_, Ob.re, Cs.fits, E_, F_, G_, H_, I_, J_, K_, L_, M_, N_, O_, C.toD, P_, Q_, R_, S_, T_, Obs.fits, U_, eqD, V_, W_, X_, Y_, Z_]
    cases hg : goalsR s 7 0 with
    | none =>
      rw [hg] at cg
      have hne : ((-1 : Int) != (s.length : Int)) = true := by first | (simp; done) | (simp; omega)
      have hne2 : ¬ (-1 : Int) = (s.length : Int) := by omega
      refine qcall_pure cg hf (by simp [goalsA, A.re, A.res, C.re]) ?_
      simp -implicitDefEqProofs [goalsA, hli, hne, hne2, hf, kw, ew, sw, tw, a_, b_, c_, -List.set_cons_succ, -List.set_cons_zero, A.ok, A.val, d_, e_, f_, g_, h_, i_, j_, k_, l_, m_, unA, unD, n_, AOp.total, o_, p_, q_, r_, s_, t_, u_, v_, A.thaw, C.thaw, A.fits, As.fits, C.fits, evs, oks, w_, A.pure, C.pure, A.re, C.re, x_, y_, cut, A.cells, C.rows?, z_, A_, B_, C_, D_, Ob.re, Cs.fits, E_, F_, G_, H_, I_, J_, K_, L_, M_, N_, O_, C.toD, P_, Q_, R_, S_, T_, Obs.fits, U_, eqD, V_, W_, X_, Y_, Z_]
    | some q =>
      obtain ⟨l, k⟩ := q
      rw [hg] at cg
      obtain ⟨g1, g2, g3, _⟩ := goalsR_ok s hs 7 0 l k (by omega) hg
      have cq := qvSpec_calls l (by omega) g3
      have hll : inR .i64 (l.length : Int) := small_i64 (by omega) (by omega)
      refine qcall_pure cg hf (by simp [goalsA, A.re, A.res, C.re]) ?_
      by_cases hk : k = s.length
      · subst hk
        simp -implicitDefEqProofs [goalsA, hli, hf, kw, ew, sw, tw, a_, b_, c_, -List.set_cons_succ, -List.set_cons_zero, A.ok, A.val, d_, e_, f_, g_, h_, i_, j_, k_, l_, m_, unA, unD, n_, AOp.total, o_, p_, q_, r_, s_, t_, u_, v_, A.thaw, C.thaw, A.fits, As.fits, C.fits, evs, oks, w_, A.pure, C.pure, A.re, C.re, x_, y_, cut, A.cells, C.rows?, z_, A_, B_, C_, D_, Ob.re, Cs.fits, E_, F_, G_, H_, I_, J_, K_, L_, M_, N_, O_, C.toD, P_, Q_, R_, S_, T_, Obs.fits, U_, eqD, V_, W_, X_, Y_, Z_]
        refine qcall_pure cq hf rfl ?_
        cases hv : goalsB l with
        | false => simp -implicitDefEqProofs [kw, ew, sw, tw, a_, b_, c_, -List.set_cons_succ, -List.set_cons_zero, A.ok, A.val, d_, e_, f_, g_, h_, i_, j_, k_, l_, m_, unA, unD, n_, AOp.total, o_, p_, q_, r_, s_, t_, u_, v_, A.thaw, C.thaw, A.fits, As.fits, C.fits, evs, oks, w_, A.pure, C.pure, A.re, C.re, x_, y_, cut, A.cells, C.rows?, z_, A_, B_, C_, D_, Ob.re, Cs.fits, E_, F_, G_, H_, I_, J_, K_, L_, M_, N_, O_, C.toD, P_, Q_, R_, S_, T_, Obs.fits, U_, eqD, V_, W_, X_, Y_, Z_]
        | true =>
          simp -implicitDefEqProofs [kw, ew, sw, tw, a_, b_, c_, -List.set_cons_succ, -List.set_cons_zero, A.ok, A.val, d_, e_, f_, g_, h_, i_, j_, k_, l_, m_, unA, unD, n_, AOp.total, o_, p_, q_, r_, s_, t_, u_, v_, A.thaw, C.thaw, A.fits, As.fits, C.fits, evs, oks, w_, A.pure, C.pure, A.re, C.re, x_, y_, cut, A.cells, C.rows?, z_, A_, B_, C_, D_, Ob.re, Cs.fits, E_, F_, G_, H_, I_, J_, K_, L_, M_, N_, O_, C.toD, P_, Q_, R_, S_, T_, Obs.fits, U_, eqD, V_, W_, X_, Y_, Z_]
          refine loop_enter (St.le_token 6 4 rfl) ?_
          refine loop_set (σ := Nat) (fun i => [(7, .c (.d (.int .i64 i))), (6, .c (.own (.l 0) i ((l.map Tm.row).take i)))]) (fun _ => H) (fun i => [.grow i 4]) (fun i => i ≤ l.length) (fun i => l.length - i) 0 (by simp [setAll]) (Nat.zero_le _) ?_
          intro i hi
          simp -implicitDefEqProofs [setAll, hll, kw, ew, sw, tw, a_, b_, c_, -List.set_cons_succ, -List.set_cons_zero, A.ok, A.val, d_, e_, f_, g_, h_, i_, j_, k_, l_, m_, unA, unD, n_, AOp.total, o_, p_, q_, r_, s_, t_, u_, v_, A.thaw, C.thaw, A.fits, As.fits, C.fits, evs, oks, w_, A.pure, C.pure, A.re, C.re, x_, y_, cut, A.cells, C.rows?, z_, A_, B_, C_, D_, Ob.re, Cs.fits, E_, F_, G_, H_, I_, J_, K_, L_, M_, N_, O_, C.toD, P_, Q_, R_, S_, T_, Obs.fits, U_, eqD, V_, W_, X_, Y_, Z_]
          refine ⟨fun hlt => ?_, fun hge => ?_⟩
          · have hadd : inR .i64 ((i : Int) + 1) := small_i64 (by omega) (by omega)
            refine row_of hlt (row_len _) ?_
            simp -implicitDefEqProofs [row_len, take_row, pure_d, re_d, hf, kw, ew, sw, tw, a_, b_, c_, -List.set_cons_succ, -List.set_cons_zero, A.ok, A.val, d_, e_, f_, g_, h_, i_, j_, k_, l_, m_, unA, unD, n_, AOp.total, o_, p_, q_, r_, s_, t_, u_, v_, A.thaw, C.thaw, A.fits, As.fits, C.fits, evs, oks, w_, A.pure, C.pure, A.re, C.re, x_, y_, cut, A.cells, C.rows?, z_, A_, B_, C_, D_, Ob.re, Cs.fits, E_, F_, G_, H_, I_, J_, K_, L_, M_, N_, O_, C.toD, P_, Q_, R_, S_, T_, Obs.fits, U_, eqD, V_, W_, X_, Y_, Z_]
            refine qcall_pure (copy_calls l[i] (g3 _ (List.getElem_mem hlt))) hf (by simp [A.re, re_d]) ?_
            simp -implicitDefEqProofs [row_len, toDs_map, hadd, hf, Nat.min_eq_left hi, kw, ew, sw, tw, a_, b_, c_, -List.set_cons_succ, -List.set_cons_zero, A.ok, A.val, d_, e_, f_, g_, h_, i_, j_, k_, l_, m_, unA, unD, n_, AOp.total, o_, p_, q_, r_, s_, t_, u_, v_, A.thaw, C.thaw, A.fits, As.fits, C.fits, evs, oks, w_, A.pure, C.pure, A.re, C.re, x_, y_, cut, A.cells, C.rows?, z_, A_, B_, C_, D_, Ob.re, Cs.fits, E_, F_, G_, H_, I_, J_, K_, L_, M_, N_, O_, C.toD, P_, Q_, R_, S_, T_, Obs.fits, U_, eqD, V_, W_, X_, Y_, Z_]
            refine ⟨fun r hr => allLen_map row_len r (List.mem_of_mem_take hr), by unfold maxApp; omega, ?_⟩
            refine loop_back (i + 1) ?_ hlt (by show l.length - (i + 1) < l.length - i; omega)
            simp [setAll, take_map_succ hlt]
          · obtain rfl : i = l.length := by omega
            rw [show (l.map Tm.row).take l.length = l.map Tm.row from List.take_of_length_le (by simp)]
      · have hk1 : ((k : Int) != (s.length : Int)) = true := by simp; omega
        have hk2 : ¬ (k : Int) = (s.length : Int) := by omega
        have hk3 : ¬ (k = s.length ∧ goalsB l = true) := fun h => hk h.1
        simp -implicitDefEqProofs [goalsA, hli, hk, hk1, hk2, hk3, hf, kw, ew, sw, tw, a_, b_, c_, -List.set_cons_succ, -List.set_cons_zero, A.ok, A.val, d_, e_, f_, g_, h_, i_, j_, k_, l_, m_, unA, unD, n_, AOp.total, o_, p_, q_, r_, s_, t_, u_, v_, A.thaw, C.thaw, A.fits, As.fits, C.fits, evs, oks, w_, A.pure, C.pure, A.re, C.re, x_, y_, cut, A.cells, C.rows?, z_, A_, B_, C_, D_, Ob.re, Cs.fits, E_, F_, G_, H_, I_, J_, K_, L_, M_, N_, O_, C.toD, P_, Q_, R_, S_, T_, Obs.fits, U_, eqD, V_, W_, X_, Y_, Z_]
end Go.Proofs.Yteighafofbohcaa

/-
  Slices of bytes as data.
  Conditions: none.
-/
open Go Go.AM Go.Proofs
namespace Go.Proofs.Yteighafofbohcaa
open Go.ChangeShapes Go.WideShapes Go.ChangeAt Go.RowKit
set_option linter.unusedVariables false
set_option linter.unusedSimpArgs false
set_option maxRecDepth 100000
theorem bytesRows_len {s : List UInt8} : (bytesRows s).length = s.length := by simp [bytesRows]
theorem bytesRows_nil {s : List UInt8} : bytesRows s = [] ↔ s = [] := by simp [bytesRows]
theorem bytesRows_get {s : List UInt8} {i : Nat} (h : i < s.length) : (bytesRows s)[i]? = some [.int .u8 s[i].toNat] := by simp [bytesRows, h]
theorem allLen_bytes {s : List UInt8} : allLen 1 (bytesRows s) ↔ True := iff_true_intro fun r hr => by
  simp only [bytesRows, List.mem_map] at hr
  obtain ⟨b, _, rfl⟩ := hr
  rfl
theorem take_bytes {s : List UInt8} {n : Nat} : (bytesRows s).take n = bytesRows (s.take n) := by simp [bytesRows]
theorem drop_bytes {s : List UInt8} {n : Nat} : (bytesRows s).drop n = bytesRows (s.drop n) := by simp [bytesRows]
theorem append_bytes {s t : List UInt8} : bytesRows s ++ bytesRows t = bytesRows (s ++ t) := by simp [bytesRows]
theorem bytes_ty {row : List D} (h : HasTy Try.prog 22 row) : ∃ s : List UInt8, row = [.sl (bytesRows s)] ∧ s.length ≤ reachBytes := by
  obtain ⟨rows, rfl, hb, hc, ht⟩ := h.sl_inv Try.underlying22
  rw [show Try.prog.bytesOf 5 = 1 from by kernel_rfl] at hb
  obtain ⟨l, rfl, hl⟩ := list_of_ty (f := fun b : UInt8 => [.int .u8 b.toNat]) (p := fun _ => True) (rows := rows) (fun r hr => by
    obtain ⟨n, e, hn⟩ := (ht r hr).int_inv Try.underlying5
    refine ⟨UInt8.ofNat n.toNat, ?_, trivial⟩
    rw [e]
    have h1 : 0 ≤ n ∧ n ≤ 255 := by simpa [inR, IntKind.min, IntKind.max, IntKind.signed, IntKind.bits] using hn
    have : ((UInt8.ofNat n.toNat).toNat : Int) = n := by
      rw [UInt8.toNat_ofNat']
      omega
    rw [this])
  exact ⟨l, rfl, by simpa using hb⟩
theorem byteRow {s : List UInt8} {i : Int} {K : A → St → Prop} {st : St} (h0 : 0 ≤ i) (h : i < s.length) (hk : K (.c (.el [.int .u8 (s[i.toNat]'(by omega)).toNat] 0)) st) : RowK true (bytesRows s) i 1 K st :=
  row_int _ h0 (bytesRows_get (by omega)) rfl hk
theorem u8_i64 (b : UInt8) : IntKind.wrap .i64 (b.toNat : Int) = b.toNat := by
  rw [IntKind.wrap_i64]
  have := b.toNat_lt
  omega
end Go.Proofs.Yteighafofbohcaa

/-
  The source of draws: its first functions, each by what it answers.
  Conditions: none.
-/
open Go Go.AM Go.Proofs
namespace Go.Proofs.Yteighafofbohcaa
open Go.ChangeShapes Go.WideShapes Go.ChangeAt Go.RowKit
set_option linter.unusedVariables false
set_option linter.unusedSimpArgs false
set_option maxRecDepth 100000
-- 24 (*loop.example/prologserver/spec.l18Rd).pick params 2 ntmps 99
def ac24 : Cd := .seq (.region [⟨(some 4), .mv (.k (.c (.d (.int .i64 0)))), none⟩] [4])
  (.seq (.region [⟨(some 7), .mv (.t 0), none⟩,
      ⟨(some 8), .mv (.t 0), none⟩,
      ⟨(some 9), .nilCheck (.t 8), none⟩,
      ⟨(some 10), .fieldAddr 1 (.t 9), none⟩,
      ⟨(some 11), .load none (.t 10), none⟩,
      ⟨(some 12), .bin .add (.t 11) (.k (.c (.d (.int .i64 1)))), none⟩,
      ⟨(some 13), .nilCheck (.t 7), none⟩,
      ⟨(some 14), .fieldAddr 1 (.t 13), none⟩,
      ⟨none, .store 1 (.t 14) (.t 12), none⟩] [7, 8, 9, 10, 11, 12, 13, 14])
  (.seq (.seq (.region [⟨(some 15), .mv (.t 1), none⟩,
        ⟨(some 16), .bin .lss (.t 15) (.k (.c (.d (.int .i64 1)))), none⟩,
        ⟨(some 17), .mv (.t 16), none⟩,
        ⟨(some 18), .mv (.t 0), some (17, false)⟩,
        ⟨(some 19), .nilCheck (.t 18), some (17, false)⟩,
        ⟨(some 20), .fieldAddr 0 (.t 19), some (17, false)⟩,
        ⟨(some 21), .load none (.t 20), some (17, false)⟩,
        ⟨(some 22), .len 1 (.t 21), some (17, false)⟩,
        ⟨(some 23), .bin .eql (.t 22) (.k (.c (.d (.int .i64 0)))), some (17, false)⟩,
        ⟨(some 24), .pick (.t 17) (.k (.c (.d (.bool true)))) (.t 23), none⟩] [15, 16, 17, 18, 19, 20, 21, 22, 23])
    (.cond (.t 24)
      (.seq (.region [⟨(some 4), .mv (.k (.c (.d (.int .i64 0)))), none⟩] [0, 1, 24])
      (.ret))
      (.skip)))
  (.seq (.region [⟨(some 25), .mv (.t 0), none⟩,
      ⟨(some 26), .nilCheck (.t 25), none⟩,
      ⟨(some 27), .fieldAddr 1 (.t 26), none⟩,
      ⟨(some 28), .load none (.t 27), none⟩,
      ⟨(some 29), .bin .sub (.t 28) (.k (.c (.d (.int .i64 1)))), none⟩,
      ⟨(some 5), .mv (.t 29), none⟩] [4, 24, 25, 26, 27, 28, 29])
  (.seq (.seq (.region [⟨(some 30), .mv (.t 5), none⟩,
        ⟨(some 31), .mv (.t 0), none⟩,
        ⟨(some 32), .nilCheck (.t 31), none⟩,
        ⟨(some 33), .fieldAddr 0 (.t 32), none⟩,
        ⟨(some 34), .load none (.t 33), none⟩,
        ⟨(some 35), .len 1 (.t 34), none⟩,
        ⟨(some 36), .bin .lss (.t 30) (.t 35), none⟩] [30, 31, 32, 33, 34, 35])
    (.cond (.t 36)
      (.seq (.region [⟨(some 37), .mv (.t 0), none⟩,
          ⟨(some 38), .nilCheck (.t 37), none⟩,
          ⟨(some 39), .fieldAddr 0 (.t 38), none⟩,
          ⟨(some 40), .load none (.t 39), none⟩,
          ⟨(some 41), .mv (.t 5), none⟩,
          ⟨(some 42), .indexAddr 1 (.t 40) (.t 41), none⟩,
          ⟨(some 43), .load none (.t 42), none⟩,
          ⟨(some 44), .cvInt .i64 (.t 43), none⟩,
          ⟨(some 45), .mv (.t 1), none⟩,
          ⟨(some 46), .bin .rem (.t 44) (.t 45), none⟩,
          ⟨(some 4), .mv (.t 46), none⟩] [0, 1, 5, 36, 37, 38, 39, 40, 41, 42, 43, 44, 45, 46])
      (.ret))
      (.skip)))
  (.seq (.region [⟨(some 47), .mv (.t 0), none⟩,
      ⟨(some 48), .nilCheck (.t 47), none⟩,
      ⟨(some 49), .fieldAddr 0 (.t 48), none⟩,
      ⟨(some 51), .mv (.t 5), none⟩,
      ⟨(some 52), .mv (.t 0), none⟩,
      ⟨(some 53), .nilCheck (.t 52), none⟩,
      ⟨(some 54), .fieldAddr 0 (.t 53), none⟩,
      ⟨(some 62), .mv (.t 0), none⟩,
      ⟨(some 63), .nilCheck (.t 62), none⟩,
      ⟨(some 64), .fieldAddr 0 (.t 63), none⟩,
      ⟨(some 66), .mv (.t 5), none⟩,
      ⟨(some 67), .bin .mul (.t 66) (.k (.c (.d (.int .i64 7)))), none⟩,
      ⟨(some 68), .bin .add (.t 67) (.k (.c (.d (.int .i64 3)))), none⟩,
      ⟨(some 69), .mv (.t 0), none⟩,
      ⟨(some 70), .nilCheck (.t 69), none⟩,
      ⟨(some 71), .fieldAddr 0 (.t 70), none⟩,
      ⟨(some 80), .mv (.t 5), none⟩,
      ⟨(some 81), .bin .mul (.t 80) (.k (.c (.d (.int .i64 29)))), none⟩,
      ⟨(some 83), .mv (.t 5), none⟩,
      ⟨(some 84), .mv (.t 0), none⟩,
      ⟨(some 85), .nilCheck (.t 84), none⟩,
      ⟨(some 86), .fieldAddr 0 (.t 85), none⟩,
      ⟨(some 50), .load none (.t 49), none⟩,
      ⟨(some 55), .load none (.t 54), none⟩,
      ⟨(some 56), .len 1 (.t 55), none⟩,
      ⟨(some 57), .bin .rem (.t 51) (.t 56), none⟩,
      ⟨(some 58), .indexAddr 1 (.t 50) (.t 57), none⟩,
      ⟨(some 59), .load none (.t 58), none⟩,
      ⟨(some 60), .cvInt .i64 (.t 59), none⟩,
      ⟨(some 61), .bin .mul (.t 60) (.k (.c (.d (.int .i64 131)))), none⟩,
      ⟨(some 65), .load none (.t 64), none⟩,
      ⟨(some 72), .load none (.t 71), none⟩,
      ⟨(some 73), .len 1 (.t 72), none⟩,
      ⟨(some 74), .bin .rem (.t 68) (.t 73), none⟩,
      ⟨(some 75), .indexAddr 1 (.t 65) (.t 74), none⟩,
      ⟨(some 76), .load none (.t 75), none⟩,
      ⟨(some 77), .cvInt .i64 (.t 76), none⟩,
      ⟨(some 78), .bin .mul (.t 77) (.k (.c (.d (.int .i64 1117)))), none⟩,
      ⟨(some 79), .bin .add (.t 61) (.t 78), none⟩,
      ⟨(some 82), .bin .add (.t 79) (.t 81), none⟩,
      ⟨(some 87), .load none (.t 86), none⟩,
      ⟨(some 88), .len 1 (.t 87), none⟩,
      ⟨(some 89), .bin .quo (.t 83) (.t 88), none⟩,
      ⟨(some 90), .bin .mul (.t 89) (.k (.c (.d (.int .i64 53)))), none⟩,
      ⟨(some 91), .bin .add (.t 82) (.t 90), none⟩,
      ⟨(some 6), .mv (.t 91), none⟩] [0, 4, 5, 36, 47, 48, 49, 50, 51, 52, 53, 54, 55, 56, 57, 58, 59, 60, 61, 62, 63, 64, 65, 66, 67, 68, 69, 70, 71, 72, 73, 74, 75, 76, 77, 78, 79, 80, 81, 82, 83, 84, 85, 86, 87, 88, 89, 90, 91])
  (.seq (.region [⟨(some 92), .mv (.t 6), none⟩,
      ⟨(some 93), .mv (.t 6), none⟩,
      ⟨(some 94), .bin .quo (.t 93) (.k (.c (.d (.int .i64 64)))), none⟩,
      ⟨(some 95), .bin .xor (.t 92) (.t 94), none⟩,
      ⟨(some 6), .mv (.t 95), none⟩] [92, 93, 94, 95])
  (.seq (.region [⟨(some 96), .mv (.t 6), none⟩,
      ⟨(some 97), .mv (.t 1), none⟩,
      ⟨(some 98), .bin .rem (.t 96) (.t 97), none⟩,
      ⟨(some 4), .mv (.t 98), none⟩] [1, 6, 96, 97, 98])
  (.ret))))))))
theorem ac24_ok : cFunc Try.prog [] [(0, [4], []), (1, [7, 8, 9, 10, 11, 12, 13, 14], []), (2, [15, 16, 17, 18, 19, 20, 21, 22, 23], []), (3, [0, 1, 24], []), (4, [4, 24, 25, 26, 27, 28, 29], []), (5, [30, 31, 32, 33, 34, 35], []), (6, [0, 1, 5, 36, 37, 38, 39, 40, 41, 42, 43, 44, 45, 46], []), (7, [0, 4, 5, 36, 47, 48, 49, 50, 51, 52, 53, 54, 55, 56, 57, 58, 59, 60, 61, 62, 63, 64, 65, 66, 67, 68, 69, 70, 71, 72, 73, 74, 75, 76, 77, 78, 79, 80, 81, 82, 83, 84, 85, 86, 87, 88, 89, 90, 91], [0, 1, 2, 4, 5, 6, 7, 15, 16, 17, 19, 20, 21, 22, 23, 24, 33, 34, 36, 37, 38, 39, 3, 8, 9, 10, 11, 12, 13, 14, 18, 25, 26, 27, 28, 29, 30, 31, 32, 35, 40, 41, 42, 43, 44, 45]), (8, [92, 93, 94, 95], []), (9, [1, 6, 96, 97, 98], [])] Try.f24 = some (ac24, [.tmp 4], 99) := by kernel_rfl
-- 14 loop.example/prologserver/spec.l18Open params 1 ntmps 11
def ac14 : Cd := .seq (.region [⟨(some 2), .mv (.k (.c (.d (.v (.pointer none))))), none⟩] [2])
  (.seq (.seq (.region [⟨(some 3), .mv (.t 0), none⟩,
        ⟨(some 4), .len 1 (.t 3), none⟩,
        ⟨(some 5), .bin .gtr (.t 4) (.k (.c (.d (.int .i64 2000)))), none⟩] [3, 4])
    (.cond (.t 5)
      (.region [⟨(some 6), .mv (.t 0), none⟩,
        ⟨(some 7), .slice 1 (.t 6) none (some (.k (.c (.d (.int .i64 2000))))) none, none⟩,
        ⟨(some 0), .mv (.t 7), none⟩] [5, 6, 7])
      (.skip)))
  (.seq (.region [⟨(some 8), .mv (.t 0), none⟩,
      ⟨(some 9), .build [(.full []), (.d (.int .i64 0))] [(0, 1, (.t 8))], none⟩,
      ⟨(some 10), .box (.t 9), none⟩,
      ⟨(some 2), .mv (.t 10), none⟩] [0, 5, 8, 9, 10])
  (.ret)))
theorem ac14_ok : cFunc Try.prog [] [(0, [2], []), (1, [3, 4], []), (2, [5, 6, 7], []), (3, [0, 5, 8, 9, 10], [])] Try.f14 = some (ac14, [.tmp 2], 11) := by kernel_rfl
-- 42 (*loop.example/prologserver/spec.l18Rd).num params 2 ntmps 12
def ac42 : Cd := .seq (.region [⟨(some 4), .mv (.k (.c (.d (.int .i64 0)))), none⟩] [4])
  (.seq (.region [⟨(some 5), .mv (.t 1), none⟩,
      ⟨(some 6), .mv (.t 0), none⟩,
      ⟨(some 7), .mv (.t 1), none⟩,
      ⟨(some 8), .len 1 (.t 7), none⟩,
      ⟨(some 9), .call false 24 [(.t 6), (.t 8)], none⟩,
      ⟨(some 10), .indexAddr 1 (.t 5) (.t 9), none⟩,
      ⟨(some 11), .load none (.t 10), none⟩,
      ⟨(some 4), .mv (.t 11), none⟩] [0, 1, 5, 6, 7, 8, 9, 10, 11])
  (.ret))
theorem ac42_ok : cFunc Try.prog [] [(0, [4], []), (1, [0, 1, 5, 6, 7, 8, 9, 10, 11], [])] Try.f42 = some (ac42, [.tmp 4], 12) := by kernel_rfl
/-- a source of draws, at a place -/
def Rd (c : List UInt8) (p : Int) : Ob := .cells [.d (.sl (bytesRows c)), .d (.int .i64 p)]
theorem xor_small {x y : Int} (hx : 0 ≤ x) (hx1 : x < 1099511627776) (hy : 0 ≤ y) (hy1 : y < 1099511627776) : 0 ≤ bitsVal .xor .i64 x y ∧ bitsVal .xor .i64 x y < 1099511627776 := by
  obtain ⟨a, rfl⟩ := Int.eq_ofNat_of_zero_le hx
  obtain ⟨b, rfl⟩ := Int.eq_ofNat_of_zero_le hy
  have hx : a < 2 ^ 40 := by omega
  have hy : b < 2 ^ 40 := by omega
  have hxor : a ^^^ b < 2 ^ 40 := Nat.xor_lt_two_pow hx hy
  have e : ((BitVec.ofInt 64 (a : Int)) ^^^ (BitVec.ofInt 64 (b : Int))).toNat = a ^^^ b := by
    rw [BitVec.toNat_xor]
    have h1 : (BitVec.ofInt 64 (a : Int)).toNat = a := by rw [BitVec.ofInt_natCast, BitVec.toNat_ofNat, Nat.mod_eq_of_lt (by omega)]
    have h2 : (BitVec.ofInt 64 (b : Int)).toNat = b := by rw [BitVec.ofInt_natCast, BitVec.toNat_ofNat, Nat.mod_eq_of_lt (by omega)]
    rw [h1, h2]
  have : bitsVal .xor .i64 (a : Int) (b : Int) = ((a ^^^ b : Nat) : Int) := by
    show IntKind.wrap .i64 (((BitVec.ofInt 64 (a : Int)) ^^^ (BitVec.ofInt 64 (b : Int))).toNat : Int) = _
    rw [e, IntKind.wrap_i64]
    omega
  rw [this]
  omega
theorem pick_calls (c : List UInt8) (hc : c.length ≤ 2000) (p m : Int) (hp : 0 ≤ p) (hp1 : p ≤ 1000000) (hm : -1000000000 ≤ m ∧ m ≤ 1000000000) (H : Heap) (i : Nat) (hi : i < H.length) :
    ACalls Try.prog 24 [.c (.ptr (.e i) 0), .c (.d (.int .i64 m))] (H.set i (Rd c p)) (fun r H' => ∃ k : Int, r = .c (.d (.int .i64 k)) ∧ 0 ≤ k ∧ (0 < m → k < m) ∧ H' = H.set i (Rd c (p + 1))) := by
  refine acalls Try.func24 (by kernel_rfl) ac24_ok fun hf => ?_
  have hadd : inR .i64 (p + 1) := small_i64 (by omega) (by omega)
  have hl : inR .i64 (c.length : Int) := small_i64 (by omega) (by omega)
  have hi64 : inR .i64 p := small_i64 (by omega) (by omega)
  simp only [List.length_set] at hf
  simp -implicitDefEqProofs [ac24, Rd, hadd, hl, hi64, hi, List.getElem?_set, bytesRows_len, kw, ew, sw, tw, a_, b_, c_, -List.set_cons_succ, -List.set_cons_zero, A.ok, A.val, d_, e_, f_, g_, h_, i_, j_, k_, l_, m_, unA, unD, n_, AOp.total, o_, p_, q_, r_, s_, t_, u_, v_, A.thaw, C.thaw, A.fits, As.fits, C.fits, evs, oks, w_, A.pure, C.pure, A.re, C.re, x_, y_, cut, A.cells, C.rows?, z_, A_, B_, C_, D_, Ob.re, Cs.fits, E_, F_, G_, H_, I_, J_, K_, L_, M_, N_, O_, C.toD, P_, Q_, R_, S_, T_, Obs.fits, U_, eqD, V_, W_, X_, Y_, Z_]
  have hfit : Obs.fits H.length 0 (H.set i (.cells [.d (.sl (bytesRows c)), .d (.int .i64 (p + 1))])) := fits_reset hf ⟨trivial, trivial, trivial⟩
  refine ⟨hfit, fun h1 hc0 => ⟨fun h2 => ?_, fun h2 => ?_⟩⟩
  · refine byteRow hp (by omega) ?_
    simp -implicitDefEqProofs [u8_i64, kw, ew, sw, tw, a_, b_, c_, -List.set_cons_succ, -List.set_cons_zero, A.ok, A.val, d_, e_, f_, g_, h_, i_, j_, k_, l_, m_, unA, unD, n_, AOp.total, o_, p_, q_, r_, s_, t_, u_, v_, A.thaw, C.thaw, A.fits, As.fits, C.fits, evs, oks, w_, A.pure, C.pure, A.re, C.re, x_, y_, cut, A.cells, C.rows?, z_, A_, B_, C_, D_, Ob.re, Cs.fits, E_, F_, G_, H_, I_, J_, K_, L_, M_, N_, O_, C.toD, P_, Q_, R_, S_, T_, Obs.fits, U_, eqD, V_, W_, X_, Y_, Z_]
    refine ⟨by omega, Int.tmod_nonneg _ (by omega), fun h => Int.tmod_lt_of_pos _ h⟩
  · have hcl : 0 < c.length := by cases c with | nil => exact absurd rfl hc0 | cons a l => simp
    refine ⟨small_i64 (by omega) (by omega), small_i64 (by omega) (by omega), small_i64 (by omega) (by omega), hc0, ?_⟩
    have hm1 := Int.tmod_nonneg (a := p) (c.length : Int) hp
    have hm2 := Int.tmod_lt_of_pos p (b := (c.length : Int)) (by omega)
    refine byteRow hm1 (by omega) ?_
    have hb1 := (c[(p.tmod ↑c.length).toNat]'(by omega)).toNat_lt
    have hq : 0 ≤ (p * 7 + 3).tmod (c.length : Int) := Int.tmod_nonneg _ (by omega)
    have hq2 := Int.tmod_lt_of_pos (p * 7 + 3) (b := (c.length : Int)) (by omega)
    simp -implicitDefEqProofs [u8_i64, hcl, hi, hl, bytesRows_len, bytesRows_nil, hc0, List.getElem?_set, kw, ew, sw, tw, a_, b_, c_, -List.set_cons_succ, -List.set_cons_zero, A.ok, A.val, d_, e_, f_, g_, h_, i_, j_, k_, l_, m_, unA, unD, n_, AOp.total, o_, p_, q_, r_, s_, t_, u_, v_, A.thaw, C.thaw, A.fits, As.fits, C.fits, evs, oks, w_, A.pure, C.pure, A.re, C.re, x_, y_, cut, A.cells, C.rows?, z_, A_, B_, C_, D_, Ob.re, Cs.fits, E_, F_, G_, H_, I_, J_, K_, L_, M_, N_, O_, C.toD, P_, Q_, R_, S_, T_, Obs.fits, U_, eqD, V_, W_, X_, Y_, Z_]
    refine ⟨small_i64 (by omega) (by omega), byteRow hq (by omega) ?_⟩
    have hb2 := (c[((p * 7 + 3).tmod ↑c.length).toNat]'(by omega)).toNat_lt
    have hd0 : 0 ≤ p.tdiv (c.length : Int) := Int.tdiv_nonneg hp (by omega)
    have hd1 : p.tdiv (c.length : Int) ≤ p := Int.tdiv_le_self _ hp
    generalize ((c[(p.tmod ↑c.length).toNat]'(by omega)).toNat : Nat) = b1 at hb1
    generalize ((c[((p * 7 + 3).tmod ↑c.length).toNat]'(by omega)).toNat : Nat) = b2 at hb2
    generalize hdd : p.tdiv (c.length : Int) = d at hd0 hd1
    have i1 : inR .i64 ((b2 : Int) * 1117) := small_i64 (by omega) (by omega)
    have i2 : inR .i64 ((b1 : Int) * 131 + (b2 : Int) * 1117) := small_i64 (by omega) (by omega)
    have i3 : inR .i64 ((b1 : Int) * 131 + (b2 : Int) * 1117 + p * 29) := small_i64 (by omega) (by omega)
    have i4 : inR .i64 d := small_i64 (by omega) (by omega)
    have i5 : inR .i64 (d * 53) := small_i64 (by omega) (by omega)
    have i6 : inR .i64 ((b1 : Int) * 131 + (b2 : Int) * 1117 + p * 29 + d * 53) := small_i64 (by omega) (by omega)
    have hw : IntKind.wrap .i64 (b2 : Int) = b2 := by rw [IntKind.wrap_i64]; omega
    generalize hX : (b1 : Int) * 131 + (b2 : Int) * 1117 + p * 29 + d * 53 = X at i6
    have hx0 : 0 ≤ X := by omega
    have hx1 : X < 1099511627776 := by omega
    have j1 : 0 ≤ X.tdiv 64 := Int.tdiv_nonneg hx0 (by omega)
    have j2 : X.tdiv 64 ≤ X := Int.tdiv_le_self _ hx0
    obtain ⟨k1, k2⟩ := xor_small hx0 hx1 j1 (by omega)
    have i7 : inR .i64 (X.tdiv 64) := small_i64 (by omega) (by omega)
    simp -implicitDefEqProofs [hw, hcl, hi, hl, hdd, i1, i2, i3, i4, i5, hX, i6, i7, bytesRows_len, bytesRows_nil, hc0, List.getElem?_set, kw, ew, sw, tw, a_, b_, c_, -List.set_cons_succ, -List.set_cons_zero, A.ok, A.val, d_, e_, f_, g_, h_, i_, j_, k_, l_, m_, unA, unD, n_, AOp.total, o_, p_, q_, r_, s_, t_, u_, v_, A.thaw, C.thaw, A.fits, As.fits, C.fits, evs, oks, w_, A.pure, C.pure, A.re, C.re, x_, y_, cut, A.cells, C.rows?, z_, A_, B_, C_, D_, Ob.re, Cs.fits, E_, F_, G_, H_, I_, J_, K_, L_, M_, N_, O_, C.toD, P_, Q_, R_, S_, T_, Obs.fits, U_, eqD, V_, W_, X_, Y_, Z_]
    exact ⟨by omega, Int.tmod_nonneg _ k1, fun h => Int.tmod_lt_of_pos _ h⟩

/-- what a function that draws gives: its source stands behind where it stood -/
def Drew (R : A → Prop) (N : Int) (c : List UInt8) (p : Int) (H : Heap) (i : Nat) (r : A) (H' : Heap) : Prop := R r ∧ ∃ p', p ≤ p' ∧ p' ≤ p + N ∧ H' = H.set i (Rd c p')
/-- what a function that draws is shown to give -/
def Draws (f : FuncId) (xs : List A) (N : Int) (R : A → Prop) : Prop :=
  ∀ (c : List UInt8) (p : Int) (H : Heap) (i : Nat), c.length ≤ 2000 → 0 ≤ p → p + N ≤ 1000000 → i < H.length → ACalls Try.prog f (.c (.ptr (.e i) 0) :: xs) (H.set i (Rd c p)) (Drew R N c p H i)
/-- an integer in a range -/
def IntIn (lo hi : Int) (r : A) : Prop := ∃ k : Int, r = .c (.d (.int .i64 k)) ∧ lo ≤ k ∧ k < hi
theorem pick_draws (m : Int) (hm : 1 ≤ m ∧ m ≤ 1000000000) : Draws 24 [.c (.d (.int .i64 m))] 1 (IntIn 0 m) := fun c p H i hc hp hp1 hi =>
  (pick_calls c hc p m hp (by omega) ⟨by omega, hm.2⟩ H i hi).mono fun r H' ⟨k, h1, h2, h3, h4⟩ => ⟨⟨k, h1, h2, h3 (by omega)⟩, p + 1, by omega, by omega, h4⟩

/-- a call that draws from a source that was handed in -/
theorem call_drawE {f : FuncId} {xs : List A} {N : Int} {R : A → Prop} (hd : Draws f xs N R) {c : List UInt8} {p : Int} {H : Heap} {i : Nat} {sl : List A} {loc H₂ : Heap} {K : A → St → Prop} (hc : c.length ≤ 2000) (hp : 0 ≤ p) (hp1 : p + N ≤ 1000000) (hi : i < H.length)
    (hH : H₂ = H.set i (Rd c p) ++ loc.map (Ob.re H.length)) (hr : ∀ r, R r → A.re H.length r = r) (hf : Obs.fits H.length 0 (H.set i (Rd c p))) (hk : ∀ r p', R r → p ≤ p' → p' ≤ p + N → K r ⟨sl, H.set i (Rd c p'), loc⟩) :
    ACalls Try.prog f (.c (.ptr (.e i) 0) :: xs) H₂ (CallK K ⟨sl, H.set i (Rd c p), loc⟩) := by
  subst hH
  have h := hd c p (H ++ loc.map (Ob.re H.length)) i hc hp hp1 (by simp; omega)
  rw [List.set_append_left _ _ hi] at h
  refine h.mono fun r H' ⟨h1, p', h2, h3, h4⟩ => ?_
  rw [List.set_append_left _ _ hi] at h4
  exact ⟨H.set i (Rd c p'), loc, r, by simpa using h4, by simp, Nat.le_refl _, by simpa using fits_reset (b := Rd c p') hf ⟨trivial, trivial, trivial⟩, by simpa using (hr r h1).symm, hk r p' h1 h2 h3⟩
/-- a call that draws from an own source, the first own object -/
theorem call_drawL {f : FuncId} {xs : List A} {N : Int} {R : A → Prop} (hd : Draws f xs N R) {c : List UInt8} {p : Int} {H : Heap} {sl : List A} {loc H₂ : Heap} {j : Nat} {K : A → St → Prop} (hc : c.length ≤ 2000) (hp : 0 ≤ p) (hp1 : p + N ≤ 1000000) (hj : loc[j]? = some (Rd c p))
    (hH : H₂ = H ++ loc.map (Ob.re H.length)) (hr : ∀ r, R r → A.re H.length r = r) (hf : Obs.fits H.length 0 H) (hk : ∀ r p', R r → p ≤ p' → p' ≤ p + N → K r ⟨sl, H, loc.set j (Rd c p')⟩) :
    ACalls Try.prog f (.c (.ptr (.e (H.length + j)) 0) :: xs) H₂ (CallK K ⟨sl, H, loc⟩) := by
  subst hH
  have hjl : j < loc.length := (List.getElem?_eq_some_iff.1 hj).1
  have h := hd c p (H ++ loc.map (Ob.re H.length)) (H.length + j) hc hp hp1 (by simp; omega)
  have e : ∀ q, (H ++ loc.map (Ob.re H.length)).set (H.length + j) (Rd c q) = H ++ (loc.set j (Rd c q)).map (Ob.re H.length) := fun q => by
    rw [List.set_append_right _ _ (by omega), Nat.add_sub_cancel_left, List.map_set]
    rfl
  have e0 : loc.set j (Rd c p) = loc := by
    apply List.ext_getElem?
    intro k
    rw [List.getElem?_set]
    split
    · rename_i h; subst h; rw [hj]
    · rfl
  rw [e, e0] at h
  refine h.mono fun r H' ⟨h1, p', h2, h3, h4⟩ => ?_
  rw [e] at h4
  exact ⟨H, loc.set j (Rd c p'), r, h4, rfl, by simp, hf, (hr r h1).symm, hk r p' h1 h2 h3⟩
theorem IntIn.re {lo hi : Int} {n : Nat} {r : A} (h : IntIn lo hi r) : A.re n r = r := by
  obtain ⟨k, rfl, _⟩ := h
  rfl

theorem num_draws (l : List Int) (hl : 1 ≤ l.length ∧ l.length ≤ 1000) : Draws 42 [.c (.d (.sl (l.map fun n => [.int .i64 n])))] 1 (fun r => ∃ n ∈ l, r = .c (.d (.int .i64 n))) := fun c p H i hc hp hp1 hi => by
  refine acalls Try.func42 (by kernel_rfl) ac42_ok fun hf => ?_
  simp only [List.length_set] at hf
  have hll : inR .i64 (l.length : Int) := small_i64 (by omega) (by omega)
  simp -implicitDefEqProofs [ac42, hll, kw, ew, sw, tw, a_, b_, c_, -List.set_cons_succ, -List.set_cons_zero, A.ok, A.val, d_, e_, f_, g_, h_, i_, j_, k_, l_, m_, unA, unD, n_, AOp.total, o_, p_, q_, r_, s_, t_, u_, v_, A.thaw, C.thaw, A.fits, As.fits, C.fits, evs, oks, w_, A.pure, C.pure, A.re, C.re, x_, y_, cut, A.cells, C.rows?, z_, A_, B_, C_, D_, Ob.re, Cs.fits, E_, F_, G_, H_, I_, J_, K_, L_, M_, N_, O_, C.toD, P_, Q_, R_, S_, T_, Obs.fits, U_, eqD, V_, W_, X_, Y_, Z_]
  refine call_drawE (pick_draws l.length ⟨by omega, by omega⟩) hc hp hp1 hi (by simp) (fun r => IntIn.re) hf ?_
  rintro _ p' ⟨k, rfl, h1, h2⟩ h3 h4
  simp -implicitDefEqProofs [kw, ew, sw, tw, a_, b_, c_, -List.set_cons_succ, -List.set_cons_zero, A.ok, A.val, d_, e_, f_, g_, h_, i_, j_, k_, l_, m_, unA, unD, n_, AOp.total, o_, p_, q_, r_, s_, t_, u_, v_, A.thaw, C.thaw, A.fits, As.fits, C.fits, evs, oks, w_, A.pure, C.pure, A.re, C.re, x_, y_, cut, A.cells, C.rows?, z_, A_, B_, C_, D_, Ob.re, Cs.fits, E_, F_, G_, H_, I_, J_, K_, L_, M_, N_, O_, C.toD, P_, Q_, R_, S_, T_, Obs.fits, U_, eqD, V_, W_, X_, Y_, Z_]
  have hk : k.toNat < l.length := by omega
  refine row_int [.int .i64 l[k.toNat]] h1 (by simp [hk]) rfl ?_
  simp -implicitDefEqProofs [kw, ew, sw, tw, a_, b_, c_, -List.set_cons_succ, -List.set_cons_zero, A.ok, A.val, d_, e_, f_, g_, h_, i_, j_, k_, l_, m_, unA, unD, n_, AOp.total, o_, p_, q_, r_, s_, t_, u_, v_, A.thaw, C.thaw, A.fits, As.fits, C.fits, evs, oks, w_, A.pure, C.pure, A.re, C.re, x_, y_, cut, A.cells, C.rows?, z_, A_, B_, C_, D_, Ob.re, Cs.fits, E_, F_, G_, H_, I_, J_, K_, L_, M_, N_, O_, C.toD, P_, Q_, R_, S_, T_, Obs.fits, U_, eqD, V_, W_, X_, Y_, Z_]
  exact ⟨⟨_, List.getElem_mem hk, rfl⟩, p', h3, h4, rfl⟩
theorem open_calls (c : List UInt8) (hc : c.length ≤ 1048576) (H : Heap) : ACalls Try.prog 14 [.c (.d (.sl (bytesRows c)))] H (fun r H' => r = .c (.ptr (.e H.length) 0) ∧ ∃ c' : List UInt8, c'.length ≤ 2000 ∧ H' = H ++ [Rd c' 0]) := by
  refine acallsK Try.func14 (by kernel_rfl) ac14_ok fun hf => ?_
  have hl : inR .i64 (c.length : Int) := small_i64 (by omega) (by omega)
  simp -implicitDefEqProofs [ac14, hl, bytesRows_len, kw, ew, sw, tw, a_, b_, c_, -List.set_cons_succ, -List.set_cons_zero, A.ok, A.val, d_, e_, f_, g_, h_, i_, j_, k_, l_, m_, unA, unD, n_, AOp.total, o_, p_, q_, r_, s_, t_, u_, v_, A.thaw, C.thaw, A.fits, As.fits, C.fits, evs, oks, w_, A.pure, C.pure, A.re, C.re, x_, y_, cut, A.cells, C.rows?, z_, A_, B_, C_, D_, Ob.re, Cs.fits, E_, F_, G_, H_, I_, J_, K_, L_, M_, N_, O_, C.toD, P_, Q_, R_, S_, T_, Obs.fits, U_, eqD, V_, W_, X_, Y_, Z_]
  refine ⟨fun h => ⟨?_, by omega, ?_⟩, fun h => ?_⟩
  · intro r hr
    simp only [bytesRows, List.mem_map] at hr
    obtain ⟨b, _, rfl⟩ := hr
    rfl
  · refine finK_ret _ ⟨trivial, trivial⟩ rfl ⟨rfl, c.take 2000, by simp; omega, ?_⟩
    simp [Rd, bytesRows, Ob.re, C.re]
  · refine finK_ret _ ⟨trivial, trivial⟩ rfl ⟨rfl, c, by omega, ?_⟩
    simp [Rd, Ob.re, C.re]
end Go.Proofs.Yteighafofbohcaa

/-
  Terms that are drawn.
  Conditions: none.
-/
open Go Go.AM Go.Proofs
namespace Go.Proofs.Yteighafofbohcaa
open Go.ChangeShapes Go.WideShapes Go.ChangeAt Go.RowKit
set_option linter.unusedVariables false
set_option linter.unusedSimpArgs false
set_option maxRecDepth 100000
-- 43 (*loop.example/prologserver/spec.l18Rd).of params 2 ntmps 12
def ac43 : Cd := .seq (.region [⟨(some 4), .mv (.k (.c (.d (.str [])))), none⟩] [4])
  (.seq (.region [⟨(some 5), .mv (.t 1), none⟩,
      ⟨(some 6), .mv (.t 0), none⟩,
      ⟨(some 7), .mv (.t 1), none⟩,
      ⟨(some 8), .len 1 (.t 7), none⟩,
      ⟨(some 9), .call false 24 [(.t 6), (.t 8)], none⟩,
      ⟨(some 10), .indexAddr 1 (.t 5) (.t 9), none⟩,
      ⟨(some 11), .load none (.t 10), none⟩,
      ⟨(some 4), .mv (.t 11), none⟩] [0, 1, 5, 6, 7, 8, 9, 10, 11])
  (.ret))
theorem ac43_ok : cFunc Try.prog [] [(0, [4], []), (1, [0, 1, 5, 6, 7, 8, 9, 10, 11], [])] Try.f43 = some (ac43, [.tmp 4], 12) := by kernel_rfl
namespace Full
-- 25 loop.example/prologserver/spec.l1Struct params 2 ntmps 10
def ac25 : Cd := .seq (.region [⟨(some 4), .alloc [(.d (.int .i64 0)), (.d (.int .i64 0)), (.d (.str [])), (.full [])], none⟩] [])
  (.seq (.region [⟨(some 5), .mv (.t 0), none⟩,
      ⟨(some 6), .buildSlice 4 0 [(.int .i64 0), (.int .i64 0), (.str []), (.sl [])] [], none⟩,
      ⟨(some 7), .mv (.t 1), none⟩,
      ⟨(some 8), .appendF 4 (.t 6) (.t 7), none⟩,
      ⟨(some 9), .build [(.d (.int .i64 0)), (.d (.int .i64 0)), (.d (.str [])), (.full [])] [(0, 1, (.k (.c (.d (.int .i64 3))))), (2, 1, (.t 5)), (3, 1, (.t 8))], none⟩,
      ⟨none, .store 4 (.t 4) (.t 9), none⟩] [0, 1, 5, 6, 7, 8, 9])
  (.ret))
theorem ac25_ok : cFunc Try.prog [3000006] [(0, [], []), (1, [0, 1, 5, 6, 7, 8, 9], [])] Try.f25 = some (ac25, [.cell 4 (some 4)], 10) := by kernel_rfl
end Full
theorem of_draws (l : List (List UInt8)) (hl : 1 ≤ l.length ∧ l.length ≤ 1000) : Draws 43 [.c (.d (.sl (l.map fun s => [.str s])))] 1 (fun r => ∃ s ∈ l, r = .c (.d (.str s))) := fun c p H i hc hp hp1 hi => by
  refine acalls Try.func43 (by kernel_rfl) ac43_ok fun hf => ?_
  simp only [List.length_set] at hf
  have hll : inR .i64 (l.length : Int) := small_i64 (by omega) (by omega)
  simp -implicitDefEqProofs [ac43, hll, kw, ew, sw, tw, a_, b_, c_, -List.set_cons_succ, -List.set_cons_zero, A.ok, A.val, d_, e_, f_, g_, h_, i_, j_, k_, l_, m_, unA, unD, n_, AOp.total, o_, p_, q_, r_, s_, t_, u_, v_, A.thaw, C.thaw, A.fits, As.fits, C.fits, evs, oks, w_, A.pure, C.pure, A.re, C.re, x_, y_, cut, A.cells, C.rows?, z_, A_, B_, C_, D_, Ob.re, Cs.fits, E_, F_, G_, H_, I_, J_, K_, L_, M_, N_, O_, C.toD, P_, Q_, R_, S_, T_, Obs.fits, U_, eqD, V_, W_, X_, Y_, Z_]
  refine call_drawE (pick_draws l.length ⟨by omega, by omega⟩) hc hp hp1 hi (by simp) (fun r => IntIn.re) hf ?_
  rintro _ p' ⟨k, rfl, h1, h2⟩ h3 h4
  simp -implicitDefEqProofs [kw, ew, sw, tw, a_, b_, c_, -List.set_cons_succ, -List.set_cons_zero, A.ok, A.val, d_, e_, f_, g_, h_, i_, j_, k_, l_, m_, unA, unD, n_, AOp.total, o_, p_, q_, r_, s_, t_, u_, v_, A.thaw, C.thaw, A.fits, As.fits, C.fits, evs, oks, w_, A.pure, C.pure, A.re, C.re, x_, y_, cut, A.cells, C.rows?, z_, A_, B_, C_, D_, Ob.re, Cs.fits, E_, F_, G_, H_, I_, J_, K_, L_, M_, N_, O_, C.toD, P_, Q_, R_, S_, T_, Obs.fits, U_, eqD, V_, W_, X_, Y_, Z_]
  have hk : k.toNat < l.length := by omega
  refine row_int [.str l[k.toNat]] h1 (by simp [hk]) rfl ?_
  simp -implicitDefEqProofs [kw, ew, sw, tw, a_, b_, c_, -List.set_cons_succ, -List.set_cons_zero, A.ok, A.val, d_, e_, f_, g_, h_, i_, j_, k_, l_, m_, unA, unD, n_, AOp.total, o_, p_, q_, r_, s_, t_, u_, v_, A.thaw, C.thaw, A.fits, As.fits, C.fits, evs, oks, w_, A.pure, C.pure, A.re, C.re, x_, y_, cut, A.cells, C.rows?, z_, A_, B_, C_, D_, Ob.re, Cs.fits, E_, F_, G_, H_, I_, J_, K_, L_, M_, N_, O_, C.toD, P_, Q_, R_, S_, T_, Obs.fits, U_, eqD, V_, W_, X_, Y_, Z_]
  exact ⟨⟨_, List.getElem_mem hk, rfl⟩, p', h3, h4, rfl⟩
/-- a structure without arguments: nothing stands behind its arguments -/
theorem struct_full (name : List UInt8) (H : Heap) : ACalls Try.prog 25 [.c (.d (.str name)), .c (.d (.sl []))] H (fun r H' => H' = H ++ [.cells [.d (.int .i64 3), .d (.int .i64 0), .d (.str name), .full []]] ∧ r = .agg [.d (.int .i64 3), .d (.int .i64 0), .d (.str name), .full []]) := by
  refine acallsK Try.func25 (by kernel_rfl) Full.ac25_ok fun hf => ?_
  simp -implicitDefEqProofs [Full.ac25, hf, kw, ew, sw, tw, a_, b_, c_, -List.set_cons_succ, -List.set_cons_zero, A.ok, A.val, d_, e_, f_, g_, h_, i_, j_, k_, l_, m_, unA, unD, n_, AOp.total, o_, p_, q_, r_, s_, t_, u_, v_, A.thaw, C.thaw, A.fits, As.fits, C.fits, evs, oks, w_, A.pure, C.pure, A.re, C.re, x_, y_, cut, A.cells, C.rows?, z_, A_, B_, C_, D_, Ob.re, Cs.fits, E_, F_, G_, H_, I_, J_, K_, L_, M_, N_, O_, C.toD, P_, Q_, R_, S_, T_, Obs.fits, U_, eqD, V_, W_, X_, Y_, Z_]
  refine finK_ret _ ⟨trivial, trivial⟩ rfl ?_
  simp [Ob.re, C.re, A.re]
/-- a call that leaves one object more, which looks at no other -/
theorem call_new {P : Program} {f : FuncId} {xs : List A} {sl : List A} {ext loc H₂ : Heap} {o : Ob} {r : A} {K : A → St → Prop} (hc : ∀ H, ACalls P f xs H (fun r' H' => H' = H ++ [o] ∧ r' = r)) (ho : Ob.re ext.length o = o) (hr : A.re ext.length r = r)
    (hf : Obs.fits ext.length 0 ext) (hH : H₂ = ext ++ loc.map (Ob.re ext.length)) (hk : K r ⟨sl, ext, loc ++ [o]⟩) : ACalls P f xs H₂ (CallK K ⟨sl, ext, loc⟩) := by
  subst hH
  exact (hc _).mono fun r' H' ⟨h1, h2⟩ => ⟨ext, loc ++ [o], r, by rw [h1, List.append_assoc, List.map_append]; simp [ho], rfl, by simp, hf, by rw [h2]; exact hr.symm, hk⟩
/-- a term that a law looks at -/
def TmR (r : A) : Prop := ∃ t : Tm, r = .agg (t.row.map .d) ∧ t.fits
theorem TmR.re {n : Nat} {r : A} (h : TmR r) : A.re n r = r := by
  obtain ⟨t, rfl, _⟩ := h
  simp [A.re, re_d]
end Go.Proofs.Yteighafofbohcaa

/-
  Terms that are drawn: copies that are changed.
  Conditions: none.
-/
open Go Go.AM Go.Proofs
namespace Go.Proofs.Yteighafofbohcaa
open Go.ChangeShapes Go.WideShapes Go.ChangeAt Go.RowKit
set_option linter.unusedVariables false
set_option linter.unusedSimpArgs false
set_option maxRecDepth 100000
-- 23 loop.example/prologserver/spec.l1Mutate params 2 ntmps 51
-- loop head live: [4, 5]
-- loop head live: [4, 5, 6]
def ac23 : Cd := .seq (.region [⟨(some 3), .box (.t 1), none⟩,
      ⟨(some 4), .alloc [(.d (.int .i64 0)), (.d (.int .i64 0)), (.d (.str [])), (.full [])], none⟩] [1])
  (.seq (.region [⟨(some 7), .load (some 4) (.t 3), none⟩,
      ⟨(some 8), .call false 41 [(.t 7)], none⟩,
      ⟨(some 5), .alloc [(.d (.int .i64 0)), (.d (.int .i64 0)), (.d (.str [])), (.full [])], none⟩,
      ⟨none, .store 4 (.t 5) (.t 8), none⟩] [3, 7, 8])
  (.seq (.seq (.region [⟨(some 9), .mv (.t 0), none⟩,
        ⟨(some 10), .call false 24 [(.t 9), (.k (.c (.d (.int .i64 50))))], none⟩] [9])
    (.block 0 (.seq (.region [⟨(some 12), .bin .eql (.t 10) (.k (.c (.d (.int .i64 0)))), none⟩,
          ⟨(some 11), .mv (.t 12), none⟩] [12])
      (.cond (.t 11)
        (.region [⟨(some 13), .mv (.t 0), none⟩,
          ⟨(some 14), .buildSlice 1 5 [(.int .i64 0)] [(0, (.k (.c (.d (.int .i64 0))))), (1, (.k (.c (.d (.int .i64 4))))), (2, (.k (.c (.d (.int .i64 1))))), (3, (.k (.c (.d (.int .i64 2))))), (4, (.k (.c (.d (.int .i64 3)))))], none⟩,
          ⟨(some 15), .call false 42 [(.t 13), (.t 14)], none⟩,
          ⟨(some 16), .fieldAddr 0 (.t 5), none⟩,
          ⟨none, .store 1 (.t 16) (.t 15), none⟩] [0, 10, 11, 13, 14, 15, 16])
        (.seq (.region [⟨(some 18), .bin .eql (.t 10) (.k (.c (.d (.int .i64 1)))), none⟩,
            ⟨(some 17), .mv (.t 18), none⟩] [11, 18])
        (.cond (.t 17)
          (.region [⟨(some 19), .mv (.t 0), none⟩,
            ⟨(some 20), .buildSlice 1 5 [(.int .i64 0)] [(0, (.k (.c (.d (.int .i64 26))))), (1, (.k (.c (.d (.int .i64 1000))))), (2, (.k (.c (.d (.int .i64 (-1000)))))), (3, (.k (.c (.d (.int .i64 (-1)))))), (4, (.k (.c (.d (.int .i64 1)))))], none⟩,
            ⟨(some 21), .call false 42 [(.t 19), (.t 20)], none⟩,
            ⟨(some 22), .fieldAddr 1 (.t 5), none⟩,
            ⟨none, .store 1 (.t 22) (.t 21), none⟩] [0, 10, 17, 19, 20, 21, 22])
          (.seq (.region [⟨(some 24), .bin .eql (.t 10) (.k (.c (.d (.int .i64 2)))), none⟩,
              ⟨(some 23), .mv (.t 24), none⟩] [17, 24])
          (.cond (.t 23)
            (.region [⟨(some 25), .mv (.t 0), none⟩,
              ⟨(some 26), .buildSlice 1 5 [(.str [])] [(0, (.k (.c (.d (.str []))))), (1, (.k (.c (.d (.str [88]))))), (2, (.k (.c (.d (.str [116, 111, 111, 108, 111, 110, 103]))))), (3, (.k (.c (.d (.str [195, 169]))))), (4, (.k (.c (.d (.str [97])))))], none⟩,
              ⟨(some 27), .call false 43 [(.t 25), (.t 26)], none⟩,
              ⟨(some 28), .fieldAddr 2 (.t 5), none⟩,
              ⟨none, .store 1 (.t 28) (.t 27), none⟩] [0, 10, 23, 25, 26, 27, 28])
            (.seq (.region [⟨(some 30), .bin .eql (.t 10) (.k (.c (.d (.int .i64 3)))), none⟩,
                ⟨(some 29), .mv (.t 30), none⟩] [0, 23, 30])
            (.cond (.t 29)
              (.block 1 (.loop (.seq (.seq (.region [⟨(some 31), .fieldAddr 3 (.t 5), none⟩,
                        ⟨(some 32), .load none (.t 31), none⟩,
                        ⟨(some 33), .len 1 (.t 32), none⟩,
                        ⟨(some 34), .bin .leq (.t 33) (.k (.c (.d (.int .i64 4)))), none⟩] [31, 32, 33])
                    (.cond (.t 34)
                      (.skip)
                      (.exit 1)))
                  (.block 2 (.region [⟨(some 35), .fieldAddr 3 (.t 5), none⟩,
                      ⟨(some 36), .load none (.t 35), none⟩,
                      ⟨(some 37), .qcall 44 [(.k (.c (.d (.int .i64 1))))], none⟩,
                      ⟨(some 38), .buildSlice 4 1 [(.int .i64 0), (.int .i64 0), (.str []), (.sl [])] [(0, (.t 37))], none⟩,
                      ⟨(some 39), .append false 4 (.t 36) (.t 38), none⟩,
                      ⟨(some 40), .fieldAddr 3 (.t 5), none⟩,
                      ⟨none, .store 1 (.t 40) (.t 39), none⟩] [34, 35, 36, 37, 38, 39, 40])))))
              (.seq (.region [⟨(some 42), .bin .eql (.t 10) (.k (.c (.d (.int .i64 4)))), none⟩,
                  ⟨(some 41), .mv (.t 42), none⟩] [10, 29, 42])
              (.cond (.t 41)
                (.seq (.region [⟨(some 6), .mv (.k (.c (.d (.int .i64 0)))), none⟩] [41])
                (.block 3 (.loop (.seq (.seq (.region [⟨(some 43), .mv (.t 6), none⟩,
                          ⟨(some 44), .bin .lss (.t 43) (.k (.c (.d (.int .i64 30)))), none⟩] [43])
                      (.cond (.t 44)
                        (.skip)
                        (.exit 3)))
                    (.seq (.block 4 (.region [⟨(some 47), .load (some 4) (.t 5), none⟩,
                          ⟨(some 48), .buildSlice 4 1 [(.int .i64 0), (.int .i64 0), (.str []), (.sl [])] [(0, (.t 47))], none⟩,
                          ⟨(some 49), .qcall 25 [(.k (.c (.d (.str [115])))), (.t 48)], none⟩,
                          ⟨none, .store 4 (.t 5) (.t 49), none⟩] [44, 47, 48, 49]))
                    (.region [⟨(some 45), .mv (.t 6), none⟩,
                      ⟨(some 46), .bin .add (.t 45) (.k (.c (.d (.int .i64 1)))), none⟩,
                      ⟨(some 6), .mv (.t 46), none⟩] [45, 46]))))))
                (.skip)))))))))))))
  (.seq (.region [⟨(some 50), .load (some 4) (.t 5), none⟩,
      ⟨none, .store 4 (.t 4) (.t 50), none⟩] [5, 41, 50])
  (.ret))))
theorem ac23_ok : cFunc Try.prog [1000025, 1000044] [(0, [1], []), (1, [3, 7, 8], []), (2, [9], []), (3, [12], []), (4, [0, 10, 11, 13, 14, 15, 16], []), (5, [11, 18], []), (6, [0, 10, 17, 19, 20, 21, 22], []), (7, [17, 24], []), (8, [0, 10, 23, 25, 26, 27, 28], []), (9, [0, 23, 30], []), (10, [31, 32, 33], []), (11, [34, 35, 36, 37, 38, 39, 40], [0, 1, 2, 3, 4, 5, 6]), (12, [10, 29, 42], []), (13, [41], []), (14, [43], []), (16, [44, 47, 48, 49], []), (15, [45, 46], []), (17, [5, 41, 50], [])] Try.f23 = some (ac23, [.cell 4 (some 4)], 51) := by kernel_rfl
theorem Draws.mono {f : FuncId} {xs : List A} {N N' : Int} {R : A → Prop} (h : Draws f xs N R) (hN : N ≤ N') : Draws f xs N' R := fun c p H i hc hp hp1 hi =>
  (h c p H i hc hp (by omega) hi).mono fun r H' ⟨h1, p', h2, h3, h4⟩ => ⟨h1, p', h2, by omega, h4⟩
theorem copy_own (k n : Int) (s : List UInt8) (l : List Tm) (hfits : (Tm.mk k n s l).fits) (H : Heap) : ACalls Try.prog 41 [.agg ((Tm.mk k n s l).row.map .d)] H (fun r H' =>
    H' = H ++ [.cells [.d (.int .i64 k), .d (.int .i64 n), .d (.str s), .d (.sl (l.map Tm.row))], .cells [.d (.int .i64 k), .d (.int .i64 n), .d (.str s), .own (.e (H.length + 3)) l.length (l.map Tm.row)], .cells [.d (.int .i64 k), .d (.int .i64 n), .d (.str s), .own (.e (H.length + 3)) l.length (l.map Tm.row)], .grow l.length 4] ∧
    r = .agg [.d (.int .i64 k), .d (.int .i64 n), .d (.str s), .own (.e (H.length + 3)) l.length (l.map Tm.row)]) := by
  obtain ⟨hk, hn, hs, hl, hkids⟩ := hfits
  refine acallsK Try.func41 (by kernel_rfl) ac41_ok fun hf => ?_
  have hli : inR .i64 (l.length : Int) := small_i64 (by omega) (by omega)
  simp -implicitDefEqProofs [ac41, row_mk, hf, hli, kw, ew, sw, tw, a_, b_, c_, -List.set_cons_succ, -List.set_cons_zero, A.ok, A.val, d_, e_, f_, g_, h_, i_, j_, k_, l_, m_, unA, unD, n_, AOp.total, o_, p_, q_, r_, s_, t_, u_, v_, A.thaw, C.thaw, A.fits, As.fits, C.fits, evs, oks, w_, A.pure, C.pure, A.re, C.re, x_, y_, cut, A.cells, C.rows?, z_, A_, B_, C_, D_, Ob.re, Cs.fits, E_, F_, G_, H_, I_, J_, K_, L_, M_, N_, O_, C.toD, P_, Q_, R_, S_, T_, Obs.fits, U_, eqD, V_, W_, X_, Y_, Z_]
  refine loop_enter (St.le_tokenC 2 3 4 rfl rfl) ?_
  refine loop_set (σ := Nat) (fun i => [(4, .c (.d (.int .i64 i)))]) (fun _ => H) (fun i => [.cells [.d (.int .i64 k), .d (.int .i64 n), .d (.str s), .d (.sl (l.map Tm.row))], .cells [.d (.int .i64 0), .d (.int .i64 0), .d (.str []), .full []], .cells [.d (.int .i64 k), .d (.int .i64 n), .d (.str s), .own (.l 3) i ((l.map Tm.row).take i)], .grow i 4])
    (fun i => i ≤ l.length) (fun i => l.length - i) 0 rfl (Nat.zero_le _) ?_
  intro i hi
  simp -implicitDefEqProofs [setAll, hli, kw, ew, sw, tw, a_, b_, c_, -List.set_cons_succ, -List.set_cons_zero, A.ok, A.val, d_, e_, f_, g_, h_, i_, j_, k_, l_, m_, unA, unD, n_, AOp.total, o_, p_, q_, r_, s_, t_, u_, v_, A.thaw, C.thaw, A.fits, As.fits, C.fits, evs, oks, w_, A.pure, C.pure, A.re, C.re, x_, y_, cut, A.cells, C.rows?, z_, A_, B_, C_, D_, Ob.re, Cs.fits, E_, F_, G_, H_, I_, J_, K_, L_, M_, N_, O_, C.toD, P_, Q_, R_, S_, T_, Obs.fits, U_, eqD, V_, W_, X_, Y_, Z_]
  refine ⟨fun hlt => ?_, fun hge => ?_⟩
  · have hadd : inR .i64 ((i : Int) + 1) := small_i64 (by omega) (by omega)
    refine row_of hlt (row_len _) ?_
    simp -implicitDefEqProofs [row_len, take_row, pure_d, re_d, kw, ew, sw, tw, a_, b_, c_, -List.set_cons_succ, -List.set_cons_zero, A.ok, A.val, d_, e_, f_, g_, h_, i_, j_, k_, l_, m_, unA, unD, n_, AOp.total, o_, p_, q_, r_, s_, t_, u_, v_, A.thaw, C.thaw, A.fits, As.fits, C.fits, evs, oks, w_, A.pure, C.pure, A.re, C.re, x_, y_, cut, A.cells, C.rows?, z_, A_, B_, C_, D_, Ob.re, Cs.fits, E_, F_, G_, H_, I_, J_, K_, L_, M_, N_, O_, C.toD, P_, Q_, R_, S_, T_, Obs.fits, U_, eqD, V_, W_, X_, Y_, Z_]
    refine qcall_pure (copy_calls l[i] (hkids _ (List.getElem_mem hlt))) hf (by simp [A.re, re_d]) ?_
    simp -implicitDefEqProofs [row_len, toDs_map, hadd, hf, Nat.min_eq_left hi, kw, ew, sw, tw, a_, b_, c_, -List.set_cons_succ, -List.set_cons_zero, A.ok, A.val, d_, e_, f_, g_, h_, i_, j_, k_, l_, m_, unA, unD, n_, AOp.total, o_, p_, q_, r_, s_, t_, u_, v_, A.thaw, C.thaw, A.fits, As.fits, C.fits, evs, oks, w_, A.pure, C.pure, A.re, C.re, x_, y_, cut, A.cells, C.rows?, z_, A_, B_, C_, D_, Ob.re, Cs.fits, E_, F_, G_, H_, I_, J_, K_, L_, M_, N_, O_, C.toD, P_, Q_, R_, S_, T_, Obs.fits, U_, eqD, V_, W_, X_, Y_, Z_]
    refine ⟨fun r hr => allLen_map row_len r (List.mem_of_mem_take hr), by unfold maxApp; omega, ?_⟩
    refine loop_back (i + 1) ?_ hlt (by show l.length - (i + 1) < l.length - i; omega)
    simp [setAll, take_map_succ hlt]
  · have hil : i = l.length := by omega
    subst hil
    rw [show (l.map Tm.row).take l.length = l.map Tm.row from List.take_of_length_le (by simp)]
    simp -implicitDefEqProofs [hf, kw, ew, sw, tw, a_, b_, c_, -List.set_cons_succ, -List.set_cons_zero, A.ok, A.val, d_, e_, f_, g_, h_, i_, j_, k_, l_, m_, unA, unD, n_, AOp.total, o_, p_, q_, r_, s_, t_, u_, v_, A.thaw, C.thaw, A.fits, As.fits, C.fits, evs, oks, w_, A.pure, C.pure, A.re, C.re, x_, y_, cut, A.cells, C.rows?, z_, A_, B_, C_, D_, Ob.re, Cs.fits, E_, F_, G_, H_, I_, J_, K_, L_, M_, N_, O_, C.toD, P_, Q_, R_, S_, T_, Obs.fits, U_, eqD, V_, W_, X_, Y_, Z_]
    refine finK_ret _ ⟨trivial, trivial⟩ rfl ?_
    simp [Ob.re, C.re, A.re, Ref.re]
theorem l1Mutate_draws (t : Tm) (ht : t.fits) : Draws 23 [.agg (t.row.map .d)] 2 TmR := fun c p H i hc hp hp1 hi => by
  obtain ⟨k, n, s, l⟩ := t
  refine acalls Try.func23 (by kernel_rfl) ac23_ok fun hf => ?_
  simp only [List.length_set] at hf
  have hf0 : ∀ q, Obs.fits H.length 0 (H.set i (Rd c q)) := fun q => fits_reset (b := Rd c q) hf ⟨trivial, trivial, trivial⟩
  have hf1 : ∀ q, Obs.fits (H.set i (Rd c q)).length 0 (H.set i (Rd c q)) := fun q => by simpa using hf0 q
  have hcopy := copy_own k n s l ht
  obtain ⟨hk, hn, hs, hl, hkids⟩ := ht
  rw [row_mk] at hcopy ⊢
  simp -implicitDefEqProofs [ac23, hf0, kw, ew, sw, tw, a_, b_, c_, -List.set_cons_succ, -List.set_cons_zero, A.ok, A.val, d_, e_, f_, g_, h_, i_, j_, k_, l_, m_, unA, unD, n_, AOp.total, o_, p_, q_, r_, s_, t_, u_, v_, A.thaw, C.thaw, A.fits, As.fits, C.fits, evs, oks, w_, A.pure, C.pure, A.re, C.re, x_, y_, cut, A.cells, C.rows?, z_, A_, B_, C_, D_, Ob.re, Cs.fits, E_, F_, G_, H_, I_, J_, K_, L_, M_, N_, O_, C.toD, P_, Q_, R_, S_, T_, Obs.fits, U_, eqD, V_, W_, X_, Y_, Z_]
  have done : ∀ (t : Tm) (q : Int), p ≤ q → q ≤ p + 2 → t.fits → ∀ r, r = .agg (t.row.map .d) → Drew TmR 2 c p H i r (H.set i (Rd c q)) := fun t q a1 a2 a3 r hr => ⟨⟨t, hr, a3⟩, q, a1, a2, rfl⟩
  refine (hcopy _).mono fun r H' ⟨g1, g2⟩ => ⟨H.set i (Rd c p), [.cells [.d (.int .i64 k), .d (.int .i64 n), .d (.str s), .d (.sl (l.map Tm.row))], .cells [.d (.int .i64 0), .d (.int .i64 0), .d (.str []), .full []], .cells [.d (.int .i64 k), .d (.int .i64 n), .d (.str s), .d (.sl (l.map Tm.row))], .cells [.d (.int .i64 k), .d (.int .i64 n), .d (.str s), .own (.l 5) l.length (l.map Tm.row)], .cells [.d (.int .i64 k), .d (.int .i64 n), .d (.str s), .own (.l 5) l.length (l.map Tm.row)], .grow l.length 4],
    .agg [.d (.int .i64 k), .d (.int .i64 n), .d (.str s), .own (.l 5) l.length (l.map Tm.row)], by rw [g1]; simp [Ob.re, C.re, Ref.re], by simp, by simp, by simpa using hf0 p, by rw [g2]; simp [A.re, C.re, Ref.re], ?_⟩
  clear hcopy
  simp -implicitDefEqProofs [hf0, kw, ew, sw, tw, a_, b_, c_, -List.set_cons_succ, -List.set_cons_zero, A.ok, A.val, d_, e_, f_, g_, h_, i_, j_, k_, l_, m_, unA, unD, n_, AOp.total, o_, p_, q_, r_, s_, t_, u_, v_, A.thaw, C.thaw, A.fits, As.fits, C.fits, evs, oks, w_, A.pure, C.pure, A.re, C.re, x_, y_, cut, A.cells, C.rows?, z_, A_, B_, C_, D_, Ob.re, Cs.fits, E_, F_, G_, H_, I_, J_, K_, L_, M_, N_, O_, C.toD, P_, Q_, R_, S_, T_, Obs.fits, U_, eqD, V_, W_, X_, Y_, Z_]
  refine call_drawE (pick_draws 50 (by omega)) hc (by omega) (by omega) hi (by simp [Ob.re, C.re, Ref.re]) (fun r => IntIn.re) (hf0 _) ?_
  rintro _ p1 ⟨m, rfl, m0, m1⟩ h1 h2
  simp -implicitDefEqProofs [hf0, kw, ew, sw, tw, a_, b_, c_, -List.set_cons_succ, -List.set_cons_zero, A.ok, A.val, d_, e_, f_, g_, h_, i_, j_, k_, l_, m_, unA, unD, n_, AOp.total, o_, p_, q_, r_, s_, t_, u_, v_, A.thaw, C.thaw, A.fits, As.fits, C.fits, evs, oks, w_, A.pure, C.pure, A.re, C.re, x_, y_, cut, A.cells, C.rows?, z_, A_, B_, C_, D_, Ob.re, Cs.fits, E_, F_, G_, H_, I_, J_, K_, L_, M_, N_, O_, C.toD, P_, Q_, R_, S_, T_, Obs.fits, U_, eqD, V_, W_, X_, Y_, Z_]
  refine ⟨fun _ => ?_, fun _ => ⟨fun _ => ?_, fun _ => ⟨fun _ => ?_, fun _ => ⟨fun _ => ?_, fun _ => ⟨fun _ => ?_, fun _ => ?_⟩⟩⟩⟩⟩
  · refine call_drawE (num_draws [0, 4, 1, 2, 3] (by decide)) hc (by omega) (by omega) hi (by simp [Ob.re, C.re]) (fun r ⟨n, _, hn⟩ => by subst hn; rfl) (hf0 _) ?_
    rintro _ p2 ⟨x, hx, rfl⟩ h3 h4
    have hx : -1000 ≤ x ∧ x ≤ 1000 := by simp at hx; omega
    simp -implicitDefEqProofs [hf0, kw, ew, sw, tw, a_, b_, c_, -List.set_cons_succ, -List.set_cons_zero, A.ok, A.val, d_, e_, f_, g_, h_, i_, j_, k_, l_, m_, unA, unD, n_, AOp.total, o_, p_, q_, r_, s_, t_, u_, v_, A.thaw, C.thaw, A.fits, As.fits, C.fits, evs, oks, w_, A.pure, C.pure, A.re, C.re, x_, y_, cut, A.cells, C.rows?, z_, A_, B_, C_, D_, Ob.re, Cs.fits, E_, F_, G_, H_, I_, J_, K_, L_, M_, N_, O_, C.toD, P_, Q_, R_, S_, T_, Obs.fits, U_, eqD, V_, W_, X_, Y_, Z_]
    exact done (.mk x n s l) p2 (by omega) (by omega) (.mk (small_i64 (by omega) (by omega)) hn hs hl hkids) _ (by simp [row_mk])
  · refine call_drawE (num_draws [26, 1000, -1000, -1, 1] (by decide)) hc (by omega) (by omega) hi (by simp [Ob.re, C.re]) (fun r ⟨n, _, hn⟩ => by subst hn; rfl) (hf0 _) ?_
    rintro _ p2 ⟨x, hx, rfl⟩ h3 h4
    have hx : -1000 ≤ x ∧ x ≤ 1000 := by simp at hx; omega
    simp -implicitDefEqProofs [hf0, kw, ew, sw, tw, a_, b_, c_, -List.set_cons_succ, -List.set_cons_zero, A.ok, A.val, d_, e_, f_, g_, h_, i_, j_, k_, l_, m_, unA, unD, n_, AOp.total, o_, p_, q_, r_, s_, t_, u_, v_, A.thaw, C.thaw, A.fits, As.fits, C.fits, evs, oks, w_, A.pure, C.pure, A.re, C.re, x_, y_, cut, A.cells, C.rows?, z_, A_, B_, C_, D_, Ob.re, Cs.fits, E_, F_, G_, H_, I_, J_, K_, L_, M_, N_, O_, C.toD, P_, Q_, R_, S_, T_, Obs.fits, U_, eqD, V_, W_, X_, Y_, Z_]
    exact done (.mk k x s l) p2 (by omega) (by omega) (.mk hk (small_i64 (by omega) (by omega)) hs hl hkids) _ (by simp [row_mk])
  · refine call_drawE (of_draws [[], [88], [116, 111, 111, 108, 111, 110, 103], [195, 169], [97]] (by decide)) hc (by omega) (by omega) hi (by simp [Ob.re, C.re]) (fun r ⟨n, _, hn⟩ => by subst hn; rfl) (hf0 _) ?_
    rintro _ p2 ⟨x, hx, rfl⟩ h3 h4
    have hx : x.length ≤ 1000 := by simp at hx; rcases hx with rfl | rfl | rfl | rfl | rfl <;> decide
    simp -implicitDefEqProofs [hf0, kw, ew, sw, tw, a_, b_, c_, -List.set_cons_succ, -List.set_cons_zero, A.ok, A.val, d_, e_, f_, g_, h_, i_, j_, k_, l_, m_, unA, unD, n_, AOp.total, o_, p_, q_, r_, s_, t_, u_, v_, A.thaw, C.thaw, A.fits, As.fits, C.fits, evs, oks, w_, A.pure, C.pure, A.re, C.re, x_, y_, cut, A.cells, C.rows?, z_, A_, B_, C_, D_, Ob.re, Cs.fits, E_, F_, G_, H_, I_, J_, K_, L_, M_, N_, O_, C.toD, P_, Q_, R_, S_, T_, Obs.fits, U_, eqD, V_, W_, X_, Y_, Z_]
    exact done (.mk k n x l) p2 (by omega) (by omega) (.mk hk hn (by omega) hl hkids) _ (by simp [row_mk])
  · refine loop_set (σ := List Tm) (fun _ => []) (fun _ => H.set i (Rd c p1)) (fun y => [.cells [.d (.int .i64 k), .d (.int .i64 n), .d (.str s), .d (.sl (l.map Tm.row))], .cells [.d (.int .i64 0), .d (.int .i64 0), .d (.str []), .full []], .cells [.d (.int .i64 k), .d (.int .i64 n), .d (.str s), .d (.sl (l.map Tm.row))], .cells [.d (.int .i64 k), .d (.int .i64 n), .d (.str s), .own (.l 5) l.length (l.map Tm.row)], .cells [.d (.int .i64 k), .d (.int .i64 n), .d (.str s), .own (.l 5) l.length (l.map Tm.row)], .grow y.length 4, .cells [.d (.int .i64 k), .d (.int .i64 n), .d (.str s), .own (.l 5) y.length (y.map Tm.row)]])
      (fun y => y.length ≤ 1048576 ∧ ∀ t ∈ y, t.fits) (fun y => 5 - y.length) l rfl ⟨hl, hkids⟩ ?_
    rintro y ⟨hy, hyf⟩
    have hly : inR .i64 (y.length : Int) := small_i64 (by omega) (by omega)
    simp -implicitDefEqProofs [setAll, hf0, hly, kw, ew, sw, tw, a_, b_, c_, -List.set_cons_succ, -List.set_cons_zero, A.ok, A.val, d_, e_, f_, g_, h_, i_, j_, k_, l_, m_, unA, unD, n_, AOp.total, o_, p_, q_, r_, s_, t_, u_, v_, A.thaw, C.thaw, A.fits, As.fits, C.fits, evs, oks, w_, A.pure, C.pure, A.re, C.re, x_, y_, cut, A.cells, C.rows?, z_, A_, B_, C_, D_, Ob.re, Cs.fits, E_, F_, G_, H_, I_, J_, K_, L_, M_, N_, O_, C.toD, P_, Q_, R_, S_, T_, Obs.fits, U_, eqD, V_, W_, X_, Y_, Z_]
    refine ⟨fun hlt => ?_, fun hge => ?_⟩
    · refine qcall_pure (int_calls 1) (hf1 _) (by simp [A.re, re_d]) ?_
      simp -implicitDefEqProofs [hf0, row_mk, kw, ew, sw, tw, a_, b_, c_, -List.set_cons_succ, -List.set_cons_zero, A.ok, A.val, d_, e_, f_, g_, h_, i_, j_, k_, l_, m_, unA, unD, n_, AOp.total, o_, p_, q_, r_, s_, t_, u_, v_, A.thaw, C.thaw, A.fits, As.fits, C.fits, evs, oks, w_, A.pure, C.pure, A.re, C.re, x_, y_, cut, A.cells, C.rows?, z_, A_, B_, C_, D_, Ob.re, Cs.fits, E_, F_, G_, H_, I_, J_, K_, L_, M_, N_, O_, C.toD, P_, Q_, R_, S_, T_, Obs.fits, U_, eqD, V_, W_, X_, Y_, Z_]
      refine ⟨allLen_map row_len, by unfold maxApp; omega, ?_⟩
      refine loop_back (y ++ [Tm.mk 2 1 [] []]) (by simp [setAll, row_mk]) ⟨by simp; omega, fun t ht => ?_⟩ (by show 5 - (y ++ [Tm.mk 2 1 [] []]).length < 5 - y.length; simp; omega)
      rcases List.mem_append.1 ht with ht | ht
      · exact hyf t ht
      · simp at ht; subst ht; exact .mk (small_i64 (by omega) (by omega)) (small_i64 (by omega) (by omega)) (by simp) (by simp) (by simp)
    · exact done (.mk k n s y) p1 (by omega) (by omega) (.mk hk hn hs hy hyf) _ (by simp [row_mk])
  · refine loop_set (σ := Nat × Tm) (fun x => [(6, .c (.d (.int .i64 x.1)))]) (fun _ => H.set i (Rd c p1)) (fun x => [.cells [.d (.int .i64 k), .d (.int .i64 n), .d (.str s), .d (.sl (l.map Tm.row))], .cells [.d (.int .i64 0), .d (.int .i64 0), .d (.str []), .full []], .cells [.d (.int .i64 k), .d (.int .i64 n), .d (.str s), .d (.sl (l.map Tm.row))], .cells [.d (.int .i64 k), .d (.int .i64 n), .d (.str s), .own (.l 5) l.length (l.map Tm.row)], .cells [.d (.int .i64 k), .d (.int .i64 n), .d (.str s), .own (.l 5) l.length (l.map Tm.row)], .grow l.length 4, .cells (if x.1 = 0 then [.d (.int .i64 k), .d (.int .i64 n), .d (.str s), .own (.l 5) l.length (l.map Tm.row)] else x.2.row.map .d)])
      (fun x => x.1 ≤ 30 ∧ x.2.fits ∧ (x.1 = 0 → x.2 = .mk k n s l)) (fun x => 30 - x.1) (0, Tm.mk k n s l) rfl ⟨by omega, .mk hk hn hs hl hkids, fun _ => rfl⟩ ?_
    rintro ⟨j, u⟩ ⟨hj, hu, hj0⟩
    simp only at hj hu hj0
    have hadd : inR .i64 ((j : Int) + 1) := small_i64 (by omega) (by omega)
    have hone : (Tm.mk 3 0 [115] [u]).fits := .mk (small_i64 (by omega) (by omega)) (small_i64 (by omega) (by omega)) (by simp) (by simp) (by simpa using hu)
    have hst := struct_calls [115] [u] (by simp)
    simp only [List.map_cons, List.map_nil] at hst
    by_cases hz : j = 0
    · subst hz
      have hu := hj0 rfl
      subst hu
      have h1 : inR .i64 1 := small_i64 (by omega) (by omega)
      simp -implicitDefEqProofs [setAll, hf0, kw, ew, sw, tw, a_, b_, c_, -List.set_cons_succ, -List.set_cons_zero, A.ok, A.val, d_, e_, f_, g_, h_, i_, j_, k_, l_, m_, unA, unD, n_, AOp.total, o_, p_, q_, r_, s_, t_, u_, v_, A.thaw, C.thaw, A.fits, As.fits, C.fits, evs, oks, w_, A.pure, C.pure, A.re, C.re, x_, y_, cut, A.cells, C.rows?, z_, A_, B_, C_, D_, Ob.re, Cs.fits, E_, F_, G_, H_, I_, J_, K_, L_, M_, N_, O_, C.toD, P_, Q_, R_, S_, T_, Obs.fits, U_, eqD, V_, W_, X_, Y_, Z_]
      rw [row_mk] at hst
      refine qcall_pure hst (hf1 _) (by simp [A.re, re_d]) ?_
      simp -implicitDefEqProofs [hf0, h1, row_len, take_row, kw, ew, sw, tw, a_, b_, c_, -List.set_cons_succ, -List.set_cons_zero, A.ok, A.val, d_, e_, f_, g_, h_, i_, j_, k_, l_, m_, unA, unD, n_, AOp.total, o_, p_, q_, r_, s_, t_, u_, v_, A.thaw, C.thaw, A.fits, As.fits, C.fits, evs, oks, w_, A.pure, C.pure, A.re, C.re, x_, y_, cut, A.cells, C.rows?, z_, A_, B_, C_, D_, Ob.re, Cs.fits, E_, F_, G_, H_, I_, J_, K_, L_, M_, N_, O_, C.toD, P_, Q_, R_, S_, T_, Obs.fits, U_, eqD, V_, W_, X_, Y_, Z_]
      exact loop_back (1, Tm.mk 3 0 [115] [Tm.mk k n s l]) (by simp [setAll]) ⟨by simp, hone, fun h => by simp at h⟩ (by show 30 - 1 < 30 - 0; omega)
    · simp -implicitDefEqProofs [setAll, hf0, hz, hadd, row_len, take_row, toDs_map, kw, ew, sw, tw, a_, b_, c_, -List.set_cons_succ, -List.set_cons_zero, A.ok, A.val, d_, e_, f_, g_, h_, i_, j_, k_, l_, m_, unA, unD, n_, AOp.total, o_, p_, q_, r_, s_, t_, u_, v_, A.thaw, C.thaw, A.fits, As.fits, C.fits, evs, oks, w_, A.pure, C.pure, A.re, C.re, x_, y_, cut, A.cells, C.rows?, z_, A_, B_, C_, D_, Ob.re, Cs.fits, E_, F_, G_, H_, I_, J_, K_, L_, M_, N_, O_, C.toD, P_, Q_, R_, S_, T_, Obs.fits, U_, eqD, V_, W_, X_, Y_, Z_]
      refine ⟨fun hlt => ?_, fun hge => ?_⟩
      · refine qcall_pure hst (hf1 _) (by simp [A.re, re_d, row_len]) ?_
        simp -implicitDefEqProofs [hf0, hadd, row_len, take_row, kw, ew, sw, tw, a_, b_, c_, -List.set_cons_succ, -List.set_cons_zero, A.ok, A.val, d_, e_, f_, g_, h_, i_, j_, k_, l_, m_, unA, unD, n_, AOp.total, o_, p_, q_, r_, s_, t_, u_, v_, A.thaw, C.thaw, A.fits, As.fits, C.fits, evs, oks, w_, A.pure, C.pure, A.re, C.re, x_, y_, cut, A.cells, C.rows?, z_, A_, B_, C_, D_, Ob.re, Cs.fits, E_, F_, G_, H_, I_, J_, K_, L_, M_, N_, O_, C.toD, P_, Q_, R_, S_, T_, Obs.fits, U_, eqD, V_, W_, X_, Y_, Z_]
        exact loop_back (j + 1, Tm.mk 3 0 [115] [u]) (by simp [setAll, row_len]) ⟨by show j + 1 ≤ 30; omega, hone, fun h => by simp at h⟩ (by show 30 - (j + 1) < 30 - j; omega)
      · simp [thaw_d, fits_map]
        exact done u p1 (by omega) (by omega) hu _ rfl
  · exact done (.mk k n s l) p1 (by omega) (by omega) (.mk hk hn hs hl hkids) _ (by simp [row_mk])
end Go.Proofs.Yteighafofbohcaa

/-
  Queries that are drawn.
  Conditions: none.
-/
open Go Go.AM Go.Proofs
namespace Go.Proofs.Yteighafofbohcaa
open Go.ChangeShapes Go.WideShapes Go.ChangeAt Go.RowKit
set_option linter.unusedVariables false
set_option linter.unusedSimpArgs false
set_option maxRecDepth 100000
-- 26 loop.example/prologserver/spec.l6Queries params 0 ntmps 2
def ac26 : Cd := .seq (.region [⟨(some 0), .mv (.k (.c (.full []))), none⟩] [0])
  (.seq (.region [⟨(some 1), .buildSlice 1 24 [(.str [])] [(0, (.k (.c (.d (.str [97, 112, 112, 40, 65, 44, 66, 44, 91, 49, 44, 50, 93, 41]))))), (1, (.k (.c (.d (.str [97, 112, 112, 40, 91, 49, 93, 44, 91, 50, 93, 44, 65, 41]))))), (2, (.k (.c (.d (.str [109, 101, 109, 40, 65, 44, 91, 97, 44, 98, 44, 99, 93, 41]))))), (3, (.k (.c (.d (.str [113, 40, 65, 41]))))), (4, (.k (.c (.d (.str [114, 40, 65, 44, 66, 41, 44, 65, 62, 66]))))), (5, (.k (.c (.d (.str [108, 101, 110, 40, 91, 97, 44, 98, 44, 99, 93, 44, 65, 41]))))), (6, (.k (.c (.d (.str [109, 97, 120, 40, 51, 44, 50, 44, 65, 41]))))), (7, (.k (.c (.d (.str [109, 97, 120, 40, 65, 44, 50, 44, 51, 41]))))), (8, (.k (.c (.d (.str [116, 40, 97, 44, 65, 41]))))), (9, (.k (.c (.d (.str [108, 111, 111, 112]))))), (10, (.k (.c (.d (.str [111, 107, 44, 33]))))), (11, (.k (.c (.d (.str [102, 97, 99, 40, 52, 44, 65, 41]))))), (12, (.k (.c (.d (.str [115, 40, 65, 41]))))), (13, (.k (.c (.d (.str [114, 101, 118, 40, 91, 49, 44, 50, 44, 51, 93, 44, 91, 93, 44, 65, 41]))))), (14, (.k (.c (.d (.str [98, 97, 100, 40, 65, 41]))))), (15, (.k (.c (.d (.str [98, 105, 103, 40, 65, 41]))))), (16, (.k (.c (.d (.str [117, 110, 40, 65, 41]))))), (17, (.k (.c (.d (.str [112, 40, 65, 41, 44, 33, 44, 112, 40, 66, 41]))))), (18, (.k (.c (.d (.str [65, 61, 102, 40, 66, 44, 67, 41, 44, 97, 114, 103, 40, 49, 44, 65, 44, 68, 41]))))), (19, (.k (.c (.d (.str [109, 101, 109, 40, 65, 44, 91, 49, 44, 50, 93, 41, 44, 109, 101, 109, 40, 66, 44, 91, 65, 44, 51, 93, 41]))))), (20, (.k (.c (.d (.str [65, 32, 105, 115, 32, 51, 47, 47, 48]))))), (21, (.k (.c (.d (.str [116, 114, 117, 101]))))), (22, (.k (.c (.d (.str [109, 101, 109, 40, 65, 44, 66, 41]))))), (23, (.k (.c (.d (.str [112, 40, 65, 41, 44, 65, 92, 61, 50])))))], none⟩,
      ⟨(some 0), .mv (.t 1), none⟩] [1])
  (.ret))
theorem ac26_ok : cFunc Try.prog [] [(0, [0], []), (1, [1], [])] Try.f26 = some (ac26, [.tmp 0], 2) := by kernel_rfl
-- 16 loop.example/prologserver/spec.l6Query params 1 ntmps 19
def ac16 : Cd := .seq (.region [⟨(some 2), .mv (.k (.c (.full []))), none⟩] [2])
  (.seq (.region [⟨(some 6), .qcall 26 [], none⟩,
      ⟨(some 3), .mv (.t 6), none⟩] [6])
  (.seq (.region [⟨(some 8), .mv (.t 3), none⟩,
      ⟨(some 9), .mv (.t 0), none⟩,
      ⟨(some 10), .mv (.t 3), none⟩,
      ⟨(some 11), .len 1 (.t 10), none⟩,
      ⟨(some 12), .call false 24 [(.t 9), (.t 11)], none⟩,
      ⟨(some 13), .indexAddr 1 (.t 8) (.t 12), none⟩,
      ⟨(some 14), .load none (.t 13), none⟩,
      ⟨(some 15), .qcall 27 [(.t 14)], none⟩,
      ⟨(some 7), .mv (.t 15), none⟩,
      ⟨(some 16), .extract 0 (.t 7), none⟩,
      ⟨(some 17), .extract 1 (.t 7), none⟩,
      ⟨(some 4), .mv (.t 16), none⟩,
      ⟨(some 5), .mv (.t 17), none⟩] [0, 3, 5, 7, 8, 9, 10, 11, 12, 13, 14, 15, 16, 17])
  (.seq (.region [⟨(some 18), .mv (.t 4), none⟩,
      ⟨(some 2), .mv (.t 18), none⟩] [4, 18])
  (.ret))))
theorem ac16_ok : cFunc Try.prog [1000026, 1000027] [(0, [2], []), (1, [6], []), (2, [0, 3, 5, 7, 8, 9, 10, 11, 12, 13, 14, 15, 16, 17], []), (3, [4, 18], [])] Try.f16 = some (ac16, [.tmp 2], 19) := by kernel_rfl
-- 15 loop.example/prologserver/spec.l6MutateAll params 2 ntmps 34
-- loop head live: [0, 1, 5, 6]
-- loop head live: [5]
def ac15 : Cd := .seq (.region [⟨(some 4), .mv (.k (.c (.full []))), none⟩] [4])
  (.seq (.region [⟨(some 7), .buildSlice 4 0 [(.int .i64 0), (.int .i64 0), (.str []), (.sl [])] [], none⟩,
      ⟨(some 5), .mv (.t 7), none⟩] [7])
  (.seq (.seq (.region [⟨(some 6), .mv (.k (.c (.d (.int .i64 0)))), none⟩] [])
    (.block 0 (.loop (.seq (.seq (.region [⟨(some 8), .mv (.t 6), none⟩,
              ⟨(some 9), .mv (.t 1), none⟩,
              ⟨(some 10), .len 1 (.t 9), none⟩,
              ⟨(some 11), .bin .lss (.t 8) (.t 10), none⟩] [8, 9, 10])
          (.cond (.t 11)
            (.skip)
            (.exit 0)))
        (.seq (.block 1 (.region [⟨(some 14), .mv (.t 5), none⟩,
              ⟨(some 15), .mv (.t 0), none⟩,
              ⟨(some 16), .mv (.t 1), none⟩,
              ⟨(some 17), .mv (.t 6), none⟩,
              ⟨(some 18), .indexAddr 4 (.t 16) (.t 17), none⟩,
              ⟨(some 19), .load (some 4) (.t 18), none⟩,
              ⟨(some 20), .call false 23 [(.t 15), (.t 19)], none⟩,
              ⟨(some 21), .buildSlice 4 1 [(.int .i64 0), (.int .i64 0), (.str []), (.sl [])] [(0, (.t 20))], none⟩,
              ⟨(some 22), .append false 4 (.t 14) (.t 21), none⟩,
              ⟨(some 5), .mv (.t 22), none⟩] [11, 14, 15, 16, 17, 18, 19, 20, 21, 22]))
        (.region [⟨(some 12), .mv (.t 6), none⟩,
          ⟨(some 13), .bin .add (.t 12) (.k (.c (.d (.int .i64 1)))), none⟩,
          ⟨(some 6), .mv (.t 13), none⟩] [12, 13]))))))
  (.seq (.seq (.region [⟨(some 23), .mv (.t 0), none⟩,
        ⟨(some 24), .call false 24 [(.t 23), (.k (.c (.d (.int .i64 30))))], none⟩,
        ⟨(some 25), .bin .eql (.t 24) (.k (.c (.d (.int .i64 0)))), none⟩] [0, 23, 24])
    (.cond (.t 25)
      (.block 2 (.loop (.seq (.seq (.region [⟨(some 26), .mv (.t 5), none⟩,
                ⟨(some 27), .len 1 (.t 26), none⟩,
                ⟨(some 28), .bin .leq (.t 27) (.k (.c (.d (.int .i64 6)))), none⟩] [26, 27])
            (.cond (.t 28)
              (.skip)
              (.exit 2)))
          (.block 3 (.region [⟨(some 29), .mv (.t 5), none⟩,
              ⟨(some 30), .qcall 25 [(.k (.c (.d (.str [116, 114, 117, 101])))), (.k (.c (.full [])))], none⟩,
              ⟨(some 31), .buildSlice 4 1 [(.int .i64 0), (.int .i64 0), (.str []), (.sl [])] [(0, (.t 30))], none⟩,
              ⟨(some 32), .append false 4 (.t 29) (.t 31), none⟩,
              ⟨(some 5), .mv (.t 32), none⟩] [28, 29, 30, 31, 32])))))
      (.skip)))
  (.seq (.region [⟨(some 33), .mv (.t 5), none⟩,
      ⟨(some 4), .mv (.t 33), none⟩] [5, 25, 33])
  (.ret)))))
theorem ac15_ok : cFunc Try.prog [1000025] [(0, [4], []), (1, [7], []), (2, [], []), (3, [8, 9, 10], []), (5, [11, 14, 15, 16, 17, 18, 19, 20, 21, 22], []), (4, [12, 13], []), (6, [0, 23, 24], []), (7, [26, 27], []), (8, [28, 29, 30, 31, 32], []), (9, [5, 25, 33], [])] Try.f15 = some (ac15, [.tmp 4], 34) := by kernel_rfl
-- 8 loop.example/prologserver/spec.DrawQueryValid params 1 ntmps 10
def ac8 : Cd := .seq (.region [⟨(some 2), .mv (.k (.c (.full []))), none⟩] [2])
  (.seq (.region [⟨(some 4), .mv (.t 0), none⟩,
      ⟨(some 5), .call false 14 [(.t 4)], none⟩,
      ⟨(some 3), .mv (.t 5), none⟩] [0, 4, 5])
  (.seq (.region [⟨(some 6), .mv (.t 3), none⟩,
      ⟨(some 7), .mv (.t 3), none⟩,
      ⟨(some 8), .call false 16 [(.t 7)], none⟩,
      ⟨(some 9), .call false 15 [(.t 6), (.t 8)], none⟩,
      ⟨(some 2), .mv (.t 9), none⟩] [3, 6, 7, 8, 9])
  (.ret)))
theorem ac8_ok : cFunc Try.prog [] [(0, [2], []), (1, [0, 4, 5], []), (2, [3, 6, 7, 8, 9], [])] Try.f8 = some (ac8, [.tmp 2], 10) := by kernel_rfl
-- 4 loop.example/prologserver/spec.DrawCompileQuery params 1 ntmps 5
def ac4 : Cd := .seq (.region [⟨(some 2), .mv (.k (.c (.full []))), none⟩] [2])
  (.seq (.region [⟨(some 3), .mv (.t 0), none⟩,
      ⟨(some 4), .call false 8 [(.t 3)], none⟩,
      ⟨(some 2), .mv (.t 4), none⟩] [0, 3, 4])
  (.ret))
theorem ac4_ok : cFunc Try.prog [] [(0, [2], []), (1, [0, 3, 4], [])] Try.f4 = some (ac4, [.tmp 2], 5) := by kernel_rfl
def queries : List (List UInt8) := [[97, 112, 112, 40, 65, 44, 66, 44, 91, 49, 44, 50, 93, 41], [97, 112, 112, 40, 91, 49, 93, 44, 91, 50, 93, 44, 65, 41], [109, 101, 109, 40, 65, 44, 91, 97, 44, 98, 44, 99, 93, 41], [113, 40, 65, 41], [114, 40, 65, 44, 66, 41, 44, 65, 62, 66], [108, 101, 110, 40, 91, 97, 44, 98, 44, 99, 93, 44, 65, 41], [109, 97, 120, 40, 51, 44, 50, 44, 65, 41], [109, 97, 120, 40, 65, 44, 50, 44, 51, 41], [116, 40, 97, 44, 65, 41], [108, 111, 111, 112], [111, 107, 44, 33], [102, 97, 99, 40, 52, 44, 65, 41], [115, 40, 65, 41], [114, 101, 118, 40, 91, 49, 44, 50, 44, 51, 93, 44, 91, 93, 44, 65, 41], [98, 97, 100, 40, 65, 41], [98, 105, 103, 40, 65, 41], [117, 110, 40, 65, 41], [112, 40, 65, 41, 44, 33, 44, 112, 40, 66, 41], [65, 61, 102, 40, 66, 44, 67, 41, 44, 97, 114, 103, 40, 49, 44, 65, 44, 68, 41], [109, 101, 109, 40, 65, 44, 91, 49, 44, 50, 93, 41, 44, 109, 101, 109, 40, 66, 44, 91, 65, 44, 51, 93, 41], [65, 32, 105, 115, 32, 51, 47, 47, 48], [116, 114, 117, 101], [109, 101, 109, 40, 65, 44, 66, 41], [112, 40, 65, 41, 44, 65, 92, 61, 50]]
def TmsR (n : Nat) (r : A) : Prop := ∃ l : List Tm, r = .c (.d (.sl (l.map Tm.row))) ∧ l.length ≤ n ∧ ∀ t ∈ l, t.fits
theorem TmsR.re {m n : Nat} {r : A} (h : TmsR m r) : A.re n r = r := by
  obtain ⟨l, rfl, _⟩ := h
  rfl
theorem queries_calls (H : Heap) : ACalls Try.prog 26 [] H (fun r H' => H' = H ∧ r = .c (.d (.sl (queries.map strRow)))) := by
  refine acalls Try.func26 (by kernel_rfl) ac26_ok fun hf => ?_
  simp -implicitDefEqProofs [ac26, queries, strRow, kw, ew, sw, tw, a_, b_, c_, -List.set_cons_succ, -List.set_cons_zero, A.ok, A.val, d_, e_, f_, g_, h_, i_, j_, k_, l_, m_, unA, unD, n_, AOp.total, o_, p_, q_, r_, s_, t_, u_, v_, A.thaw, C.thaw, A.fits, As.fits, C.fits, evs, oks, w_, A.pure, C.pure, A.re, C.re, x_, y_, cut, A.cells, C.rows?, z_, A_, B_, C_, D_, Ob.re, Cs.fits, E_, F_, G_, H_, I_, J_, K_, L_, M_, N_, O_, C.toD, P_, Q_, R_, S_, T_, Obs.fits, U_, eqD, V_, W_, X_, Y_, Z_]
theorem query_draws : Draws 16 [] 1 (TmsR 7) := fun c p H i hc hp hp1 hi => by
  refine acalls Try.func16 (by kernel_rfl) ac16_ok fun hf => ?_
  simp only [List.length_set] at hf
  have hf0 : ∀ q, Obs.fits H.length 0 (H.set i (Rd c q)) := fun q => fits_reset (b := Rd c q) hf ⟨trivial, trivial, trivial⟩
  have hf1 : ∀ q, Obs.fits (H.set i (Rd c q)).length 0 (H.set i (Rd c q)) := fun q => by simpa using hf0 q
  have hql : queries.length = 24 := rfl
  have h24 : inR .i64 (24 : Int) := small_i64 (by omega) (by omega)
  simp -implicitDefEqProofs [ac16, hf0, kw, ew, sw, tw, a_, b_, c_, -List.set_cons_succ, -List.set_cons_zero, A.ok, A.val, d_, e_, f_, g_, h_, i_, j_, k_, l_, m_, unA, unD, n_, AOp.total, o_, p_, q_, r_, s_, t_, u_, v_, A.thaw, C.thaw, A.fits, As.fits, C.fits, evs, oks, w_, A.pure, C.pure, A.re, C.re, x_, y_, cut, A.cells, C.rows?, z_, A_, B_, C_, D_, Ob.re, Cs.fits, E_, F_, G_, H_, I_, J_, K_, L_, M_, N_, O_, C.toD, P_, Q_, R_, S_, T_, Obs.fits, U_, eqD, V_, W_, X_, Y_, Z_]
  refine qcall_pure queries_calls (hf1 _) rfl ?_
  simp -implicitDefEqProofs [hql, h24, hf0, kw, ew, sw, tw, a_, b_, c_, -List.set_cons_succ, -List.set_cons_zero, A.ok, A.val, d_, e_, f_, g_, h_, i_, j_, k_, l_, m_, unA, unD, n_, AOp.total, o_, p_, q_, r_, s_, t_, u_, v_, A.thaw, C.thaw, A.fits, As.fits, C.fits, evs, oks, w_, A.pure, C.pure, A.re, C.re, x_, y_, cut, A.cells, C.rows?, z_, A_, B_, C_, D_, Ob.re, Cs.fits, E_, F_, G_, H_, I_, J_, K_, L_, M_, N_, O_, C.toD, P_, Q_, R_, S_, T_, Obs.fits, U_, eqD, V_, W_, X_, Y_, Z_]
  refine call_drawE (pick_draws 24 (by omega)) hc (by omega) (by omega) hi (by simp [Ob.re, C.re]) (fun r => IntIn.re) (hf0 _) ?_
  rintro _ p1 ⟨m, rfl, m0, m1⟩ h1 h2
  have hmlt : m.toNat < queries.length := by rw [hql]; omega
  have hql2 : (queries[m.toNat]).length ≤ 1000000 := by
    have : ∀ q ∈ queries, q.length ≤ 1000 := by decide
    have := this _ (List.getElem_mem hmlt)
    omega
  obtain ⟨g1, g2⟩ := queryR_fits queries[m.toNat] hql2
  simp -implicitDefEqProofs [hf0, kw, ew, sw, tw, a_, b_, c_, -List.set_cons_succ, -List.set_cons_zero, A.ok, A.val, d_, e_, f_, g_, h_, i_, j_, k_, l_, m_, unA, unD, n_, AOp.total, o_, p_, q_, r_, s_, t_, u_, v_, A.thaw, C.thaw, A.fits, As.fits, C.fits, evs, oks, w_, A.pure, C.pure, A.re, C.re, x_, y_, cut, A.cells, C.rows?, z_, A_, B_, C_, D_, Ob.re, Cs.fits, E_, F_, G_, H_, I_, J_, K_, L_, M_, N_, O_, C.toD, P_, Q_, R_, S_, T_, Obs.fits, U_, eqD, V_, W_, X_, Y_, Z_]
  refine row_int [.str queries[m.toNat]] m0 (by simp [hmlt, strRow]) rfl ?_
  simp -implicitDefEqProofs [hf0, kw, ew, sw, tw, a_, b_, c_, -List.set_cons_succ, -List.set_cons_zero, A.ok, A.val, d_, e_, f_, g_, h_, i_, j_, k_, l_, m_, unA, unD, n_, AOp.total, o_, p_, q_, r_, s_, t_, u_, v_, A.thaw, C.thaw, A.fits, As.fits, C.fits, evs, oks, w_, A.pure, C.pure, A.re, C.re, x_, y_, cut, A.cells, C.rows?, z_, A_, B_, C_, D_, Ob.re, Cs.fits, E_, F_, G_, H_, I_, J_, K_, L_, M_, N_, O_, C.toD, P_, Q_, R_, S_, T_, Obs.fits, U_, eqD, V_, W_, X_, Y_, Z_]
  refine qcall_pure (pqSpec_calls queries[m.toNat] hql2) (hf1 _) (by simp [A.re, A.res, C.re]) ?_
  simp -implicitDefEqProofs [hf0, kw, ew, sw, tw, a_, b_, c_, -List.set_cons_succ, -List.set_cons_zero, A.ok, A.val, d_, e_, f_, g_, h_, i_, j_, k_, l_, m_, unA, unD, n_, AOp.total, o_, p_, q_, r_, s_, t_, u_, v_, A.thaw, C.thaw, A.fits, As.fits, C.fits, evs, oks, w_, A.pure, C.pure, A.re, C.re, x_, y_, cut, A.cells, C.rows?, z_, A_, B_, C_, D_, Ob.re, Cs.fits, E_, F_, G_, H_, I_, J_, K_, L_, M_, N_, O_, C.toD, P_, Q_, R_, S_, T_, Obs.fits, U_, eqD, V_, W_, X_, Y_, Z_]
  exact ⟨⟨_, rfl, g1, g2⟩, p1, h1, h2, rfl⟩
theorem mutateAll_draws (l : List Tm) (hl : l.length ≤ 7) (hft : ∀ t ∈ l, t.fits) : Draws 15 [.c (.d (.sl (l.map Tm.row)))] 15 (TmsR 7) := fun c p H i hc hp hp1 hi => by
  refine acalls Try.func15 (by kernel_rfl) ac15_ok fun hf => ?_
  simp only [List.length_set] at hf
  have hf0 : ∀ q, Obs.fits H.length 0 (H.set i (Rd c q)) := fun q => fits_reset (b := Rd c q) hf ⟨trivial, trivial, trivial⟩
  have hf1 : ∀ q, Obs.fits (H.set i (Rd c q)).length 0 (H.set i (Rd c q)) := fun q => by simpa using hf0 q
  have hli : inR .i64 (l.length : Int) := small_i64 (by omega) (by omega)
  simp -implicitDefEqProofs [ac15, hf0, kw, ew, sw, tw, a_, b_, c_, -List.set_cons_succ, -List.set_cons_zero, A.ok, A.val, d_, e_, f_, g_, h_, i_, j_, k_, l_, m_, unA, unD, n_, AOp.total, o_, p_, q_, r_, s_, t_, u_, v_, A.thaw, C.thaw, A.fits, As.fits, C.fits, evs, oks, w_, A.pure, C.pure, A.re, C.re, x_, y_, cut, A.cells, C.rows?, z_, A_, B_, C_, D_, Ob.re, Cs.fits, E_, F_, G_, H_, I_, J_, K_, L_, M_, N_, O_, C.toD, P_, Q_, R_, S_, T_, Obs.fits, U_, eqD, V_, W_, X_, Y_, Z_]
  refine loop_enter (St.le_token 5 4 rfl) ?_
  refine loop_set (σ := Nat × List Tm × Int) (fun x => [(6, .c (.d (.int .i64 x.1))), (5, .c (.own (.l 0) x.2.1.length (x.2.1.map Tm.row)))]) (fun x => H.set i (Rd c x.2.2)) (fun x => [.grow x.2.1.length 4])
    (fun x => x.1 ≤ l.length ∧ x.2.1.length = x.1 ∧ p ≤ x.2.2 ∧ x.2.2 ≤ p + 2 * x.1 ∧ ∀ t ∈ x.2.1, t.fits) (fun x => l.length - x.1) (0, [], p) (by simp [setAll]) ⟨Nat.zero_le _, rfl, Int.le_refl _, by simp, by simp⟩ ?_
  rintro ⟨k, out, q⟩ ⟨hk, hol, hq1, hq2, hout⟩
  simp only at hk hol hq1 hq2 hout
  simp -implicitDefEqProofs [setAll, hli, hf0, kw, ew, sw, tw, a_, b_, c_, -List.set_cons_succ, -List.set_cons_zero, A.ok, A.val, d_, e_, f_, g_, h_, i_, j_, k_, l_, m_, unA, unD, n_, AOp.total, o_, p_, q_, r_, s_, t_, u_, v_, A.thaw, C.thaw, A.fits, As.fits, C.fits, evs, oks, w_, A.pure, C.pure, A.re, C.re, x_, y_, cut, A.cells, C.rows?, z_, A_, B_, C_, D_, Ob.re, Cs.fits, E_, F_, G_, H_, I_, J_, K_, L_, M_, N_, O_, C.toD, P_, Q_, R_, S_, T_, Obs.fits, U_, eqD, V_, W_, X_, Y_, Z_]
  refine ⟨fun hlt => ?_, fun hge => ?_⟩
  · have hadd : inR .i64 ((k : Int) + 1) := small_i64 (by omega) (by omega)
    refine row_of hlt (row_len _) ?_
    simp -implicitDefEqProofs [row_len, take_row, pure_d, re_d, hf0, kw, ew, sw, tw, a_, b_, c_, -List.set_cons_succ, -List.set_cons_zero, A.ok, A.val, d_, e_, f_, g_, h_, i_, j_, k_, l_, m_, unA, unD, n_, AOp.total, o_, p_, q_, r_, s_, t_, u_, v_, A.thaw, C.thaw, A.fits, As.fits, C.fits, evs, oks, w_, A.pure, C.pure, A.re, C.re, x_, y_, cut, A.cells, C.rows?, z_, A_, B_, C_, D_, Ob.re, Cs.fits, E_, F_, G_, H_, I_, J_, K_, L_, M_, N_, O_, C.toD, P_, Q_, R_, S_, T_, Obs.fits, U_, eqD, V_, W_, X_, Y_, Z_]
    refine call_drawE (l1Mutate_draws l[k] (hft _ (List.getElem_mem hlt))) hc (by omega) (by omega) hi (by simp [Ob.re, C.re]) (fun r => TmR.re) (hf0 _) ?_
    rintro _ q2 ⟨t, rfl, ht⟩ h5 h6
    simp -implicitDefEqProofs [hadd, row_len, take_row, toDs_map, hf0, kw, ew, sw, tw, a_, b_, c_, -List.set_cons_succ, -List.set_cons_zero, A.ok, A.val, d_, e_, f_, g_, h_, i_, j_, k_, l_, m_, unA, unD, n_, AOp.total, o_, p_, q_, r_, s_, t_, u_, v_, A.thaw, C.thaw, A.fits, As.fits, C.fits, evs, oks, w_, A.pure, C.pure, A.re, C.re, x_, y_, cut, A.cells, C.rows?, z_, A_, B_, C_, D_, Ob.re, Cs.fits, E_, F_, G_, H_, I_, J_, K_, L_, M_, N_, O_, C.toD, P_, Q_, R_, S_, T_, Obs.fits, U_, eqD, V_, W_, X_, Y_, Z_]
    refine ⟨allLen_map row_len, by unfold maxApp; omega, ?_⟩
    refine loop_back (k + 1, out ++ [t], q2) (by simp [setAll]) ⟨hlt, by simp; omega, by dsimp only; omega, by dsimp only; omega, fun x hx => ?_⟩ (by show l.length - (k + 1) < l.length - k; omega)
    rcases List.mem_append.1 hx with hx | hx
    · exact hout x hx
    · simp at hx; subst hx; exact ht
  · refine call_drawE (pick_draws 30 (by omega)) hc (by omega) (by omega) hi (by simp [Ob.re, C.re]) (fun r => IntIn.re) (hf0 _) ?_
    rintro _ q2 ⟨m, rfl, m0, m1⟩ h5 h6
    have done : ∀ (out : List Tm), out.length ≤ 7 → (∀ t ∈ out, t.fits) → ∀ r, r = .c (.d (.sl (out.map Tm.row))) → Drew (TmsR 7) 15 c p H i r (H.set i (Rd c q2)) := fun out a1 a2 r hr => ⟨⟨out, hr, a1, a2⟩, q2, by omega, by omega, rfl⟩
    simp -implicitDefEqProofs [hf0, kw, ew, sw, tw, a_, b_, c_, -List.set_cons_succ, -List.set_cons_zero, A.ok, A.val, d_, e_, f_, g_, h_, i_, j_, k_, l_, m_, unA, unD, n_, AOp.total, o_, p_, q_, r_, s_, t_, u_, v_, A.thaw, C.thaw, A.fits, As.fits, C.fits, evs, oks, w_, A.pure, C.pure, A.re, C.re, x_, y_, cut, A.cells, C.rows?, z_, A_, B_, C_, D_, Ob.re, Cs.fits, E_, F_, G_, H_, I_, J_, K_, L_, M_, N_, O_, C.toD, P_, Q_, R_, S_, T_, Obs.fits, U_, eqD, V_, W_, X_, Y_, Z_]
    refine ⟨fun h0 => ?_, fun h0 => ?_⟩
    · refine loop_set (σ := List Tm) (fun x => [(5, .c (.own (.l 0) x.length (x.map Tm.row)))]) (fun x => H.set i (Rd c q2)) (fun x => [.grow x.length 4]) (fun x => x.length ≤ 7 ∧ ∀ t ∈ x, t.fits) (fun x => 7 - x.length) out (by simp [setAll]) ⟨by omega, hout⟩ ?_
      rintro x ⟨hx, hxf⟩
      have hxl : inR .i64 (x.length : Int) := small_i64 (by omega) (by omega)
      simp -implicitDefEqProofs [setAll, hxl, hf0, kw, ew, sw, tw, a_, b_, c_, -List.set_cons_succ, -List.set_cons_zero, A.ok, A.val, d_, e_, f_, g_, h_, i_, j_, k_, l_, m_, unA, unD, n_, AOp.total, o_, p_, q_, r_, s_, t_, u_, v_, A.thaw, C.thaw, A.fits, As.fits, C.fits, evs, oks, w_, A.pure, C.pure, A.re, C.re, x_, y_, cut, A.cells, C.rows?, z_, A_, B_, C_, D_, Ob.re, Cs.fits, E_, F_, G_, H_, I_, J_, K_, L_, M_, N_, O_, C.toD, P_, Q_, R_, S_, T_, Obs.fits, U_, eqD, V_, W_, X_, Y_, Z_]
      have hst := struct_calls [116, 114, 117, 101] [] (by simp)
      simp only [List.map_nil] at hst
      refine ⟨fun hlt => ?_, fun hge => ?_⟩
      · refine qcall_pure hst (hf1 _) (by simp [A.re, re_d]) ?_
        simp -implicitDefEqProofs [row_len, take_row, toDs_map, hf0, kw, ew, sw, tw, a_, b_, c_, -List.set_cons_succ, -List.set_cons_zero, A.ok, A.val, d_, e_, f_, g_, h_, i_, j_, k_, l_, m_, unA, unD, n_, AOp.total, o_, p_, q_, r_, s_, t_, u_, v_, A.thaw, C.thaw, A.fits, As.fits, C.fits, evs, oks, w_, A.pure, C.pure, A.re, C.re, x_, y_, cut, A.cells, C.rows?, z_, A_, B_, C_, D_, Ob.re, Cs.fits, E_, F_, G_, H_, I_, J_, K_, L_, M_, N_, O_, C.toD, P_, Q_, R_, S_, T_, Obs.fits, U_, eqD, V_, W_, X_, Y_, Z_]
        refine ⟨allLen_map row_len, by unfold maxApp; omega, ?_⟩
        refine loop_back (x ++ [.mk 3 0 [116, 114, 117, 101] []]) (by simp [setAll]) ⟨by simp; omega, fun t ht => ?_⟩ (by show 7 - (x ++ [Tm.mk 3 0 [116, 114, 117, 101] []]).length < 7 - x.length; simp; omega)
        rcases List.mem_append.1 ht with ht | ht
        · exact hxf t ht
        · simp at ht; subst ht; exact fits_st (by simp) (by simp) (by simp)
      · exact done x hx hxf _ rfl
    · exact done out (by omega) hout _ rfl
theorem drawQv_calls (c : List UInt8) (hc : c.length ≤ 1048576) (H : Heap) : ACalls Try.prog 8 [.c (.d (.sl (bytesRows c)))] H (fun r H' => H' = H ∧ TmsR 7 r) := by
  refine acalls Try.func8 (by kernel_rfl) ac8_ok fun hf => ?_
  simp -implicitDefEqProofs [ac8, kw, ew, sw, tw, a_, b_, c_, -List.set_cons_succ, -List.set_cons_zero, A.ok, A.val, d_, e_, f_, g_, h_, i_, j_, k_, l_, m_, unA, unD, n_, AOp.total, o_, p_, q_, r_, s_, t_, u_, v_, A.thaw, C.thaw, A.fits, As.fits, C.fits, evs, oks, w_, A.pure, C.pure, A.re, C.re, x_, y_, cut, A.cells, C.rows?, z_, A_, B_, C_, D_, Ob.re, Cs.fits, E_, F_, G_, H_, I_, J_, K_, L_, M_, N_, O_, C.toD, P_, Q_, R_, S_, T_, Obs.fits, U_, eqD, V_, W_, X_, Y_, Z_]
  refine (open_calls c hc _).mono fun r H' ⟨h1, c', hc', h2⟩ => ⟨H, [Rd c' 0], .c (.ptr (.l 0) 0), by rw [h2]; simp [Rd, Ob.re, C.re], rfl, by simp, hf, by rw [h1]; simp [A.re, C.re, Ref.re], ?_⟩
  simp -implicitDefEqProofs [kw, ew, sw, tw, a_, b_, c_, -List.set_cons_succ, -List.set_cons_zero, A.ok, A.val, d_, e_, f_, g_, h_, i_, j_, k_, l_, m_, unA, unD, n_, AOp.total, o_, p_, q_, r_, s_, t_, u_, v_, A.thaw, C.thaw, A.fits, As.fits, C.fits, evs, oks, w_, A.pure, C.pure, A.re, C.re, x_, y_, cut, A.cells, C.rows?, z_, A_, B_, C_, D_, Ob.re, Cs.fits, E_, F_, G_, H_, I_, J_, K_, L_, M_, N_, O_, C.toD, P_, Q_, R_, S_, T_, Obs.fits, U_, eqD, V_, W_, X_, Y_, Z_]
  refine call_drawL (j := 0) query_draws hc' (by omega) (by omega) rfl (by simp [Rd, Ob.re, C.re]) (fun r => TmsR.re) hf ?_
  rintro _ p1 ⟨l, rfl, hl, hft⟩ h3 h4
  simp -implicitDefEqProofs [kw, ew, sw, tw, a_, b_, c_, -List.set_cons_succ, -List.set_cons_zero, A.ok, A.val, d_, e_, f_, g_, h_, i_, j_, k_, l_, m_, unA, unD, n_, AOp.total, o_, p_, q_, r_, s_, t_, u_, v_, A.thaw, C.thaw, A.fits, As.fits, C.fits, evs, oks, w_, A.pure, C.pure, A.re, C.re, x_, y_, cut, A.cells, C.rows?, z_, A_, B_, C_, D_, Ob.re, Cs.fits, E_, F_, G_, H_, I_, J_, K_, L_, M_, N_, O_, C.toD, P_, Q_, R_, S_, T_, Obs.fits, U_, eqD, V_, W_, X_, Y_, Z_]
  refine call_drawL (j := 0) (mutateAll_draws l hl hft) hc' (by omega) (by omega) rfl (by simp [Rd, Ob.re, C.re]) (fun r => TmsR.re) hf ?_
  rintro _ p2 ⟨l2, rfl, hl2, hft2⟩ h5 h6
  simp -implicitDefEqProofs [hf, kw, ew, sw, tw, a_, b_, c_, -List.set_cons_succ, -List.set_cons_zero, A.ok, A.val, d_, e_, f_, g_, h_, i_, j_, k_, l_, m_, unA, unD, n_, AOp.total, o_, p_, q_, r_, s_, t_, u_, v_, A.thaw, C.thaw, A.fits, As.fits, C.fits, evs, oks, w_, A.pure, C.pure, A.re, C.re, x_, y_, cut, A.cells, C.rows?, z_, A_, B_, C_, D_, Ob.re, Cs.fits, E_, F_, G_, H_, I_, J_, K_, L_, M_, N_, O_, C.toD, P_, Q_, R_, S_, T_, Obs.fits, U_, eqD, V_, W_, X_, Y_, Z_]
  exact ⟨l2, rfl, hl2, hft2⟩
theorem drawCq_calls (c : List UInt8) (hc : c.length ≤ 1048576) (H : Heap) : ACalls Try.prog 4 [.c (.d (.sl (bytesRows c)))] H (fun r H' => H' = H ∧ TmsR 7 r) := by
  refine acalls Try.func4 (by kernel_rfl) ac4_ok fun hf => ?_
  simp -implicitDefEqProofs [ac4, kw, ew, sw, tw, a_, b_, c_, -List.set_cons_succ, -List.set_cons_zero, A.ok, A.val, d_, e_, f_, g_, h_, i_, j_, k_, l_, m_, unA, unD, n_, AOp.total, o_, p_, q_, r_, s_, t_, u_, v_, A.thaw, C.thaw, A.fits, As.fits, C.fits, evs, oks, w_, A.pure, C.pure, A.re, C.re, x_, y_, cut, A.cells, C.rows?, z_, A_, B_, C_, D_, Ob.re, Cs.fits, E_, F_, G_, H_, I_, J_, K_, L_, M_, N_, O_, C.toD, P_, Q_, R_, S_, T_, Obs.fits, U_, eqD, V_, W_, X_, Y_, Z_]
  refine call_some (drawQv_calls c hc _) (by simp) (fun r => TmsR.re) hf ?_
  rintro _ ⟨l, rfl, hl, hft⟩
  simp -implicitDefEqProofs [hf, kw, ew, sw, tw, a_, b_, c_, -List.set_cons_succ, -List.set_cons_zero, A.ok, A.val, d_, e_, f_, g_, h_, i_, j_, k_, l_, m_, unA, unD, n_, AOp.total, o_, p_, q_, r_, s_, t_, u_, v_, A.thaw, C.thaw, A.fits, As.fits, C.fits, evs, oks, w_, A.pure, C.pure, A.re, C.re, x_, y_, cut, A.cells, C.rows?, z_, A_, B_, C_, D_, Ob.re, Cs.fits, E_, F_, G_, H_, I_, J_, K_, L_, M_, N_, O_, C.toD, P_, Q_, R_, S_, T_, Obs.fits, U_, eqD, V_, W_, X_, Y_, Z_]
  exact ⟨l, rfl, hl, hft⟩
end Go.Proofs.Yteighafofbohcaa

/-
  Instructions as data.
  Conditions: none.
-/
open Go Go.AM Go.Proofs
namespace Go.Proofs.Yteighafofbohcaa
open Go.ChangeShapes Go.WideShapes Go.ChangeAt Go.RowKit
set_option linter.unusedVariables false
set_option linter.unusedSimpArgs false
set_option maxRecDepth 100000
/-- an instruction -/
structure Ins where
  op : Int
  a : Int
  b : Int
  text : List UInt8
def Ins.row (x : Ins) : List D := [.int .i64 x.op, .int .i64 x.a, .int .i64 x.b, .str x.text]
structure Ins.ok (x : Ins) : Prop where
  op : inR .i64 x.op
  a : inR .i64 x.a
  b : inR .i64 x.b
  text : x.text.length ≤ reachBytes
end Go.Proofs.Yteighafofbohcaa

/-
  Code as it is made: the plain law.
  Conditions: none.
-/
open Go Go.AM Go.Proofs
namespace Go.Proofs.Yteighafofbohcaa
open Go.ChangeShapes Go.WideShapes Go.ChangeAt Go.RowKit
set_option linter.unusedVariables false
set_option linter.unusedSimpArgs false
set_option maxRecDepth 100000
/-- what is known while code is made: the slots of variables, the next slot, the rows of the code -/
structure Mk where
  sl : List (Int × Nat)
  next : Nat
  code : List (List D)
def slotO (m : List (Int × Nat)) (n : Int) : Option Nat := (m.find? fun p => p.1 == n).map (·.2)
def insR (op a b : Int) (s : List UInt8) : List D := [.int .i64 op, .int .i64 a, .int .i64 b, .str s]
def Mk.emit (M : Mk) (op a b : Int) (s : List UInt8) : Mk := ⟨M.sl, M.next, M.code ++ [insR op a b s]⟩
def Mk.give (M : Mk) (n : Int) (v : Nat) : Mk := ⟨M.sl ++ [(n, v)], M.next, M.code⟩
def Mk.bump (M : Mk) : Mk := ⟨M.sl, M.next + 1, M.code⟩
/-- an argument of a structure that is no structure -/
def Mk.desc (M : Mk) (t : Tm) : Mk := if t.k = 2 then M.emit 6 t.n 0 [] else match slotO M.sl t.n with
  | some v => M.emit 5 v 0 []
  | none => ((M.give t.n M.next).emit 4 M.next 0 []).bump
def argsT : List Tm → Mk → Mk × List (Tm × Nat)
  | [], M => (M, [])
  | t :: l, M => if t.k = 3 then ((argsT l (M.emit 4 M.next 0 []).bump).1, (t, M.next) :: (argsT l (M.emit 4 M.next 0 []).bump).2) else argsT l (M.desc t)
/-- the structures that are left -/
def headQ : Nat → List (Tm × Nat) → Mk → Mk
  | _, [], M => M
  | 0, _ :: _, M => M
  | f + 1, p :: q, M => headQ f (q ++ (argsT p.1.kids (M.emit 3 p.1.kids.length p.2 p.1.s)).2) (argsT p.1.kids (M.emit 3 p.1.kids.length p.2 p.1.s)).1
def qsize (q : List (Tm × Nat)) : Nat := (q.map fun p => p.1.size).sum
/-- the arguments of a head, from the i-th on -/
def headA : List Tm → Nat → Mk → Mk × List (Tm × Nat)
  | [], _, M => (M, [])
  | t :: l, i, M => if t.k = 2 then headA l (i + 1) (M.emit 2 t.n i [])
    else if t.k = 1 then headA l (i + 1) (match slotO M.sl t.n with | some v => M.emit 1 v i [] | none => M.give t.n i)
    else ((headA l (i + 1) M).1, (t, i) :: (headA l (i + 1) M).2)
def headT (l : List Tm) (M : Mk) : Mk := headQ (qsize (headA l 0 M).2) (headA l 0 M).2 (headA l 0 M).1
/-- what stands behind the instruction of a structure that is built -/
def partsT : List Tm → List Int → Mk → Mk
  | t :: l, b :: bs, M => partsT l bs (if t.k = 3 then M.emit 5 b 0 [] else M.desc t)
  | _, _, M => M
mutual
def buildT : Tm → Mk → Mk × Nat
  | .mk k n s l, M => (partsT l (buildL l M).2 ((buildL l M).1.bump.emit 7 l.length (buildL l M).1.next s), (buildL l M).1.next)
def buildL : List Tm → Mk → Mk × List Int
  | [], M => (M, [])
  | t :: l, M => if t.k = 3 then ((buildL l (buildT t M).1).1, ((buildT t M).2 : Int) :: (buildL l (buildT t M).1).2) else ((buildL l M).1, (-1) :: (buildL l M).2)
end
def putT (M : Mk) (t : Tm) (i : Nat) : Mk := if t.k = 2 then M.emit 10 t.n i []
  else if t.k = 1 then (match slotO M.sl t.n with | some v => M.emit 9 v i [] | none => ((M.give t.n M.next).bump).emit 8 M.next i [])
  else (buildT t M).1.emit 9 (buildT t M).2 i []
def putsT : List Tm → Nat → Mk → Mk
  | [], _, M => M
  | t :: l, i, M => putsT l (i + 1) (putT M t i)
/-- everything is small -/
structure Mk.fit (M : Mk) (B : Nat) : Prop where
  next : M.next ≤ B
  code : M.code.length ≤ B
  vals : ∀ p ∈ M.sl, p.2 ≤ B
  rows : ∀ r ∈ M.code, ∃ x : Ins, r = x.row
theorem Mk.fit.all {M : Mk} {B : Nat} (h : M.fit B) : allLen 4 M.code := fun r hr => by obtain ⟨x, rfl⟩ := h.rows r hr; rfl
theorem Mk.fit.mono {M : Mk} {B C : Nat} (h : M.fit B) (hb : B ≤ C) : M.fit C :=
  ⟨by have := h.next; omega, by have := h.code; omega, fun p hp => by have := h.vals p hp; omega, h.rows⟩
theorem Mk.fit.emit {M : Mk} {B : Nat} (h : M.fit B) (op a b : Int) (s : List UInt8) : (M.emit op a b s).fit (B + 1) := by
  refine ⟨by have := h.next; show M.next ≤ _; omega, by have := h.code; simp [Mk.emit]; omega, fun p hp => by have := h.vals p hp; omega, fun r hr => ?_⟩
  rcases List.mem_append.1 hr with hr | hr
  · exact h.rows r hr
  · simp at hr; exact ⟨⟨op, a, b, s⟩, hr⟩
theorem Mk.fit.give {M : Mk} {B : Nat} (h : M.fit B) (n : Int) (v : Nat) (hv : v ≤ B) : (M.give n v).fit B := by
  refine ⟨h.next, h.code, fun p hp => ?_, h.rows⟩
  rcases List.mem_append.1 hp with hp | hp
  · exact h.vals p hp
  · simp at hp; subst hp; exact hv
theorem Mk.fit.bump {M : Mk} {B : Nat} (h : M.fit B) : M.bump.fit (B + 1) :=
  ⟨by have := h.next; show M.next + 1 ≤ _; omega, by have := h.code; show M.code.length ≤ _; omega, fun p hp => by have := h.vals p hp; omega, h.rows⟩
theorem slotO_mem {m : List (Int × Nat)} {n : Int} {v : Nat} (h : slotO m n = some v) : (n, v) ∈ m := by
  simp only [slotO, Option.map_eq_some_iff] at h
  obtain ⟨p, h1, rfl⟩ := h
  have h2 := List.find?_some h1
  have h3 := List.mem_of_find?_eq_some h1
  simp at h2
  rw [← h2]; exact h3
theorem Mk.fit.desc {M : Mk} {B : Nat} (h : M.fit B) (t : Tm) : (M.desc t).fit (B + 2) := by
  unfold Mk.desc
  split
  · exact (h.emit ..).mono (by omega)
  · split
    · exact (h.emit ..).mono (by omega)
    · exact ((h.give _ _ h.next).emit ..).bump
theorem args_fit : ∀ (l : List Tm) (M : Mk) (B : Nat), M.fit B → (argsT l M).1.fit (B + 2 * l.length) ∧ ∀ p ∈ (argsT l M).2, p.1 ∈ l ∧ p.1.k = 3 ∧ p.2 ≤ B + 2 * l.length
  | [], M, B, h => ⟨by simpa [argsT] using h, by simp [argsT]⟩
  | t :: l, M, B, h => by
    unfold argsT
    split
    · rename_i hk
      have ih := args_fit l _ _ (h.emit 4 M.next 0 []).bump
      refine ⟨ih.1.mono (by simp; omega), fun p hp => ?_⟩
      rcases List.mem_cons.1 hp with rfl | hp
      · exact ⟨by simp, hk, by have := h.next; simp; omega⟩
      · obtain ⟨h1, h2, h3⟩ := ih.2 p hp
        exact ⟨by simp [h1], h2, by simp; omega⟩
    · have ih := args_fit l _ _ (h.desc t)
      refine ⟨ih.1.mono (by simp; omega), fun p hp => ?_⟩
      obtain ⟨h1, h2, h3⟩ := ih.2 p hp
      exact ⟨by simp [h1], h2, by simp; omega⟩
theorem parts_fit : ∀ (l : List Tm) (bs : List Int) (M : Mk) (B : Nat), M.fit B → (partsT l bs M).fit (B + 2 * l.length)
  | [], _, M, B, h => by simpa [partsT] using h
  | t :: l, [], M, B, h => by simpa [partsT] using h.mono (by omega)
  | t :: l, b :: bs, M, B, h => by
    unfold partsT
    refine (parts_fit l bs _ (B + 2) ?_).mono (by simp; omega)
    split
    · exact (h.emit ..).mono (by omega)
    · exact h.desc t
theorem buildL_len : ∀ (l : List Tm) (M : Mk), (buildL l M).2.length = l.length
  | [], M => by simp [buildL]
  | t :: l, M => by
    unfold buildL
    split <;> simp [buildL_len l]
/-- how much a structure that is built adds -/
theorem build_fit4 : ∀ (t : Tm) (M : Mk) (B : Nat), M.fit B → ∃ C, (buildT t M).1.fit C ∧ (buildT t M).2 ≤ C ∧ C + 4 ≤ B + 6 * t.size := by
  refine Tm.ind fun k n s l ih M B h => ?_
  have key : ∀ (l : List Tm), (∀ t ∈ l, ∀ (M : Mk) (B : Nat), M.fit B → ∃ C, (buildT t M).1.fit C ∧ (buildT t M).2 ≤ C ∧ C + 4 ≤ B + 6 * t.size) → ∀ (M : Mk) (B : Nat), M.fit B → ∃ C, (buildL l M).1.fit C ∧ C + 4 * l.length ≤ B + 6 * sizes l := by
    intro l
    induction l with
    | nil => intro _ M B h; exact ⟨B, by simpa [buildL] using h, by simp [sizes]⟩
    | cons t l ih2 =>
      intro hh M B h
      have hs := size_pos t
      unfold buildL
      split
      · obtain ⟨C, h1, _, h2⟩ := hh t (by simp) M B h
        obtain ⟨C2, h3, h4⟩ := ih2 (fun u hu => hh u (by simp [hu])) _ _ h1
        exact ⟨C2, h3, by simp [sizes]; omega⟩
      · obtain ⟨C2, h3, h4⟩ := ih2 (fun u hu => hh u (by simp [hu])) _ _ h
        exact ⟨C2, h3, by simp [sizes]; omega⟩
  obtain ⟨C, h1, hC⟩ := key l ih M B h
  have h2 := (h1.bump.emit 7 l.length (buildL l M).1.next s)
  have h3 := parts_fit l (buildL l M).2 _ _ h2
  have h5 := h1.next
  unfold buildT
  exact ⟨_, h3, by simp only; omega, by simp [Tm.size]; omega⟩
theorem build_fit (t : Tm) (M : Mk) (B : Nat) (h : M.fit B) : (buildT t M).1.fit (B + 6 * t.size) ∧ (buildT t M).2 ≤ B + 6 * t.size := by
  obtain ⟨C, h1, h2, h3⟩ := build_fit4 t M B h
  exact ⟨h1.mono (by omega), by omega⟩
theorem put_fit {M : Mk} {B : Nat} (h : M.fit B) (t : Tm) (i : Nat) : (putT M t i).fit (B + 6 * t.size + 2) := by
  unfold putT
  split
  · exact (h.emit ..).mono (by omega)
  · split
    · split
      · exact (h.emit ..).mono (by omega)
      · exact ((h.give _ _ h.next).bump.emit ..).mono (by omega)
    · exact ((build_fit t M B h).1.emit ..).mono (by omega)
theorem args_size : ∀ (l : List Tm) (M : Mk), 2 * l.length + 6 * qsize (argsT l M).2 ≤ 6 * sizes l + 4 * (argsT l M).2.length ∧ qsize (argsT l M).2 ≤ sizes l
  | [], M => by simp [argsT, qsize, sizes]
  | t :: l, M => by
    have hp := size_pos t
    unfold argsT
    split
    · have ih := args_size l (M.emit 4 M.next 0 []).bump
      simp only [qsize, List.map_cons, List.sum_cons, List.length_cons, sizes] at ih ⊢
      omega
    · have ih := args_size l (M.desc t)
      simp only [List.length_cons, sizes] at ih ⊢
      omega
theorem qsize_pos (q : List (Tm × Nat)) : q.length ≤ qsize q := by
  induction q with
  | nil => simp [qsize]
  | cons p q ih =>
    have := size_pos p.1
    simp only [qsize, List.map_cons, List.sum_cons, List.length_cons] at ih ⊢
    omega
theorem headA_fit : ∀ (l : List Tm) (i : Nat) (M : Mk) (B : Nat), M.fit B → i + l.length ≤ B → (headA l i M).1.fit (B + l.length) ∧ (∀ p ∈ (headA l i M).2, p.1 ∈ l ∧ p.1.k ≠ 2 ∧ p.1.k ≠ 1) ∧ qsize (headA l i M).2 ≤ sizes l ∧ (headA l i M).2.length ≤ l.length
  | [], _, M, B, h, _ => by simpa [headA, qsize, sizes] using h
  | t :: l, i, M, B, h, hi => by
    simp only [List.length_cons] at hi ⊢
    unfold headA
    split
    · obtain ⟨h1, h2, h3, h4⟩ := headA_fit l (i + 1) _ (B + 1) (h.emit 2 t.n i []) (by omega)
      exact ⟨h1.mono (by omega), fun p hp => ⟨by simp [(h2 p hp).1], (h2 p hp).2⟩, by simp only [sizes]; omega, by omega⟩
    · split
      · have hf : Mk.fit (match slotO M.sl t.n with | some v => M.emit 1 v i [] | none => M.give t.n i) (B + 1) := by
          split
          · exact h.emit ..
          · exact (h.give _ _ (by omega)).mono (by omega)
        obtain ⟨h1, h2, h3, h4⟩ := headA_fit l (i + 1) _ (B + 1) hf (by omega)
        exact ⟨h1.mono (by omega), fun p hp => ⟨by simp [(h2 p hp).1], (h2 p hp).2⟩, by simp only [sizes]; omega, by omega⟩
      · rename_i k2 k1
        obtain ⟨h1, h2, h3, h4⟩ := headA_fit l (i + 1) M (B + 1) (h.mono (by omega)) (by omega)
        refine ⟨h1.mono (by omega), fun p hp => ?_, by simp only [qsize, List.map_cons, List.sum_cons, sizes] at h3 ⊢; omega, by simp; omega⟩
        rcases List.mem_cons.1 hp with rfl | hp
        · exact ⟨by simp, k2, k1⟩
        · exact ⟨by simp [(h2 p hp).1], (h2 p hp).2⟩
/-- the slots as the reference keeps them -/
def slotsR (m : List (Int × Nat)) : List (List D) := (List.range 26).map fun i : Nat => [.int .i64 (match slotO m i with | some v => (v : Int) | none => -1)]
theorem slotsR_len (m : List (Int × Nat)) : (slotsR m).length = 26 := by simp [slotsR]
theorem slotsR_all (m : List (Int × Nat)) : allLen 1 (slotsR m) := allLen_map fun _ => rfl
theorem slotsR_get (m : List (Int × Nat)) {i : Nat} (h : i < 26) : (slotsR m)[i]? = some [.int .i64 (match slotO m i with | some v => (v : Int) | none => -1)] := by
  simp [slotsR, h]
theorem slotO_snoc (m : List (Int × Nat)) (n k : Int) (v : Nat) (h : slotO m n = none) : slotO (m ++ [(n, v)]) k = if k = n then some v else slotO m k := by
  unfold slotO at h ⊢
  rw [List.find?_append]
  by_cases hk : k = n
  · subst hk
    simp only [Option.map_eq_none_iff] at h
    simp [h]
  · have hk' : ¬ n = k := fun e => hk e.symm
    simp [hk, hk']
theorem slotsR_set (m : List (Int × Nat)) (n v : Nat) (hn : n < 26) (h : slotO m n = none) : (slotsR m).set n [.int .i64 v] = slotsR (m ++ [((n : Int), v)]) := by
  refine List.ext_getElem? fun i => ?_
  rcases Nat.lt_or_ge i 26 with hi | hi
  · rw [slotsR_get _ hi, slotO_snoc m n i v h, List.getElem?_set]
    by_cases he : n = i
    · subst he
      simp [slotsR_len, hn]
    · have : ¬ ((i : Int) = n) := by omega
      rw [if_neg he, slotsR_get _ hi, if_neg this]
  · rw [List.getElem?_eq_none (by simp [slotsR_len]; omega), List.getElem?_eq_none (by simp [slotsR_len]; omega)]
/-- the slots as the program keeps them -/
def slotsM (m : List (Int × Nat)) : List (Int × List D) := m.map fun p => (p.1, [.int .i64 p.2])
theorem slotsM_row (n : Int) : ∀ m : List (Int × Nat), V_ (slotsM m) n = (slotO m n).map fun v => [.int .i64 (v : Int)]
  | [] => rfl
  | (k, v) :: m => by
    have ih := slotsM_row n m
    unfold slotsM slotO at ih ⊢
    simp only [List.map_cons, V_, List.find?_cons]
    by_cases h : k = n
    · simp [h]
    · have : (k == n) = false := by simpa using h
      rw [if_neg h, this]
      exact ih
theorem slotsM_put (n : Int) (v : Nat) : ∀ m : List (Int × Nat), slotO m n = none → W_ (slotsM m) n [.int .i64 (v : Int)] = slotsM (m ++ [(n, v)])
  | [], _ => rfl
  | (k, w) :: m, h => by
    unfold slotO at h
    simp only [List.find?_cons] at h
    by_cases hk : k = n
    · simp [hk] at h
    · have : (k == n) = false := by simpa using hk
      rw [this] at h
      have ih := slotsM_put n v m h
      unfold slotsM at ih ⊢
      simp only [List.map_cons, W_, List.cons_append]
      rw [if_neg hk, ih]
end Go.Proofs.Yteighafofbohcaa

/-
  Code as the reference makes it.
  Conditions: none.
-/
open Go Go.AM Go.Proofs
namespace Go.Proofs.Yteighafofbohcaa
open Go.ChangeShapes Go.WideShapes Go.ChangeAt Go.RowKit
set_option linter.unusedVariables false
set_option linter.unusedSimpArgs false
set_option maxRecDepth 100000
-- 22 loop.example/prologserver/spec.l8Start params 0 ntmps 14
-- loop head live: [0, 1, 2]
def ac22 : Cd := .seq (.region [⟨(some 0), .alloc [(.full []), (.d (.int .i64 0)), (.full [])], none⟩] [])
  (.seq (.region [⟨(some 3), .build [(.full []), (.d (.int .i64 0)), (.full [])] [(1, 1, (.k (.c (.d (.int .i64 4)))))], none⟩,
      ⟨(some 1), .alloc [(.full []), (.d (.int .i64 0)), (.full [])], none⟩,
      ⟨none, .store 3 (.t 1) (.t 3), none⟩] [3])
  (.seq (.seq (.region [⟨(some 2), .mv (.k (.c (.d (.int .i64 0)))), none⟩] [])
    (.block 0 (.loop (.seq (.seq (.region [⟨(some 4), .mv (.t 2), none⟩,
              ⟨(some 5), .bin .leq (.t 4) (.k (.c (.d (.int .i64 25)))), none⟩] [4])
          (.cond (.t 5)
            (.skip)
            (.exit 0)))
        (.seq (.block 1 (.region [⟨(some 8), .fieldAddr 0 (.t 1), none⟩,
              ⟨(some 9), .load none (.t 8), none⟩,
              ⟨(some 10), .buildSlice 1 1 [(.int .i64 0)] [(0, (.k (.c (.d (.int .i64 (-1))))))], none⟩,
              ⟨(some 11), .append false 1 (.t 9) (.t 10), none⟩,
              ⟨(some 12), .fieldAddr 0 (.t 1), none⟩,
              ⟨none, .store 1 (.t 12) (.t 11), none⟩] [5, 8, 9, 10, 11, 12]))
        (.region [⟨(some 6), .mv (.t 2), none⟩,
          ⟨(some 7), .bin .add (.t 6) (.k (.c (.d (.int .i64 1)))), none⟩,
          ⟨(some 2), .mv (.t 7), none⟩] [6, 7]))))))
  (.seq (.region [⟨(some 13), .load (some 3) (.t 1), none⟩,
      ⟨none, .store 3 (.t 0) (.t 13), none⟩] [1, 13])
  (.ret))))
theorem ac22_ok : cFunc Try.prog [] [(0, [], []), (1, [3], []), (2, [], []), (3, [4], []), (5, [5, 8, 9, 10, 11, 12], []), (4, [6, 7], []), (6, [1, 13], [])] Try.f22 = some (ac22, [.cell 0 (some 3)], 14) := by kernel_rfl
-- 38 loop.example/prologserver/spec.l8Emit params 2 ntmps 14
def ac38 : Cd := .seq (.region [⟨(some 2), .box (.t 0), none⟩,
      ⟨(some 3), .box (.t 1), none⟩,
      ⟨(some 4), .alloc [(.full []), (.d (.int .i64 0)), (.full [])], none⟩] [0, 1])
  (.seq (.region [⟨(some 5), .buildSlice 4 0 [(.int .i64 0), (.int .i64 0), (.int .i64 0), (.str [])] [], none⟩,
      ⟨(some 6), .fieldAddr 2 (.t 2), none⟩,
      ⟨(some 7), .load none (.t 6), none⟩,
      ⟨(some 9), .load (some 4) (.t 3), none⟩,
      ⟨(some 10), .buildSlice 4 1 [(.int .i64 0), (.int .i64 0), (.int .i64 0), (.str [])] [(0, (.t 9))], none⟩,
      ⟨(some 8), .append false 4 (.t 5) (.t 7), none⟩,
      ⟨(some 11), .append false 4 (.t 8) (.t 10), none⟩,
      ⟨(some 12), .fieldAddr 2 (.t 2), none⟩,
      ⟨none, .store 1 (.t 12) (.t 11), none⟩] [3, 5, 6, 7, 8, 9, 10, 11, 12])
  (.seq (.region [⟨(some 13), .load (some 3) (.t 2), none⟩,
      ⟨none, .store 3 (.t 4) (.t 13), none⟩] [2, 13])
  (.ret)))
theorem ac38_ok : cFunc Try.prog [] [(0, [0, 1], []), (1, [3, 5, 6, 7, 8, 9, 10, 11, 12], [0, 1, 2, 4, 5, 3, 6, 7, 8]), (2, [2, 13], [])] Try.f38 = some (ac38, [.cell 4 (some 3)], 14) := by kernel_rfl
-- 55 loop.example/prologserver/spec.l8Slot params 3 ntmps 18
def ac55 : Cd := .seq (.region [⟨(some 3), .box (.t 0), none⟩,
      ⟨(some 6), .alloc [(.full []), (.d (.int .i64 0)), (.full [])], none⟩] [0])
  (.seq (.region [⟨(some 7), .buildSlice 1 0 [(.int .i64 0)] [], none⟩,
      ⟨(some 8), .fieldAddr 0 (.t 3), none⟩,
      ⟨(some 9), .load none (.t 8), none⟩,
      ⟨(some 10), .appendF 1 (.t 7) (.t 9), none⟩,
      ⟨(some 11), .fieldAddr 0 (.t 3), none⟩,
      ⟨none, .store 1 (.t 11) (.t 10), none⟩] [7, 8, 9, 10, 11])
  (.seq (.region [⟨(some 12), .fieldAddr 0 (.t 3), none⟩,
      ⟨(some 13), .load none (.t 12), none⟩,
      ⟨(some 14), .mv (.t 1), none⟩,
      ⟨(some 15), .mv (.t 2), none⟩,
      ⟨(some 16), .indexAddr 1 (.t 13) (.t 14), none⟩,
      ⟨none, .store 1 (.t 16) (.t 15), none⟩] [1, 2, 12, 13, 14, 15, 16])
  (.seq (.region [⟨(some 17), .load (some 3) (.t 3), none⟩,
      ⟨none, .store 3 (.t 6) (.t 17), none⟩] [3, 17])
  (.ret))))
theorem ac55_ok : cFunc Try.prog [3000007] [(0, [0], []), (1, [7, 8, 9, 10, 11], []), (2, [1, 2, 12, 13, 14, 15, 16], []), (3, [3, 17], [])] Try.f55 = some (ac55, [.cell 6 (some 3)], 18) := by kernel_rfl
-- 65 loop.example/prologserver/spec.l8Args params 2 ntmps 88
-- loop head live: [1, 2, 4, 6, 7]
def ac65 : Cd := .seq (.region [⟨(some 2), .box (.t 0), none⟩,
      ⟨(some 4), .alloc [(.full []), (.d (.int .i64 0)), (.full [])], none⟩,
      ⟨(some 5), .mv (.k (.c (.full []))), none⟩] [0, 5])
  (.seq (.region [⟨(some 9), .buildSlice 5 0 [(.int .i64 0), (.int .i64 0), (.str []), (.sl []), (.int .i64 0)] [], none⟩,
      ⟨(some 6), .mv (.t 9), none⟩] [9])
  (.seq (.seq (.region [⟨(some 7), .mv (.k (.c (.d (.int .i64 0)))), none⟩] [])
    (.block 0 (.loop (.seq (.seq (.region [⟨(some 10), .mv (.t 7), none⟩,
              ⟨(some 11), .mv (.t 1), none⟩,
              ⟨(some 12), .len 1 (.t 11), none⟩,
              ⟨(some 13), .bin .lss (.t 10) (.t 12), none⟩] [10, 11, 12])
          (.cond (.t 13)
            (.skip)
            (.exit 0)))
        (.seq (.block 1 (.seq (.region [⟨(some 16), .mv (.t 1), none⟩,
                ⟨(some 17), .mv (.t 7), none⟩,
                ⟨(some 18), .indexAddr 4 (.t 16) (.t 17), none⟩,
                ⟨(some 19), .load (some 4) (.t 18), none⟩,
                ⟨(some 8), .alloc [(.d (.int .i64 0)), (.d (.int .i64 0)), (.d (.str [])), (.full [])], none⟩,
                ⟨none, .store 4 (.t 8) (.t 19), none⟩] [13, 16, 17, 18, 19])
            (.block 2 (.seq (.region [⟨(some 37), .fieldAddr 0 (.t 8), none⟩,
                  ⟨(some 38), .load none (.t 37), none⟩,
                  ⟨(some 39), .bin .eql (.t 38) (.k (.c (.d (.int .i64 2)))), none⟩,
                  ⟨(some 36), .mv (.t 39), none⟩] [37, 38, 39])
              (.cond (.t 36)
                (.region [⟨(some 40), .load (some 3) (.t 2), none⟩,
                  ⟨(some 41), .fieldAddr 1 (.t 8), none⟩,
                  ⟨(some 42), .load none (.t 41), none⟩,
                  ⟨(some 43), .build [(.d (.int .i64 0)), (.d (.int .i64 0)), (.d (.int .i64 0)), (.d (.str []))] [(0, 1, (.k (.c (.d (.int .i64 6))))), (1, 1, (.t 42))], none⟩,
                  ⟨(some 44), .qcall 38 [(.t 40), (.t 43)], none⟩,
                  ⟨none, .store 3 (.t 2) (.t 44), none⟩] [8, 36, 40, 41, 42, 43, 44])
                (.seq (.region [⟨(some 46), .fieldAddr 0 (.t 8), none⟩,
                    ⟨(some 47), .load none (.t 46), none⟩,
                    ⟨(some 48), .bin .eql (.t 47) (.k (.c (.d (.int .i64 1)))), none⟩,
                    ⟨(some 49), .mv (.t 48), none⟩,
                    ⟨(some 50), .fieldAddr 0 (.t 2), some (49, true)⟩,
                    ⟨(some 51), .load none (.t 50), some (49, true)⟩,
                    ⟨(some 52), .fieldAddr 1 (.t 8), some (49, true)⟩,
                    ⟨(some 53), .load none (.t 52), some (49, true)⟩,
                    ⟨(some 54), .indexAddr 1 (.t 51) (.t 53), some (49, true)⟩,
                    ⟨(some 55), .load none (.t 54), some (49, true)⟩,
                    ⟨(some 56), .bin .geq (.t 55) (.k (.c (.d (.int .i64 0)))), some (49, true)⟩,
                    ⟨(some 57), .pick (.t 49) (.t 56) (.k (.c (.d (.bool false)))), none⟩,
                    ⟨(some 45), .mv (.t 57), none⟩] [36, 46, 47, 48, 49, 50, 51, 52, 53, 54, 55, 56, 57])
                (.cond (.t 45)
                  (.region [⟨(some 59), .fieldAddr 0 (.t 2), none⟩,
                    ⟨(some 61), .fieldAddr 1 (.t 8), none⟩,
                    ⟨(some 58), .load (some 3) (.t 2), none⟩,
                    ⟨(some 60), .load none (.t 59), none⟩,
                    ⟨(some 62), .load none (.t 61), none⟩,
                    ⟨(some 63), .indexAddr 1 (.t 60) (.t 62), none⟩,
                    ⟨(some 64), .load none (.t 63), none⟩,
                    ⟨(some 65), .build [(.d (.int .i64 0)), (.d (.int .i64 0)), (.d (.int .i64 0)), (.d (.str []))] [(0, 1, (.k (.c (.d (.int .i64 5))))), (1, 1, (.t 64))], none⟩,
                    ⟨(some 66), .qcall 38 [(.t 58), (.t 65)], none⟩,
                    ⟨none, .store 3 (.t 2) (.t 66), none⟩] [8, 45, 58, 59, 60, 61, 62, 63, 64, 65, 66])
                  (.seq (.region [⟨(some 68), .fieldAddr 0 (.t 8), none⟩,
                      ⟨(some 69), .load none (.t 68), none⟩,
                      ⟨(some 70), .bin .eql (.t 69) (.k (.c (.d (.int .i64 1)))), none⟩,
                      ⟨(some 67), .mv (.t 70), none⟩] [45, 68, 69, 70])
                  (.cond (.t 67)
                    (.seq (.region [⟨(some 71), .load (some 3) (.t 2), none⟩,
                        ⟨(some 72), .fieldAddr 1 (.t 8), none⟩,
                        ⟨(some 73), .load none (.t 72), none⟩,
                        ⟨(some 74), .fieldAddr 1 (.t 2), none⟩,
                        ⟨(some 75), .load none (.t 74), none⟩,
                        ⟨(some 76), .qcall 55 [(.t 71), (.t 73), (.t 75)], none⟩,
                        ⟨none, .store 3 (.t 2) (.t 76), none⟩] [8, 67, 71, 72, 73, 74, 75, 76])
                    (.seq (.region [⟨(some 77), .load (some 3) (.t 2), none⟩,
                        ⟨(some 78), .fieldAddr 1 (.t 2), none⟩,
                        ⟨(some 79), .load none (.t 78), none⟩,
                        ⟨(some 80), .build [(.d (.int .i64 0)), (.d (.int .i64 0)), (.d (.int .i64 0)), (.d (.str []))] [(0, 1, (.k (.c (.d (.int .i64 4))))), (1, 1, (.t 79))], none⟩,
                        ⟨(some 81), .qcall 38 [(.t 77), (.t 80)], none⟩,
                        ⟨none, .store 3 (.t 2) (.t 81), none⟩] [77, 78, 79, 80, 81])
                    (.region [⟨(some 82), .fieldAddr 1 (.t 2), none⟩,
                      ⟨(some 83), .load none (.t 82), none⟩,
                      ⟨(some 84), .bin .add (.t 83) (.k (.c (.d (.int .i64 1)))), none⟩,
                      ⟨(some 85), .fieldAddr 1 (.t 2), none⟩,
                      ⟨none, .store 1 (.t 85) (.t 84), none⟩] [82, 83, 84, 85])))
                    (.seq (.region [⟨(some 20), .mv (.t 6), none⟩,
                        ⟨(some 21), .load (some 4) (.t 8), none⟩,
                        ⟨(some 22), .fieldAddr 1 (.t 2), none⟩,
                        ⟨(some 23), .load none (.t 22), none⟩,
                        ⟨(some 24), .build [(.d (.int .i64 0)), (.d (.int .i64 0)), (.d (.str [])), (.full []), (.d (.int .i64 0))] [(0, 4, (.t 21)), (4, 1, (.t 23))], none⟩,
                        ⟨(some 25), .buildSlice 5 1 [(.int .i64 0), (.int .i64 0), (.str []), (.sl []), (.int .i64 0)] [(0, (.t 24))], none⟩,
                        ⟨(some 26), .append false 5 (.t 20) (.t 25), none⟩,
                        ⟨(some 6), .mv (.t 26), none⟩] [8, 20, 21, 22, 23, 24, 25, 26, 67])
                    (.seq (.region [⟨(some 27), .load (some 3) (.t 2), none⟩,
                        ⟨(some 28), .fieldAddr 1 (.t 2), none⟩,
                        ⟨(some 29), .load none (.t 28), none⟩,
                        ⟨(some 30), .build [(.d (.int .i64 0)), (.d (.int .i64 0)), (.d (.int .i64 0)), (.d (.str []))] [(0, 1, (.k (.c (.d (.int .i64 4))))), (1, 1, (.t 29))], none⟩,
                        ⟨(some 31), .qcall 38 [(.t 27), (.t 30)], none⟩,
                        ⟨none, .store 3 (.t 2) (.t 31), none⟩] [27, 28, 29, 30, 31])
                    (.region [⟨(some 32), .fieldAddr 1 (.t 2), none⟩,
                      ⟨(some 33), .load none (.t 32), none⟩,
                      ⟨(some 34), .bin .add (.t 33) (.k (.c (.d (.int .i64 1)))), none⟩,
                      ⟨(some 35), .fieldAddr 1 (.t 2), none⟩,
                      ⟨none, .store 1 (.t 35) (.t 34), none⟩] [32, 33, 34, 35]))))))))))))
        (.region [⟨(some 14), .mv (.t 7), none⟩,
          ⟨(some 15), .bin .add (.t 14) (.k (.c (.d (.int .i64 1)))), none⟩,
          ⟨(some 7), .mv (.t 15), none⟩] [14, 15]))))))
  (.seq (.region [⟨(some 86), .load (some 3) (.t 2), none⟩,
      ⟨(some 87), .mv (.t 6), none⟩,
      ⟨none, .store 3 (.t 4) (.t 86), none⟩,
      ⟨(some 5), .mv (.t 87), none⟩] [2, 6, 86, 87])
  (.ret))))
theorem ac65_ok : cFunc Try.prog [1000038, 1000055] [(0, [0, 5], []), (1, [9], []), (2, [], []), (3, [10, 11, 12], []), (5, [13, 16, 17, 18, 19], []), (9, [37, 38, 39], []), (10, [8, 36, 40, 41, 42, 43, 44], []), (11, [36, 46, 47, 48, 49, 50, 51, 52, 53, 54, 55, 56, 57], []), (12, [8, 45, 58, 59, 60, 61, 62, 63, 64, 65, 66], [1, 3, 0, 2, 4, 5, 6, 7, 8, 9]), (13, [45, 68, 69, 70], []), (14, [8, 67, 71, 72, 73, 74, 75, 76], []), (15, [77, 78, 79, 80, 81], []), (16, [82, 83, 84, 85], []), (6, [8, 20, 21, 22, 23, 24, 25, 26, 67], []), (7, [27, 28, 29, 30, 31], []), (8, [32, 33, 34, 35], []), (4, [14, 15], []), (17, [2, 6, 86, 87], [])] Try.f65 = some (ac65, [.cell 4 (some 3), .tmp 5], 88) := by kernel_rfl
theorem allLen_rep (i : Nat) (d : D) : allLen 1 (List.replicate i [d]) := fun r hr => by rw [List.eq_of_mem_replicate hr]; rfl
theorem start_calls (H : Heap) : ACalls Try.prog 22 [] H (fun r H' => H' = H ∧ r = .agg [.d (.sl (slotsR [])), .d (.int .i64 4), .d (.sl [])]) := by
  refine acalls Try.func22 (by kernel_rfl) ac22_ok fun hf => ?_
  simp -implicitDefEqProofs [ac22, kw, ew, sw, tw, a_, b_, c_, -List.set_cons_succ, -List.set_cons_zero, A.ok, A.val, d_, e_, f_, g_, h_, i_, j_, k_, l_, m_, unA, unD, n_, AOp.total, o_, p_, q_, r_, s_, t_, u_, v_, A.thaw, C.thaw, A.fits, As.fits, C.fits, evs, oks, w_, A.pure, C.pure, A.re, C.re, x_, y_, cut, A.cells, C.rows?, z_, A_, B_, C_, D_, Ob.re, Cs.fits, E_, F_, G_, H_, I_, J_, K_, L_, M_, N_, O_, C.toD, P_, Q_, R_, S_, T_, Obs.fits, U_, eqD, V_, W_, X_, Y_, Z_]
  refine ⟨hf, loop_enter (St.le_tokenC 1 0 1 rfl rfl) ?_⟩
  refine loop_set (σ := Nat) (fun i => [(2, .c (.d (.int .i64 i)))]) (fun _ => H) (fun i => [.cells [.full [], .d (.int .i64 0), .full []], .cells [.own (.l 2) i (List.replicate i [.int .i64 (-1)]), .d (.int .i64 4), .full []], .grow i 1]) (fun i => i ≤ 26) (fun i => 26 - i) 0 (by simp [setAll]) (Nat.zero_le _) ?_
  intro i hi
  simp -implicitDefEqProofs [setAll, kw, ew, sw, tw, a_, b_, c_, -List.set_cons_succ, -List.set_cons_zero, A.ok, A.val, d_, e_, f_, g_, h_, i_, j_, k_, l_, m_, unA, unD, n_, AOp.total, o_, p_, q_, r_, s_, t_, u_, v_, A.thaw, C.thaw, A.fits, As.fits, C.fits, evs, oks, w_, A.pure, C.pure, A.re, C.re, x_, y_, cut, A.cells, C.rows?, z_, A_, B_, C_, D_, Ob.re, Cs.fits, E_, F_, G_, H_, I_, J_, K_, L_, M_, N_, O_, C.toD, P_, Q_, R_, S_, T_, Obs.fits, U_, eqD, V_, W_, X_, Y_, Z_]
  refine ⟨fun hlt => ?_, fun hge => ?_⟩
  · have hadd : inR .i64 ((i : Int) + 1) := small_i64 (by omega) (by omega)
    simp -implicitDefEqProofs [hadd, kw, ew, sw, tw, a_, b_, c_, -List.set_cons_succ, -List.set_cons_zero, A.ok, A.val, d_, e_, f_, g_, h_, i_, j_, k_, l_, m_, unA, unD, n_, AOp.total, o_, p_, q_, r_, s_, t_, u_, v_, A.thaw, C.thaw, A.fits, As.fits, C.fits, evs, oks, w_, A.pure, C.pure, A.re, C.re, x_, y_, cut, A.cells, C.rows?, z_, A_, B_, C_, D_, Ob.re, Cs.fits, E_, F_, G_, H_, I_, J_, K_, L_, M_, N_, O_, C.toD, P_, Q_, R_, S_, T_, Obs.fits, U_, eqD, V_, W_, X_, Y_, Z_]
    refine ⟨allLen_rep _ _, by unfold maxApp; omega, hf, loop_back (i + 1) ?_ (by omega) (by show 26 - (i + 1) < 26 - i; omega)⟩
    simp [setAll, List.replicate_succ']
  · obtain rfl : i = 26 := by omega
    have e : slotsR [] = List.replicate 26 [.int .i64 (-1)] := by kernel_rfl
    simp -implicitDefEqProofs [hf, e, kw, ew, sw, tw, a_, b_, c_, -List.set_cons_succ, -List.set_cons_zero, A.ok, A.val, d_, e_, f_, g_, h_, i_, j_, k_, l_, m_, unA, unD, n_, AOp.total, o_, p_, q_, r_, s_, t_, u_, v_, A.thaw, C.thaw, A.fits, As.fits, C.fits, evs, oks, w_, A.pure, C.pure, A.re, C.re, x_, y_, cut, A.cells, C.rows?, z_, A_, B_, C_, D_, Ob.re, Cs.fits, E_, F_, G_, H_, I_, J_, K_, L_, M_, N_, O_, C.toD, P_, Q_, R_, S_, T_, Obs.fits, U_, eqD, V_, W_, X_, Y_, Z_]
theorem emit_calls (s code : List (List D)) (n op a b : Int) (t : List UInt8) (hc : code.length ≤ 1000000) (ha : allLen 4 code) (H : Heap) :
    ACalls Try.prog 38 [.agg [.d (.sl s), .d (.int .i64 n), .d (.sl code)], .agg [.d (.int .i64 op), .d (.int .i64 a), .d (.int .i64 b), .d (.str t)]] H
      (fun r H' => H' = H ∧ r = .agg [.d (.sl s), .d (.int .i64 n), .d (.sl (code ++ [insR op a b t]))]) := by
  refine acalls Try.func38 (by kernel_rfl) ac38_ok fun hf => ?_
  simp -implicitDefEqProofs [ac38, kw, ew, sw, tw, a_, b_, c_, -List.set_cons_succ, -List.set_cons_zero, A.ok, A.val, d_, e_, f_, g_, h_, i_, j_, k_, l_, m_, unA, unD, n_, AOp.total, o_, p_, q_, r_, s_, t_, u_, v_, A.thaw, C.thaw, A.fits, As.fits, C.fits, evs, oks, w_, A.pure, C.pure, A.re, C.re, x_, y_, cut, A.cells, C.rows?, z_, A_, B_, C_, D_, Ob.re, Cs.fits, E_, F_, G_, H_, I_, J_, K_, L_, M_, N_, O_, C.toD, P_, Q_, R_, S_, T_, Obs.fits, U_, eqD, V_, W_, X_, Y_, Z_]
  exact ⟨ha, by unfold maxApp; omega, ha, by unfold maxApp; omega, hf, rfl⟩
theorem slot_calls (m : List (Int × Nat)) (code : List (List D)) (n : Int) (k v : Nat) (hk : k < 26) (hm : slotO m k = none) (hv : v ≤ 1000000) (H : Heap) :
    ACalls Try.prog 55 [.agg [.d (.sl (slotsR m)), .d (.int .i64 n), .d (.sl code)], .c (.d (.int .i64 k)), .c (.d (.int .i64 v))] H
      (fun r H' => H' = H ∧ r = .agg [.d (.sl (slotsR (m ++ [((k : Int), v)]))), .d (.int .i64 n), .d (.sl code)]) := by
  refine acalls Try.func55 (by kernel_rfl) ac55_ok fun hf => ?_
  simp -implicitDefEqProofs [ac55, slotsR_len, slotsR_all, kw, ew, sw, tw, a_, b_, c_, -List.set_cons_succ, -List.set_cons_zero, A.ok, A.val, d_, e_, f_, g_, h_, i_, j_, k_, l_, m_, unA, unD, n_, AOp.total, o_, p_, q_, r_, s_, t_, u_, v_, A.thaw, C.thaw, A.fits, As.fits, C.fits, evs, oks, w_, A.pure, C.pure, A.re, C.re, x_, y_, cut, A.cells, C.rows?, z_, A_, B_, C_, D_, Ob.re, Cs.fits, E_, F_, G_, H_, I_, J_, K_, L_, M_, N_, O_, C.toD, P_, Q_, R_, S_, T_, Obs.fits, U_, eqD, V_, W_, X_, Y_, Z_]
  have hne : ¬ slotsR m = [] := fun h => by have := slotsR_len m; rw [h] at this; cases this
  refine ⟨by unfold maxApp; omega, fun h => absurd h hne, fun _ => ⟨hf, hk, ?_⟩⟩
  have hset := slotsR_set m k v hk hm
  rw [slotsR_get m hk, hm]
  simp -implicitDefEqProofs [hset, hf, kw, ew, sw, tw, a_, b_, c_, -List.set_cons_succ, -List.set_cons_zero, A.ok, A.val, d_, e_, f_, g_, h_, i_, j_, k_, l_, m_, unA, unD, n_, AOp.total, o_, p_, q_, r_, s_, t_, u_, v_, A.thaw, C.thaw, A.fits, As.fits, C.fits, evs, oks, w_, A.pure, C.pure, A.re, C.re, x_, y_, cut, A.cells, C.rows?, z_, A_, B_, C_, D_, Ob.re, Cs.fits, E_, F_, G_, H_, I_, J_, K_, L_, M_, N_, O_, C.toD, P_, Q_, R_, S_, T_, Obs.fits, U_, eqD, V_, W_, X_, Y_, Z_]
theorem var_slot {t : Tm} (ht : t.good) (hk : t.k = 1) : ∃ v : Nat, t.n = v ∧ v < 26 := by
  obtain ⟨k, n, s, l⟩ := t
  cases ht with
  | mk ho _ =>
    rcases own_cases ho with ⟨_, h0, h1, _⟩ | ⟨h, _⟩ | ⟨h, _⟩
    · obtain ⟨v, rfl⟩ := Int.eq_ofNat_of_zero_le h0
      exact ⟨v, rfl, by omega⟩
    · simp only [Tm.k] at hk; omega
    · simp only [Tm.k] at hk; omega
def partR (p : Tm × Nat) : List D := p.1.row ++ [.int .i64 p.2]
theorem partR_len (p : Tm × Nat) : (partR p).length = 5 := by simp [partR, row_len]
theorem args_calls (l : List Tm) (hl : l.length ≤ 1000) (hg : ∀ t ∈ l, t.good) (M : Mk) (B : Nat) (hB : B ≤ 900000) (hM : M.fit B) (H : Heap) :
    ACalls Try.prog 65 [.agg [.d (.sl (slotsR M.sl)), .d (.int .i64 M.next), .d (.sl M.code)], .c (.d (.sl (l.map Tm.row)))] H
      (fun r H' => H' = H ∧ r = .tup [.agg [.d (.sl (slotsR (argsT l M).1.sl)), .d (.int .i64 (argsT l M).1.next), .d (.sl (argsT l M).1.code)], .c (.d (.sl ((argsT l M).2.map partR)))]) := by
  refine acalls Try.func65 (by kernel_rfl) ac65_ok fun hf => ?_
  have hli : inR .i64 (l.length : Int) := small_i64 (by omega) (by omega)
  simp -implicitDefEqProofs [ac65, hli, kw, ew, sw, tw, a_, b_, c_, -List.set_cons_succ, -List.set_cons_zero, A.ok, A.val, d_, e_, f_, g_, h_, i_, j_, k_, l_, m_, unA, unD, n_, AOp.total, o_, p_, q_, r_, s_, t_, u_, v_, A.thaw, C.thaw, A.fits, As.fits, C.fits, evs, oks, w_, A.pure, C.pure, A.re, C.re, x_, y_, cut, A.cells, C.rows?, z_, A_, B_, C_, D_, Ob.re, Cs.fits, E_, F_, G_, H_, I_, J_, K_, L_, M_, N_, O_, C.toD, P_, Q_, R_, S_, T_, Obs.fits, U_, eqD, V_, W_, X_, Y_, Z_]
  refine loop_enter (St.le_token 6 5 rfl) ?_
  obtain ⟨F, hF⟩ : ∃ F, F = argsT l M := ⟨_, rfl⟩
  rw [← hF]
  refine loop_set (σ := Nat × Mk × List (Tm × Nat)) (fun x => [(7, .c (.d (.int .i64 x.1))), (6, .c (.own (.l 2) x.2.2.length (x.2.2.map partR)))]) (fun _ => H)
    (fun x => [.cells [.d (.sl (slotsR x.2.1.sl)), .d (.int .i64 x.2.1.next), .d (.sl x.2.1.code)], .cells [.full [], .d (.int .i64 0), .full []], .grow x.2.2.length 5])
    (fun x => x.1 ≤ l.length ∧ x.2.1.fit (B + 2 * x.1) ∧ F.1 = (argsT (l.drop x.1) x.2.1).1 ∧ F.2 = x.2.2 ++ (argsT (l.drop x.1) x.2.1).2 ∧ x.2.2.length ≤ x.1) (fun x => l.length - x.1) (0, M, []) (by simp [setAll]) ⟨Nat.zero_le _, hM.mono (by omega), by simp [hF], by simp [hF], by simp⟩ ?_
  rintro ⟨i, N, left⟩ ⟨hi, hN, h1, h2, h3⟩
  simp only at hi hN h1 h2 h3
  simp -implicitDefEqProofs [setAll, hli, kw, ew, sw, tw, a_, b_, c_, -List.set_cons_succ, -List.set_cons_zero, A.ok, A.val, d_, e_, f_, g_, h_, i_, j_, k_, l_, m_, unA, unD, n_, AOp.total, o_, p_, q_, r_, s_, t_, u_, v_, A.thaw, C.thaw, A.fits, As.fits, C.fits, evs, oks, w_, A.pure, C.pure, A.re, C.re, x_, y_, cut, A.cells, C.rows?, z_, A_, B_, C_, D_, Ob.re, Cs.fits, E_, F_, G_, H_, I_, J_, K_, L_, M_, N_, O_, C.toD, P_, Q_, R_, S_, T_, Obs.fits, U_, eqD, V_, W_, X_, Y_, Z_]
  refine ⟨fun hlt => ?_, fun hge => ?_⟩
  · have hadd : inR .i64 ((i : Int) + 1) := small_i64 (by omega) (by omega)
    have hnx := hN.next
    have hcd := hN.code
    have hni : inR .i64 (N.next : Int) := small_i64 (by omega) (by omega)
    have hnj : inR .i64 ((N.next : Int) + 1) := small_i64 (by omega) (by omega)
    have hal := hN.all
    have hgt := hg l[i] (List.getElem_mem hlt)
    have hd : l.drop i = l[i] :: l.drop (i + 1) := List.drop_eq_getElem_cons hlt
    rw [hd, argsT] at h1 h2
    have hrow : (l.map Tm.row)[i]? = some l[i].row := by simp [hlt]
    have hvs := var_slot hgt
    obtain ⟨t, ht⟩ : ∃ t, t = l[i] := ⟨_, rfl⟩
    rw [← ht] at hgt h1 h2 hrow hvs
    clear ht
    obtain ⟨k, n, s, kids⟩ := t
    refine row_nat _ hrow rfl ?_
    cases hgt with
    | mk ho hk =>
      rcases own_cases ho with ⟨rfl, n0, n1, rfl, rfl⟩ | ⟨rfl, n0, n1, rfl, rfl⟩ | ⟨rfl, rfl, hs2, hl4⟩
      · obtain ⟨v, hv, hv26⟩ := hvs rfl
        simp only [Tm.n] at hv
        subst hv
        simp [Mk.desc, Tm.k, Tm.n] at h1 h2
        have hget := slotsR_get N.sl hv26
        simp -implicitDefEqProofs [row_mk, hf, kw, ew, sw, tw, a_, b_, c_, -List.set_cons_succ, -List.set_cons_zero, A.ok, A.val, d_, e_, f_, g_, h_, i_, j_, k_, l_, m_, unA, unD, n_, AOp.total, o_, p_, q_, r_, s_, t_, u_, v_, A.thaw, C.thaw, A.fits, As.fits, C.fits, evs, oks, w_, A.pure, C.pure, A.re, C.re, x_, y_, cut, A.cells, C.rows?, z_, A_, B_, C_, D_, Ob.re, Cs.fits, E_, F_, G_, H_, I_, J_, K_, L_, M_, N_, O_, C.toD, P_, Q_, R_, S_, T_, Obs.fits, U_, eqD, V_, W_, X_, Y_, Z_]
        refine row_nat _ hget rfl ?_
        cases hsv : slotO N.sl v with
        | some u =>
          simp only [hsv] at h1 h2
          have hu0 : ¬ (u : Int) < 0 := by omega
          simp -implicitDefEqProofs [hu0, hf, kw, ew, sw, tw, a_, b_, c_, -List.set_cons_succ, -List.set_cons_zero, A.ok, A.val, d_, e_, f_, g_, h_, i_, j_, k_, l_, m_, unA, unD, n_, AOp.total, o_, p_, q_, r_, s_, t_, u_, v_, A.thaw, C.thaw, A.fits, As.fits, C.fits, evs, oks, w_, A.pure, C.pure, A.re, C.re, x_, y_, cut, A.cells, C.rows?, z_, A_, B_, C_, D_, Ob.re, Cs.fits, E_, F_, G_, H_, I_, J_, K_, L_, M_, N_, O_, C.toD, P_, Q_, R_, S_, T_, Obs.fits, U_, eqD, V_, W_, X_, Y_, Z_]
          refine row_nat _ hget rfl ?_
          simp -implicitDefEqProofs [hsv, hf, kw, ew, sw, tw, a_, b_, c_, -List.set_cons_succ, -List.set_cons_zero, A.ok, A.val, d_, e_, f_, g_, h_, i_, j_, k_, l_, m_, unA, unD, n_, AOp.total, o_, p_, q_, r_, s_, t_, u_, v_, A.thaw, C.thaw, A.fits, As.fits, C.fits, evs, oks, w_, A.pure, C.pure, A.re, C.re, x_, y_, cut, A.cells, C.rows?, z_, A_, B_, C_, D_, Ob.re, Cs.fits, E_, F_, G_, H_, I_, J_, K_, L_, M_, N_, O_, C.toD, P_, Q_, R_, S_, T_, Obs.fits, U_, eqD, V_, W_, X_, Y_, Z_]
          refine qcall_pure (emit_calls _ _ _ _ _ _ _ (by omega) hal) hf rfl ?_
          simp -implicitDefEqProofs [hadd, hf, kw, ew, sw, tw, a_, b_, c_, -List.set_cons_succ, -List.set_cons_zero, A.ok, A.val, d_, e_, f_, g_, h_, i_, j_, k_, l_, m_, unA, unD, n_, AOp.total, o_, p_, q_, r_, s_, t_, u_, v_, A.thaw, C.thaw, A.fits, As.fits, C.fits, evs, oks, w_, A.pure, C.pure, A.re, C.re, x_, y_, cut, A.cells, C.rows?, z_, A_, B_, C_, D_, Ob.re, Cs.fits, E_, F_, G_, H_, I_, J_, K_, L_, M_, N_, O_, C.toD, P_, Q_, R_, S_, T_, Obs.fits, U_, eqD, V_, W_, X_, Y_, Z_]
          refine loop_less (i + 1, N.emit 5 u 0 [], left) (St.le_cut [_] ?_ (by simp [Sl.le, A.le_refl_iff, A.le_u_iff, As.lo, A.lo, C.lo, Ref.lo, Cs.lo, Obs.lo, Ob.lo, setAll, and_true, true_and, List.length_nil, List.length_cons]) rfl (by simp [Sl.le, A.le_refl_iff, A.le_u_iff, As.lo, A.lo, C.lo, Ref.lo, Cs.lo, Obs.lo, Ob.lo, setAll, and_true, true_and, List.length_nil, List.length_cons])) ⟨hlt, (hN.emit ..).mono (by omega), h1, h2, by simp only; omega⟩ (by show l.length - (i + 1) < l.length - i; omega)
          simp [setAll, Sl.le, A.le_refl_iff, A.le_u_iff, As.lo, A.lo, C.lo, Ref.lo, Cs.lo, Obs.lo, Ob.lo, setAll, and_true, true_and, List.length_nil, List.length_cons]
        | none =>
          simp only [hsv] at h1 h2
          simp -implicitDefEqProofs [hf, kw, ew, sw, tw, a_, b_, c_, -List.set_cons_succ, -List.set_cons_zero, A.ok, A.val, d_, e_, f_, g_, h_, i_, j_, k_, l_, m_, unA, unD, n_, AOp.total, o_, p_, q_, r_, s_, t_, u_, v_, A.thaw, C.thaw, A.fits, As.fits, C.fits, evs, oks, w_, A.pure, C.pure, A.re, C.re, x_, y_, cut, A.cells, C.rows?, z_, A_, B_, C_, D_, Ob.re, Cs.fits, E_, F_, G_, H_, I_, J_, K_, L_, M_, N_, O_, C.toD, P_, Q_, R_, S_, T_, Obs.fits, U_, eqD, V_, W_, X_, Y_, Z_]
          refine qcall_pure (slot_calls N.sl N.code _ v N.next hv26 hsv (by omega)) hf rfl ?_
          simp -implicitDefEqProofs [hf, kw, ew, sw, tw, a_, b_, c_, -List.set_cons_succ, -List.set_cons_zero, A.ok, A.val, d_, e_, f_, g_, h_, i_, j_, k_, l_, m_, unA, unD, n_, AOp.total, o_, p_, q_, r_, s_, t_, u_, v_, A.thaw, C.thaw, A.fits, As.fits, C.fits, evs, oks, w_, A.pure, C.pure, A.re, C.re, x_, y_, cut, A.cells, C.rows?, z_, A_, B_, C_, D_, Ob.re, Cs.fits, E_, F_, G_, H_, I_, J_, K_, L_, M_, N_, O_, C.toD, P_, Q_, R_, S_, T_, Obs.fits, U_, eqD, V_, W_, X_, Y_, Z_]
          refine qcall_pure (emit_calls _ _ _ _ _ _ _ (by omega) hal) hf rfl ?_
          simp -implicitDefEqProofs [hadd, hnj, hf, kw, ew, sw, tw, a_, b_, c_, -List.set_cons_succ, -List.set_cons_zero, A.ok, A.val, d_, e_, f_, g_, h_, i_, j_, k_, l_, m_, unA, unD, n_, AOp.total, o_, p_, q_, r_, s_, t_, u_, v_, A.thaw, C.thaw, A.fits, As.fits, C.fits, evs, oks, w_, A.pure, C.pure, A.re, C.re, x_, y_, cut, A.cells, C.rows?, z_, A_, B_, C_, D_, Ob.re, Cs.fits, E_, F_, G_, H_, I_, J_, K_, L_, M_, N_, O_, C.toD, P_, Q_, R_, S_, T_, Obs.fits, U_, eqD, V_, W_, X_, Y_, Z_]
          refine loop_less (i + 1, ((N.give v N.next).emit 4 N.next 0 []).bump, left) (St.le_cut [_] ?_ (by simp [Sl.le, A.le_refl_iff, A.le_u_iff, As.lo, A.lo, C.lo, Ref.lo, Cs.lo, Obs.lo, Ob.lo, setAll, and_true, true_and, List.length_nil, List.length_cons]) rfl (by simp [Sl.le, A.le_refl_iff, A.le_u_iff, As.lo, A.lo, C.lo, Ref.lo, Cs.lo, Obs.lo, Ob.lo, setAll, and_true, true_and, List.length_nil, List.length_cons])) ⟨hlt, ((hN.give _ _ hnx).emit ..).bump.mono (by omega), h1, h2, by simp only; omega⟩ (by show l.length - (i + 1) < l.length - i; omega)
          simp [setAll, Sl.le, A.le_refl_iff, A.le_u_iff, As.lo, A.lo, C.lo, Ref.lo, Cs.lo, Obs.lo, Ob.lo, setAll, and_true, true_and, List.length_nil, List.length_cons]
      · simp [Mk.desc, Tm.k, Tm.n] at h1 h2
        simp -implicitDefEqProofs [row_mk, hf, kw, ew, sw, tw, a_, b_, c_, -List.set_cons_succ, -List.set_cons_zero, A.ok, A.val, d_, e_, f_, g_, h_, i_, j_, k_, l_, m_, unA, unD, n_, AOp.total, o_, p_, q_, r_, s_, t_, u_, v_, A.thaw, C.thaw, A.fits, As.fits, C.fits, evs, oks, w_, A.pure, C.pure, A.re, C.re, x_, y_, cut, A.cells, C.rows?, z_, A_, B_, C_, D_, Ob.re, Cs.fits, E_, F_, G_, H_, I_, J_, K_, L_, M_, N_, O_, C.toD, P_, Q_, R_, S_, T_, Obs.fits, U_, eqD, V_, W_, X_, Y_, Z_]
        refine qcall_pure (emit_calls _ _ _ _ _ _ _ (by omega) hal) hf rfl ?_
        simp -implicitDefEqProofs [hadd, hf, kw, ew, sw, tw, a_, b_, c_, -List.set_cons_succ, -List.set_cons_zero, A.ok, A.val, d_, e_, f_, g_, h_, i_, j_, k_, l_, m_, unA, unD, n_, AOp.total, o_, p_, q_, r_, s_, t_, u_, v_, A.thaw, C.thaw, A.fits, As.fits, C.fits, evs, oks, w_, A.pure, C.pure, A.re, C.re, x_, y_, cut, A.cells, C.rows?, z_, A_, B_, C_, D_, Ob.re, Cs.fits, E_, F_, G_, H_, I_, J_, K_, L_, M_, N_, O_, C.toD, P_, Q_, R_, S_, T_, Obs.fits, U_, eqD, V_, W_, X_, Y_, Z_]
        refine loop_less (i + 1, N.emit 6 n 0 [], left) (St.le_cut [_] ?_ (by simp [Sl.le, A.le_refl_iff, A.le_u_iff, As.lo, A.lo, C.lo, Ref.lo, Cs.lo, Obs.lo, Ob.lo, setAll, and_true, true_and, List.length_nil, List.length_cons]) rfl (by simp [Sl.le, A.le_refl_iff, A.le_u_iff, As.lo, A.lo, C.lo, Ref.lo, Cs.lo, Obs.lo, Ob.lo, setAll, and_true, true_and, List.length_nil, List.length_cons])) ⟨hlt, (hN.emit ..).mono (by omega), h1, h2, by simp only; omega⟩ (by show l.length - (i + 1) < l.length - i; omega)
        simp [setAll, Sl.le, A.le_refl_iff, A.le_u_iff, As.lo, A.lo, C.lo, Ref.lo, Cs.lo, Obs.lo, Ob.lo, setAll, and_true, true_and, List.length_nil, List.length_cons]
      · simp [Tm.k] at h1 h2
        simp -implicitDefEqProofs [row_mk, hf, kw, ew, sw, tw, a_, b_, c_, -List.set_cons_succ, -List.set_cons_zero, A.ok, A.val, d_, e_, f_, g_, h_, i_, j_, k_, l_, m_, unA, unD, n_, AOp.total, o_, p_, q_, r_, s_, t_, u_, v_, A.thaw, C.thaw, A.fits, As.fits, C.fits, evs, oks, w_, A.pure, C.pure, A.re, C.re, x_, y_, cut, A.cells, C.rows?, z_, A_, B_, C_, D_, Ob.re, Cs.fits, E_, F_, G_, H_, I_, J_, K_, L_, M_, N_, O_, C.toD, P_, Q_, R_, S_, T_, Obs.fits, U_, eqD, V_, W_, X_, Y_, Z_]
        refine row_off [.int .i64 0] ?_
        simp -implicitDefEqProofs [hf, kw, ew, sw, tw, a_, b_, c_, -List.set_cons_succ, -List.set_cons_zero, A.ok, A.val, d_, e_, f_, g_, h_, i_, j_, k_, l_, m_, unA, unD, n_, AOp.total, o_, p_, q_, r_, s_, t_, u_, v_, A.thaw, C.thaw, A.fits, As.fits, C.fits, evs, oks, w_, A.pure, C.pure, A.re, C.re, x_, y_, cut, A.cells, C.rows?, z_, A_, B_, C_, D_, Ob.re, Cs.fits, E_, F_, G_, H_, I_, J_, K_, L_, M_, N_, O_, C.toD, P_, Q_, R_, S_, T_, Obs.fits, U_, eqD, V_, W_, X_, Y_, Z_]
        refine ⟨allLen_map partR_len, by unfold maxApp; omega, qcall_pure (emit_calls _ _ _ _ _ _ _ (by omega) hal) hf rfl ?_⟩
        simp -implicitDefEqProofs [hadd, hnj, hf, kw, ew, sw, tw, a_, b_, c_, -List.set_cons_succ, -List.set_cons_zero, A.ok, A.val, d_, e_, f_, g_, h_, i_, j_, k_, l_, m_, unA, unD, n_, AOp.total, o_, p_, q_, r_, s_, t_, u_, v_, A.thaw, C.thaw, A.fits, As.fits, C.fits, evs, oks, w_, A.pure, C.pure, A.re, C.re, x_, y_, cut, A.cells, C.rows?, z_, A_, B_, C_, D_, Ob.re, Cs.fits, E_, F_, G_, H_, I_, J_, K_, L_, M_, N_, O_, C.toD, P_, Q_, R_, S_, T_, Obs.fits, U_, eqD, V_, W_, X_, Y_, Z_]
        refine loop_less (i + 1, (N.emit 4 N.next 0 []).bump, left ++ [(.mk 3 0 s kids, N.next)]) (St.le_cut [_] ?_ (by simp [Sl.le, A.le_refl_iff, A.le_u_iff, As.lo, A.lo, C.lo, Ref.lo, Cs.lo, Obs.lo, Ob.lo, setAll, and_true, true_and, List.length_nil, List.length_cons]) (by simp [Mk.emit, Mk.bump]; rfl) (by simp [Sl.le, A.le_refl_iff, A.le_u_iff, As.lo, A.lo, C.lo, Ref.lo, Cs.lo, Obs.lo, Ob.lo, setAll, and_true, true_and, List.length_nil, List.length_cons])) ⟨hlt, (hN.emit ..).bump.mono (by omega), h1, by simp [h2], by simp; omega⟩ (by show l.length - (i + 1) < l.length - i; omega)
        simp [setAll, partR, row_mk, Sl.le, A.le_refl_iff, A.le_u_iff, As.lo, A.lo, C.lo, Ref.lo, Cs.lo, Obs.lo, Ob.lo, setAll, and_true, true_and, List.length_nil, List.length_cons]
  · obtain rfl : i = l.length := by omega
    simp [argsT] at h1 h2
    simp -implicitDefEqProofs [h1, h2, hf, kw, ew, sw, tw, a_, b_, c_, -List.set_cons_succ, -List.set_cons_zero, A.ok, A.val, d_, e_, f_, g_, h_, i_, j_, k_, l_, m_, unA, unD, n_, AOp.total, o_, p_, q_, r_, s_, t_, u_, v_, A.thaw, C.thaw, A.fits, As.fits, C.fits, evs, oks, w_, A.pure, C.pure, A.re, C.re, x_, y_, cut, A.cells, C.rows?, z_, A_, B_, C_, D_, Ob.re, Cs.fits, E_, F_, G_, H_, I_, J_, K_, L_, M_, N_, O_, C.toD, P_, Q_, R_, S_, T_, Obs.fits, U_, eqD, V_, W_, X_, Y_, Z_]
theorem qsize_app (a b : List (Tm × Nat)) : qsize (a ++ b) = qsize a + qsize b := by simp [qsize]
theorem good_kids {k n : Int} {s : List UInt8} {l : List Tm} (h : (Tm.mk k n s l).good) : l.length ≤ 4 ∧ ∀ t ∈ l, t.good := by
  cases h with
  | mk ho hk =>
    rcases own_cases ho with ⟨_, _, _, _, rfl⟩ | ⟨_, _, _, _, rfl⟩ | ⟨_, _, _, h4⟩
    · exact ⟨by simp, hk⟩
    · exact ⟨by simp, hk⟩
    · exact ⟨h4, hk⟩
end Go.Proofs.Yteighafofbohcaa
