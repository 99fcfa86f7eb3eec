/-
  Clauses are counted.
  Conditions: none.
-/
import Derived.Test.YtaegeehpajlebaaTermMk
import Derived.Test.YtaegeehpajlebaaClause
open Go Go.AM Go.Proofs
namespace Go.Proofs.Ytaegeehpajlebaa
open Go.ChangeShapes Go.WideShapes Go.ChangeAt Go.RowKit
set_option linter.unusedVariables false
set_option linter.unusedSimpArgs false
set_option maxRecDepth 100000
def Cl.wt (c : Cl) : Nat := c.head.wt + Tm.wts c.body
/-- the terms below a clause -/
def Cl.sub (c : Cl) : Nat := c.head.sub + Tm.cnt c.body
theorem csub_wt (c : Cl) : c.sub ≤ c.wt := by
  have h1 := sub_wt c.head
  have h2 := cnt_wts c.body
  simp only [Cl.sub, Cl.wt]; omega
def SzWC (t : Cl) : Prop := ∀ (m : Int), 0 ≤ m → m ≤ 1048576 → ∀ H, ACalls Try.prog 27 [.agg (t.row.map .d), .c (.d (.int .i64 m))] H (fun r H' => H' = H ∧ LeftW m t.fits t.wt r)
theorem szwClause_calls (c : Cl) (hc : c.fine) : SzWC c := fun m h0 h1 H => by
  obtain ⟨h, b⟩ := c
  obtain ⟨hh, hl, hb⟩ := hc
  have c1 := szwTerm_calls h hh m h0 h1
  rw [row_eq] at c1
  simp only [List.map_cons, List.map_nil] at c1
  refine acalls Try.func27 (by kernel_rfl) ac27_ok fun hf => ?_
  simp -implicitDefEqProofs [ac27, Cl.row, kw, ew, sw, tw, a_, b_, c_, -List.set_cons_succ, -List.set_cons_zero, A.ok, A.val, d_, e_, f_, g_, h_, i_, j_, k_, l_, m_, unA, unD, n_, AOp.total, o_, p_, q_, r_, s_, t_, u_, v_, A.thaw, C.thaw, A.fits, As.fits, C.fits, evs, oks, w_, A.pure, C.pure, A.re, C.re, x_, y_, cut, A.cells, C.rows?, z_, A_, B_, C_, D_, Ob.re, Cs.fits, E_, F_, G_, H_, I_, J_, K_, L_, M_, N_, O_, C.toD, P_, Q_, R_, S_, T_, Obs.fits, U_, eqD, V_, W_, X_, Y_, Z_]
  refine call_some (c1 _) (by simp [Ob.re, C.re]) (fun r => LeftW.re) hf ?_
  rintro _ ⟨q, rfl, hq0, hq1, hq2⟩
  simp -implicitDefEqProofs [kw, ew, sw, tw, a_, b_, c_, -List.set_cons_succ, -List.set_cons_zero, A.ok, A.val, d_, e_, f_, g_, h_, i_, j_, k_, l_, m_, unA, unD, n_, AOp.total, o_, p_, q_, r_, s_, t_, u_, v_, A.thaw, C.thaw, A.fits, As.fits, C.fits, evs, oks, w_, A.pure, C.pure, A.re, C.re, x_, y_, cut, A.cells, C.rows?, z_, A_, B_, C_, D_, Ob.re, Cs.fits, E_, F_, G_, H_, I_, J_, K_, L_, M_, N_, O_, C.toD, P_, Q_, R_, S_, T_, Obs.fits, U_, eqD, V_, W_, X_, Y_, Z_]
  refine ⟨fun _ => ⟨-1, rfl, by omega, by omega, fun h => by omega⟩, fun hq => ?_⟩
  refine call_some (szwTermS_calls b hl hb q hq (by omega) _) (by simp [Ob.re, C.re]) (fun r => LeftW.re) hf ?_
  rintro _ ⟨q2, rfl, hp0, hp1, hp2⟩
  simp -implicitDefEqProofs [kw, ew, sw, tw, a_, b_, c_, -List.set_cons_succ, -List.set_cons_zero, A.ok, A.val, d_, e_, f_, g_, h_, i_, j_, k_, l_, m_, unA, unD, n_, AOp.total, o_, p_, q_, r_, s_, t_, u_, v_, A.thaw, C.thaw, A.fits, As.fits, C.fits, evs, oks, w_, A.pure, C.pure, A.re, C.re, x_, y_, cut, A.cells, C.rows?, z_, A_, B_, C_, D_, Ob.re, Cs.fits, E_, F_, G_, H_, I_, J_, K_, L_, M_, N_, O_, C.toD, P_, Q_, R_, S_, T_, Obs.fits, U_, eqD, V_, W_, X_, Y_, Z_]
  exact ⟨fun _ => ⟨-1, rfl, by omega, by omega, fun h => by omega⟩, fun hp => ⟨q2, rfl, by omega, by omega, fun _ => ⟨⟨(hq2 hq).1, (hp2 hp).1.1, (hp2 hp).1.2⟩, by have h1 := (hq2 hq).2; have h2 := (hp2 hp).2; simp only [Cl.wt]; omega⟩⟩⟩
end Go.Proofs.Ytaegeehpajlebaa
