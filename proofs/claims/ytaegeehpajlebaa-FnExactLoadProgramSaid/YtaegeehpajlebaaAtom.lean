/-
  Atoms.
  Conditions: none.
-/
import Derived.Test.YtaegeehpajlebaaTerm
open Go Go.AM Go.Proofs
namespace Go.Proofs.Ytaegeehpajlebaa
open Go.ChangeShapes Go.WideShapes Go.ChangeAt Go.RowKit
set_option linter.unusedVariables false
set_option linter.unusedSimpArgs false
set_option maxRecDepth 100000
-- 118 loop.example/prologserver/impl.isAtom params 1 ntmps 12
def ac118 : Cd := .seq (.region [⟨(some 1), .box (.t 0), none⟩,
      ⟨(some 2), .mv (.k (.c (.d (.bool false)))), none⟩] [0, 2])
  (.seq (.region [⟨(some 3), .fieldAddr 0 (.t 1), none⟩,
      ⟨(some 4), .load none (.t 3), none⟩,
      ⟨(some 5), .bin .eql (.t 4) (.k (.c (.d (.int .i64 3)))), none⟩,
      ⟨(some 6), .mv (.t 5), none⟩,
      ⟨(some 7), .fieldAddr 3 (.t 1), some (6, true)⟩,
      ⟨(some 8), .load none (.t 7), some (6, true)⟩,
      ⟨(some 9), .len 1 (.t 8), some (6, true)⟩,
      ⟨(some 10), .bin .eql (.t 9) (.k (.c (.d (.int .i64 0)))), some (6, true)⟩,
      ⟨(some 11), .pick (.t 6) (.t 10) (.k (.c (.d (.bool false)))), none⟩,
      ⟨(some 2), .mv (.t 11), none⟩] [1, 3, 4, 5, 6, 7, 8, 9, 10, 11])
  (.ret))
theorem ac118_ok : cFunc Try.prog [] [(0, [0, 2], []), (1, [1, 3, 4, 5, 6, 7, 8, 9, 10, 11], [])] Try.f118 = some (ac118, [.tmp 2], 12) := by kernel_rfl
theorem isAtom_calls (t : Tm) (ht : t.fits) (H : Heap) : ACalls Try.prog 118 [.agg (t.row.map .d)] H (fun r H' => H' = H ∧ r = .c (.d (.bool (decide (t.k = 3) && t.kids.isEmpty)))) := by
  obtain ⟨k, n, s, l⟩ := t
  obtain ⟨_, _, hs, hl, hkids⟩ := ht
  have hli : inR .i64 (l.length : Int) := small_i64 (by omega) (by omega)
  refine acalls Try.func118 (by kernel_rfl) ac118_ok fun hf => ?_
  by_cases hk : k = 3
  · simp -implicitDefEqProofs [ac118, row_mk, hk, hli, Tm.k, Tm.kids, isEmpty_len, kw, ew, sw, tw, a_, b_, c_, -List.set_cons_succ, -List.set_cons_zero, A.ok, A.val, d_, e_, f_, g_, h_, i_, j_, k_, l_, m_, unA, unD, n_, AOp.total, o_, p_, q_, r_, s_, t_, u_, v_, A.thaw, C.thaw, A.fits, As.fits, C.fits, evs, oks, w_, A.pure, C.pure, A.re, C.re, x_, y_, cut, A.cells, C.rows?, z_, A_, B_, C_, D_, Ob.re, Cs.fits, E_, F_, G_, H_, I_, J_, K_, L_, M_, N_, O_, C.toD, P_, Q_, R_, S_, T_, Obs.fits, U_, eqD, V_, W_, X_, Y_, Z_]
  · simp -implicitDefEqProofs [ac118, row_mk, hk, hli, Tm.k, kw, ew, sw, tw, a_, b_, c_, -List.set_cons_succ, -List.set_cons_zero, A.ok, A.val, d_, e_, f_, g_, h_, i_, j_, k_, l_, m_, unA, unD, n_, AOp.total, o_, p_, q_, r_, s_, t_, u_, v_, A.thaw, C.thaw, A.fits, As.fits, C.fits, evs, oks, w_, A.pure, C.pure, A.re, C.re, x_, y_, cut, A.cells, C.rows?, z_, A_, B_, C_, D_, Ob.re, Cs.fits, E_, F_, G_, H_, I_, J_, K_, L_, M_, N_, O_, C.toD, P_, Q_, R_, S_, T_, Obs.fits, U_, eqD, V_, W_, X_, Y_, Z_]
end Go.Proofs.Ytaegeehpajlebaa
