/-
  A number in a range.
  Conditions: none.
-/
import Derived.Test.YtaegeehpajlebaaBase
open Go Go.AM Go.Proofs
namespace Go.Proofs.Ytaegeehpajlebaa
open Go.ChangeShapes Go.WideShapes Go.ChangeAt Go.RowKit
set_option linter.unusedVariables false
set_option linter.unusedSimpArgs false
set_option maxRecDepth 100000
-- 90 loop.example/prologserver/impl.within params 3 ntmps 15
def ac90 : Cd := .seq (.region [⟨(some 6), .mv (.k (.c (.d (.bool false)))), none⟩] [6])
  (.seq (.region [⟨(some 7), .mv (.t 1), none⟩,
      ⟨(some 8), .mv (.t 0), none⟩,
      ⟨(some 9), .bin .leq (.t 7) (.t 8), none⟩,
      ⟨(some 10), .mv (.t 9), none⟩,
      ⟨(some 11), .mv (.t 0), some (10, true)⟩,
      ⟨(some 12), .mv (.t 2), some (10, true)⟩,
      ⟨(some 13), .bin .leq (.t 11) (.t 12), some (10, true)⟩,
      ⟨(some 14), .pick (.t 10) (.t 13) (.k (.c (.d (.bool false)))), none⟩,
      ⟨(some 6), .mv (.t 14), none⟩] [0, 1, 2, 7, 8, 9, 10, 11, 12, 13, 14])
  (.ret))
theorem ac90_ok : cFunc Try.prog [] [(0, [6], []), (1, [0, 1, 2, 7, 8, 9, 10, 11, 12, 13, 14], [])] Try.f90 = some (ac90, [.tmp 6], 15) := by kernel_rfl
theorem within_calls (x lo hi : Int) (H : Heap) : ACalls Try.prog 90 [.c (.d (.int .i64 x)), .c (.d (.int .i64 lo)), .c (.d (.int .i64 hi))] H (fun r H' => H' = H ∧ r = .c (.d (.bool (decide (lo ≤ x) && decide (x ≤ hi))))) := by
  refine acalls Try.func90 (by kernel_rfl) ac90_ok fun hf => ?_
  simp -implicitDefEqProofs [ac90, kw, ew, sw, tw, a_, b_, c_, -List.set_cons_succ, -List.set_cons_zero, A.ok, A.val, d_, e_, f_, g_, h_, i_, j_, k_, l_, m_, unA, unD, n_, AOp.total, o_, p_, q_, r_, s_, t_, u_, v_, A.thaw, C.thaw, A.fits, As.fits, C.fits, evs, oks, w_, A.pure, C.pure, A.re, C.re, x_, y_, cut, A.cells, C.rows?, z_, A_, B_, C_, D_, Ob.re, Cs.fits, E_, F_, G_, H_, I_, J_, K_, L_, M_, N_, O_, C.toD, P_, Q_, R_, S_, T_, Obs.fits, U_, eqD, V_, W_, X_, Y_, Z_]
end Go.Proofs.Ytaegeehpajlebaa
