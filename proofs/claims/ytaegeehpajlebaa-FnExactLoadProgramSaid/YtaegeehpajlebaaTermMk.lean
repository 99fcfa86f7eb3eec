/-
  A term's kids are marked, and looked at again.
  Conditions: none.
-/
import Derived.Test.YtaegeehpajlebaaTermO
open Go Go.AM Go.Proofs
namespace Go.Proofs.Ytaegeehpajlebaa
open Go.ChangeShapes Go.WideShapes Go.ChangeAt Go.RowKit
set_option linter.unusedVariables false
set_option linter.unusedSimpArgs false
set_option maxRecDepth 100000
-- 15 loop.example/prologserver/laws.markTerm params 2 ntmps 10
def ac15 : Cd := .seq (.region [⟨(some 2), .box (.t 0), none⟩,
      ⟨(some 4), .mv (.k (.c (.d (.int .i64 0)))), none⟩] [0, 4])
  (.seq (.region [⟨(some 5), .fieldAddr 3 (.t 2), none⟩,
      ⟨(some 6), .load none (.t 5), none⟩,
      ⟨(some 7), .mv (.t 1), none⟩,
      ⟨(some 8), .call false 24 [(.t 6), (.t 7)], none⟩,
      ⟨(some 1), .mv (.t 8), none⟩] [2, 5, 6, 7, 8])
  (.seq (.region [⟨(some 9), .mv (.t 1), none⟩,
      ⟨(some 4), .mv (.t 9), none⟩] [1, 9])
  (.ret)))
theorem ac15_ok : cFunc Try.prog [] [(0, [0, 4], []), (1, [2, 5, 6, 7, 8], []), (2, [1, 9], [])] Try.f15 = some (ac15, [.tmp 4], 10) := by kernel_rfl
-- 17 loop.example/prologserver/laws.heldTerm params 2 ntmps 12
def ac17 : Cd := .seq (.region [⟨(some 2), .box (.t 0), none⟩,
      ⟨(some 4), .mv (.k (.c (.d (.int .i64 0)))), none⟩] [0, 4])
  (.seq (.region [⟨(some 5), .fieldAddr 3 (.t 2), none⟩,
      ⟨(some 6), .load none (.t 5), none⟩,
      ⟨(some 7), .mv (.t 1), none⟩,
      ⟨(some 8), .qcall 57 [(.t 6), (.t 7)], none⟩,
      ⟨(some 1), .mv (.t 8), none⟩] [2, 5, 6, 7, 8])
  (.seq (.seq (.region [⟨(some 9), .mv (.t 1), none⟩,
        ⟨(some 10), .bin .lss (.t 9) (.k (.c (.d (.int .i64 0)))), none⟩] [9])
    (.cond (.t 10)
      (.seq (.region [⟨(some 4), .mv (.k (.c (.d (.int .i64 (-1))))), none⟩] [1, 10])
      (.ret))
      (.skip)))
  (.seq (.region [⟨(some 11), .mv (.t 1), none⟩,
      ⟨(some 4), .mv (.t 11), none⟩] [1, 10, 11])
  (.ret))))
theorem ac17_ok : cFunc Try.prog [1000057] [(0, [0, 4], []), (1, [2, 5, 6, 7, 8], []), (2, [9], []), (3, [1, 10], []), (4, [1, 10, 11], [])] Try.f17 = some (ac17, [.tmp 4], 12) := by kernel_rfl
theorem markTerm_calls (t : Tm) (h : t.fits) (k : Int) (h0 : 0 ≤ k) (h1 : k + 3 * t.sub ≤ 500000000000000) (kv : Value) :
    ACalls Try.prog 15 [.agg [.d (.int .i64 t.k), .d (.int .i64 t.n), .d (.str t.s), .d (.v kv)], .c (.d (.int .i64 k))] [.tree kv (t.kids.map Tm.row)]
    (fun r H' => H' = [.tree kv ((mTms k t.kids).map Tm.row)] ∧ r = .c (.d (.int .i64 (k + 3 * t.sub)))) := by
  refine acalls Try.func15 (by kernel_rfl) ac15_ok fun hf => ?_
  simp -implicitDefEqProofs [ac15, kw, ew, sw, tw, a_, b_, c_, -List.set_cons_succ, -List.set_cons_zero, A.ok, A.val, d_, e_, f_, g_, h_, i_, j_, k_, l_, m_, unA, unD, n_, AOp.total, o_, p_, q_, r_, s_, t_, u_, v_, A.thaw, C.thaw, A.fits, As.fits, C.fits, evs, oks, w_, A.pure, C.pure, A.re, C.re, x_, y_, cut, A.cells, C.rows?, z_, A_, B_, C_, D_, Ob.re, Cs.fits, E_, F_, G_, H_, I_, J_, K_, L_, M_, N_, O_, C.toD, P_, Q_, R_, S_, T_, Obs.fits, U_, eqD, V_, W_, X_, Y_, Z_]
  refine call_ext (J := [0]) (markT_calls t h k h0 h1 kv) (fun r H' ⟨h1, h2⟩ => by subst h1; subst h2; exact ⟨⟨rfl, rfl⟩, rfl⟩) rfl (.cons (.c .d) (.cons (.c .d) .nil)) (by simp) rfl rfl ⟨trivial, trivial⟩ ?_
  rintro _ _ ⟨rfl, rfl⟩
  simp -implicitDefEqProofs [putAll, kw, ew, sw, tw, a_, b_, c_, -List.set_cons_succ, -List.set_cons_zero, A.ok, A.val, d_, e_, f_, g_, h_, i_, j_, k_, l_, m_, unA, unD, n_, AOp.total, o_, p_, q_, r_, s_, t_, u_, v_, A.thaw, C.thaw, A.fits, As.fits, C.fits, evs, oks, w_, A.pure, C.pure, A.re, C.re, x_, y_, cut, A.cells, C.rows?, z_, A_, B_, C_, D_, Ob.re, Cs.fits, E_, F_, G_, H_, I_, J_, K_, L_, M_, N_, O_, C.toD, P_, Q_, R_, S_, T_, Obs.fits, U_, eqD, V_, W_, X_, Y_, Z_]
theorem heldTerm_calls (t : Tm) (h : t.fits) (a b : Int) (s : List UInt8) (k : Int) (h0 : 0 ≤ k) (h1 : k + 3 * t.sub ≤ 500000000000000) (H : Heap) :
    ACalls Try.prog 17 [.agg [.d (.int .i64 a), .d (.int .i64 b), .d (.str s), .d (.sl ((mTms k t.kids).map Tm.row))], .c (.d (.int .i64 k))] H
    (fun r H' => H' = H ∧ r = .c (.d (.int .i64 (k + 3 * t.sub)))) := by
  refine acalls Try.func17 (by kernel_rfl) ac17_ok fun hf => ?_
  simp -implicitDefEqProofs [ac17, kw, ew, sw, tw, a_, b_, c_, -List.set_cons_succ, -List.set_cons_zero, A.ok, A.val, d_, e_, f_, g_, h_, i_, j_, k_, l_, m_, unA, unD, n_, AOp.total, o_, p_, q_, r_, s_, t_, u_, v_, A.thaw, C.thaw, A.fits, As.fits, C.fits, evs, oks, w_, A.pure, C.pure, A.re, C.re, x_, y_, cut, A.cells, C.rows?, z_, A_, B_, C_, D_, Ob.re, Cs.fits, E_, F_, G_, H_, I_, J_, K_, L_, M_, N_, O_, C.toD, P_, Q_, R_, S_, T_, Obs.fits, U_, eqD, V_, W_, X_, Y_, Z_]
  refine qcall_pure (heldT_calls t h k h0 h1) hf rfl ?_
  have : ¬ (k + 3 * (t.sub : Int) < 0) := by omega
  simp -implicitDefEqProofs [this, kw, ew, sw, tw, a_, b_, c_, -List.set_cons_succ, -List.set_cons_zero, A.ok, A.val, d_, e_, f_, g_, h_, i_, j_, k_, l_, m_, unA, unD, n_, AOp.total, o_, p_, q_, r_, s_, t_, u_, v_, A.thaw, C.thaw, A.fits, As.fits, C.fits, evs, oks, w_, A.pure, C.pure, A.re, C.re, x_, y_, cut, A.cells, C.rows?, z_, A_, B_, C_, D_, Ob.re, Cs.fits, E_, F_, G_, H_, I_, J_, K_, L_, M_, N_, O_, C.toD, P_, Q_, R_, S_, T_, Obs.fits, U_, eqD, V_, W_, X_, Y_, Z_]
theorem fz_tm {H : Heap} {i : Nat} {v : Value} {t : Tm} (h : H[i]? = some (.tree v (t.kids.map Tm.row))) : FzA H [] (.agg [.d (.int .i64 t.k), .d (.int .i64 t.n), .d (.str t.s), .d (.v v)]) (.agg (t.row.map .d)) := by
  rw [row_eq]
  exact .agg (.cons .d (.cons .d (.cons .d (.cons (.tree h (by simp)) .nil))))
theorem fz_row {H : Heap} {J : List Nat} {t : Tm} : FzA H J (.agg (t.row.map .d)) (.agg (t.row.map .d)) := .agg (fzCs_id _)
end Go.Proofs.Ytaegeehpajlebaa
