/-
  Code of clauses, as values and as memory that is handed out.
  Conditions: none.
-/
import Derived.Test.YtaegeehpajlebaaCmO
import Derived.Test.YtaegeehpajlebaaClauseO
open Go Go.AM Go.Proofs
namespace Go.Proofs.Ytaegeehpajlebaa
open Go.ChangeShapes Go.WideShapes Go.ChangeAt Go.RowKit
set_option linter.unusedVariables false
set_option linter.unusedSimpArgs false
set_option maxRecDepth 100000
theorem codeC_fit (c : Cl) (hv : c.validB = true) : ∃ B, B ≤ 100000 ∧ (bodyT c.body (headT c.head.kids mk0)).fit B := by
  obtain ⟨g1, g2, g3, g4⟩ := validB_head hv
  obtain ⟨h1, h2, h3⟩ := goalsB_iff g4
  have hk := good_kids (k := c.head.k) (n := c.head.n) (s := c.head.s) (l := c.head.kids) (by cases hc : c.head; rw [hc] at g1; exact g1)
  have hz : sizes c.head.kids ≤ 120 := by cases hc : c.head; rw [hc, Tm.size] at g2; show sizes _ ≤ _; simp only [Tm.kids]; omega
  exact ⟨_, by omega, (goals_fit _ _ _ (headT_fit c.head.kids hk.1)).emit 14 0 0 []⟩
section
variable {c : Cl} (hft : c.fits) (hv : c.validB = true)
include hft hv
theorem ccv_calls (H : Heap) : ACalls Try.prog 67 [.agg (c.row.map .d)] H (fun r H' => H' = H ∧ r = .c (.d (.sl (codeC c)))) := by
  obtain ⟨g1, g2, g3, g4⟩ := validB_head hv
  obtain ⟨h1, h2, h3⟩ := goalsB_iff g4
  obtain ⟨_, h4⟩ := goalsB_all g4
  obtain ⟨hfh, _, hfb⟩ := hft
  obtain ⟨⟨k, n, s, kids⟩, body⟩ := c
  have hkg := good_kids g1
  rw [Tm.size] at g2
  refine acalls Try.func67 (by kernel_rfl) Own.ac67_ok fun hf => ?_
  simp -implicitDefEqProofs [Own.ac67, Cl.row, Tm.kids, Tm.k, Tm.n, Tm.s, kw, ew, sw, tw, a_, b_, c_, -List.set_cons_succ, -List.set_cons_zero, A.ok, A.val, d_, e_, f_, g_, h_, i_, j_, k_, l_, m_, unA, unD, n_, AOp.total, o_, p_, q_, r_, s_, t_, u_, v_, A.thaw, C.thaw, A.fits, As.fits, C.fits, evs, oks, w_, A.pure, C.pure, A.re, C.re, x_, y_, cut, A.cells, C.rows?, z_, A_, B_, C_, D_, Ob.re, Cs.fits, E_, F_, G_, H_, I_, J_, K_, L_, M_, N_, O_, C.toD, P_, Q_, R_, S_, T_, Obs.fits, U_, eqD, V_, W_, X_, Y_, Z_]
  refine call_newC (by simp [Ob.re, C.re]) hf ?_
  simp -implicitDefEqProofs [hf, kw, ew, sw, tw, a_, b_, c_, -List.set_cons_succ, -List.set_cons_zero, A.ok, A.val, d_, e_, f_, g_, h_, i_, j_, k_, l_, m_, unA, unD, n_, AOp.total, o_, p_, q_, r_, s_, t_, u_, v_, A.thaw, C.thaw, A.fits, As.fits, C.fits, evs, oks, w_, A.pure, C.pure, A.re, C.re, x_, y_, cut, A.cells, C.rows?, z_, A_, B_, C_, D_, Ob.re, Cs.fits, E_, F_, G_, H_, I_, J_, K_, L_, M_, N_, O_, C.toD, P_, Q_, R_, S_, T_, Obs.fits, U_, eqD, V_, W_, X_, Y_, Z_]
  refine call_mkL (pre := [.cells [.d (.int .i64 k), .d (.int .i64 n), .d (.str s), .d (.sl (kids.map Tm.row)), .d (.sl (body.map Tm.row))]]) (post := []) (head_makes kids hkg.1 (by omega) hkg.2 mk0 4 (by omega) (by omega) mk0_fit) rfl rfl rfl hf ?_
  simp -implicitDefEqProofs [hf, kw, ew, sw, tw, a_, b_, c_, -List.set_cons_succ, -List.set_cons_zero, A.ok, A.val, d_, e_, f_, g_, h_, i_, j_, k_, l_, m_, unA, unD, n_, AOp.total, o_, p_, q_, r_, s_, t_, u_, v_, A.thaw, C.thaw, A.fits, As.fits, C.fits, evs, oks, w_, A.pure, C.pure, A.re, C.re, x_, y_, cut, A.cells, C.rows?, z_, A_, B_, C_, D_, Ob.re, Cs.fits, E_, F_, G_, H_, I_, J_, K_, L_, M_, N_, O_, C.toD, P_, Q_, R_, S_, T_, Obs.fits, U_, eqD, V_, W_, X_, Y_, Z_]
  refine call_body h1 hfb h4 (by omega) (headT_fit kids hkg.1) [.cells [.d (.int .i64 k), .d (.int .i64 n), .d (.str s), .d (.sl (kids.map Tm.row)), .d (.sl (body.map Tm.row))]] [] rfl rfl hf ?_
  simp -implicitDefEqProofs [hf, codeC, Tm.kids, kw, ew, sw, tw, a_, b_, c_, -List.set_cons_succ, -List.set_cons_zero, A.ok, A.val, d_, e_, f_, g_, h_, i_, j_, k_, l_, m_, unA, unD, n_, AOp.total, o_, p_, q_, r_, s_, t_, u_, v_, A.thaw, C.thaw, A.fits, As.fits, C.fits, evs, oks, w_, A.pure, C.pure, A.re, C.re, x_, y_, cut, A.cells, C.rows?, z_, A_, B_, C_, D_, Ob.re, Cs.fits, E_, F_, G_, H_, I_, J_, K_, L_, M_, N_, O_, C.toD, P_, Q_, R_, S_, T_, Obs.fits, U_, eqD, V_, W_, X_, Y_, Z_]
theorem ccOwn_calls : ACalls Try.prog 67 [.agg (c.row.map .d)] [] (HandsRows (codeC c)) := by
  obtain ⟨BB, _, hfit⟩ := codeC_fit c hv
  obtain ⟨g1, g2, g3, g4⟩ := validB_head hv
  obtain ⟨h1, h2, h3⟩ := goalsB_iff g4
  obtain ⟨_, h4⟩ := goalsB_all g4
  obtain ⟨hfh, _, hfb⟩ := hft
  obtain ⟨⟨k, n, s, kids⟩, body⟩ := c
  have hkg := good_kids g1
  rw [Tm.size] at g2
  refine acallsT Try.func67 (by kernel_rfl) Own.ac67_ok ?_
  simp -implicitDefEqProofs [Own.ac67, Cl.row, Tm.kids, Tm.k, Tm.n, Tm.s, kw, ew, sw, tw, a_, b_, c_, -List.set_cons_succ, -List.set_cons_zero, A.ok, A.val, d_, e_, f_, g_, h_, i_, j_, k_, l_, m_, unA, unD, n_, AOp.total, o_, p_, q_, r_, s_, t_, u_, v_, A.thaw, C.thaw, A.fits, As.fits, C.fits, evs, oks, w_, A.pure, C.pure, A.re, C.re, x_, y_, cut, A.cells, C.rows?, z_, A_, B_, C_, D_, Ob.re, Cs.fits, E_, F_, G_, H_, I_, J_, K_, L_, M_, N_, O_, C.toD, P_, Q_, R_, S_, T_, Obs.fits, U_, eqD, V_, W_, X_, Y_, Z_]
  refine call_newC (by simp [Ob.re, C.re]) trivial ?_
  simp -implicitDefEqProofs [kw, ew, sw, tw, a_, b_, c_, -List.set_cons_succ, -List.set_cons_zero, A.ok, A.val, d_, e_, f_, g_, h_, i_, j_, k_, l_, m_, unA, unD, n_, AOp.total, o_, p_, q_, r_, s_, t_, u_, v_, A.thaw, C.thaw, A.fits, As.fits, C.fits, evs, oks, w_, A.pure, C.pure, A.re, C.re, x_, y_, cut, A.cells, C.rows?, z_, A_, B_, C_, D_, Ob.re, Cs.fits, E_, F_, G_, H_, I_, J_, K_, L_, M_, N_, O_, C.toD, P_, Q_, R_, S_, T_, Obs.fits, U_, eqD, V_, W_, X_, Y_, Z_]
  refine call_mkL (pre := [.cells [.d (.int .i64 k), .d (.int .i64 n), .d (.str s), .d (.sl (kids.map Tm.row)), .d (.sl (body.map Tm.row))]]) (post := []) (head_makes kids hkg.1 (by omega) hkg.2 mk0 4 (by omega) (by omega) mk0_fit) rfl rfl rfl trivial ?_
  simp -implicitDefEqProofs [kw, ew, sw, tw, a_, b_, c_, -List.set_cons_succ, -List.set_cons_zero, A.ok, A.val, d_, e_, f_, g_, h_, i_, j_, k_, l_, m_, unA, unD, n_, AOp.total, o_, p_, q_, r_, s_, t_, u_, v_, A.thaw, C.thaw, A.fits, As.fits, C.fits, evs, oks, w_, A.pure, C.pure, A.re, C.re, x_, y_, cut, A.cells, C.rows?, z_, A_, B_, C_, D_, Ob.re, Cs.fits, E_, F_, G_, H_, I_, J_, K_, L_, M_, N_, O_, C.toD, P_, Q_, R_, S_, T_, Obs.fits, U_, eqD, V_, W_, X_, Y_, Z_]
  refine call_body h1 hfb h4 (by omega) (headT_fit kids hkg.1) [.cells [.d (.int .i64 k), .d (.int .i64 n), .d (.str s), .d (.sl (kids.map Tm.row)), .d (.sl (body.map Tm.row))]] [] rfl rfl trivial ?_
  simp -implicitDefEqProofs [codeC, Tm.kids, kw, ew, sw, tw, a_, b_, c_, -List.set_cons_succ, -List.set_cons_zero, A.ok, A.val, d_, e_, f_, g_, h_, i_, j_, k_, l_, m_, unA, unD, n_, AOp.total, o_, p_, q_, r_, s_, t_, u_, v_, A.thaw, C.thaw, A.fits, As.fits, C.fits, evs, oks, w_, A.pure, C.pure, A.re, C.re, x_, y_, cut, A.cells, C.rows?, z_, A_, B_, C_, D_, Ob.re, Cs.fits, E_, F_, G_, H_, I_, J_, K_, L_, M_, N_, O_, C.toD, P_, Q_, R_, S_, T_, Obs.fits, U_, eqD, V_, W_, X_, Y_, Z_]
  exact finT_ret _ ⟨trivial, trivial⟩ rfl fun kv => ⟨_, _, _, .one (.c (.own (js := []) rfl rfl ((strip_flat (code_flat _ _ hfit)).2 ⟨rfl, rfl⟩) rfl (fun m hm => by simp at hm))), by simp, _, rfl, rfl⟩
end
theorem ccImpl_calls (c : Cl) (hft : c.fits) (H : Heap) : ACalls Try.prog 30 [.agg (c.row.map .d)] H
    (fun r H' => H' = H ∧ r = .tup [.c (.d (.sl (if c.validB then codeC c else []))), .c (.d (.bool c.validB))]) := by
  have c1 := cvImpl_calls c hft
  have c2 := fun hv => ccv_calls hft hv
  simp only [Cl.row, List.map_cons, List.map_nil] at c1 c2
  refine acalls Try.func30 (by kernel_rfl) Own.ac30_ok fun hf => ?_
  simp -implicitDefEqProofs [Own.ac30, Cl.row, kw, ew, sw, tw, a_, b_, c_, -List.set_cons_succ, -List.set_cons_zero, A.ok, A.val, d_, e_, f_, g_, h_, i_, j_, k_, l_, m_, unA, unD, n_, AOp.total, o_, p_, q_, r_, s_, t_, u_, v_, A.thaw, C.thaw, A.fits, As.fits, C.fits, evs, oks, w_, A.pure, C.pure, A.re, C.re, x_, y_, cut, A.cells, C.rows?, z_, A_, B_, C_, D_, Ob.re, Cs.fits, E_, F_, G_, H_, I_, J_, K_, L_, M_, N_, O_, C.toD, P_, Q_, R_, S_, T_, Obs.fits, U_, eqD, V_, W_, X_, Y_, Z_]
  refine qcall_pure c1 hf rfl ?_
  cases hv : c.validB with
  | false => simp -implicitDefEqProofs [kw, ew, sw, tw, a_, b_, c_, -List.set_cons_succ, -List.set_cons_zero, A.ok, A.val, d_, e_, f_, g_, h_, i_, j_, k_, l_, m_, unA, unD, n_, AOp.total, o_, p_, q_, r_, s_, t_, u_, v_, A.thaw, C.thaw, A.fits, As.fits, C.fits, evs, oks, w_, A.pure, C.pure, A.re, C.re, x_, y_, cut, A.cells, C.rows?, z_, A_, B_, C_, D_, Ob.re, Cs.fits, E_, F_, G_, H_, I_, J_, K_, L_, M_, N_, O_, C.toD, P_, Q_, R_, S_, T_, Obs.fits, U_, eqD, V_, W_, X_, Y_, Z_]
  | true =>
    simp -implicitDefEqProofs [kw, ew, sw, tw, a_, b_, c_, -List.set_cons_succ, -List.set_cons_zero, A.ok, A.val, d_, e_, f_, g_, h_, i_, j_, k_, l_, m_, unA, unD, n_, AOp.total, o_, p_, q_, r_, s_, t_, u_, v_, A.thaw, C.thaw, A.fits, As.fits, C.fits, evs, oks, w_, A.pure, C.pure, A.re, C.re, x_, y_, cut, A.cells, C.rows?, z_, A_, B_, C_, D_, Ob.re, Cs.fits, E_, F_, G_, H_, I_, J_, K_, L_, M_, N_, O_, C.toD, P_, Q_, R_, S_, T_, Obs.fits, U_, eqD, V_, W_, X_, Y_, Z_]
    refine call_same (c2 hv _) (by simp [Ob.re, C.re]) rfl hf ?_
    simp -implicitDefEqProofs [kw, ew, sw, tw, a_, b_, c_, -List.set_cons_succ, -List.set_cons_zero, A.ok, A.val, d_, e_, f_, g_, h_, i_, j_, k_, l_, m_, unA, unD, n_, AOp.total, o_, p_, q_, r_, s_, t_, u_, v_, A.thaw, C.thaw, A.fits, As.fits, C.fits, evs, oks, w_, A.pure, C.pure, A.re, C.re, x_, y_, cut, A.cells, C.rows?, z_, A_, B_, C_, D_, Ob.re, Cs.fits, E_, F_, G_, H_, I_, J_, K_, L_, M_, N_, O_, C.toD, P_, Q_, R_, S_, T_, Obs.fits, U_, eqD, V_, W_, X_, Y_, Z_]
theorem ccxOwn_calls (c : Cl) (hft : c.fits) : ACalls Try.prog 30 [.agg (c.row.map .d)] [] (HandsCode (if c.validB then codeC c else []) c.validB) := by
  have c1 := cvImpl_calls c hft
  have c2 := fun hv => ccOwn_calls hft hv
  simp only [Cl.row, List.map_cons, List.map_nil] at c1 c2
  refine acallsT Try.func30 (by kernel_rfl) Own.ac30_ok ?_
  simp -implicitDefEqProofs [Own.ac30, Cl.row, kw, ew, sw, tw, a_, b_, c_, -List.set_cons_succ, -List.set_cons_zero, A.ok, A.val, d_, e_, f_, g_, h_, i_, j_, k_, l_, m_, unA, unD, n_, AOp.total, o_, p_, q_, r_, s_, t_, u_, v_, A.thaw, C.thaw, A.fits, As.fits, C.fits, evs, oks, w_, A.pure, C.pure, A.re, C.re, x_, y_, cut, A.cells, C.rows?, z_, A_, B_, C_, D_, Ob.re, Cs.fits, E_, F_, G_, H_, I_, J_, K_, L_, M_, N_, O_, C.toD, P_, Q_, R_, S_, T_, Obs.fits, U_, eqD, V_, W_, X_, Y_, Z_]
  refine qcall_pure c1 trivial rfl ?_
  cases hv : c.validB with
  | false =>
    simp -implicitDefEqProofs [kw, ew, sw, tw, a_, b_, c_, -List.set_cons_succ, -List.set_cons_zero, A.ok, A.val, d_, e_, f_, g_, h_, i_, j_, k_, l_, m_, unA, unD, n_, AOp.total, o_, p_, q_, r_, s_, t_, u_, v_, A.thaw, C.thaw, A.fits, As.fits, C.fits, evs, oks, w_, A.pure, C.pure, A.re, C.re, x_, y_, cut, A.cells, C.rows?, z_, A_, B_, C_, D_, Ob.re, Cs.fits, E_, F_, G_, H_, I_, J_, K_, L_, M_, N_, O_, C.toD, P_, Q_, R_, S_, T_, Obs.fits, U_, eqD, V_, W_, X_, Y_, Z_]
    exact finT_ret _ ⟨trivial, trivial, trivial⟩ rfl fun kv => ⟨_, _, _, .tup (.cons (.c .full) (.cons (.c (.leaf rfl)) .nil)), by simp, _, rfl, rfl⟩
  | true =>
    simp -implicitDefEqProofs [kw, ew, sw, tw, a_, b_, c_, -List.set_cons_succ, -List.set_cons_zero, A.ok, A.val, d_, e_, f_, g_, h_, i_, j_, k_, l_, m_, unA, unD, n_, AOp.total, o_, p_, q_, r_, s_, t_, u_, v_, A.thaw, C.thaw, A.fits, As.fits, C.fits, evs, oks, w_, A.pure, C.pure, A.re, C.re, x_, y_, cut, A.cells, C.rows?, z_, A_, B_, C_, D_, Ob.re, Cs.fits, E_, F_, G_, H_, I_, J_, K_, L_, M_, N_, O_, C.toD, P_, Q_, R_, S_, T_, Obs.fits, U_, eqD, V_, W_, X_, Y_, Z_]
    refine call_loc (J := []) (c2 hv) (fun r H' h => h.handed) (by simp [Ob.re, C.re]) (.cons (.agg (fzCs_id [.int .i64 c.head.k, .int .i64 c.head.n, .str c.head.s, .sl (c.head.kids.map Tm.row), .sl (c.body.map Tm.row)])) .nil) List.nodup_nil rfl rfl ?_
    rintro _ _ ⟨v, rfl, rfl⟩ _
    simp -implicitDefEqProofs [putAll, kw, ew, sw, tw, a_, b_, c_, -List.set_cons_succ, -List.set_cons_zero, A.ok, A.val, d_, e_, f_, g_, h_, i_, j_, k_, l_, m_, unA, unD, n_, AOp.total, o_, p_, q_, r_, s_, t_, u_, v_, A.thaw, C.thaw, A.fits, As.fits, C.fits, evs, oks, w_, A.pure, C.pure, A.re, C.re, x_, y_, cut, A.cells, C.rows?, z_, A_, B_, C_, D_, Ob.re, Cs.fits, E_, F_, G_, H_, I_, J_, K_, L_, M_, N_, O_, C.toD, P_, Q_, R_, S_, T_, Obs.fits, U_, eqD, V_, W_, X_, Y_, Z_]
    exact finT_ret _ ⟨trivial, trivial, trivial⟩ rfl fun kv => ⟨_, _, _, .tup (.cons (.c (.tree (j := 1) rfl)) (.cons (.c (.leaf rfl)) .nil)), by simp, _, rfl, rfl⟩
theorem codeC_ins (c : Cl) : ∃ L : List Ins, (if c.validB then codeC c else []) = L.map Ins.row ∧ L.length ≤ 1000000 := by
  cases hv : c.validB with
  | false => exact ⟨[], by simp, by simp⟩
  | true =>
    obtain ⟨BB, hB, hfit⟩ := codeC_fit c hv
    obtain ⟨L, hL, _⟩ := list_of_ty (f := Ins.row) (p := fun _ => True) (rows := codeC c) fun r hr => by
      obtain ⟨x, hx⟩ := hfit.rows r hr
      exact ⟨x, hx, trivial⟩
    have hc : (codeC c).length ≤ _ := hfit.code
    refine ⟨L, by simpa using hL, ?_⟩
    rw [hL] at hc
    simp at hc
    omega
end Go.Proofs.Ytaegeehpajlebaa
