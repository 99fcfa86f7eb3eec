/-
  The law FnExactLoadProgram holds: impl.LoadProgram answers as spec.LoadProgram does, with memory of its own.
  Conditions: none.
-/
import Derived.Test.YtaegeehpajlebaaCmL
import Derived.Test.YtaegeehpajlebaaClauseM
import Derived.Test.YtaegeehpajlebaaTermTy
open Go Go.AM Go.Proofs
namespace Go.Proofs.Ytaegeehpajlebaa
open Go.ChangeShapes Go.WideShapes Go.ChangeAt Go.RowKit
set_option linter.unusedVariables false
set_option linter.unusedSimpArgs false
set_option maxRecDepth 100000
-- 6 loop.example/prologserver/laws.FnExactLoadProgram params 1 ntmps 96
def ac6 : Cd := .seq (.region [⟨(some 2), .mv (.k (.c (.d (.bool false)))), none⟩] [2])
  (.seq (.region [⟨(some 3), .mv (.k (.c (.d (.int .i64 1048576)))), none⟩] [])
  (.seq (.region [⟨(some 14), .mv (.t 0), none⟩,
      ⟨(some 15), .mv (.t 3), none⟩,
      ⟨(some 16), .call false 33 [(.t 14), (.t 15)], none⟩,
      ⟨(some 3), .mv (.t 16), none⟩] [14, 15, 16])
  (.seq (.seq (.region [⟨(some 17), .mv (.t 3), none⟩,
        ⟨(some 18), .bin .lss (.t 17) (.k (.c (.d (.int .i64 0)))), none⟩] [3, 17])
    (.cond (.t 18)
      (.seq (.region [⟨(some 2), .mv (.k (.c (.d (.bool true)))), none⟩] [0, 18])
      (.ret))
      (.skip)))
  (.seq (.region [⟨(some 20), .mv (.t 0), none⟩,
      ⟨(some 21), .qcall 35 [(.t 20)], none⟩,
      ⟨(some 22), .qcall 34 [(.t 21)], none⟩,
      ⟨(some 19), .mv (.t 22), none⟩,
      ⟨(some 23), .extract 0 (.t 19), none⟩,
      ⟨(some 24), .extract 1 (.t 19), none⟩,
      ⟨(some 4), .mv (.t 23), none⟩,
      ⟨(some 5), .mv (.t 24), none⟩] [2, 18, 19, 20, 21, 22, 23, 24])
  (.seq (.region [⟨(some 25), .mv (.t 0), none⟩,
      ⟨(some 26), .call false 35 [(.t 25)], none⟩,
      ⟨(some 6), .mv (.t 26), none⟩] [25, 26])
  (.seq (.region [⟨(some 28), .mv (.t 6), none⟩,
      ⟨(some 29), .call false 36 [(.t 28)], none⟩,
      ⟨(some 27), .mv (.t 29), none⟩,
      ⟨(some 30), .extract 0 (.t 27), none⟩,
      ⟨(some 31), .extract 1 (.t 27), none⟩,
      ⟨(some 7), .mv (.t 30), none⟩,
      ⟨(some 8), .mv (.t 31), none⟩] [27, 28, 29, 30, 31])
  (.seq (.seq (.region [⟨(some 32), .mv (.t 7), none⟩,
        ⟨(some 33), .mv (.t 4), none⟩,
        ⟨(some 34), .qcall 37 [(.t 32), (.t 33)], none⟩,
        ⟨(some 35), .un .not (.t 34), none⟩,
        ⟨(some 36), .mv (.t 35), none⟩,
        ⟨(some 37), .mv (.t 8), some (36, false)⟩,
        ⟨(some 38), .mv (.t 5), some (36, false)⟩,
        ⟨(some 39), .binB true (.t 37) (.t 38), some (36, false)⟩,
        ⟨(some 40), .pick (.t 36) (.k (.c (.d (.bool true)))) (.t 39), none⟩] [32, 33, 34, 35, 36, 37, 38, 39])
    (.cond (.t 40)
      (.seq (.region [⟨(some 2), .mv (.k (.c (.d (.bool false)))), none⟩] [0, 4, 5, 6, 7, 8, 40])
      (.ret))
      (.skip)))
  (.seq (.seq (.region [⟨(some 41), .mv (.t 6), none⟩,
        ⟨(some 42), .mv (.t 0), none⟩,
        ⟨(some 43), .qcall 35 [(.t 42)], none⟩,
        ⟨(some 44), .qcall 38 [(.t 41), (.t 43)], none⟩,
        ⟨(some 45), .un .not (.t 44), none⟩] [2, 40, 41, 42, 43, 44])
    (.cond (.t 45)
      (.seq (.region [⟨(some 2), .mv (.k (.c (.d (.bool false)))), none⟩] [0, 4, 5, 6, 7, 8, 45])
      (.ret))
      (.skip)))
  (.seq (.region [⟨(some 9), .mv (.k (.c (.d (.int .i64 1)))), none⟩] [2, 45])
  (.seq (.region [⟨(some 46), .mv (.t 6), none⟩,
      ⟨(some 47), .mv (.t 9), none⟩,
      ⟨(some 48), .call false 39 [(.t 46), (.t 47)], none⟩,
      ⟨(some 9), .mv (.t 48), none⟩] [6, 46, 47, 48])
  (.seq (.seq (.region [⟨(some 49), .mv (.t 9), none⟩,
        ⟨(some 50), .bin .lss (.t 49) (.k (.c (.d (.int .i64 0)))), none⟩,
        ⟨(some 51), .mv (.t 50), none⟩,
        ⟨(some 52), .mv (.t 7), some (51, false)⟩,
        ⟨(some 53), .mv (.t 4), some (51, false)⟩,
        ⟨(some 54), .qcall 37 [(.t 52), (.t 53)], some (51, false)⟩,
        ⟨(some 55), .un .not (.t 54), some (51, false)⟩,
        ⟨(some 56), .pick (.t 51) (.k (.c (.d (.bool true)))) (.t 55), none⟩,
        ⟨(some 57), .mv (.t 56), none⟩,
        ⟨(some 58), .mv (.t 8), some (57, false)⟩,
        ⟨(some 59), .mv (.t 5), some (57, false)⟩,
        ⟨(some 60), .binB true (.t 58) (.t 59), some (57, false)⟩,
        ⟨(some 61), .pick (.t 57) (.k (.c (.d (.bool true)))) (.t 60), none⟩] [8, 9, 49, 50, 51, 52, 53, 54, 55, 56, 57, 58, 59, 60])
    (.cond (.t 61)
      (.seq (.region [⟨(some 2), .mv (.k (.c (.d (.bool false)))), none⟩] [0, 4, 5, 7, 61])
      (.ret))
      (.skip)))
  (.seq (.region [⟨(some 10), .mv (.k (.c (.d (.int .i64 1)))), none⟩] [2, 61])
  (.seq (.region [⟨(some 62), .mv (.t 7), none⟩,
      ⟨(some 63), .mv (.t 10), none⟩,
      ⟨(some 64), .call false 40 [(.t 62), (.t 63)], none⟩,
      ⟨(some 10), .mv (.t 64), none⟩] [62, 63, 64])
  (.seq (.region [⟨(some 11), .mv (.k (.c (.d (.int .i64 1)))), none⟩] [])
  (.seq (.region [⟨(some 65), .mv (.t 7), none⟩,
      ⟨(some 66), .mv (.t 11), none⟩,
      ⟨(some 67), .qcall 41 [(.t 65), (.t 66)], none⟩,
      ⟨(some 11), .mv (.t 67), none⟩] [65, 66, 67])
  (.seq (.seq (.region [⟨(some 68), .mv (.t 11), none⟩,
        ⟨(some 69), .bin .lss (.t 68) (.k (.c (.d (.int .i64 0)))), none⟩] [68])
    (.cond (.t 69)
      (.seq (.region [⟨(some 2), .mv (.k (.c (.d (.bool false)))), none⟩] [0, 4, 5, 7, 10, 11, 69])
      (.ret))
      (.skip)))
  (.seq (.seq (.region [⟨(some 70), .mv (.t 11), none⟩,
        ⟨(some 71), .mv (.t 10), none⟩,
        ⟨(some 72), .bin .neq (.t 70) (.t 71), none⟩] [2, 11, 69, 70, 71])
    (.cond (.t 72)
      (.seq (.region [⟨(some 2), .mv (.k (.c (.d (.bool false)))), none⟩] [0, 4, 5, 7, 10, 72])
      (.ret))
      (.skip)))
  (.seq (.region [⟨(some 74), .mv (.t 0), none⟩,
      ⟨(some 75), .qcall 35 [(.t 74)], none⟩,
      ⟨(some 76), .call false 36 [(.t 75)], none⟩,
      ⟨(some 73), .mv (.t 76), none⟩,
      ⟨(some 77), .extract 0 (.t 73), none⟩,
      ⟨(some 78), .extract 1 (.t 73), none⟩,
      ⟨(some 12), .mv (.t 77), none⟩,
      ⟨(some 13), .mv (.t 78), none⟩] [0, 2, 72, 73, 74, 75, 76, 77, 78])
  (.seq (.seq (.region [⟨(some 79), .mv (.t 12), none⟩,
        ⟨(some 80), .mv (.t 4), none⟩,
        ⟨(some 81), .qcall 37 [(.t 79), (.t 80)], none⟩,
        ⟨(some 82), .un .not (.t 81), none⟩,
        ⟨(some 83), .mv (.t 82), none⟩,
        ⟨(some 84), .mv (.t 13), some (83, false)⟩,
        ⟨(some 85), .mv (.t 5), some (83, false)⟩,
        ⟨(some 86), .binB true (.t 84) (.t 85), some (83, false)⟩,
        ⟨(some 87), .pick (.t 83) (.k (.c (.d (.bool true)))) (.t 86), none⟩] [4, 5, 12, 13, 79, 80, 81, 82, 83, 84, 85, 86])
    (.cond (.t 87)
      (.seq (.region [⟨(some 2), .mv (.k (.c (.d (.bool false)))), none⟩] [7, 10, 87])
      (.ret))
      (.skip)))
  (.seq (.region [⟨(some 11), .mv (.k (.c (.d (.int .i64 1)))), none⟩] [2, 87])
  (.seq (.region [⟨(some 88), .mv (.t 7), none⟩,
      ⟨(some 89), .mv (.t 11), none⟩,
      ⟨(some 90), .qcall 41 [(.t 88), (.t 89)], none⟩,
      ⟨(some 11), .mv (.t 90), none⟩] [7, 88, 89, 90])
  (.seq (.seq (.region [⟨(some 91), .mv (.t 11), none⟩,
        ⟨(some 92), .bin .lss (.t 91) (.k (.c (.d (.int .i64 0)))), none⟩] [91])
    (.cond (.t 92)
      (.seq (.region [⟨(some 2), .mv (.k (.c (.d (.bool false)))), none⟩] [10, 11, 92])
      (.ret))
      (.skip)))
  (.seq (.seq (.region [⟨(some 93), .mv (.t 11), none⟩,
        ⟨(some 94), .mv (.t 10), none⟩,
        ⟨(some 95), .bin .neq (.t 93) (.t 94), none⟩] [2, 10, 11, 92, 93, 94])
    (.cond (.t 95)
      (.seq (.region [⟨(some 2), .mv (.k (.c (.d (.bool false)))), none⟩] [95])
      (.ret))
      (.skip)))
  (.seq (.region [⟨(some 2), .mv (.k (.c (.d (.bool true)))), none⟩] [95])
  (.ret)))))))))))))))))))))))))
theorem ac6_ok : cFunc Try.prog [1000034, 1000035, 1000037, 1000038, 1000041, 7000025] [(0, [2], []), (1, [], []), (2, [14, 15, 16], []), (3, [3, 17], []), (4, [0, 18], []), (5, [2, 18, 19, 20, 21, 22, 23, 24], []), (6, [25, 26], []), (7, [27, 28, 29, 30, 31], []), (8, [32, 33, 34, 35, 36, 37, 38, 39], []), (9, [0, 4, 5, 6, 7, 8, 40], []), (10, [2, 40, 41, 42, 43, 44], []), (11, [0, 4, 5, 6, 7, 8, 45], []), (12, [2, 45], []), (13, [6, 46, 47, 48], []), (14, [8, 9, 49, 50, 51, 52, 53, 54, 55, 56, 57, 58, 59, 60], []), (15, [0, 4, 5, 7, 61], []), (16, [2, 61], []), (17, [62, 63, 64], []), (18, [], []), (19, [65, 66, 67], []), (20, [68], []), (21, [0, 4, 5, 7, 10, 11, 69], []), (22, [2, 11, 69, 70, 71], []), (23, [0, 4, 5, 7, 10, 72], []), (24, [0, 2, 72, 73, 74, 75, 76, 77, 78], []), (25, [4, 5, 12, 13, 79, 80, 81, 82, 83, 84, 85, 86], []), (26, [7, 10, 87], []), (27, [2, 87], []), (28, [7, 88, 89, 90], []), (29, [91], []), (30, [10, 11, 92], []), (31, [2, 10, 11, 92, 93, 94], []), (32, [95], []), (33, [95], [])] Try.f6 = some (ac6, [.tmp 2], 96) := by kernel_rfl
theorem tot_small : ∀ (us : List (List Ins)), (∀ u ∈ us, u.length ≤ 1000000) → tot us ≤ us.length * 1000000
  | [], _ => by simp [tot]
  | u :: us, h => by
    have h1 := tot_small us fun v hv => h v (by simp [hv])
    have h2 := h u (by simp)
    simp only [tot, List.map_cons, List.sum_cons, List.length_cons] at h1 ⊢
    omega
theorem lpxLaw_calls (p : List Cl) (hl : p.length ≤ reachBytes) (hfine : ∀ c ∈ p, c.fine) : ACalls Try.prog 6 [.c (.d (.sl (p.map Cl.row)))] [] (fun r _ => r = .c (.d (.bool true))) := by
  refine acalls Try.func6 (by kernel_rfl) ac6_ok fun hf => ?_
  simp -implicitDefEqProofs [ac6, kw, ew, sw, tw, a_, b_, c_, -List.set_cons_succ, -List.set_cons_zero, A.ok, A.val, d_, e_, f_, g_, h_, i_, j_, k_, l_, m_, unA, unD, n_, AOp.total, o_, p_, q_, r_, s_, t_, u_, v_, A.thaw, C.thaw, A.fits, As.fits, C.fits, evs, oks, w_, A.pure, C.pure, A.re, C.re, x_, y_, cut, A.cells, C.rows?, z_, A_, B_, C_, D_, Ob.re, Cs.fits, E_, F_, G_, H_, I_, J_, K_, L_, M_, N_, O_, C.toD, P_, Q_, R_, S_, T_, Obs.fits, U_, eqD, V_, W_, X_, Y_, Z_]
  refine call_some (szwClauseS_calls p hl hfine 1048576 (by omega) (by omega) _) (by simp [Ob.re, C.re]) (fun r => LeftW.re) hf ?_
  rintro _ ⟨k, rfl, _, _, hk⟩
  simp -implicitDefEqProofs [kw, ew, sw, tw, a_, b_, c_, -List.set_cons_succ, -List.set_cons_zero, A.ok, A.val, d_, e_, f_, g_, h_, i_, j_, k_, l_, m_, unA, unD, n_, AOp.total, o_, p_, q_, r_, s_, t_, u_, v_, A.thaw, C.thaw, A.fits, As.fits, C.fits, evs, oks, w_, A.pure, C.pure, A.re, C.re, x_, y_, cut, A.cells, C.rows?, z_, A_, B_, C_, D_, Ob.re, Cs.fits, E_, F_, G_, H_, I_, J_, K_, L_, M_, N_, O_, C.toD, P_, Q_, R_, S_, T_, Obs.fits, U_, eqD, V_, W_, X_, Y_, Z_]
  intro h0
  have hfit : FitsC p := (hk h0).1
  have hw := (hk h0).2
  have hsw := wsum_le csub_wt p
  obtain ⟨u, g1, g2, g3⟩ := load_ins p
  have cs := lpSpec_calls p hfit
  have ci := lpOwn_calls p hfit
  rw [g1] at cs ci
  generalize progB p = ok at cs ci
  have ctc := toClauseS_calls p hfit
  have ctco := toClauseSOwn_calls p hfit
  have ceu := eqInstrSS_calls u (by omega) g3 []
  have cec := eqClauseS_calls p hfit []
  have htot := tot_small u g3
  have hp1 : ¬ (1 + 3 * (wsum Cl.sub p : Int) < 0) := by omega
  have hp2 : ¬ (1 + 4 * (tot u : Int) < 0) := by omega
  have zu : ∀ {H : Heap} {v : Value} {i : Nat}, H[i]? = some (.tree v (sls (insR2 u))) → FzL H [] [.c (.d (.v v)), .c (.d (.sl (sls (insR2 u))))] [.c (.d (.sl (sls (insR2 u)))), .c (.d (.sl (sls (insR2 u))))] := fun h =>
    .cons (.c (.tree h (by simp))) (.cons (.c .d) .nil)
  refine qcall_pure ctc hf rfl ?_
  simp -implicitDefEqProofs [kw, ew, sw, tw, a_, b_, c_, -List.set_cons_succ, -List.set_cons_zero, A.ok, A.val, d_, e_, f_, g_, h_, i_, j_, k_, l_, m_, unA, unD, n_, AOp.total, o_, p_, q_, r_, s_, t_, u_, v_, A.thaw, C.thaw, A.fits, As.fits, C.fits, evs, oks, w_, A.pure, C.pure, A.re, C.re, x_, y_, cut, A.cells, C.rows?, z_, A_, B_, C_, D_, Ob.re, Cs.fits, E_, F_, G_, H_, I_, J_, K_, L_, M_, N_, O_, C.toD, P_, Q_, R_, S_, T_, Obs.fits, U_, eqD, V_, W_, X_, Y_, Z_]
  refine qcall_pure cs hf rfl ?_
  simp -implicitDefEqProofs [kw, ew, sw, tw, a_, b_, c_, -List.set_cons_succ, -List.set_cons_zero, A.ok, A.val, d_, e_, f_, g_, h_, i_, j_, k_, l_, m_, unA, unD, n_, AOp.total, o_, p_, q_, r_, s_, t_, u_, v_, A.thaw, C.thaw, A.fits, As.fits, C.fits, evs, oks, w_, A.pure, C.pure, A.re, C.re, x_, y_, cut, A.cells, C.rows?, z_, A_, B_, C_, D_, Ob.re, Cs.fits, E_, F_, G_, H_, I_, J_, K_, L_, M_, N_, O_, C.toD, P_, Q_, R_, S_, T_, Obs.fits, U_, eqD, V_, W_, X_, Y_, Z_]
  refine call_loc (J := []) ctco (fun r H' h => h.handed) rfl (.cons (.c .d) .nil) List.nodup_nil rfl rfl ?_
  rintro _ _ ⟨vp, rfl, rfl⟩ _
  simp -implicitDefEqProofs [putAll, kw, ew, sw, tw, a_, b_, c_, -List.set_cons_succ, -List.set_cons_zero, A.ok, A.val, d_, e_, f_, g_, h_, i_, j_, k_, l_, m_, unA, unD, n_, AOp.total, o_, p_, q_, r_, s_, t_, u_, v_, A.thaw, C.thaw, A.fits, As.fits, C.fits, evs, oks, w_, A.pure, C.pure, A.re, C.re, x_, y_, cut, A.cells, C.rows?, z_, A_, B_, C_, D_, Ob.re, Cs.fits, E_, F_, G_, H_, I_, J_, K_, L_, M_, N_, O_, C.toD, P_, Q_, R_, S_, T_, Obs.fits, U_, eqD, V_, W_, X_, Y_, Z_]
  refine call_loc (J := []) ci (fun r H' h => h.handed) rfl (.cons (.c (.tree (i := 0) rfl (by simp))) .nil) List.nodup_nil rfl rfl ?_
  rintro _ _ ⟨vu, rfl, rfl⟩ _
  simp -implicitDefEqProofs [putAll, kw, ew, sw, tw, a_, b_, c_, -List.set_cons_succ, -List.set_cons_zero, A.ok, A.val, d_, e_, f_, g_, h_, i_, j_, k_, l_, m_, unA, unD, n_, AOp.total, o_, p_, q_, r_, s_, t_, u_, v_, A.thaw, C.thaw, A.fits, As.fits, C.fits, evs, oks, w_, A.pure, C.pure, A.re, C.re, x_, y_, cut, A.cells, C.rows?, z_, A_, B_, C_, D_, Ob.re, Cs.fits, E_, F_, G_, H_, I_, J_, K_, L_, M_, N_, O_, C.toD, P_, Q_, R_, S_, T_, Obs.fits, U_, eqD, V_, W_, X_, Y_, Z_]
  refine qcall_read ceu rfl hf (zu (i := 1) rfl) ?_
  simp -implicitDefEqProofs [kw, ew, sw, tw, a_, b_, c_, -List.set_cons_succ, -List.set_cons_zero, A.ok, A.val, d_, e_, f_, g_, h_, i_, j_, k_, l_, m_, unA, unD, n_, AOp.total, o_, p_, q_, r_, s_, t_, u_, v_, A.thaw, C.thaw, A.fits, As.fits, C.fits, evs, oks, w_, A.pure, C.pure, A.re, C.re, x_, y_, cut, A.cells, C.rows?, z_, A_, B_, C_, D_, Ob.re, Cs.fits, E_, F_, G_, H_, I_, J_, K_, L_, M_, N_, O_, C.toD, P_, Q_, R_, S_, T_, Obs.fits, U_, eqD, V_, W_, X_, Y_, Z_]
  refine qcall_pure ctc hf rfl ?_
  simp -implicitDefEqProofs [kw, ew, sw, tw, a_, b_, c_, -List.set_cons_succ, -List.set_cons_zero, A.ok, A.val, d_, e_, f_, g_, h_, i_, j_, k_, l_, m_, unA, unD, n_, AOp.total, o_, p_, q_, r_, s_, t_, u_, v_, A.thaw, C.thaw, A.fits, As.fits, C.fits, evs, oks, w_, A.pure, C.pure, A.re, C.re, x_, y_, cut, A.cells, C.rows?, z_, A_, B_, C_, D_, Ob.re, Cs.fits, E_, F_, G_, H_, I_, J_, K_, L_, M_, N_, O_, C.toD, P_, Q_, R_, S_, T_, Obs.fits, U_, eqD, V_, W_, X_, Y_, Z_]
  refine qcall_read cec rfl hf (.cons (.c (.tree (i := 0) rfl (by simp))) (.cons (.c .d) .nil)) ?_
  simp -implicitDefEqProofs [kw, ew, sw, tw, a_, b_, c_, -List.set_cons_succ, -List.set_cons_zero, A.ok, A.val, d_, e_, f_, g_, h_, i_, j_, k_, l_, m_, unA, unD, n_, AOp.total, o_, p_, q_, r_, s_, t_, u_, v_, A.thaw, C.thaw, A.fits, As.fits, C.fits, evs, oks, w_, A.pure, C.pure, A.re, C.re, x_, y_, cut, A.cells, C.rows?, z_, A_, B_, C_, D_, Ob.re, Cs.fits, E_, F_, G_, H_, I_, J_, K_, L_, M_, N_, O_, C.toD, P_, Q_, R_, S_, T_, Obs.fits, U_, eqD, V_, W_, X_, Y_, Z_]
  refine call_loc (J := [0]) (markClauseS_calls p hfit 1 (by omega) (by omega) vp) (fun r H' ⟨h1, h2⟩ => by subst h1; subst h2; exact ⟨rfl, rfl⟩) rfl (.cons (.c .d) (.cons (.c .d) .nil)) (by simp) rfl rfl ?_
  rintro _ _ ⟨rfl, rfl⟩ _
  simp -implicitDefEqProofs [putAll, hp1, kw, ew, sw, tw, a_, b_, c_, -List.set_cons_succ, -List.set_cons_zero, A.ok, A.val, d_, e_, f_, g_, h_, i_, j_, k_, l_, m_, unA, unD, n_, AOp.total, o_, p_, q_, r_, s_, t_, u_, v_, A.thaw, C.thaw, A.fits, As.fits, C.fits, evs, oks, w_, A.pure, C.pure, A.re, C.re, x_, y_, cut, A.cells, C.rows?, z_, A_, B_, C_, D_, Ob.re, Cs.fits, E_, F_, G_, H_, I_, J_, K_, L_, M_, N_, O_, C.toD, P_, Q_, R_, S_, T_, Obs.fits, U_, eqD, V_, W_, X_, Y_, Z_]
  refine qcall_read ceu rfl hf (zu (i := 1) rfl) ?_
  simp -implicitDefEqProofs [kw, ew, sw, tw, a_, b_, c_, -List.set_cons_succ, -List.set_cons_zero, A.ok, A.val, d_, e_, f_, g_, h_, i_, j_, k_, l_, m_, unA, unD, n_, AOp.total, o_, p_, q_, r_, s_, t_, u_, v_, A.thaw, C.thaw, A.fits, As.fits, C.fits, evs, oks, w_, A.pure, C.pure, A.re, C.re, x_, y_, cut, A.cells, C.rows?, z_, A_, B_, C_, D_, Ob.re, Cs.fits, E_, F_, G_, H_, I_, J_, K_, L_, M_, N_, O_, C.toD, P_, Q_, R_, S_, T_, Obs.fits, U_, eqD, V_, W_, X_, Y_, Z_]
  refine call_loc (J := [1]) (markInstrSS_calls u (by omega) 1 (by omega) (by omega) vu) (fun r H' ⟨h1, h2⟩ => by subst h1; subst h2; exact ⟨rfl, rfl⟩) rfl (.cons (.c .d) (.cons (.c .d) .nil)) (by simp) rfl rfl ?_
  rintro _ _ ⟨rfl, rfl⟩ _
  simp -implicitDefEqProofs [putAll, kw, ew, sw, tw, a_, b_, c_, -List.set_cons_succ, -List.set_cons_zero, A.ok, A.val, d_, e_, f_, g_, h_, i_, j_, k_, l_, m_, unA, unD, n_, AOp.total, o_, p_, q_, r_, s_, t_, u_, v_, A.thaw, C.thaw, A.fits, As.fits, C.fits, evs, oks, w_, A.pure, C.pure, A.re, C.re, x_, y_, cut, A.cells, C.rows?, z_, A_, B_, C_, D_, Ob.re, Cs.fits, E_, F_, G_, H_, I_, J_, K_, L_, M_, N_, O_, C.toD, P_, Q_, R_, S_, T_, Obs.fits, U_, eqD, V_, W_, X_, Y_, Z_]
  have zg : ∀ {H : Heap}, H[1]? = some (.tree vu (sls (mSS 1 u))) → FzL H [] [.c (.d (.v vu)), .c (.d (.int .i64 1))] [.c (.d (.sl (sls (mSS 1 u)))), .c (.d (.int .i64 1))] := fun h =>
    .cons (.c (.tree (i := 1) h (by simp))) (.cons (.c .d) .nil)
  refine qcall_read (heldInstrSS_calls u (by omega) 1 (by omega) (by omega) []) rfl hf (zg rfl) ?_
  simp -implicitDefEqProofs [hp2, kw, ew, sw, tw, a_, b_, c_, -List.set_cons_succ, -List.set_cons_zero, A.ok, A.val, d_, e_, f_, g_, h_, i_, j_, k_, l_, m_, unA, unD, n_, AOp.total, o_, p_, q_, r_, s_, t_, u_, v_, A.thaw, C.thaw, A.fits, As.fits, C.fits, evs, oks, w_, A.pure, C.pure, A.re, C.re, x_, y_, cut, A.cells, C.rows?, z_, A_, B_, C_, D_, Ob.re, Cs.fits, E_, F_, G_, H_, I_, J_, K_, L_, M_, N_, O_, C.toD, P_, Q_, R_, S_, T_, Obs.fits, U_, eqD, V_, W_, X_, Y_, Z_]
  refine qcall_pure ctc hf rfl ?_
  simp -implicitDefEqProofs [kw, ew, sw, tw, a_, b_, c_, -List.set_cons_succ, -List.set_cons_zero, A.ok, A.val, d_, e_, f_, g_, h_, i_, j_, k_, l_, m_, unA, unD, n_, AOp.total, o_, p_, q_, r_, s_, t_, u_, v_, A.thaw, C.thaw, A.fits, As.fits, C.fits, evs, oks, w_, A.pure, C.pure, A.re, C.re, x_, y_, cut, A.cells, C.rows?, z_, A_, B_, C_, D_, Ob.re, Cs.fits, E_, F_, G_, H_, I_, J_, K_, L_, M_, N_, O_, C.toD, P_, Q_, R_, S_, T_, Obs.fits, U_, eqD, V_, W_, X_, Y_, Z_]
  refine call_loc (J := []) ci (fun r H' h => h.handed) rfl (.cons (.c .d) .nil) List.nodup_nil rfl rfl ?_
  rintro _ _ ⟨vh, rfl, rfl⟩ _
  simp -implicitDefEqProofs [putAll, kw, ew, sw, tw, a_, b_, c_, -List.set_cons_succ, -List.set_cons_zero, A.ok, A.val, d_, e_, f_, g_, h_, i_, j_, k_, l_, m_, unA, unD, n_, AOp.total, o_, p_, q_, r_, s_, t_, u_, v_, A.thaw, C.thaw, A.fits, As.fits, C.fits, evs, oks, w_, A.pure, C.pure, A.re, C.re, x_, y_, cut, A.cells, C.rows?, z_, A_, B_, C_, D_, Ob.re, Cs.fits, E_, F_, G_, H_, I_, J_, K_, L_, M_, N_, O_, C.toD, P_, Q_, R_, S_, T_, Obs.fits, U_, eqD, V_, W_, X_, Y_, Z_]
  refine qcall_read ceu rfl hf (zu (i := 2) rfl) ?_
  simp -implicitDefEqProofs [kw, ew, sw, tw, a_, b_, c_, -List.set_cons_succ, -List.set_cons_zero, A.ok, A.val, d_, e_, f_, g_, h_, i_, j_, k_, l_, m_, unA, unD, n_, AOp.total, o_, p_, q_, r_, s_, t_, u_, v_, A.thaw, C.thaw, A.fits, As.fits, C.fits, evs, oks, w_, A.pure, C.pure, A.re, C.re, x_, y_, cut, A.cells, C.rows?, z_, A_, B_, C_, D_, Ob.re, Cs.fits, E_, F_, G_, H_, I_, J_, K_, L_, M_, N_, O_, C.toD, P_, Q_, R_, S_, T_, Obs.fits, U_, eqD, V_, W_, X_, Y_, Z_]
  refine qcall_read (heldInstrSS_calls u (by omega) 1 (by omega) (by omega) []) rfl hf (zg rfl) ?_
  simp -implicitDefEqProofs [hp2, kw, ew, sw, tw, a_, b_, c_, -List.set_cons_succ, -List.set_cons_zero, A.ok, A.val, d_, e_, f_, g_, h_, i_, j_, k_, l_, m_, unA, unD, n_, AOp.total, o_, p_, q_, r_, s_, t_, u_, v_, A.thaw, C.thaw, A.fits, As.fits, C.fits, evs, oks, w_, A.pure, C.pure, A.re, C.re, x_, y_, cut, A.cells, C.rows?, z_, A_, B_, C_, D_, Ob.re, Cs.fits, E_, F_, G_, H_, I_, J_, K_, L_, M_, N_, O_, C.toD, P_, Q_, R_, S_, T_, Obs.fits, U_, eqD, V_, W_, X_, Y_, Z_]
theorem law_run6 (rows : List (List D)) (hr : HasTys Try.prog (#[61] : Array TypeId).toList rows) : ACalls Try.prog 6 (argsA Try.prog (#[61] : Array TypeId).toList rows) [] (fun r _ => r = .c (.d (.bool true))) := by
  obtain ⟨r, rs, rfl, h1, h2⟩ := hr.cons
  obtain rfl := h2.nil
  obtain ⟨p, rfl, hl, hfine⟩ := clauses_ty h1
  simp only [argsA, argA, Try.underlying61, List.headD_cons]
  exact lpxLaw_calls p hl hfine
namespace fnExactLoadProgram
theorem own : ownKnob Try.prog.godebug = none := by kernel_rfl
theorem contract (H : Type) (enc : TypeId × Value → H) (W : World) (base : Nat) (args : Array Value) (ds gs : List (DataW H)) (before : List MemPlace)
    (hval : ∀ (j : Nat) t v, Try.f6.params[j]? = some t → args[j]? = some v → Value.okWide Try.prog W .any base t v)
    (hW : DataW.Whole enc Try.prog Try.f6.params.toList Rows.fnExactLoadProgramSpec.vars false W args.toList ds gs before)
    (hw : (DataW.weightsEach Try.prog (Try.f6.params.toList ++ Rows.fnExactLoadProgramSpec.plain.varTypes Try.prog) (ds ++ gs)).all (· ≤ reachBytes) = true) :
    Calls Try.prog 6 args W fun e W' => ∃ v, e = .returned v ∧ Rows.fnExactLoadProgramSpec.post enc Try.prog Try.f6 false true false false W args v W' := by
  refine law_contract (L := [3, 9, 24, 22, 52, 61]) (tb := 4) (by kernel_rfl) (by kernel_rfl) (by kernel_rfl) rfl ?_ (by kernel_rfl) Try.underlying4 ?_ W base args ds gs before hval hW hw
  · intro ds hl
    match ds, hl with
    | [d0], _ => rfl
  · intro rows hr
    rw [Try.params6] at hr ⊢
    exact law_run6 rows hr

theorem lifted (os : Os) (started : os.Started) (H : Type) (enc : TypeId × Value → H) :
    ReturnsInHanded {} Try.checked os 6 .any (Rows.fnExactLoadProgramSpec.pre6 enc Try.prog Try.f6 Rows.fnExactLoadProgramRow.domain false) (Rows.fnExactLoadProgramSpec.post enc Try.prog Try.f6 false true false false) := by
  refine returnsInHanded_of_change_sized (C := Try.checked) own started (by kernel_rfl) Try.func6
    (ChangeSpec.witness6 (enc := enc) (C := Try.checked) false ⟨#[], #[.slice none 0 0], []⟩ 8 (by kernel_rfl) (by kernel_rfl) (by kernel_rfl) (by kernel_rfl)) ?_
  intro W base args ds gs before hval hW _ hw _
  exact contract H enc W base args ds gs before hval hW hw

theorem proved : Rows.FnExactLoadProgramSaid :=
  OpenClaim.holds_of_wide 6 Try.f6 rfl rfl rfl rfl rfl rfl rfl ⟨rfl, rfl, rfl, rfl, rfl⟩ rfl rfl rfl rfl rfl (by kernel_rfl) Try.func6 (by kernel_rfl)
    (of_decide_eq_true (by kernel_rfl)) (by unfold Func.isWrapper; first | (rw [if_pos (by decide +kernel)]; kernel_rfl) | (rw [if_neg (by decide +kernel)]; exact ⟨rfl, rfl⟩))
    (fun os started H enc _ => lifted os started H enc)
end fnExactLoadProgram

end Go.Proofs.Ytaegeehpajlebaa
