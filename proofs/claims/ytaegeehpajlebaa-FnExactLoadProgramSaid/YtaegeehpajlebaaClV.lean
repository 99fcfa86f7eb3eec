/-
  Valid clauses and programs.
  Conditions: none.
-/
import Derived.Test.YtaegeehpajlebaaGoals
import Derived.Test.YtaegeehpajlebaaClause
open Go Go.AM Go.Proofs
namespace Go.Proofs.Ytaegeehpajlebaa
open Go.ChangeShapes Go.WideShapes Go.ChangeAt Go.RowKit
set_option linter.unusedVariables false
set_option linter.unusedSimpArgs false
set_option maxRecDepth 100000
-- 66 loop.example/prologserver/impl.ClauseValid params 1 ntmps 16
def ac66 : Cd := .seq (.region [⟨(some 1), .box (.t 0), none⟩,
      ⟨(some 2), .mv (.k (.c (.d (.bool false)))), none⟩] [0, 2])
  (.seq (.region [⟨(some 3), .fieldAddr 0 (.t 1), none⟩,
      ⟨(some 4), .load (some 4) (.t 3), none⟩,
      ⟨(some 5), .qcall 46 [(.t 4)], none⟩,
      ⟨(some 6), .mv (.t 5), none⟩,
      ⟨(some 7), .fieldAddr 0 (.t 1), some (6, true)⟩,
      ⟨(some 8), .load (some 4) (.t 7), some (6, true)⟩,
      ⟨(some 9), .qcall 85 [(.t 8)], some (6, true)⟩,
      ⟨(some 10), .pick (.t 6) (.t 9) (.k (.c (.d (.bool false)))), none⟩,
      ⟨(some 11), .mv (.t 10), none⟩,
      ⟨(some 12), .fieldAddr 4 (.t 1), some (11, true)⟩,
      ⟨(some 13), .load none (.t 12), some (11, true)⟩,
      ⟨(some 14), .qcall 80 [(.t 13)], some (11, true)⟩,
      ⟨(some 15), .pick (.t 11) (.t 14) (.k (.c (.d (.bool false)))), none⟩,
      ⟨(some 2), .mv (.t 15), none⟩] [1, 3, 4, 5, 6, 7, 8, 9, 10, 11, 12, 13, 14, 15])
  (.ret))
theorem ac66_ok : cFunc Try.prog [1000046, 1000080, 1000085] [(0, [0, 2], []), (1, [1, 3, 4, 5, 6, 7, 8, 9, 10, 11, 12, 13, 14, 15], [])] Try.f66 = some (ac66, [.tmp 2], 16) := by kernel_rfl
-- 64 loop.example/prologserver/spec.ClauseValid params 1 ntmps 36
-- loop head live: [1, 3]
def ac64 : Cd := .seq (.region [⟨(some 1), .box (.t 0), none⟩,
      ⟨(some 2), .mv (.k (.c (.d (.bool false)))), none⟩] [0, 2])
  (.seq (.seq (.region [⟨(some 3), .mv (.k (.c (.d (.int .i64 0)))), none⟩] [])
    (.block 0 (.loop (.seq (.seq (.region [⟨(some 4), .mv (.t 3), none⟩,
              ⟨(some 5), .fieldAddr 4 (.t 1), none⟩,
              ⟨(some 6), .load none (.t 5), none⟩,
              ⟨(some 7), .len 1 (.t 6), none⟩,
              ⟨(some 8), .bin .lss (.t 4) (.t 7), none⟩,
              ⟨(some 9), .mv (.t 8), none⟩,
              ⟨(some 10), .mv (.t 3), some (9, true)⟩,
              ⟨(some 11), .bin .leq (.t 10) (.k (.c (.d (.int .i64 6)))), some (9, true)⟩,
              ⟨(some 12), .pick (.t 9) (.t 11) (.k (.c (.d (.bool false)))), none⟩] [4, 5, 6, 7, 8, 9, 10, 11])
          (.cond (.t 12)
            (.skip)
            (.exit 0)))
        (.seq (.block 1 (.seq (.region [⟨(some 15), .fieldAddr 4 (.t 1), none⟩,
                ⟨(some 16), .load none (.t 15), none⟩,
                ⟨(some 17), .mv (.t 3), none⟩,
                ⟨(some 18), .indexAddr 4 (.t 16) (.t 17), none⟩,
                ⟨(some 19), .load (some 4) (.t 18), none⟩,
                ⟨(some 20), .qcall 77 [(.t 19)], none⟩,
                ⟨(some 21), .un .not (.t 20), none⟩] [12, 15, 16, 17, 18, 19, 20])
            (.cond (.t 21)
              (.seq (.region [⟨(some 2), .mv (.k (.c (.d (.bool false)))), none⟩] [1, 3, 21])
              (.ret))
              (.skip))))
        (.region [⟨(some 13), .mv (.t 3), none⟩,
          ⟨(some 14), .bin .add (.t 13) (.k (.c (.d (.int .i64 1)))), none⟩,
          ⟨(some 3), .mv (.t 14), none⟩] [2, 13, 14, 21]))))))
  (.seq (.region [⟨(some 22), .fieldAddr 4 (.t 1), none⟩,
      ⟨(some 23), .load none (.t 22), none⟩,
      ⟨(some 24), .len 1 (.t 23), none⟩,
      ⟨(some 25), .bin .leq (.t 24) (.k (.c (.d (.int .i64 6)))), none⟩,
      ⟨(some 26), .mv (.t 25), none⟩,
      ⟨(some 27), .fieldAddr 0 (.t 1), some (26, true)⟩,
      ⟨(some 28), .load (some 4) (.t 27), some (26, true)⟩,
      ⟨(some 29), .qcall 43 [(.t 28)], some (26, true)⟩,
      ⟨(some 30), .pick (.t 26) (.t 29) (.k (.c (.d (.bool false)))), none⟩,
      ⟨(some 31), .mv (.t 30), none⟩,
      ⟨(some 32), .fieldAddr 0 (.t 1), some (31, true)⟩,
      ⟨(some 33), .load (some 4) (.t 32), some (31, true)⟩,
      ⟨(some 34), .qcall 83 [(.t 33)], some (31, true)⟩,
      ⟨(some 35), .pick (.t 31) (.t 34) (.k (.c (.d (.bool false)))), none⟩,
      ⟨(some 2), .mv (.t 35), none⟩] [1, 22, 23, 24, 25, 26, 27, 28, 29, 30, 31, 32, 33, 34, 35])
  (.ret)))
theorem ac64_ok : cFunc Try.prog [1000043, 1000077, 1000083] [(0, [0, 2], []), (1, [], []), (2, [4, 5, 6, 7, 8, 9, 10, 11], []), (4, [12, 15, 16, 17, 18, 19, 20], []), (5, [1, 3, 21], []), (3, [2, 13, 14, 21], []), (6, [1, 22, 23, 24, 25, 26, 27, 28, 29, 30, 31, 32, 33, 34, 35], [])] Try.f64 = some (ac64, [.tmp 2], 36) := by kernel_rfl
-- 88 loop.example/prologserver/impl.ProgramValid$1 params 1 ntmps 6
def ac88 : Cd := .seq (.region [⟨(some 1), .box (.t 0), none⟩,
      ⟨(some 2), .mv (.k (.c (.d (.bool false)))), none⟩] [0, 2])
  (.seq (.region [⟨(some 3), .load (some 5) (.t 1), none⟩,
      ⟨(some 4), .qcall 66 [(.t 3)], none⟩,
      ⟨(some 5), .un .not (.t 4), none⟩,
      ⟨(some 2), .mv (.t 5), none⟩] [1, 3, 4, 5])
  (.ret))
theorem ac88_ok : cFunc Try.prog [1000066] [(0, [0, 2], []), (1, [1, 3, 4, 5], [])] Try.f88 = some (ac88, [.tmp 2], 6) := by kernel_rfl
-- 70 loop.example/prologserver/impl.ProgramValid params 1 ntmps 11
def ac70 : Cd := .seq (.region [⟨(some 2), .mv (.k (.c (.d (.bool false)))), none⟩] [2])
  (.seq (.region [⟨(some 3), .mv (.t 0), none⟩,
      ⟨(some 4), .len 1 (.t 3), none⟩,
      ⟨(some 5), .bin .leq (.t 4) (.k (.c (.d (.int .i64 20)))), none⟩,
      ⟨(some 6), .mv (.t 5), none⟩,
      ⟨(some 7), .mv (.t 0), some (6, true)⟩,
      ⟨(some 8), .qcall 87 [(.t 7), (.k (.c (.fn 88 [])))], some (6, true)⟩,
      ⟨(some 9), .un .not (.t 8), some (6, true)⟩,
      ⟨(some 10), .pick (.t 6) (.t 9) (.k (.c (.d (.bool false)))), none⟩,
      ⟨(some 2), .mv (.t 10), none⟩] [0, 3, 4, 5, 6, 7, 8, 9, 10])
  (.ret))
theorem ac70_ok : cFunc Try.prog [1000087] [(0, [2], []), (1, [0, 3, 4, 5, 6, 7, 8, 9, 10], [])] Try.f70 = some (ac70, [.tmp 2], 11) := by kernel_rfl
-- 68 loop.example/prologserver/spec.ProgramValid params 1 ntmps 23
-- loop head live: [0, 3]
def ac68 : Cd := .seq (.region [⟨(some 2), .mv (.k (.c (.d (.bool false)))), none⟩] [2])
  (.seq (.seq (.region [⟨(some 3), .mv (.k (.c (.d (.int .i64 0)))), none⟩] [])
    (.block 0 (.loop (.seq (.seq (.region [⟨(some 4), .mv (.t 3), none⟩,
              ⟨(some 5), .mv (.t 0), none⟩,
              ⟨(some 6), .len 1 (.t 5), none⟩,
              ⟨(some 7), .bin .lss (.t 4) (.t 6), none⟩,
              ⟨(some 8), .mv (.t 7), none⟩,
              ⟨(some 9), .mv (.t 3), some (8, true)⟩,
              ⟨(some 10), .bin .leq (.t 9) (.k (.c (.d (.int .i64 20)))), some (8, true)⟩,
              ⟨(some 11), .pick (.t 8) (.t 10) (.k (.c (.d (.bool false)))), none⟩] [4, 5, 6, 7, 8, 9, 10])
          (.cond (.t 11)
            (.skip)
            (.exit 0)))
        (.seq (.block 1 (.seq (.region [⟨(some 14), .mv (.t 0), none⟩,
                ⟨(some 15), .mv (.t 3), none⟩,
                ⟨(some 16), .indexAddr 5 (.t 14) (.t 15), none⟩,
                ⟨(some 17), .load (some 5) (.t 16), none⟩,
                ⟨(some 18), .qcall 64 [(.t 17)], none⟩,
                ⟨(some 19), .un .not (.t 18), none⟩] [11, 14, 15, 16, 17, 18])
            (.cond (.t 19)
              (.seq (.region [⟨(some 2), .mv (.k (.c (.d (.bool false)))), none⟩] [0, 3, 19])
              (.ret))
              (.skip))))
        (.region [⟨(some 12), .mv (.t 3), none⟩,
          ⟨(some 13), .bin .add (.t 12) (.k (.c (.d (.int .i64 1)))), none⟩,
          ⟨(some 3), .mv (.t 13), none⟩] [2, 12, 13, 19]))))))
  (.seq (.region [⟨(some 20), .mv (.t 0), none⟩,
      ⟨(some 21), .len 1 (.t 20), none⟩,
      ⟨(some 22), .bin .leq (.t 21) (.k (.c (.d (.int .i64 20)))), none⟩,
      ⟨(some 2), .mv (.t 22), none⟩] [0, 20, 21, 22])
  (.ret)))
theorem ac68_ok : cFunc Try.prog [1000064] [(0, [2], []), (1, [], []), (2, [4, 5, 6, 7, 8, 9, 10], []), (4, [11, 14, 15, 16, 17, 18], []), (5, [0, 3, 19], []), (3, [2, 12, 13, 19], []), (6, [0, 20, 21, 22], [])] Try.f68 = some (ac68, [.tmp 2], 23) := by kernel_rfl
-- 112 slices.IndexFunc[[]loop.example/prologserver/impl.Clause,loop.example/prologserver/impl.Clause] params 2 ntmps 19
-- loop head live: [0, 1, 7, 8]
def ac112 : Cd := .seq (.region [⟨(some 4), .mv (.k (.c (.d (.int .i64 0)))), none⟩] [4])
  (.seq (.seq (.region [⟨(some 6), .mv (.t 0), none⟩,
        ⟨(some 7), .len 1 (.t 6), none⟩,
        ⟨(some 8), .mv (.k (.c (.d (.int .i64 0)))), none⟩] [6])
    (.block 0 (.loop (.seq (.region [⟨(some 9), .bin .lss (.t 8) (.t 7), none⟩] [])
        (.seq (.cond (.t 9)
            (.skip)
            (.exit 0))
        (.seq (.block 1 (.seq (.region [⟨(some 10), .mv (.t 8), none⟩,
                ⟨(some 5), .mv (.t 10), none⟩] [9, 10])
            (.seq (.region [⟨(some 11), .mv (.t 1), none⟩,
                ⟨(some 12), .mv (.t 0), none⟩,
                ⟨(some 13), .mv (.t 5), none⟩,
                ⟨(some 14), .indexAddr 5 (.t 12) (.t 13), none⟩,
                ⟨(some 15), .load (some 5) (.t 14), none⟩,
                ⟨(some 16), .callv (.t 11) [(.t 15)], none⟩] [11, 12, 13, 14, 15])
            (.cond (.t 16)
              (.seq (.region [⟨(some 17), .mv (.t 5), none⟩,
                  ⟨(some 4), .mv (.t 17), none⟩] [0, 1, 5, 7, 8, 16, 17])
              (.ret))
              (.skip)))))
        (.region [⟨(some 18), .bin .add (.t 8) (.k (.c (.d (.int .i64 1)))), none⟩,
          ⟨(some 8), .mv (.t 18), none⟩] [4, 5, 16, 18])))))))
  (.seq (.region [⟨(some 4), .mv (.k (.c (.d (.int .i64 (-1))))), none⟩] [])
  (.ret)))
theorem ac112_ok : cFunc Try.prog [] [(0, [4], []), (1, [6], []), (2, [], []), (3, [9, 10], []), (4, [11, 12, 13, 14, 15], []), (5, [0, 1, 5, 7, 8, 16, 17], []), (6, [4, 5, 16, 18], []), (7, [], [])] Try.f112 = some (ac112, [.tmp 4], 19) := by kernel_rfl
-- 87 slices.ContainsFunc[[]loop.example/prologserver/impl.Clause,loop.example/prologserver/impl.Clause] params 2 ntmps 9
def ac87 : Cd := .seq (.region [⟨(some 4), .mv (.k (.c (.d (.bool false)))), none⟩] [4])
  (.seq (.region [⟨(some 5), .mv (.t 0), none⟩,
      ⟨(some 6), .mv (.t 1), none⟩,
      ⟨(some 7), .call false 112 [(.t 5), (.t 6)], none⟩,
      ⟨(some 8), .bin .geq (.t 7) (.k (.c (.d (.int .i64 0)))), none⟩,
      ⟨(some 4), .mv (.t 8), none⟩] [0, 1, 5, 6, 7, 8])
  (.ret))
theorem ac87_ok : cFunc Try.prog [] [(0, [4], []), (1, [0, 1, 5, 6, 7, 8], [])] Try.f87 = some (ac87, [.tmp 4], 9) := by kernel_rfl
theorem clF_idx {σ : Type} (Hp : σ → Heap) (n : Nat) (hn : ∀ s, (Hp s).length = n) (hfit : ∀ s, Obs.fits n 0 (Hp s)) (g : FuncId) (caps : List (Nat × Nat)) (step : σ → Cl → Bool × σ) (P : σ → Prop) (l : List Cl) (hl : l.length ≤ 1048576)
    (h : ∀ s, P s → ∀ t ∈ l, ACalls Try.prog g (.agg ((Cl.row t).map .d) :: caps.map fun x => .c (.ptr (.e x.1) x.2)) (Hp s) (fun r H' => r = .c (.d (.bool (step s t).1)) ∧ H' = Hp (step s t).2)) (hP : ∀ s, P s → ∀ t ∈ l, (step s t).1 = false → P (step s t).2) (s : σ) (h0 : P s) :
    ACalls Try.prog 112 [.c (.d (.sl (l.map Cl.row))), .c (.fn g (caps.map fun x => (.e x.1, x.2)))] (Hp s) (fun r H' => (∃ k : Int, r = .c (.d (.int .i64 k)) ∧ decide (0 ≤ k) = (anyS step l s).1) ∧ H' = Hp (anyS step l s).2) := by
  refine acalls Try.func112 (by kernel_rfl) ac112_ok fun hf => ?_
  have hli : inR .i64 (l.length : Int) := small_i64 (by omega) (by omega)
  simp -implicitDefEqProofs [ac112, hli, kw, ew, sw, tw, a_, b_, c_, -List.set_cons_succ, -List.set_cons_zero, A.ok, A.val, d_, e_, f_, g_, h_, i_, j_, k_, l_, m_, unA, unD, n_, AOp.total, o_, p_, q_, r_, s_, t_, u_, v_, A.thaw, C.thaw, A.fits, As.fits, C.fits, evs, oks, w_, A.pure, C.pure, A.re, C.re, x_, y_, cut, A.cells, C.rows?, z_, A_, B_, C_, D_, Ob.re, Cs.fits, E_, F_, G_, H_, I_, J_, K_, L_, M_, N_, O_, C.toD, P_, Q_, R_, S_, T_, Obs.fits, U_, eqD, V_, W_, X_, Y_, Z_]
  refine loop_set (σ := Nat × σ) (fun x => [(8, .c (.d (.int .i64 x.1)))]) (fun x => Hp x.2) (fun _ => []) (fun x => x.1 ≤ l.length ∧ P x.2 ∧ anyS step (l.drop x.1) x.2 = anyS step l s) (fun x => l.length - x.1) (0, s) rfl ⟨Nat.zero_le _, h0, rfl⟩ ?_
  rintro ⟨i, q⟩ ⟨hi, hq, hrun⟩
  simp only at hi hq hrun
  simp -implicitDefEqProofs [setAll, hli, kw, ew, sw, tw, a_, b_, c_, -List.set_cons_succ, -List.set_cons_zero, A.ok, A.val, d_, e_, f_, g_, h_, i_, j_, k_, l_, m_, unA, unD, n_, AOp.total, o_, p_, q_, r_, s_, t_, u_, v_, A.thaw, C.thaw, A.fits, As.fits, C.fits, evs, oks, w_, A.pure, C.pure, A.re, C.re, x_, y_, cut, A.cells, C.rows?, z_, A_, B_, C_, D_, Ob.re, Cs.fits, E_, F_, G_, H_, I_, J_, K_, L_, M_, N_, O_, C.toD, P_, Q_, R_, S_, T_, Obs.fits, U_, eqD, V_, W_, X_, Y_, Z_]
  refine ⟨fun hlt => ?_, fun hge => ?_⟩
  · refine row_of hlt (crow_len _) ?_
    simp -implicitDefEqProofs [crow_len, take_crow, pure_d, re_d, callArgs_ptrs, kw, ew, sw, tw, a_, b_, c_, -List.set_cons_succ, -List.set_cons_zero, A.ok, A.val, d_, e_, f_, g_, h_, i_, j_, k_, l_, m_, unA, unD, n_, AOp.total, o_, p_, q_, r_, s_, t_, u_, v_, A.thaw, C.thaw, A.fits, As.fits, C.fits, evs, oks, w_, A.pure, C.pure, A.re, C.re, x_, y_, cut, A.cells, C.rows?, z_, A_, B_, C_, D_, Ob.re, Cs.fits, E_, F_, G_, H_, I_, J_, K_, L_, M_, N_, O_, C.toD, P_, Q_, R_, S_, T_, Obs.fits, U_, eqD, V_, W_, X_, Y_, Z_]
    have hd : l.drop i = l[i] :: l.drop (i + 1) := List.drop_eq_getElem_cons hlt
    rw [hd, anyS] at hrun
    have hadd : inR .i64 ((i : Int) + 1) := small_i64 (by omega) (by omega)
    refine (h q hq l[i] (List.getElem_mem hlt)).mono fun r H' ⟨h1, h2⟩ => ⟨Hp (step q l[i]).2, [], .c (.d (.bool (step q l[i]).1)), by simpa using h2, by simp only [hn], Nat.le_refl _, by simp only [hn]; exact hfit _, h1, ?_⟩
    cases hs : (step q l[i]).1 with
    | true =>
      rw [if_pos hs] at hrun
      simp -implicitDefEqProofs [hs, kw, ew, sw, tw, a_, b_, c_, -List.set_cons_succ, -List.set_cons_zero, A.ok, A.val, d_, e_, f_, g_, h_, i_, j_, k_, l_, m_, unA, unD, n_, AOp.total, o_, p_, q_, r_, s_, t_, u_, v_, A.thaw, C.thaw, A.fits, As.fits, C.fits, evs, oks, w_, A.pure, C.pure, A.re, C.re, x_, y_, cut, A.cells, C.rows?, z_, A_, B_, C_, D_, Ob.re, Cs.fits, E_, F_, G_, H_, I_, J_, K_, L_, M_, N_, O_, C.toD, P_, Q_, R_, S_, T_, Obs.fits, U_, eqD, V_, W_, X_, Y_, Z_]
      rw [← hrun]
      exact ⟨by simp, rfl⟩
    | false =>
      rw [if_neg (by simp [hs])] at hrun
      simp -implicitDefEqProofs [hs, hadd, kw, ew, sw, tw, a_, b_, c_, -List.set_cons_succ, -List.set_cons_zero, A.ok, A.val, d_, e_, f_, g_, h_, i_, j_, k_, l_, m_, unA, unD, n_, AOp.total, o_, p_, q_, r_, s_, t_, u_, v_, A.thaw, C.thaw, A.fits, As.fits, C.fits, evs, oks, w_, A.pure, C.pure, A.re, C.re, x_, y_, cut, A.cells, C.rows?, z_, A_, B_, C_, D_, Ob.re, Cs.fits, E_, F_, G_, H_, I_, J_, K_, L_, M_, N_, O_, C.toD, P_, Q_, R_, S_, T_, Obs.fits, U_, eqD, V_, W_, X_, Y_, Z_]
      exact loop_back (i + 1, (step q l[i]).2) (by simp [setAll]) ⟨hlt, hP q hq _ (List.getElem_mem hlt) hs, hrun⟩ (by show l.length - (i + 1) < l.length - i; omega)
  · rw [List.drop_of_length_le hge] at hrun
    simp only [anyS] at hrun
    rw [← hrun]
    exact ⟨by simp, rfl⟩
theorem clF_con {σ : Type} (Hp : σ → Heap) (n : Nat) (hn : ∀ s, (Hp s).length = n) (hfit : ∀ s, Obs.fits n 0 (Hp s)) (g : FuncId) (caps : List (Nat × Nat)) (step : σ → Cl → Bool × σ) (P : σ → Prop) (l : List Cl) (hl : l.length ≤ 1048576)
    (h : ∀ s, P s → ∀ t ∈ l, ACalls Try.prog g (.agg ((Cl.row t).map .d) :: caps.map fun x => .c (.ptr (.e x.1) x.2)) (Hp s) (fun r H' => r = .c (.d (.bool (step s t).1)) ∧ H' = Hp (step s t).2)) (hP : ∀ s, P s → ∀ t ∈ l, (step s t).1 = false → P (step s t).2) (s : σ) (h0 : P s) :
    ACalls Try.prog 87 [.c (.d (.sl (l.map Cl.row))), .c (.fn g (caps.map fun x => (.e x.1, x.2)))] (Hp s) (fun r H' => r = .c (.d (.bool (anyS step l s).1)) ∧ H' = Hp (anyS step l s).2) := by
  refine acalls Try.func87 (by kernel_rfl) ac87_ok fun hf => ?_
  simp -implicitDefEqProofs [ac87, kw, ew, sw, tw, a_, b_, c_, -List.set_cons_succ, -List.set_cons_zero, A.ok, A.val, d_, e_, f_, g_, h_, i_, j_, k_, l_, m_, unA, unD, n_, AOp.total, o_, p_, q_, r_, s_, t_, u_, v_, A.thaw, C.thaw, A.fits, As.fits, C.fits, evs, oks, w_, A.pure, C.pure, A.re, C.re, x_, y_, cut, A.cells, C.rows?, z_, A_, B_, C_, D_, Ob.re, Cs.fits, E_, F_, G_, H_, I_, J_, K_, L_, M_, N_, O_, C.toD, P_, Q_, R_, S_, T_, Obs.fits, U_, eqD, V_, W_, X_, Y_, Z_]
  simp only [List.map_map, Function.comp_def, Ref.re]
  refine (clF_idx Hp n hn hfit g caps step P l hl h hP s h0).mono fun r H' ⟨⟨k, h1, h2⟩, h3⟩ => ⟨Hp (anyS step l s).2, [], .c (.d (.int .i64 k)), by simpa using h3, by simp only [hn], Nat.le_refl _, by simp only [hn]; exact hfit _, h1, ?_⟩
  simp -implicitDefEqProofs [kw, ew, sw, tw, a_, b_, c_, -List.set_cons_succ, -List.set_cons_zero, A.ok, A.val, d_, e_, f_, g_, h_, i_, j_, k_, l_, m_, unA, unD, n_, AOp.total, o_, p_, q_, r_, s_, t_, u_, v_, A.thaw, C.thaw, A.fits, As.fits, C.fits, evs, oks, w_, A.pure, C.pure, A.re, C.re, x_, y_, cut, A.cells, C.rows?, z_, A_, B_, C_, D_, Ob.re, Cs.fits, E_, F_, G_, H_, I_, J_, K_, L_, M_, N_, O_, C.toD, P_, Q_, R_, S_, T_, Obs.fits, U_, eqD, V_, W_, X_, Y_, Z_]
  rw [← h2]
/-- .. where the function looks at what it is given alone -/
theorem clF_any (g : FuncId) (p : Cl → Bool) (l : List Cl) (hl : l.length ≤ 1048576) (h : ∀ t ∈ l, ∀ H, ACalls Try.prog g [.agg ((Cl.row t).map .d)] H (fun r H' => H' = H ∧ r = .c (.d (.bool (p t))))) (H : Heap) :
    ACalls Try.prog 87 [.c (.d (.sl (l.map Cl.row))), .c (.fn g [])] H (fun r H' => H' = H ∧ r = .c (.d (.bool (l.any p)))) := by
  refine acalls_fits Try.func87 (by kernel_rfl) (by kernel_rfl) fun hf => ?_
  have := clF_con (σ := Unit) (fun _ => H) H.length (fun _ => rfl) (fun _ => hf) g [] (fun _ t => (p t, ())) (fun _ => True) l hl (fun s _ t ht => (h t ht H).mono fun r H' ⟨h1, h2⟩ => ⟨h2, h1⟩) (fun _ _ _ _ _ => trivial) () trivial
  rw [anyS_const] at this
  exact this.mono fun r H' ⟨h1, h2⟩ => ⟨h2, h1⟩

def Cl.validB (c : Cl) : Bool := (c.head.valid && c.head.plain) && goalsB c.body
/-- as many valid clauses as a program may have -/
def progB (p : List Cl) : Bool := decide (p.length ≤ 20) && p.all Cl.validB
theorem cvImpl_calls (c : Cl) (hc : c.fits) (H : Heap) : ACalls Try.prog 66 [.agg (c.row.map .d)] H (fun r H' => H' = H ∧ r = .c (.d (.bool c.validB))) := by
  obtain ⟨h, b⟩ := c
  obtain ⟨hh, hl, hb⟩ := hc
  simp only at hh hl hb
  have c1 := tvImpl_calls h hh
  have c2 := plainImpl_calls h hh
  rw [row_eq] at c1 c2
  simp only [List.map_cons, List.map_nil] at c1 c2
  refine acalls Try.func66 (by kernel_rfl) ac66_ok fun hf => ?_
  simp -implicitDefEqProofs [ac66, Cl.row, kw, ew, sw, tw, a_, b_, c_, -List.set_cons_succ, -List.set_cons_zero, A.ok, A.val, d_, e_, f_, g_, h_, i_, j_, k_, l_, m_, unA, unD, n_, AOp.total, o_, p_, q_, r_, s_, t_, u_, v_, A.thaw, C.thaw, A.fits, As.fits, C.fits, evs, oks, w_, A.pure, C.pure, A.re, C.re, x_, y_, cut, A.cells, C.rows?, z_, A_, B_, C_, D_, Ob.re, Cs.fits, E_, F_, G_, H_, I_, J_, K_, L_, M_, N_, O_, C.toD, P_, Q_, R_, S_, T_, Obs.fits, U_, eqD, V_, W_, X_, Y_, Z_]
  refine qcall_pure c1 hf rfl ?_
  cases h1 : h.valid with
  | false => simp -implicitDefEqProofs [h1, Cl.validB, kw, ew, sw, tw, a_, b_, c_, -List.set_cons_succ, -List.set_cons_zero, A.ok, A.val, d_, e_, f_, g_, h_, i_, j_, k_, l_, m_, unA, unD, n_, AOp.total, o_, p_, q_, r_, s_, t_, u_, v_, A.thaw, C.thaw, A.fits, As.fits, C.fits, evs, oks, w_, A.pure, C.pure, A.re, C.re, x_, y_, cut, A.cells, C.rows?, z_, A_, B_, C_, D_, Ob.re, Cs.fits, E_, F_, G_, H_, I_, J_, K_, L_, M_, N_, O_, C.toD, P_, Q_, R_, S_, T_, Obs.fits, U_, eqD, V_, W_, X_, Y_, Z_]
  | true =>
    simp -implicitDefEqProofs [h1, kw, ew, sw, tw, a_, b_, c_, -List.set_cons_succ, -List.set_cons_zero, A.ok, A.val, d_, e_, f_, g_, h_, i_, j_, k_, l_, m_, unA, unD, n_, AOp.total, o_, p_, q_, r_, s_, t_, u_, v_, A.thaw, C.thaw, A.fits, As.fits, C.fits, evs, oks, w_, A.pure, C.pure, A.re, C.re, x_, y_, cut, A.cells, C.rows?, z_, A_, B_, C_, D_, Ob.re, Cs.fits, E_, F_, G_, H_, I_, J_, K_, L_, M_, N_, O_, C.toD, P_, Q_, R_, S_, T_, Obs.fits, U_, eqD, V_, W_, X_, Y_, Z_]
    refine qcall_pure c2 hf rfl ?_
    cases h2 : h.plain with
    | false => simp -implicitDefEqProofs [h1, h2, Cl.validB, kw, ew, sw, tw, a_, b_, c_, -List.set_cons_succ, -List.set_cons_zero, A.ok, A.val, d_, e_, f_, g_, h_, i_, j_, k_, l_, m_, unA, unD, n_, AOp.total, o_, p_, q_, r_, s_, t_, u_, v_, A.thaw, C.thaw, A.fits, As.fits, C.fits, evs, oks, w_, A.pure, C.pure, A.re, C.re, x_, y_, cut, A.cells, C.rows?, z_, A_, B_, C_, D_, Ob.re, Cs.fits, E_, F_, G_, H_, I_, J_, K_, L_, M_, N_, O_, C.toD, P_, Q_, R_, S_, T_, Obs.fits, U_, eqD, V_, W_, X_, Y_, Z_]
    | true =>
      simp -implicitDefEqProofs [h1, h2, kw, ew, sw, tw, a_, b_, c_, -List.set_cons_succ, -List.set_cons_zero, A.ok, A.val, d_, e_, f_, g_, h_, i_, j_, k_, l_, m_, unA, unD, n_, AOp.total, o_, p_, q_, r_, s_, t_, u_, v_, A.thaw, C.thaw, A.fits, As.fits, C.fits, evs, oks, w_, A.pure, C.pure, A.re, C.re, x_, y_, cut, A.cells, C.rows?, z_, A_, B_, C_, D_, Ob.re, Cs.fits, E_, F_, G_, H_, I_, J_, K_, L_, M_, N_, O_, C.toD, P_, Q_, R_, S_, T_, Obs.fits, U_, eqD, V_, W_, X_, Y_, Z_]
      refine qcall_pure (goalsImpl_calls b hl hb) hf rfl ?_
      simp -implicitDefEqProofs [h1, h2, Cl.validB, kw, ew, sw, tw, a_, b_, c_, -List.set_cons_succ, -List.set_cons_zero, A.ok, A.val, d_, e_, f_, g_, h_, i_, j_, k_, l_, m_, unA, unD, n_, AOp.total, o_, p_, q_, r_, s_, t_, u_, v_, A.thaw, C.thaw, A.fits, As.fits, C.fits, evs, oks, w_, A.pure, C.pure, A.re, C.re, x_, y_, cut, A.cells, C.rows?, z_, A_, B_, C_, D_, Ob.re, Cs.fits, E_, F_, G_, H_, I_, J_, K_, L_, M_, N_, O_, C.toD, P_, Q_, R_, S_, T_, Obs.fits, U_, eqD, V_, W_, X_, Y_, Z_]
theorem cvSpec_calls (c : Cl) (hc : c.fits) (H : Heap) : ACalls Try.prog 64 [.agg (c.row.map .d)] H (fun r H' => H' = H ∧ r = .c (.d (.bool c.validB))) := by
  obtain ⟨h, b⟩ := c
  obtain ⟨hh, hl, hb⟩ := hc
  simp only at hh hl hb
  have c1 := tvSpec_calls h hh
  have c2 := plainSpec_calls h hh
  rw [row_eq] at c1 c2
  simp only [List.map_cons, List.map_nil] at c1 c2
  have hli : inR .i64 (b.length : Int) := small_i64 (by omega) (by omega)
  refine acalls Try.func64 (by kernel_rfl) ac64_ok fun hf => ?_
  simp -implicitDefEqProofs [ac64, Cl.row, hli, kw, ew, sw, tw, a_, b_, c_, -List.set_cons_succ, -List.set_cons_zero, A.ok, A.val, d_, e_, f_, g_, h_, i_, j_, k_, l_, m_, unA, unD, n_, AOp.total, o_, p_, q_, r_, s_, t_, u_, v_, A.thaw, C.thaw, A.fits, As.fits, C.fits, evs, oks, w_, A.pure, C.pure, A.re, C.re, x_, y_, cut, A.cells, C.rows?, z_, A_, B_, C_, D_, Ob.re, Cs.fits, E_, F_, G_, H_, I_, J_, K_, L_, M_, N_, O_, C.toD, P_, Q_, R_, S_, T_, Obs.fits, U_, eqD, V_, W_, X_, Y_, Z_]
  refine loop_set (σ := Nat) (fun i => [(3, .c (.d (.int .i64 i)))]) (fun _ => H) (fun _ => [_]) (fun i => i ≤ b.length ∧ ∀ t ∈ b.take i, t.goal = true) (fun i => b.length - i) 0 rfl ⟨Nat.zero_le _, by simp⟩ ?_
  rintro i ⟨hi, hall⟩
  by_cases hlt : i < b.length
  · by_cases hi6 : i ≤ 6
    · have hi6' : (i : Int) ≤ 6 := by omega
      simp -implicitDefEqProofs [setAll, hli, hlt, hi6, hi6', kw, ew, sw, tw, a_, b_, c_, -List.set_cons_succ, -List.set_cons_zero, A.ok, A.val, d_, e_, f_, g_, h_, i_, j_, k_, l_, m_, unA, unD, n_, AOp.total, o_, p_, q_, r_, s_, t_, u_, v_, A.thaw, C.thaw, A.fits, As.fits, C.fits, evs, oks, w_, A.pure, C.pure, A.re, C.re, x_, y_, cut, A.cells, C.rows?, z_, A_, B_, C_, D_, Ob.re, Cs.fits, E_, F_, G_, H_, I_, J_, K_, L_, M_, N_, O_, C.toD, P_, Q_, R_, S_, T_, Obs.fits, U_, eqD, V_, W_, X_, Y_, Z_]
      refine row_of hlt (row_len _) ?_
      simp -implicitDefEqProofs [row_len, take_row, pure_d, re_d, kw, ew, sw, tw, a_, b_, c_, -List.set_cons_succ, -List.set_cons_zero, A.ok, A.val, d_, e_, f_, g_, h_, i_, j_, k_, l_, m_, unA, unD, n_, AOp.total, o_, p_, q_, r_, s_, t_, u_, v_, A.thaw, C.thaw, A.fits, As.fits, C.fits, evs, oks, w_, A.pure, C.pure, A.re, C.re, x_, y_, cut, A.cells, C.rows?, z_, A_, B_, C_, D_, Ob.re, Cs.fits, E_, F_, G_, H_, I_, J_, K_, L_, M_, N_, O_, C.toD, P_, Q_, R_, S_, T_, Obs.fits, U_, eqD, V_, W_, X_, Y_, Z_]
      refine qcall_pure (goalSpec_calls b[i] (hb _ (List.getElem_mem hlt))) hf rfl ?_
      have hadd : inR .i64 ((i : Int) + 1) := small_i64 (by omega) (by omega)
      simp -implicitDefEqProofs [hadd, kw, ew, sw, tw, a_, b_, c_, -List.set_cons_succ, -List.set_cons_zero, A.ok, A.val, d_, e_, f_, g_, h_, i_, j_, k_, l_, m_, unA, unD, n_, AOp.total, o_, p_, q_, r_, s_, t_, u_, v_, A.thaw, C.thaw, A.fits, As.fits, C.fits, evs, oks, w_, A.pure, C.pure, A.re, C.re, x_, y_, cut, A.cells, C.rows?, z_, A_, B_, C_, D_, Ob.re, Cs.fits, E_, F_, G_, H_, I_, J_, K_, L_, M_, N_, O_, C.toD, P_, Q_, R_, S_, T_, Obs.fits, U_, eqD, V_, W_, X_, Y_, Z_]
      refine ⟨fun hg => ?_, fun hg => loop_back (i + 1) (by simp [setAll]) ⟨hlt, goal_take hlt hall hg⟩ (by show b.length - (i + 1) < b.length - i; omega)⟩
      have : b.all Tm.goal = false := by
        rw [List.all_eq_false]
        exact ⟨b[i], List.getElem_mem hlt, by simp [hg]⟩
      simp [Cl.validB, goalsB, this]
    · have hl6 : ¬ b.length ≤ 6 := by omega
      have hl6' : ¬ (b.length : Int) ≤ 6 := by omega
      have hi6' : ¬ (i : Int) ≤ 6 := by omega
      simp -implicitDefEqProofs [setAll, hli, hlt, hi6, hi6', hl6, hl6', goalsB, Cl.validB, kw, ew, sw, tw, a_, b_, c_, -List.set_cons_succ, -List.set_cons_zero, A.ok, A.val, d_, e_, f_, g_, h_, i_, j_, k_, l_, m_, unA, unD, n_, AOp.total, o_, p_, q_, r_, s_, t_, u_, v_, A.thaw, C.thaw, A.fits, As.fits, C.fits, evs, oks, w_, A.pure, C.pure, A.re, C.re, x_, y_, cut, A.cells, C.rows?, z_, A_, B_, C_, D_, Ob.re, Cs.fits, E_, F_, G_, H_, I_, J_, K_, L_, M_, N_, O_, C.toD, P_, Q_, R_, S_, T_, Obs.fits, U_, eqD, V_, W_, X_, Y_, Z_]
  · have hil : i = b.length := by omega
    subst hil
    rw [List.take_length] at hall
    have hal : b.all Tm.goal = true := List.all_eq_true.2 hall
    by_cases h6 : b.length ≤ 6
    · have h6' : (b.length : Int) ≤ 6 := by omega
      simp -implicitDefEqProofs [setAll, hli, h6', kw, ew, sw, tw, a_, b_, c_, -List.set_cons_succ, -List.set_cons_zero, A.ok, A.val, d_, e_, f_, g_, h_, i_, j_, k_, l_, m_, unA, unD, n_, AOp.total, o_, p_, q_, r_, s_, t_, u_, v_, A.thaw, C.thaw, A.fits, As.fits, C.fits, evs, oks, w_, A.pure, C.pure, A.re, C.re, x_, y_, cut, A.cells, C.rows?, z_, A_, B_, C_, D_, Ob.re, Cs.fits, E_, F_, G_, H_, I_, J_, K_, L_, M_, N_, O_, C.toD, P_, Q_, R_, S_, T_, Obs.fits, U_, eqD, V_, W_, X_, Y_, Z_]
      refine qcall_pure c1 hf rfl ?_
      cases h1 : h.valid with
      | false => simp -implicitDefEqProofs [h1, Cl.validB, kw, ew, sw, tw, a_, b_, c_, -List.set_cons_succ, -List.set_cons_zero, A.ok, A.val, d_, e_, f_, g_, h_, i_, j_, k_, l_, m_, unA, unD, n_, AOp.total, o_, p_, q_, r_, s_, t_, u_, v_, A.thaw, C.thaw, A.fits, As.fits, C.fits, evs, oks, w_, A.pure, C.pure, A.re, C.re, x_, y_, cut, A.cells, C.rows?, z_, A_, B_, C_, D_, Ob.re, Cs.fits, E_, F_, G_, H_, I_, J_, K_, L_, M_, N_, O_, C.toD, P_, Q_, R_, S_, T_, Obs.fits, U_, eqD, V_, W_, X_, Y_, Z_]
      | true =>
        simp -implicitDefEqProofs [h1, kw, ew, sw, tw, a_, b_, c_, -List.set_cons_succ, -List.set_cons_zero, A.ok, A.val, d_, e_, f_, g_, h_, i_, j_, k_, l_, m_, unA, unD, n_, AOp.total, o_, p_, q_, r_, s_, t_, u_, v_, A.thaw, C.thaw, A.fits, As.fits, C.fits, evs, oks, w_, A.pure, C.pure, A.re, C.re, x_, y_, cut, A.cells, C.rows?, z_, A_, B_, C_, D_, Ob.re, Cs.fits, E_, F_, G_, H_, I_, J_, K_, L_, M_, N_, O_, C.toD, P_, Q_, R_, S_, T_, Obs.fits, U_, eqD, V_, W_, X_, Y_, Z_]
        refine qcall_pure c2 hf rfl ?_
        simp -implicitDefEqProofs [h1, h6, hal, goalsB, Cl.validB, kw, ew, sw, tw, a_, b_, c_, -List.set_cons_succ, -List.set_cons_zero, A.ok, A.val, d_, e_, f_, g_, h_, i_, j_, k_, l_, m_, unA, unD, n_, AOp.total, o_, p_, q_, r_, s_, t_, u_, v_, A.thaw, C.thaw, A.fits, As.fits, C.fits, evs, oks, w_, A.pure, C.pure, A.re, C.re, x_, y_, cut, A.cells, C.rows?, z_, A_, B_, C_, D_, Ob.re, Cs.fits, E_, F_, G_, H_, I_, J_, K_, L_, M_, N_, O_, C.toD, P_, Q_, R_, S_, T_, Obs.fits, U_, eqD, V_, W_, X_, Y_, Z_]
    · have h6' : ¬ (b.length : Int) ≤ 6 := by omega
      simp -implicitDefEqProofs [setAll, hli, h6', h6, goalsB, Cl.validB, kw, ew, sw, tw, a_, b_, c_, -List.set_cons_succ, -List.set_cons_zero, A.ok, A.val, d_, e_, f_, g_, h_, i_, j_, k_, l_, m_, unA, unD, n_, AOp.total, o_, p_, q_, r_, s_, t_, u_, v_, A.thaw, C.thaw, A.fits, As.fits, C.fits, evs, oks, w_, A.pure, C.pure, A.re, C.re, x_, y_, cut, A.cells, C.rows?, z_, A_, B_, C_, D_, Ob.re, Cs.fits, E_, F_, G_, H_, I_, J_, K_, L_, M_, N_, O_, C.toD, P_, Q_, R_, S_, T_, Obs.fits, U_, eqD, V_, W_, X_, Y_, Z_]
theorem any_notC (l : List Cl) : (l.any fun t => !t.validB) = !l.all Cl.validB := by
  induction l with
  | nil => rfl
  | cons t l ih => simp only [List.any_cons, List.all_cons, ih, Bool.not_and]
theorem notClause_calls (c : Cl) (hc : c.fits) (H : Heap) : ACalls Try.prog 88 [.agg (c.row.map .d)] H (fun r H' => H' = H ∧ r = .c (.d (.bool (!c.validB)))) := by
  refine acalls Try.func88 (by kernel_rfl) ac88_ok fun hf => ?_
  simp -implicitDefEqProofs [ac88, crow_len, take_crow, pure_d, re_d, kw, ew, sw, tw, a_, b_, c_, -List.set_cons_succ, -List.set_cons_zero, A.ok, A.val, d_, e_, f_, g_, h_, i_, j_, k_, l_, m_, unA, unD, n_, AOp.total, o_, p_, q_, r_, s_, t_, u_, v_, A.thaw, C.thaw, A.fits, As.fits, C.fits, evs, oks, w_, A.pure, C.pure, A.re, C.re, x_, y_, cut, A.cells, C.rows?, z_, A_, B_, C_, D_, Ob.re, Cs.fits, E_, F_, G_, H_, I_, J_, K_, L_, M_, N_, O_, C.toD, P_, Q_, R_, S_, T_, Obs.fits, U_, eqD, V_, W_, X_, Y_, Z_]
  refine qcall_pure (cvImpl_calls c hc) hf rfl ?_
  simp -implicitDefEqProofs [kw, ew, sw, tw, a_, b_, c_, -List.set_cons_succ, -List.set_cons_zero, A.ok, A.val, d_, e_, f_, g_, h_, i_, j_, k_, l_, m_, unA, unD, n_, AOp.total, o_, p_, q_, r_, s_, t_, u_, v_, A.thaw, C.thaw, A.fits, As.fits, C.fits, evs, oks, w_, A.pure, C.pure, A.re, C.re, x_, y_, cut, A.cells, C.rows?, z_, A_, B_, C_, D_, Ob.re, Cs.fits, E_, F_, G_, H_, I_, J_, K_, L_, M_, N_, O_, C.toD, P_, Q_, R_, S_, T_, Obs.fits, U_, eqD, V_, W_, X_, Y_, Z_]
theorem pvImpl_calls (p : List Cl) (hp : FitsC p) (H : Heap) : ACalls Try.prog 70 [.c (.d (.sl (p.map Cl.row)))] H (fun r H' => H' = H ∧ r = .c (.d (.bool (progB p)))) := by
  obtain ⟨hl, h⟩ := hp
  refine acalls Try.func70 (by kernel_rfl) ac70_ok fun hf => ?_
  have hli : inR .i64 (p.length : Int) := small_i64 (by omega) (by omega)
  by_cases h6 : p.length ≤ 20
  · have h6' : (p.length : Int) ≤ 20 := by omega
    simp -implicitDefEqProofs [ac70, hli, h6', kw, ew, sw, tw, a_, b_, c_, -List.set_cons_succ, -List.set_cons_zero, A.ok, A.val, d_, e_, f_, g_, h_, i_, j_, k_, l_, m_, unA, unD, n_, AOp.total, o_, p_, q_, r_, s_, t_, u_, v_, A.thaw, C.thaw, A.fits, As.fits, C.fits, evs, oks, w_, A.pure, C.pure, A.re, C.re, x_, y_, cut, A.cells, C.rows?, z_, A_, B_, C_, D_, Ob.re, Cs.fits, E_, F_, G_, H_, I_, J_, K_, L_, M_, N_, O_, C.toD, P_, Q_, R_, S_, T_, Obs.fits, U_, eqD, V_, W_, X_, Y_, Z_]
    refine qcall_pure (clF_any 88 (fun t => !t.validB) p hl fun t ht => notClause_calls t (h t ht)) hf rfl ?_
    rw [any_notC]
    simp -implicitDefEqProofs [h6, progB, kw, ew, sw, tw, a_, b_, c_, -List.set_cons_succ, -List.set_cons_zero, A.ok, A.val, d_, e_, f_, g_, h_, i_, j_, k_, l_, m_, unA, unD, n_, AOp.total, o_, p_, q_, r_, s_, t_, u_, v_, A.thaw, C.thaw, A.fits, As.fits, C.fits, evs, oks, w_, A.pure, C.pure, A.re, C.re, x_, y_, cut, A.cells, C.rows?, z_, A_, B_, C_, D_, Ob.re, Cs.fits, E_, F_, G_, H_, I_, J_, K_, L_, M_, N_, O_, C.toD, P_, Q_, R_, S_, T_, Obs.fits, U_, eqD, V_, W_, X_, Y_, Z_]
  · have h6' : ¬ (p.length : Int) ≤ 20 := by omega
    simp -implicitDefEqProofs [ac70, hli, h6', h6, progB, kw, ew, sw, tw, a_, b_, c_, -List.set_cons_succ, -List.set_cons_zero, A.ok, A.val, d_, e_, f_, g_, h_, i_, j_, k_, l_, m_, unA, unD, n_, AOp.total, o_, p_, q_, r_, s_, t_, u_, v_, A.thaw, C.thaw, A.fits, As.fits, C.fits, evs, oks, w_, A.pure, C.pure, A.re, C.re, x_, y_, cut, A.cells, C.rows?, z_, A_, B_, C_, D_, Ob.re, Cs.fits, E_, F_, G_, H_, I_, J_, K_, L_, M_, N_, O_, C.toD, P_, Q_, R_, S_, T_, Obs.fits, U_, eqD, V_, W_, X_, Y_, Z_]
theorem valid_take {l : List Cl} {i : Nat} (h : i < l.length) (ha : ∀ t ∈ l.take i, t.validB = true) (hb : l[i].validB = true) : ∀ t ∈ l.take (i + 1), t.validB = true := by
  intro t h'
  rw [List.take_succ_eq_append_getElem h, List.mem_append] at h'
  rcases h' with h' | h'
  · exact ha t h'
  · simp at h'; subst h'; exact hb
theorem pvSpec_calls (p : List Cl) (hp : FitsC p) (H : Heap) : ACalls Try.prog 68 [.c (.d (.sl (p.map Cl.row)))] H (fun r H' => H' = H ∧ r = .c (.d (.bool (progB p)))) := by
  obtain ⟨hl, h⟩ := hp
  refine acalls Try.func68 (by kernel_rfl) ac68_ok fun hf => ?_
  have hli : inR .i64 (p.length : Int) := small_i64 (by omega) (by omega)
  simp -implicitDefEqProofs [ac68, hli, kw, ew, sw, tw, a_, b_, c_, -List.set_cons_succ, -List.set_cons_zero, A.ok, A.val, d_, e_, f_, g_, h_, i_, j_, k_, l_, m_, unA, unD, n_, AOp.total, o_, p_, q_, r_, s_, t_, u_, v_, A.thaw, C.thaw, A.fits, As.fits, C.fits, evs, oks, w_, A.pure, C.pure, A.re, C.re, x_, y_, cut, A.cells, C.rows?, z_, A_, B_, C_, D_, Ob.re, Cs.fits, E_, F_, G_, H_, I_, J_, K_, L_, M_, N_, O_, C.toD, P_, Q_, R_, S_, T_, Obs.fits, U_, eqD, V_, W_, X_, Y_, Z_]
  refine loop_set (σ := Nat) (fun i => [(3, .c (.d (.int .i64 i)))]) (fun _ => H) (fun _ => []) (fun i => i ≤ p.length ∧ ∀ t ∈ p.take i, t.validB = true) (fun i => p.length - i) 0 rfl ⟨Nat.zero_le _, by simp⟩ ?_
  rintro i ⟨hi, hall⟩
  by_cases hlt : i < p.length
  · by_cases hi6 : i ≤ 20
    · have hi6' : (i : Int) ≤ 20 := by omega
      simp -implicitDefEqProofs [setAll, hli, hlt, hi6, hi6', kw, ew, sw, tw, a_, b_, c_, -List.set_cons_succ, -List.set_cons_zero, A.ok, A.val, d_, e_, f_, g_, h_, i_, j_, k_, l_, m_, unA, unD, n_, AOp.total, o_, p_, q_, r_, s_, t_, u_, v_, A.thaw, C.thaw, A.fits, As.fits, C.fits, evs, oks, w_, A.pure, C.pure, A.re, C.re, x_, y_, cut, A.cells, C.rows?, z_, A_, B_, C_, D_, Ob.re, Cs.fits, E_, F_, G_, H_, I_, J_, K_, L_, M_, N_, O_, C.toD, P_, Q_, R_, S_, T_, Obs.fits, U_, eqD, V_, W_, X_, Y_, Z_]
      refine row_of hlt (crow_len _) ?_
      simp -implicitDefEqProofs [crow_len, take_crow, pure_d, re_d, kw, ew, sw, tw, a_, b_, c_, -List.set_cons_succ, -List.set_cons_zero, A.ok, A.val, d_, e_, f_, g_, h_, i_, j_, k_, l_, m_, unA, unD, n_, AOp.total, o_, p_, q_, r_, s_, t_, u_, v_, A.thaw, C.thaw, A.fits, As.fits, C.fits, evs, oks, w_, A.pure, C.pure, A.re, C.re, x_, y_, cut, A.cells, C.rows?, z_, A_, B_, C_, D_, Ob.re, Cs.fits, E_, F_, G_, H_, I_, J_, K_, L_, M_, N_, O_, C.toD, P_, Q_, R_, S_, T_, Obs.fits, U_, eqD, V_, W_, X_, Y_, Z_]
      refine qcall_pure (cvSpec_calls p[i] (h _ (List.getElem_mem hlt))) hf rfl ?_
      have hadd : inR .i64 ((i : Int) + 1) := small_i64 (by omega) (by omega)
      simp -implicitDefEqProofs [hadd, kw, ew, sw, tw, a_, b_, c_, -List.set_cons_succ, -List.set_cons_zero, A.ok, A.val, d_, e_, f_, g_, h_, i_, j_, k_, l_, m_, unA, unD, n_, AOp.total, o_, p_, q_, r_, s_, t_, u_, v_, A.thaw, C.thaw, A.fits, As.fits, C.fits, evs, oks, w_, A.pure, C.pure, A.re, C.re, x_, y_, cut, A.cells, C.rows?, z_, A_, B_, C_, D_, Ob.re, Cs.fits, E_, F_, G_, H_, I_, J_, K_, L_, M_, N_, O_, C.toD, P_, Q_, R_, S_, T_, Obs.fits, U_, eqD, V_, W_, X_, Y_, Z_]
      refine ⟨fun hg => ?_, fun hg => loop_back (i + 1) (by simp [setAll]) ⟨hlt, valid_take hlt hall hg⟩ (by show p.length - (i + 1) < p.length - i; omega)⟩
      have : p.all Cl.validB = false := by
        rw [List.all_eq_false]
        exact ⟨p[i], List.getElem_mem hlt, by simp [hg]⟩
      simp [progB, this]
    · have hl6 : ¬ p.length ≤ 20 := by omega
      have hl6' : ¬ (p.length : Int) ≤ 20 := by omega
      have hi6' : ¬ (i : Int) ≤ 20 := by omega
      simp -implicitDefEqProofs [setAll, hli, hlt, hi6, hi6', hl6, hl6', progB, kw, ew, sw, tw, a_, b_, c_, -List.set_cons_succ, -List.set_cons_zero, A.ok, A.val, d_, e_, f_, g_, h_, i_, j_, k_, l_, m_, unA, unD, n_, AOp.total, o_, p_, q_, r_, s_, t_, u_, v_, A.thaw, C.thaw, A.fits, As.fits, C.fits, evs, oks, w_, A.pure, C.pure, A.re, C.re, x_, y_, cut, A.cells, C.rows?, z_, A_, B_, C_, D_, Ob.re, Cs.fits, E_, F_, G_, H_, I_, J_, K_, L_, M_, N_, O_, C.toD, P_, Q_, R_, S_, T_, Obs.fits, U_, eqD, V_, W_, X_, Y_, Z_]
  · have hil : i = p.length := by omega
    subst hil
    rw [List.take_length] at hall
    have hal : p.all Cl.validB = true := List.all_eq_true.2 hall
    simp -implicitDefEqProofs [setAll, hli, progB, hal, kw, ew, sw, tw, a_, b_, c_, -List.set_cons_succ, -List.set_cons_zero, A.ok, A.val, d_, e_, f_, g_, h_, i_, j_, k_, l_, m_, unA, unD, n_, AOp.total, o_, p_, q_, r_, s_, t_, u_, v_, A.thaw, C.thaw, A.fits, As.fits, C.fits, evs, oks, w_, A.pure, C.pure, A.re, C.re, x_, y_, cut, A.cells, C.rows?, z_, A_, B_, C_, D_, Ob.re, Cs.fits, E_, F_, G_, H_, I_, J_, K_, L_, M_, N_, O_, C.toD, P_, Q_, R_, S_, T_, Obs.fits, U_, eqD, V_, W_, X_, Y_, Z_]
    all_goals omega
end Go.Proofs.Ytaegeehpajlebaa
