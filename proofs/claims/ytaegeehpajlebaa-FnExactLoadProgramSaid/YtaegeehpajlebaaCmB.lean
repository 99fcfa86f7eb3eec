/-
  Goals and bodies as the reference makes them.
  Conditions: none.
-/
import Derived.Test.YtaegeehpajlebaaCmS
import Derived.Test.YtaegeehpajlebaaClV
import Derived.Test.YtaegeehpajlebaaQvA
open Go Go.AM Go.Proofs
namespace Go.Proofs.Ytaegeehpajlebaa
open Go.ChangeShapes Go.WideShapes Go.ChangeAt Go.RowKit
set_option linter.unusedVariables false
set_option linter.unusedSimpArgs false
set_option maxRecDepth 100000
-- 117 loop.example/prologserver/spec.l8Build params 2 ntmps 89
-- loop head live: [2, 3, 4, 6, 7]
-- loop head live: [2, 3, 4, 6, 9, 10]
def ac117 : Cd := .seq (.region [⟨(some 2), .box (.t 0), none⟩,
      ⟨(some 3), .box (.t 1), none⟩,
      ⟨(some 4), .alloc [(.full []), (.d (.int .i64 0)), (.full [])], none⟩,
      ⟨(some 5), .mv (.k (.c (.d (.int .i64 0)))), none⟩] [0, 1, 5])
  (.seq (.region [⟨(some 13), .buildSlice 1 0 [(.int .i64 0)] [], none⟩,
      ⟨(some 6), .mv (.t 13), none⟩] [13])
  (.seq (.seq (.region [⟨(some 7), .mv (.k (.c (.d (.int .i64 0)))), none⟩] [])
    (.block 0 (.loop (.seq (.seq (.region [⟨(some 14), .mv (.t 7), none⟩,
              ⟨(some 15), .fieldAddr 3 (.t 3), none⟩,
              ⟨(some 16), .load none (.t 15), none⟩,
              ⟨(some 17), .len 1 (.t 16), none⟩,
              ⟨(some 18), .bin .lss (.t 14) (.t 17), none⟩] [14, 15, 16, 17])
          (.cond (.t 18)
            (.skip)
            (.exit 0)))
        (.seq (.block 1 (.seq (.region [⟨(some 8), .mv (.k (.c (.d (.int .i64 (-1))))), none⟩] [18])
            (.seq (.seq (.region [⟨(some 21), .fieldAddr 3 (.t 3), none⟩,
                  ⟨(some 22), .load none (.t 21), none⟩,
                  ⟨(some 23), .mv (.t 7), none⟩,
                  ⟨(some 24), .indexAddr 4 (.t 22) (.t 23), none⟩,
                  ⟨(some 25), .fieldAddr 0 (.t 24), none⟩,
                  ⟨(some 26), .load none (.t 25), none⟩,
                  ⟨(some 27), .bin .eql (.t 26) (.k (.c (.d (.int .i64 3)))), none⟩] [21, 22, 23, 24, 25, 26])
              (.cond (.t 27)
                (.region [⟨(some 30), .fieldAddr 3 (.t 3), none⟩,
                  ⟨(some 32), .mv (.t 7), none⟩,
                  ⟨(some 29), .load (some 3) (.t 2), none⟩,
                  ⟨(some 31), .load none (.t 30), none⟩,
                  ⟨(some 33), .indexAddr 4 (.t 31) (.t 32), none⟩,
                  ⟨(some 34), .load (some 4) (.t 33), none⟩,
                  ⟨(some 35), .qcall 117 [(.t 29), (.t 34)], none⟩,
                  ⟨(some 28), .mv (.t 35), none⟩,
                  ⟨(some 36), .extract 0 (.t 28), none⟩,
                  ⟨(some 37), .extract 1 (.t 28), none⟩,
                  ⟨none, .store 3 (.t 2) (.t 36), none⟩,
                  ⟨(some 8), .mv (.t 37), none⟩] [27, 28, 29, 30, 31, 32, 33, 34, 35, 36, 37])
                (.skip)))
            (.region [⟨(some 38), .mv (.t 6), none⟩,
              ⟨(some 39), .mv (.t 8), none⟩,
              ⟨(some 40), .buildSlice 1 1 [(.int .i64 0)] [(0, (.t 39))], none⟩,
              ⟨(some 41), .append false 1 (.t 38) (.t 40), none⟩,
              ⟨(some 6), .mv (.t 41), none⟩] [8, 27, 38, 39, 40, 41]))))
        (.region [⟨(some 19), .mv (.t 7), none⟩,
          ⟨(some 20), .bin .add (.t 19) (.k (.c (.d (.int .i64 1)))), none⟩,
          ⟨(some 7), .mv (.t 20), none⟩] [19, 20]))))))
  (.seq (.region [⟨(some 42), .fieldAddr 1 (.t 2), none⟩,
      ⟨(some 43), .load none (.t 42), none⟩,
      ⟨(some 9), .mv (.t 43), none⟩] [42, 43])
  (.seq (.region [⟨(some 44), .mv (.t 9), none⟩,
      ⟨(some 45), .bin .add (.t 44) (.k (.c (.d (.int .i64 1)))), none⟩,
      ⟨(some 46), .fieldAddr 1 (.t 2), none⟩,
      ⟨none, .store 1 (.t 46) (.t 45), none⟩] [44, 45, 46])
  (.seq (.region [⟨(some 47), .load (some 3) (.t 2), none⟩,
      ⟨(some 48), .fieldAddr 3 (.t 3), none⟩,
      ⟨(some 49), .load none (.t 48), none⟩,
      ⟨(some 50), .len 1 (.t 49), none⟩,
      ⟨(some 51), .mv (.t 9), none⟩,
      ⟨(some 52), .fieldAddr 2 (.t 3), none⟩,
      ⟨(some 53), .load none (.t 52), none⟩,
      ⟨(some 54), .build [(.d (.int .i64 0)), (.d (.int .i64 0)), (.d (.int .i64 0)), (.d (.str []))] [(0, 1, (.k (.c (.d (.int .i64 7))))), (1, 1, (.t 50)), (2, 1, (.t 51)), (3, 1, (.t 53))], none⟩,
      ⟨(some 55), .qcall 96 [(.t 47), (.t 54)], none⟩,
      ⟨none, .store 3 (.t 2) (.t 55), none⟩] [47, 48, 49, 50, 51, 52, 53, 54, 55])
  (.seq (.seq (.region [⟨(some 10), .mv (.k (.c (.d (.int .i64 0)))), none⟩] [])
    (.block 2 (.loop (.seq (.seq (.region [⟨(some 56), .mv (.t 10), none⟩,
              ⟨(some 57), .fieldAddr 3 (.t 3), none⟩,
              ⟨(some 58), .load none (.t 57), none⟩,
              ⟨(some 59), .len 1 (.t 58), none⟩,
              ⟨(some 60), .bin .lss (.t 56) (.t 59), none⟩] [56, 57, 58, 59])
          (.cond (.t 60)
            (.skip)
            (.exit 2)))
        (.seq (.block 3 (.seq (.seq (.region [⟨(some 63), .mv (.t 6), none⟩,
                  ⟨(some 64), .mv (.t 10), none⟩,
                  ⟨(some 65), .indexAddr 1 (.t 63) (.t 64), none⟩,
                  ⟨(some 66), .load none (.t 65), none⟩,
                  ⟨(some 67), .bin .geq (.t 66) (.k (.c (.d (.int .i64 0)))), none⟩] [60, 63, 64, 65, 66])
              (.cond (.t 67)
                (.seq (.region [⟨(some 69), .mv (.t 6), none⟩,
                    ⟨(some 70), .mv (.t 10), none⟩,
                    ⟨(some 71), .indexAddr 1 (.t 69) (.t 70), none⟩,
                    ⟨(some 68), .load (some 3) (.t 2), none⟩,
                    ⟨(some 72), .load none (.t 71), none⟩,
                    ⟨(some 73), .build [(.d (.int .i64 0)), (.d (.int .i64 0)), (.d (.int .i64 0)), (.d (.str []))] [(0, 1, (.k (.c (.d (.int .i64 5))))), (1, 1, (.t 72))], none⟩,
                    ⟨(some 74), .qcall 96 [(.t 68), (.t 73)], none⟩,
                    ⟨none, .store 3 (.t 2) (.t 74), none⟩] [67, 68, 69, 70, 71, 72, 73, 74])
                (.exit 3))
                (.skip)))
            (.seq (.region [⟨(some 77), .fieldAddr 3 (.t 3), none⟩,
                ⟨(some 79), .mv (.t 10), none⟩,
                ⟨(some 80), .mv (.t 10), none⟩,
                ⟨(some 81), .bin .add (.t 80) (.k (.c (.d (.int .i64 1)))), none⟩,
                ⟨(some 76), .load (some 3) (.t 2), none⟩,
                ⟨(some 78), .load none (.t 77), none⟩,
                ⟨(some 82), .slice 4 (.t 78) (some (.t 79)) (some (.t 81)) none, none⟩,
                ⟨(some 83), .qcall 108 [(.t 76), (.t 82)], none⟩,
                ⟨(some 75), .mv (.t 83), none⟩,
                ⟨(some 84), .extract 0 (.t 75), none⟩,
                ⟨(some 85), .extract 1 (.t 75), none⟩,
                ⟨(some 11), .alloc [(.full []), (.d (.int .i64 0)), (.full [])], none⟩,
                ⟨none, .store 3 (.t 11) (.t 84), none⟩,
                ⟨(some 12), .mv (.t 85), none⟩] [12, 67, 75, 76, 77, 78, 79, 80, 81, 82, 83, 84, 85])
            (.region [⟨(some 86), .load (some 3) (.t 11), none⟩,
              ⟨none, .store 3 (.t 2) (.t 86), none⟩] [11, 86]))))
        (.region [⟨(some 61), .mv (.t 10), none⟩,
          ⟨(some 62), .bin .add (.t 61) (.k (.c (.d (.int .i64 1)))), none⟩,
          ⟨(some 10), .mv (.t 62), none⟩] [61, 62]))))))
  (.seq (.region [⟨(some 87), .load (some 3) (.t 2), none⟩,
      ⟨(some 88), .mv (.t 9), none⟩,
      ⟨none, .store 3 (.t 4) (.t 87), none⟩,
      ⟨(some 5), .mv (.t 88), none⟩] [2, 9, 87, 88])
  (.ret))))))))
theorem ac117_ok : cFunc Try.prog [1000096, 1000108, 1000117] [(0, [0, 1, 5], []), (1, [13], []), (2, [], []), (3, [14, 15, 16, 17], []), (5, [18], []), (6, [21, 22, 23, 24, 25, 26], []), (7, [27, 28, 29, 30, 31, 32, 33, 34, 35, 36, 37], [1, 3, 0, 2, 4, 5, 6, 7, 8, 9, 10, 11]), (8, [8, 27, 38, 39, 40, 41], []), (4, [19, 20], []), (9, [42, 43], []), (10, [44, 45, 46], []), (11, [47, 48, 49, 50, 51, 52, 53, 54, 55], []), (12, [], []), (13, [56, 57, 58, 59], []), (15, [60, 63, 64, 65, 66], []), (16, [67, 68, 69, 70, 71, 72, 73, 74], [1, 2, 3, 0, 4, 5, 6, 7]), (17, [12, 67, 75, 76, 77, 78, 79, 80, 81, 82, 83, 84, 85], [1, 3, 4, 5, 0, 2, 6, 7, 8, 9, 10, 11, 12, 13]), (18, [11, 86], []), (14, [61, 62], []), (19, [2, 9, 87, 88], [])] Try.f117 = some (ac117, [.cell 4 (some 3), .tmp 5], 89) := by kernel_rfl
theorem buildL_sign : ∀ (l : List Tm) (M : Mk) (i : Nat) (t : Tm) (b : Int), l[i]? = some t → (buildL l M).2[i]? = some b → (t.k = 3 → 0 ≤ b) ∧ (t.k ≠ 3 → b = -1)
  | [], M, i, t, b, h, _ => by cases h
  | u :: l, M, i, t, b, h, h' => by
    unfold buildL at h'
    cases i with
    | zero =>
      simp at h
      subst h
      split at h'
      · rename_i hk
        simp at h'
        exact ⟨fun _ => by omega, fun h => absurd hk h⟩
      · rename_i hk
        simp at h'
        exact ⟨fun h => absurd h hk, fun _ => h'.symm⟩
    | succ i =>
      simp at h
      split at h'
      · simp at h'
        exact buildL_sign l _ i t b h h'
      · simp at h'
        exact buildL_sign l _ i t b h h'
theorem args_one (t : Tm) (h : t.k ≠ 3) (M : Mk) : argsT [t] M = (M.desc t, []) := by simp [argsT, h]
theorem row_slice {l : List Tm} {i : Nat} (h : i < l.length) : ((l.map Tm.row).take (i + 1)).drop i = [l[i]].map Tm.row := by
  rw [List.take_succ_eq_append_getElem (by simpa using h), List.drop_left' (by simp; omega)]
  simp
theorem build_calls : ∀ t : Tm, t.good → ∀ (M : Mk) (B : Nat), B + 6 * t.size ≤ 800000 → M.fit B → ∀ H : Heap,
    ACalls Try.prog 117 [.agg [.d (.sl (slotsR M.sl)), .d (.int .i64 M.next), .d (.sl M.code)], .agg (t.row.map .d)] H
      (fun r H' => H' = H ∧ r = .tup [.agg [.d (.sl (slotsR (buildT t M).1.sl)), .d (.int .i64 (buildT t M).1.next), .d (.sl (buildT t M).1.code)], .c (.d (.int .i64 (buildT t M).2))]) := by
  refine Tm.ind fun k n s l ih hg M B hB hM H => ?_
  have hl4 := (good_kids hg).1
  have hkg := (good_kids hg).2
  rw [Tm.size] at hB
  refine acalls Try.func117 (by kernel_rfl) ac117_ok fun hf => ?_
  have hli : inR .i64 (l.length : Int) := small_i64 (by omega) (by omega)
  simp -implicitDefEqProofs [ac117, hli, row_mk, kw, ew, sw, tw, a_, b_, c_, -List.set_cons_succ, -List.set_cons_zero, A.ok, A.val, d_, e_, f_, g_, h_, i_, j_, k_, l_, m_, unA, unD, n_, AOp.total, o_, p_, q_, r_, s_, t_, u_, v_, A.thaw, C.thaw, A.fits, As.fits, C.fits, evs, oks, w_, A.pure, C.pure, A.re, C.re, x_, y_, cut, A.cells, C.rows?, z_, A_, B_, C_, D_, Ob.re, Cs.fits, E_, F_, G_, H_, I_, J_, K_, L_, M_, N_, O_, C.toD, P_, Q_, R_, S_, T_, Obs.fits, U_, eqD, V_, W_, X_, Y_, Z_]
  refine loop_enter (St.le_token 6 1 rfl) ?_
  obtain ⟨F, hF⟩ : ∃ F, F = buildL l M := ⟨_, rfl⟩
  have hFl := buildL_len l M
  have hFs := buildL_sign l M
  have hR : buildT (.mk k n s l) M = (partsT l F.2 (F.1.bump.emit 7 l.length F.1.next s), F.1.next) := by rw [buildT, hF]
  rw [hR]
  rw [← hF] at hFl hFs
  refine loop_set (σ := Nat × Mk × List Int) (fun x => [(7, .c (.d (.int .i64 x.1))), (6, .c (.own (.l 3) x.2.2.length (intRows x.2.2)))]) (fun _ => H)
    (fun x => [.cells [.d (.sl (slotsR x.2.1.sl)), .d (.int .i64 x.2.1.next), .d (.sl x.2.1.code)], .cells [.d (.int .i64 k), .d (.int .i64 n), .d (.str s), .d (.sl (l.map Tm.row))], .cells [.full [], .d (.int .i64 0), .full []], .grow x.2.2.length 1])
    (fun x => x.1 ≤ l.length ∧ (∃ cc, x.2.1.fit cc ∧ cc + 6 * sizes (l.drop x.1) ≤ B + 6 * sizes l) ∧ F.1 = (buildL (l.drop x.1) x.2.1).1 ∧ F.2 = x.2.2 ++ (buildL (l.drop x.1) x.2.1).2 ∧ x.2.2.length = x.1) (fun x => l.length - x.1) (0, M, []) (by simp [setAll, intRows]) ⟨Nat.zero_le _, ⟨B, hM, by simp⟩, by simp [hF], by simp [hF], rfl⟩ ?_
  rintro ⟨i, N, bs⟩ ⟨hi, ⟨cc, hN, hC⟩, h1, h2, h3⟩
  simp only at hi hN hC h1 h2 h3
  simp -implicitDefEqProofs [setAll, hli, kw, ew, sw, tw, a_, b_, c_, -List.set_cons_succ, -List.set_cons_zero, A.ok, A.val, d_, e_, f_, g_, h_, i_, j_, k_, l_, m_, unA, unD, n_, AOp.total, o_, p_, q_, r_, s_, t_, u_, v_, A.thaw, C.thaw, A.fits, As.fits, C.fits, evs, oks, w_, A.pure, C.pure, A.re, C.re, x_, y_, cut, A.cells, C.rows?, z_, A_, B_, C_, D_, Ob.re, Cs.fits, E_, F_, G_, H_, I_, J_, K_, L_, M_, N_, O_, C.toD, P_, Q_, R_, S_, T_, Obs.fits, U_, eqD, V_, W_, X_, Y_, Z_]
  refine ⟨fun hlt => ?_, fun hge => ?_⟩
  · have hadd : inR .i64 ((i : Int) + 1) := small_i64 (by omega) (by omega)
    have hd : l.drop i = l[i] :: l.drop (i + 1) := List.drop_eq_getElem_cons hlt
    rw [hd, buildL] at h1 h2
    rw [hd, sizes] at hC
    have ihi := ih l[i] (List.getElem_mem hlt) (hkg _ (List.getElem_mem hlt)) N cc (by omega) hN
    have hft := build_fit l[i] N cc hN
    refine row_of hlt (row_len _) ?_
    by_cases hk3 : l[i].k = 3
    · simp only [hk3, if_true] at h1 h2
      obtain ⟨R, hRR⟩ : ∃ R, R = buildT l[i] N := ⟨_, rfl⟩
      rw [← hRR] at h1 h2 ihi hft
      simp -implicitDefEqProofs [row_eq, hf, hk3, kw, ew, sw, tw, a_, b_, c_, -List.set_cons_succ, -List.set_cons_zero, A.ok, A.val, d_, e_, f_, g_, h_, i_, j_, k_, l_, m_, unA, unD, n_, AOp.total, o_, p_, q_, r_, s_, t_, u_, v_, A.thaw, C.thaw, A.fits, As.fits, C.fits, evs, oks, w_, A.pure, C.pure, A.re, C.re, x_, y_, cut, A.cells, C.rows?, z_, A_, B_, C_, D_, Ob.re, Cs.fits, E_, F_, G_, H_, I_, J_, K_, L_, M_, N_, O_, C.toD, P_, Q_, R_, S_, T_, Obs.fits, U_, eqD, V_, W_, X_, Y_, Z_]
      refine row_of hlt (row_len _) ?_
      rw [row_eq] at ihi ⊢
      simp only [List.map_cons, List.map_nil] at ihi
      simp -implicitDefEqProofs [hf, hk3, kw, ew, sw, tw, a_, b_, c_, -List.set_cons_succ, -List.set_cons_zero, A.ok, A.val, d_, e_, f_, g_, h_, i_, j_, k_, l_, m_, unA, unD, n_, AOp.total, o_, p_, q_, r_, s_, t_, u_, v_, A.thaw, C.thaw, A.fits, As.fits, C.fits, evs, oks, w_, A.pure, C.pure, A.re, C.re, x_, y_, cut, A.cells, C.rows?, z_, A_, B_, C_, D_, Ob.re, Cs.fits, E_, F_, G_, H_, I_, J_, K_, L_, M_, N_, O_, C.toD, P_, Q_, R_, S_, T_, Obs.fits, U_, eqD, V_, W_, X_, Y_, Z_]
      rw [hk3] at ihi
      refine qcall_pure ihi hf rfl ?_
      simp -implicitDefEqProofs [hf, kw, ew, sw, tw, a_, b_, c_, -List.set_cons_succ, -List.set_cons_zero, A.ok, A.val, d_, e_, f_, g_, h_, i_, j_, k_, l_, m_, unA, unD, n_, AOp.total, o_, p_, q_, r_, s_, t_, u_, v_, A.thaw, C.thaw, A.fits, As.fits, C.fits, evs, oks, w_, A.pure, C.pure, A.re, C.re, x_, y_, cut, A.cells, C.rows?, z_, A_, B_, C_, D_, Ob.re, Cs.fits, E_, F_, G_, H_, I_, J_, K_, L_, M_, N_, O_, C.toD, P_, Q_, R_, S_, T_, Obs.fits, U_, eqD, V_, W_, X_, Y_, Z_]
      refine ⟨allLen_ints _, by rw [intRows_len]; unfold maxApp; omega, ?_⟩
      simp -implicitDefEqProofs [hadd, hf, kw, ew, sw, tw, a_, b_, c_, -List.set_cons_succ, -List.set_cons_zero, A.ok, A.val, d_, e_, f_, g_, h_, i_, j_, k_, l_, m_, unA, unD, n_, AOp.total, o_, p_, q_, r_, s_, t_, u_, v_, A.thaw, C.thaw, A.fits, As.fits, C.fits, evs, oks, w_, A.pure, C.pure, A.re, C.re, x_, y_, cut, A.cells, C.rows?, z_, A_, B_, C_, D_, Ob.re, Cs.fits, E_, F_, G_, H_, I_, J_, K_, L_, M_, N_, O_, C.toD, P_, Q_, R_, S_, T_, Obs.fits, U_, eqD, V_, W_, X_, Y_, Z_]
      refine loop_less (i + 1, R.1, bs ++ [(R.2 : Int)]) (St.le_cut [] ?_ (by simp [Sl.le, A.le_refl_iff, A.le_u_iff, As.lo, A.lo, C.lo, Ref.lo, Cs.lo, Obs.lo, Ob.lo, setAll, and_true, true_and, List.length_nil, List.length_cons]) (by simp) (by simp [Sl.le, A.le_refl_iff, A.le_u_iff, As.lo, A.lo, C.lo, Ref.lo, Cs.lo, Obs.lo, Ob.lo, setAll, and_true, true_and, List.length_nil, List.length_cons])) ⟨hlt, ⟨_, hft.1, by dsimp only; omega⟩, h1, by rw [h2]; simp, by simp; omega⟩ (by show l.length - (i + 1) < l.length - i; omega)
      simp [setAll, intRows, Sl.le, A.le_refl_iff, A.le_u_iff, As.lo, A.lo, C.lo, Ref.lo, Cs.lo, Obs.lo, Ob.lo, setAll, and_true, true_and, List.length_nil, List.length_cons]
    · simp only [hk3, if_false] at h1 h2
      simp -implicitDefEqProofs [row_eq, hf, hk3, kw, ew, sw, tw, a_, b_, c_, -List.set_cons_succ, -List.set_cons_zero, A.ok, A.val, d_, e_, f_, g_, h_, i_, j_, k_, l_, m_, unA, unD, n_, AOp.total, o_, p_, q_, r_, s_, t_, u_, v_, A.thaw, C.thaw, A.fits, As.fits, C.fits, evs, oks, w_, A.pure, C.pure, A.re, C.re, x_, y_, cut, A.cells, C.rows?, z_, A_, B_, C_, D_, Ob.re, Cs.fits, E_, F_, G_, H_, I_, J_, K_, L_, M_, N_, O_, C.toD, P_, Q_, R_, S_, T_, Obs.fits, U_, eqD, V_, W_, X_, Y_, Z_]
      refine ⟨allLen_ints _, by rw [intRows_len]; unfold maxApp; omega, hadd, ?_⟩
      have hsz := size_pos l[i]
      refine loop_less (i + 1, N, bs ++ [-1]) (St.le_cut [] ?_ (by simp [Sl.le, A.le_refl_iff, A.le_u_iff, As.lo, A.lo, C.lo, Ref.lo, Cs.lo, Obs.lo, Ob.lo, setAll, and_true, true_and, List.length_nil, List.length_cons]) (by simp) (by simp [Sl.le, A.le_refl_iff, A.le_u_iff, As.lo, A.lo, C.lo, Ref.lo, Cs.lo, Obs.lo, Ob.lo, setAll, and_true, true_and, List.length_nil, List.length_cons])) ⟨hlt, ⟨cc, hN, by dsimp only; omega⟩, h1, by rw [h2]; simp, by simp; omega⟩ (by show l.length - (i + 1) < l.length - i; omega)
      simp [setAll, intRows, Sl.le, A.le_refl_iff, A.le_u_iff, As.lo, A.lo, C.lo, Ref.lo, Cs.lo, Obs.lo, Ob.lo, setAll, and_true, true_and, List.length_nil, List.length_cons]
  · obtain rfl : i = l.length := by omega
    simp [buildL] at h1 h2
    rw [List.drop_of_length_le (by omega)] at hC
    simp only [sizes, Nat.mul_zero, Nat.add_zero] at hC
    have hnx := hN.next
    have hcd := hN.code
    have hal := hN.all
    have hnj : inR .i64 ((N.next : Int) + 1) := small_i64 (by omega) (by omega)
    rw [h1, h2]
    rw [h2] at hFl hFs
    simp -implicitDefEqProofs [hnj, hli, hf, kw, ew, sw, tw, a_, b_, c_, -List.set_cons_succ, -List.set_cons_zero, A.ok, A.val, d_, e_, f_, g_, h_, i_, j_, k_, l_, m_, unA, unD, n_, AOp.total, o_, p_, q_, r_, s_, t_, u_, v_, A.thaw, C.thaw, A.fits, As.fits, C.fits, evs, oks, w_, A.pure, C.pure, A.re, C.re, x_, y_, cut, A.cells, C.rows?, z_, A_, B_, C_, D_, Ob.re, Cs.fits, E_, F_, G_, H_, I_, J_, K_, L_, M_, N_, O_, C.toD, P_, Q_, R_, S_, T_, Obs.fits, U_, eqD, V_, W_, X_, Y_, Z_]
    refine qcall_pure (emit_calls _ _ _ _ _ _ _ (by omega) hal) hf rfl ?_
    simp -implicitDefEqProofs [hf, kw, ew, sw, tw, a_, b_, c_, -List.set_cons_succ, -List.set_cons_zero, A.ok, A.val, d_, e_, f_, g_, h_, i_, j_, k_, l_, m_, unA, unD, n_, AOp.total, o_, p_, q_, r_, s_, t_, u_, v_, A.thaw, C.thaw, A.fits, As.fits, C.fits, evs, oks, w_, A.pure, C.pure, A.re, C.re, x_, y_, cut, A.cells, C.rows?, z_, A_, B_, C_, D_, Ob.re, Cs.fits, E_, F_, G_, H_, I_, J_, K_, L_, M_, N_, O_, C.toD, P_, Q_, R_, S_, T_, Obs.fits, U_, eqD, V_, W_, X_, Y_, Z_]
    obtain ⟨G, hG⟩ : ∃ G, G = partsT l bs (N.bump.emit 7 l.length N.next s) := ⟨_, rfl⟩
    rw [← hG]
    have hN2 := hN.bump.emit 7 l.length N.next s
    refine loop_set (σ := Nat × Mk) (fun x => [(10, .c (.d (.int .i64 x.1)))]) (fun _ => H)
      (fun x => [.cells [.d (.sl (slotsR x.2.sl)), .d (.int .i64 x.2.next), .d (.sl x.2.code)], .cells [.d (.int .i64 k), .d (.int .i64 n), .d (.str s), .d (.sl (l.map Tm.row))], .cells [.full [], .d (.int .i64 0), .full []], .grow bs.length 1])
      (fun x => x.1 ≤ l.length ∧ x.2.fit (cc + 2 + 2 * x.1) ∧ partsT (l.drop x.1) (bs.drop x.1) x.2 = G) (fun x => l.length - x.1) (0, N.bump.emit 7 l.length N.next s) (by simp [setAll, Mk.emit, Mk.bump]) ⟨Nat.zero_le _, hN2.mono (by omega), by simp [hG]⟩ ?_
    rintro ⟨i, P⟩ ⟨hi, hP, e1⟩
    simp only at hi hP e1
    simp -implicitDefEqProofs [setAll, hli, kw, ew, sw, tw, a_, b_, c_, -List.set_cons_succ, -List.set_cons_zero, A.ok, A.val, d_, e_, f_, g_, h_, i_, j_, k_, l_, m_, unA, unD, n_, AOp.total, o_, p_, q_, r_, s_, t_, u_, v_, A.thaw, C.thaw, A.fits, As.fits, C.fits, evs, oks, w_, A.pure, C.pure, A.re, C.re, x_, y_, cut, A.cells, C.rows?, z_, A_, B_, C_, D_, Ob.re, Cs.fits, E_, F_, G_, H_, I_, J_, K_, L_, M_, N_, O_, C.toD, P_, Q_, R_, S_, T_, Obs.fits, U_, eqD, V_, W_, X_, Y_, Z_]
    refine ⟨fun hlt => ?_, fun hge => ?_⟩
    · have hadd : inR .i64 ((i : Int) + 1) := small_i64 (by omega) (by omega)
      have hlb : i < bs.length := by omega
      have hd : l.drop i = l[i] :: l.drop (i + 1) := List.drop_eq_getElem_cons hlt
      have hdb : bs.drop i = bs[i] :: bs.drop (i + 1) := List.drop_eq_getElem_cons hlb
      rw [hd, hdb, partsT] at e1
      have hsg := hFs i l[i] bs[i] (by simp) (by simp)
      have hPn := hP.next
      have hPc := hP.code
      have hPa := hP.all
      have hrow : (intRows bs)[i]? = some [.int .i64 bs[i]] := by simp [intRows, hlb]
      refine row_nat _ hrow rfl ?_
      by_cases hk3 : l[i].k = 3
      · have h0 := hsg.1 hk3
        simp only [hk3, if_true] at e1
        simp -implicitDefEqProofs [h0, hf, kw, ew, sw, tw, a_, b_, c_, -List.set_cons_succ, -List.set_cons_zero, A.ok, A.val, d_, e_, f_, g_, h_, i_, j_, k_, l_, m_, unA, unD, n_, AOp.total, o_, p_, q_, r_, s_, t_, u_, v_, A.thaw, C.thaw, A.fits, As.fits, C.fits, evs, oks, w_, A.pure, C.pure, A.re, C.re, x_, y_, cut, A.cells, C.rows?, z_, A_, B_, C_, D_, Ob.re, Cs.fits, E_, F_, G_, H_, I_, J_, K_, L_, M_, N_, O_, C.toD, P_, Q_, R_, S_, T_, Obs.fits, U_, eqD, V_, W_, X_, Y_, Z_]
        refine row_nat _ hrow rfl ?_
        simp -implicitDefEqProofs [hf, kw, ew, sw, tw, a_, b_, c_, -List.set_cons_succ, -List.set_cons_zero, A.ok, A.val, d_, e_, f_, g_, h_, i_, j_, k_, l_, m_, unA, unD, n_, AOp.total, o_, p_, q_, r_, s_, t_, u_, v_, A.thaw, C.thaw, A.fits, As.fits, C.fits, evs, oks, w_, A.pure, C.pure, A.re, C.re, x_, y_, cut, A.cells, C.rows?, z_, A_, B_, C_, D_, Ob.re, Cs.fits, E_, F_, G_, H_, I_, J_, K_, L_, M_, N_, O_, C.toD, P_, Q_, R_, S_, T_, Obs.fits, U_, eqD, V_, W_, X_, Y_, Z_]
        refine qcall_pure (emit_calls _ _ _ _ _ _ _ (by omega) hPa) hf rfl ?_
        simp -implicitDefEqProofs [hadd, hf, kw, ew, sw, tw, a_, b_, c_, -List.set_cons_succ, -List.set_cons_zero, A.ok, A.val, d_, e_, f_, g_, h_, i_, j_, k_, l_, m_, unA, unD, n_, AOp.total, o_, p_, q_, r_, s_, t_, u_, v_, A.thaw, C.thaw, A.fits, As.fits, C.fits, evs, oks, w_, A.pure, C.pure, A.re, C.re, x_, y_, cut, A.cells, C.rows?, z_, A_, B_, C_, D_, Ob.re, Cs.fits, E_, F_, G_, H_, I_, J_, K_, L_, M_, N_, O_, C.toD, P_, Q_, R_, S_, T_, Obs.fits, U_, eqD, V_, W_, X_, Y_, Z_]
        refine loop_back (i + 1, P.emit 5 bs[i] 0 []) (by simp [setAll, Mk.emit, insR]) ⟨hlt, (hP.emit ..).mono (by omega), e1⟩ (by show l.length - (i + 1) < l.length - i; omega)
      · have h0 : ¬ 0 ≤ bs[i] := by rw [hsg.2 hk3]; omega
        simp only [hk3, if_false] at e1
        have cag := args_calls [l[i]] (by simp) (by simpa using hkg _ (List.getElem_mem hlt)) P _ (by omega) hP
        rw [args_one _ hk3] at cag
        simp -implicitDefEqProofs [h0, hadd, hf, kw, ew, sw, tw, a_, b_, c_, -List.set_cons_succ, -List.set_cons_zero, A.ok, A.val, d_, e_, f_, g_, h_, i_, j_, k_, l_, m_, unA, unD, n_, AOp.total, o_, p_, q_, r_, s_, t_, u_, v_, A.thaw, C.thaw, A.fits, As.fits, C.fits, evs, oks, w_, A.pure, C.pure, A.re, C.re, x_, y_, cut, A.cells, C.rows?, z_, A_, B_, C_, D_, Ob.re, Cs.fits, E_, F_, G_, H_, I_, J_, K_, L_, M_, N_, O_, C.toD, P_, Q_, R_, S_, T_, Obs.fits, U_, eqD, V_, W_, X_, Y_, Z_]
        refine ⟨allLen_map row_len, ⟨by omega, by omega⟩, ?_⟩
        rw [row_slice hlt]
        refine qcall_pure cag hf rfl ?_
        simp -implicitDefEqProofs [hadd, hf, kw, ew, sw, tw, a_, b_, c_, -List.set_cons_succ, -List.set_cons_zero, A.ok, A.val, d_, e_, f_, g_, h_, i_, j_, k_, l_, m_, unA, unD, n_, AOp.total, o_, p_, q_, r_, s_, t_, u_, v_, A.thaw, C.thaw, A.fits, As.fits, C.fits, evs, oks, w_, A.pure, C.pure, A.re, C.re, x_, y_, cut, A.cells, C.rows?, z_, A_, B_, C_, D_, Ob.re, Cs.fits, E_, F_, G_, H_, I_, J_, K_, L_, M_, N_, O_, C.toD, P_, Q_, R_, S_, T_, Obs.fits, U_, eqD, V_, W_, X_, Y_, Z_]
        refine loop_less (i + 1, P.desc l[i]) (St.le_cut [_] ?_ (by simp [Sl.le, A.le_refl_iff, A.le_u_iff, As.lo, A.lo, C.lo, Ref.lo, Cs.lo, Obs.lo, Ob.lo, setAll, and_true, true_and, List.length_nil, List.length_cons]) (by simp; rfl) (by simp [Sl.le, A.le_refl_iff, A.le_u_iff, As.lo, A.lo, C.lo, Ref.lo, Cs.lo, Obs.lo, Ob.lo, setAll, and_true, true_and, List.length_nil, List.length_cons])) ⟨hlt, (hP.desc _).mono (by dsimp only; omega), e1⟩ (by show l.length - (i + 1) < l.length - i; omega)
        simp [setAll, Sl.le, A.le_refl_iff, A.le_u_iff, As.lo, A.lo, C.lo, Ref.lo, Cs.lo, Obs.lo, Ob.lo, setAll, and_true, true_and, List.length_nil, List.length_cons]
    · obtain rfl : i = l.length := by omega
      rw [List.drop_of_length_le (by omega), partsT] at e1
      · subst e1
        simp -implicitDefEqProofs [hf, kw, ew, sw, tw, a_, b_, c_, -List.set_cons_succ, -List.set_cons_zero, A.ok, A.val, d_, e_, f_, g_, h_, i_, j_, k_, l_, m_, unA, unD, n_, AOp.total, o_, p_, q_, r_, s_, t_, u_, v_, A.thaw, C.thaw, A.fits, As.fits, C.fits, evs, oks, w_, A.pure, C.pure, A.re, C.re, x_, y_, cut, A.cells, C.rows?, z_, A_, B_, C_, D_, Ob.re, Cs.fits, E_, F_, G_, H_, I_, J_, K_, L_, M_, N_, O_, C.toD, P_, Q_, R_, S_, T_, Obs.fits, U_, eqD, V_, W_, X_, Y_, Z_]
      · simp
-- 97 loop.example/prologserver/spec.l8Put params 3 ntmps 73
def ac97 : Cd := .seq (.region [⟨(some 3), .box (.t 0), none⟩,
      ⟨(some 4), .box (.t 1), none⟩,
      ⟨(some 6), .alloc [(.full []), (.d (.int .i64 0)), (.full [])], none⟩] [0, 1])
  (.seq (.block 0 (.seq (.region [⟨(some 9), .fieldAddr 0 (.t 4), none⟩,
          ⟨(some 10), .load none (.t 9), none⟩,
          ⟨(some 11), .bin .eql (.t 10) (.k (.c (.d (.int .i64 2)))), none⟩,
          ⟨(some 8), .mv (.t 11), none⟩] [9, 10, 11])
      (.cond (.t 8)
        (.seq (.region [⟨(some 12), .load (some 3) (.t 3), none⟩,
            ⟨(some 13), .fieldAddr 1 (.t 4), none⟩,
            ⟨(some 14), .load none (.t 13), none⟩,
            ⟨(some 15), .mv (.t 2), none⟩,
            ⟨(some 16), .build [(.d (.int .i64 0)), (.d (.int .i64 0)), (.d (.int .i64 0)), (.d (.str []))] [(0, 1, (.k (.c (.d (.int .i64 10))))), (1, 1, (.t 14)), (2, 1, (.t 15))], none⟩,
            ⟨(some 17), .qcall 96 [(.t 12), (.t 16)], none⟩,
            ⟨none, .store 3 (.t 6) (.t 17), none⟩] [2, 3, 4, 8, 12, 13, 14, 15, 16, 17])
        (.ret))
        (.seq (.region [⟨(some 19), .fieldAddr 0 (.t 4), none⟩,
            ⟨(some 20), .load none (.t 19), none⟩,
            ⟨(some 21), .bin .eql (.t 20) (.k (.c (.d (.int .i64 1)))), none⟩,
            ⟨(some 22), .mv (.t 21), none⟩,
            ⟨(some 23), .fieldAddr 0 (.t 3), some (22, true)⟩,
            ⟨(some 24), .load none (.t 23), some (22, true)⟩,
            ⟨(some 25), .fieldAddr 1 (.t 4), some (22, true)⟩,
            ⟨(some 26), .load none (.t 25), some (22, true)⟩,
            ⟨(some 27), .indexAddr 1 (.t 24) (.t 26), some (22, true)⟩,
            ⟨(some 28), .load none (.t 27), some (22, true)⟩,
            ⟨(some 29), .bin .geq (.t 28) (.k (.c (.d (.int .i64 0)))), some (22, true)⟩,
            ⟨(some 30), .pick (.t 22) (.t 29) (.k (.c (.d (.bool false)))), none⟩,
            ⟨(some 18), .mv (.t 30), none⟩] [8, 19, 20, 21, 22, 23, 24, 25, 26, 27, 28, 29, 30])
        (.cond (.t 18)
          (.seq (.region [⟨(some 32), .fieldAddr 0 (.t 3), none⟩,
              ⟨(some 34), .fieldAddr 1 (.t 4), none⟩,
              ⟨(some 38), .mv (.t 2), none⟩,
              ⟨(some 31), .load (some 3) (.t 3), none⟩,
              ⟨(some 33), .load none (.t 32), none⟩,
              ⟨(some 35), .load none (.t 34), none⟩,
              ⟨(some 36), .indexAddr 1 (.t 33) (.t 35), none⟩,
              ⟨(some 37), .load none (.t 36), none⟩,
              ⟨(some 39), .build [(.d (.int .i64 0)), (.d (.int .i64 0)), (.d (.int .i64 0)), (.d (.str []))] [(0, 1, (.k (.c (.d (.int .i64 9))))), (1, 1, (.t 37)), (2, 1, (.t 38))], none⟩,
              ⟨(some 40), .qcall 96 [(.t 31), (.t 39)], none⟩,
              ⟨none, .store 3 (.t 6) (.t 40), none⟩] [2, 3, 4, 18, 31, 32, 33, 34, 35, 36, 37, 38, 39, 40])
          (.ret))
          (.seq (.region [⟨(some 42), .fieldAddr 0 (.t 4), none⟩,
              ⟨(some 43), .load none (.t 42), none⟩,
              ⟨(some 44), .bin .eql (.t 43) (.k (.c (.d (.int .i64 1)))), none⟩,
              ⟨(some 41), .mv (.t 44), none⟩] [18, 42, 43, 44])
          (.cond (.t 41)
            (.seq (.region [⟨(some 45), .load (some 3) (.t 3), none⟩,
                ⟨(some 46), .fieldAddr 1 (.t 4), none⟩,
                ⟨(some 47), .load none (.t 46), none⟩,
                ⟨(some 48), .fieldAddr 1 (.t 3), none⟩,
                ⟨(some 49), .load none (.t 48), none⟩,
                ⟨(some 50), .qcall 107 [(.t 45), (.t 47), (.t 49)], none⟩,
                ⟨none, .store 3 (.t 3) (.t 50), none⟩] [4, 41, 45, 46, 47, 48, 49, 50])
            (.seq (.region [⟨(some 51), .fieldAddr 1 (.t 3), none⟩,
                ⟨(some 52), .load none (.t 51), none⟩,
                ⟨(some 53), .bin .add (.t 52) (.k (.c (.d (.int .i64 1)))), none⟩,
                ⟨(some 54), .fieldAddr 1 (.t 3), none⟩,
                ⟨none, .store 1 (.t 54) (.t 53), none⟩] [51, 52, 53, 54])
            (.seq (.region [⟨(some 55), .load (some 3) (.t 3), none⟩,
                ⟨(some 56), .fieldAddr 1 (.t 3), none⟩,
                ⟨(some 57), .load none (.t 56), none⟩,
                ⟨(some 58), .bin .sub (.t 57) (.k (.c (.d (.int .i64 1)))), none⟩,
                ⟨(some 59), .mv (.t 2), none⟩,
                ⟨(some 60), .build [(.d (.int .i64 0)), (.d (.int .i64 0)), (.d (.int .i64 0)), (.d (.str []))] [(0, 1, (.k (.c (.d (.int .i64 8))))), (1, 1, (.t 58)), (2, 1, (.t 59))], none⟩,
                ⟨(some 61), .qcall 96 [(.t 55), (.t 60)], none⟩,
                ⟨none, .store 3 (.t 6) (.t 61), none⟩] [2, 3, 55, 56, 57, 58, 59, 60, 61])
            (.ret))))
            (.skip))))))))
  (.seq (.region [⟨(some 63), .load (some 3) (.t 3), none⟩,
      ⟨(some 64), .load (some 4) (.t 4), none⟩,
      ⟨(some 65), .qcall 117 [(.t 63), (.t 64)], none⟩,
      ⟨(some 62), .mv (.t 65), none⟩,
      ⟨(some 66), .extract 0 (.t 62), none⟩,
      ⟨(some 67), .extract 1 (.t 62), none⟩,
      ⟨none, .store 3 (.t 3) (.t 66), none⟩,
      ⟨(some 7), .mv (.t 67), none⟩] [4, 41, 62, 63, 64, 65, 66, 67])
  (.seq (.region [⟨(some 68), .load (some 3) (.t 3), none⟩,
      ⟨(some 69), .mv (.t 7), none⟩,
      ⟨(some 70), .mv (.t 2), none⟩,
      ⟨(some 71), .build [(.d (.int .i64 0)), (.d (.int .i64 0)), (.d (.int .i64 0)), (.d (.str []))] [(0, 1, (.k (.c (.d (.int .i64 9))))), (1, 1, (.t 69)), (2, 1, (.t 70))], none⟩,
      ⟨(some 72), .qcall 96 [(.t 68), (.t 71)], none⟩,
      ⟨none, .store 3 (.t 6) (.t 72), none⟩] [2, 3, 7, 68, 69, 70, 71, 72])
  (.ret))))
theorem ac97_ok : cFunc Try.prog [1000096, 1000107, 1000117] [(0, [0, 1], []), (1, [9, 10, 11], []), (2, [2, 3, 4, 8, 12, 13, 14, 15, 16, 17], []), (3, [8, 19, 20, 21, 22, 23, 24, 25, 26, 27, 28, 29, 30], []), (4, [2, 3, 4, 18, 31, 32, 33, 34, 35, 36, 37, 38, 39, 40], [1, 3, 7, 0, 2, 4, 5, 6, 8, 9, 10]), (5, [18, 42, 43, 44], []), (6, [4, 41, 45, 46, 47, 48, 49, 50], []), (7, [51, 52, 53, 54], []), (8, [2, 3, 55, 56, 57, 58, 59, 60, 61], []), (9, [4, 41, 62, 63, 64, 65, 66, 67], []), (10, [2, 3, 7, 68, 69, 70, 71, 72], [])] Try.f97 = some (ac97, [.cell 6 (some 3)], 73) := by kernel_rfl
theorem put_calls (t : Tm) (hg : t.good) (i : Nat) (M : Mk) (B : Nat) (hB : B + 6 * t.size ≤ 700000) (hM : M.fit B) (H : Heap) :
    ACalls Try.prog 97 [.agg [.d (.sl (slotsR M.sl)), .d (.int .i64 M.next), .d (.sl M.code)], .agg (t.row.map .d), .c (.d (.int .i64 i))] H
      (fun r H' => H' = H ∧ r = .agg [.d (.sl (slotsR (putT M t i).sl)), .d (.int .i64 (putT M t i).next), .d (.sl (putT M t i).code)]) := by
  refine acalls Try.func97 (by kernel_rfl) ac97_ok fun hf => ?_
  have hvs := var_slot hg
  have hnx := hM.next
  have hcd := hM.code
  have hal := hM.all
  have hbt := build_calls t hg M B (by omega) hM
  have hbf := build_fit t M B hM
  obtain ⟨R, hR⟩ : ∃ R, R = buildT t M := ⟨_, rfl⟩
  rw [← hR] at hbt hbf
  have hnj : inR .i64 ((M.next : Int) + 1) := small_i64 (by omega) (by omega)
  have hn2 : inR .i64 (M.next : Int) := small_i64 (by omega) (by omega)
  obtain ⟨k, n, s, kids⟩ := t
  have hpt : putT M (.mk k n s kids) i = if k = 2 then M.emit 10 n i [] else if k = 1 then (match slotO M.sl n with | some v => M.emit 9 v i [] | none => ((M.give n M.next).bump).emit 8 M.next i []) else R.1.emit 9 R.2 i [] := by
    rw [hR]; rfl
  rw [hpt]
  cases hg with
  | mk ho hk =>
    rcases own_cases ho with ⟨rfl, n0, n1, rfl, rfl⟩ | ⟨rfl, n0, n1, rfl, rfl⟩ | ⟨rfl, rfl, hs2, hl4⟩
    · obtain ⟨v, hv, hv26⟩ := hvs rfl
      simp only [Tm.n] at hv
      subst hv
      have hget := slotsR_get M.sl hv26
      simp -implicitDefEqProofs [ac97, row_mk, hf, kw, ew, sw, tw, a_, b_, c_, -List.set_cons_succ, -List.set_cons_zero, A.ok, A.val, d_, e_, f_, g_, h_, i_, j_, k_, l_, m_, unA, unD, n_, AOp.total, o_, p_, q_, r_, s_, t_, u_, v_, A.thaw, C.thaw, A.fits, As.fits, C.fits, evs, oks, w_, A.pure, C.pure, A.re, C.re, x_, y_, cut, A.cells, C.rows?, z_, A_, B_, C_, D_, Ob.re, Cs.fits, E_, F_, G_, H_, I_, J_, K_, L_, M_, N_, O_, C.toD, P_, Q_, R_, S_, T_, Obs.fits, U_, eqD, V_, W_, X_, Y_, Z_]
      refine row_nat _ hget rfl ?_
      cases hsv : slotO M.sl v with
      | some u =>
        have hu0 : ¬ (u : Int) < 0 := by omega
        simp -implicitDefEqProofs [hu0, hf, kw, ew, sw, tw, a_, b_, c_, -List.set_cons_succ, -List.set_cons_zero, A.ok, A.val, d_, e_, f_, g_, h_, i_, j_, k_, l_, m_, unA, unD, n_, AOp.total, o_, p_, q_, r_, s_, t_, u_, v_, A.thaw, C.thaw, A.fits, As.fits, C.fits, evs, oks, w_, A.pure, C.pure, A.re, C.re, x_, y_, cut, A.cells, C.rows?, z_, A_, B_, C_, D_, Ob.re, Cs.fits, E_, F_, G_, H_, I_, J_, K_, L_, M_, N_, O_, C.toD, P_, Q_, R_, S_, T_, Obs.fits, U_, eqD, V_, W_, X_, Y_, Z_]
        refine row_nat _ hget rfl ?_
        simp -implicitDefEqProofs [hsv, hf, kw, ew, sw, tw, a_, b_, c_, -List.set_cons_succ, -List.set_cons_zero, A.ok, A.val, d_, e_, f_, g_, h_, i_, j_, k_, l_, m_, unA, unD, n_, AOp.total, o_, p_, q_, r_, s_, t_, u_, v_, A.thaw, C.thaw, A.fits, As.fits, C.fits, evs, oks, w_, A.pure, C.pure, A.re, C.re, x_, y_, cut, A.cells, C.rows?, z_, A_, B_, C_, D_, Ob.re, Cs.fits, E_, F_, G_, H_, I_, J_, K_, L_, M_, N_, O_, C.toD, P_, Q_, R_, S_, T_, Obs.fits, U_, eqD, V_, W_, X_, Y_, Z_]
        refine qcall_pure (emit_calls _ _ _ _ _ _ _ (by omega) hal) hf rfl ?_
        simp -implicitDefEqProofs [Mk.emit, insR, hf, kw, ew, sw, tw, a_, b_, c_, -List.set_cons_succ, -List.set_cons_zero, A.ok, A.val, d_, e_, f_, g_, h_, i_, j_, k_, l_, m_, unA, unD, n_, AOp.total, o_, p_, q_, r_, s_, t_, u_, v_, A.thaw, C.thaw, A.fits, As.fits, C.fits, evs, oks, w_, A.pure, C.pure, A.re, C.re, x_, y_, cut, A.cells, C.rows?, z_, A_, B_, C_, D_, Ob.re, Cs.fits, E_, F_, G_, H_, I_, J_, K_, L_, M_, N_, O_, C.toD, P_, Q_, R_, S_, T_, Obs.fits, U_, eqD, V_, W_, X_, Y_, Z_]
      | none =>
        simp -implicitDefEqProofs [hf, kw, ew, sw, tw, a_, b_, c_, -List.set_cons_succ, -List.set_cons_zero, A.ok, A.val, d_, e_, f_, g_, h_, i_, j_, k_, l_, m_, unA, unD, n_, AOp.total, o_, p_, q_, r_, s_, t_, u_, v_, A.thaw, C.thaw, A.fits, As.fits, C.fits, evs, oks, w_, A.pure, C.pure, A.re, C.re, x_, y_, cut, A.cells, C.rows?, z_, A_, B_, C_, D_, Ob.re, Cs.fits, E_, F_, G_, H_, I_, J_, K_, L_, M_, N_, O_, C.toD, P_, Q_, R_, S_, T_, Obs.fits, U_, eqD, V_, W_, X_, Y_, Z_]
        refine qcall_pure (slot_calls M.sl M.code _ v M.next hv26 hsv (by omega)) hf rfl ?_
        simp -implicitDefEqProofs [hnj, hn2, hf, kw, ew, sw, tw, a_, b_, c_, -List.set_cons_succ, -List.set_cons_zero, A.ok, A.val, d_, e_, f_, g_, h_, i_, j_, k_, l_, m_, unA, unD, n_, AOp.total, o_, p_, q_, r_, s_, t_, u_, v_, A.thaw, C.thaw, A.fits, As.fits, C.fits, evs, oks, w_, A.pure, C.pure, A.re, C.re, x_, y_, cut, A.cells, C.rows?, z_, A_, B_, C_, D_, Ob.re, Cs.fits, E_, F_, G_, H_, I_, J_, K_, L_, M_, N_, O_, C.toD, P_, Q_, R_, S_, T_, Obs.fits, U_, eqD, V_, W_, X_, Y_, Z_]
        refine qcall_pure (emit_calls _ _ _ _ _ _ _ (by omega) hal) hf rfl ?_
        simp -implicitDefEqProofs [Mk.emit, Mk.give, Mk.bump, insR, hf, kw, ew, sw, tw, a_, b_, c_, -List.set_cons_succ, -List.set_cons_zero, A.ok, A.val, d_, e_, f_, g_, h_, i_, j_, k_, l_, m_, unA, unD, n_, AOp.total, o_, p_, q_, r_, s_, t_, u_, v_, A.thaw, C.thaw, A.fits, As.fits, C.fits, evs, oks, w_, A.pure, C.pure, A.re, C.re, x_, y_, cut, A.cells, C.rows?, z_, A_, B_, C_, D_, Ob.re, Cs.fits, E_, F_, G_, H_, I_, J_, K_, L_, M_, N_, O_, C.toD, P_, Q_, R_, S_, T_, Obs.fits, U_, eqD, V_, W_, X_, Y_, Z_]
    · simp -implicitDefEqProofs [ac97, row_mk, hf, kw, ew, sw, tw, a_, b_, c_, -List.set_cons_succ, -List.set_cons_zero, A.ok, A.val, d_, e_, f_, g_, h_, i_, j_, k_, l_, m_, unA, unD, n_, AOp.total, o_, p_, q_, r_, s_, t_, u_, v_, A.thaw, C.thaw, A.fits, As.fits, C.fits, evs, oks, w_, A.pure, C.pure, A.re, C.re, x_, y_, cut, A.cells, C.rows?, z_, A_, B_, C_, D_, Ob.re, Cs.fits, E_, F_, G_, H_, I_, J_, K_, L_, M_, N_, O_, C.toD, P_, Q_, R_, S_, T_, Obs.fits, U_, eqD, V_, W_, X_, Y_, Z_]
      refine qcall_pure (emit_calls _ _ _ _ _ _ _ (by omega) hal) hf rfl ?_
      simp -implicitDefEqProofs [Mk.emit, insR, hf, kw, ew, sw, tw, a_, b_, c_, -List.set_cons_succ, -List.set_cons_zero, A.ok, A.val, d_, e_, f_, g_, h_, i_, j_, k_, l_, m_, unA, unD, n_, AOp.total, o_, p_, q_, r_, s_, t_, u_, v_, A.thaw, C.thaw, A.fits, As.fits, C.fits, evs, oks, w_, A.pure, C.pure, A.re, C.re, x_, y_, cut, A.cells, C.rows?, z_, A_, B_, C_, D_, Ob.re, Cs.fits, E_, F_, G_, H_, I_, J_, K_, L_, M_, N_, O_, C.toD, P_, Q_, R_, S_, T_, Obs.fits, U_, eqD, V_, W_, X_, Y_, Z_]
    · rw [row_mk] at hbt
      simp only [List.map_cons, List.map_nil] at hbt
      have hcd2 := hbf.1.code
      simp -implicitDefEqProofs [ac97, row_mk, hf, kw, ew, sw, tw, a_, b_, c_, -List.set_cons_succ, -List.set_cons_zero, A.ok, A.val, d_, e_, f_, g_, h_, i_, j_, k_, l_, m_, unA, unD, n_, AOp.total, o_, p_, q_, r_, s_, t_, u_, v_, A.thaw, C.thaw, A.fits, As.fits, C.fits, evs, oks, w_, A.pure, C.pure, A.re, C.re, x_, y_, cut, A.cells, C.rows?, z_, A_, B_, C_, D_, Ob.re, Cs.fits, E_, F_, G_, H_, I_, J_, K_, L_, M_, N_, O_, C.toD, P_, Q_, R_, S_, T_, Obs.fits, U_, eqD, V_, W_, X_, Y_, Z_]
      refine row_off [.int .i64 0] ?_
      simp -implicitDefEqProofs [hf, kw, ew, sw, tw, a_, b_, c_, -List.set_cons_succ, -List.set_cons_zero, A.ok, A.val, d_, e_, f_, g_, h_, i_, j_, k_, l_, m_, unA, unD, n_, AOp.total, o_, p_, q_, r_, s_, t_, u_, v_, A.thaw, C.thaw, A.fits, As.fits, C.fits, evs, oks, w_, A.pure, C.pure, A.re, C.re, x_, y_, cut, A.cells, C.rows?, z_, A_, B_, C_, D_, Ob.re, Cs.fits, E_, F_, G_, H_, I_, J_, K_, L_, M_, N_, O_, C.toD, P_, Q_, R_, S_, T_, Obs.fits, U_, eqD, V_, W_, X_, Y_, Z_]
      refine qcall_pure hbt hf rfl ?_
      simp -implicitDefEqProofs [hf, kw, ew, sw, tw, a_, b_, c_, -List.set_cons_succ, -List.set_cons_zero, A.ok, A.val, d_, e_, f_, g_, h_, i_, j_, k_, l_, m_, unA, unD, n_, AOp.total, o_, p_, q_, r_, s_, t_, u_, v_, A.thaw, C.thaw, A.fits, As.fits, C.fits, evs, oks, w_, A.pure, C.pure, A.re, C.re, x_, y_, cut, A.cells, C.rows?, z_, A_, B_, C_, D_, Ob.re, Cs.fits, E_, F_, G_, H_, I_, J_, K_, L_, M_, N_, O_, C.toD, P_, Q_, R_, S_, T_, Obs.fits, U_, eqD, V_, W_, X_, Y_, Z_]
      refine qcall_pure (emit_calls _ _ _ _ _ _ _ (by omega) hbf.1.all) hf rfl ?_
      simp -implicitDefEqProofs [Mk.emit, insR, hf, kw, ew, sw, tw, a_, b_, c_, -List.set_cons_succ, -List.set_cons_zero, A.ok, A.val, d_, e_, f_, g_, h_, i_, j_, k_, l_, m_, unA, unD, n_, AOp.total, o_, p_, q_, r_, s_, t_, u_, v_, A.thaw, C.thaw, A.fits, As.fits, C.fits, evs, oks, w_, A.pure, C.pure, A.re, C.re, x_, y_, cut, A.cells, C.rows?, z_, A_, B_, C_, D_, Ob.re, Cs.fits, E_, F_, G_, H_, I_, J_, K_, L_, M_, N_, O_, C.toD, P_, Q_, R_, S_, T_, Obs.fits, U_, eqD, V_, W_, X_, Y_, Z_]

-- 78 loop.example/prologserver/spec.l8Goals params 2 ntmps 57
-- loop head live: [1, 2, 4, 5]
-- loop head live: [1, 2, 4, 5, 6, 7]
def ac78 : Cd := .seq (.region [⟨(some 2), .box (.t 0), none⟩,
      ⟨(some 4), .alloc [(.full []), (.d (.int .i64 0)), (.full [])], none⟩] [0])
  (.seq (.seq (.region [⟨(some 5), .mv (.k (.c (.d (.int .i64 0)))), none⟩] [])
    (.block 0 (.loop (.seq (.seq (.region [⟨(some 9), .mv (.t 5), none⟩,
              ⟨(some 10), .mv (.t 1), none⟩,
              ⟨(some 11), .len 1 (.t 10), none⟩,
              ⟨(some 12), .bin .lss (.t 9) (.t 11), none⟩] [9, 10, 11])
          (.cond (.t 12)
            (.skip)
            (.exit 0)))
        (.seq (.block 1 (.seq (.region [⟨(some 15), .mv (.t 1), none⟩,
                ⟨(some 16), .mv (.t 5), none⟩,
                ⟨(some 17), .indexAddr 4 (.t 15) (.t 16), none⟩,
                ⟨(some 18), .load (some 4) (.t 17), none⟩,
                ⟨(some 6), .alloc [(.d (.int .i64 0)), (.d (.int .i64 0)), (.d (.str [])), (.full [])], none⟩,
                ⟨none, .store 4 (.t 6) (.t 18), none⟩] [12, 15, 16, 17, 18])
            (.seq (.seq (.region [⟨(some 19), .load (some 4) (.t 6), none⟩,
                  ⟨(some 20), .qcall 95 [(.t 19)], none⟩] [19])
              (.cond (.t 20)
                (.seq (.region [⟨(some 21), .load (some 3) (.t 2), none⟩,
                    ⟨(some 22), .build [(.d (.int .i64 0)), (.d (.int .i64 0)), (.d (.int .i64 0)), (.d (.str []))] [(0, 1, (.k (.c (.d (.int .i64 13)))))], none⟩,
                    ⟨(some 23), .qcall 96 [(.t 21), (.t 22)], none⟩,
                    ⟨none, .store 3 (.t 2) (.t 23), none⟩] [6, 20, 21, 22, 23])
                (.exit 1))
                (.skip)))
            (.seq (.seq (.region [⟨(some 7), .mv (.k (.c (.d (.int .i64 0)))), none⟩] [20])
              (.block 2 (.loop (.seq (.seq (.region [⟨(some 24), .mv (.t 7), none⟩,
                        ⟨(some 25), .fieldAddr 3 (.t 6), none⟩,
                        ⟨(some 26), .load none (.t 25), none⟩,
                        ⟨(some 27), .len 1 (.t 26), none⟩,
                        ⟨(some 28), .bin .lss (.t 24) (.t 27), none⟩] [24, 25, 26, 27])
                    (.cond (.t 28)
                      (.skip)
                      (.exit 2)))
                  (.seq (.block 3 (.region [⟨(some 32), .fieldAddr 3 (.t 6), none⟩,
                        ⟨(some 34), .mv (.t 7), none⟩,
                        ⟨(some 37), .mv (.t 7), none⟩,
                        ⟨(some 31), .load (some 3) (.t 2), none⟩,
                        ⟨(some 33), .load none (.t 32), none⟩,
                        ⟨(some 35), .indexAddr 4 (.t 33) (.t 34), none⟩,
                        ⟨(some 36), .load (some 4) (.t 35), none⟩,
                        ⟨(some 38), .qcall 97 [(.t 31), (.t 36), (.t 37)], none⟩,
                        ⟨none, .store 3 (.t 2) (.t 38), none⟩] [28, 31, 32, 33, 34, 35, 36, 37, 38]))
                  (.region [⟨(some 29), .mv (.t 7), none⟩,
                    ⟨(some 30), .bin .add (.t 29) (.k (.c (.d (.int .i64 1)))), none⟩,
                    ⟨(some 7), .mv (.t 30), none⟩] [29, 30]))))))
            (.seq (.region [⟨(some 8), .mv (.k (.c (.d (.int .i64 11)))), none⟩] [])
            (.seq (.seq (.region [⟨(some 39), .fieldAddr 2 (.t 6), none⟩,
                  ⟨(some 40), .load none (.t 39), none⟩,
                  ⟨(some 41), .fieldAddr 3 (.t 6), none⟩,
                  ⟨(some 42), .load none (.t 41), none⟩,
                  ⟨(some 43), .len 1 (.t 42), none⟩,
                  ⟨(some 44), .qcall 98 [(.t 40), (.t 43)], none⟩] [39, 40, 41, 42, 43])
              (.cond (.t 44)
                (.region [⟨(some 8), .mv (.k (.c (.d (.int .i64 12)))), none⟩] [44])
                (.skip)))
            (.region [⟨(some 45), .load (some 3) (.t 2), none⟩,
              ⟨(some 46), .mv (.t 8), none⟩,
              ⟨(some 47), .fieldAddr 3 (.t 6), none⟩,
              ⟨(some 48), .load none (.t 47), none⟩,
              ⟨(some 49), .len 1 (.t 48), none⟩,
              ⟨(some 50), .fieldAddr 2 (.t 6), none⟩,
              ⟨(some 51), .load none (.t 50), none⟩,
              ⟨(some 52), .build [(.d (.int .i64 0)), (.d (.int .i64 0)), (.d (.int .i64 0)), (.d (.str []))] [(0, 1, (.t 46)), (1, 1, (.t 49)), (3, 1, (.t 51))], none⟩,
              ⟨(some 53), .qcall 96 [(.t 45), (.t 52)], none⟩,
              ⟨none, .store 3 (.t 2) (.t 53), none⟩] [6, 8, 44, 45, 46, 47, 48, 49, 50, 51, 52, 53])))))))
        (.region [⟨(some 13), .mv (.t 5), none⟩,
          ⟨(some 14), .bin .add (.t 13) (.k (.c (.d (.int .i64 1)))), none⟩,
          ⟨(some 5), .mv (.t 14), none⟩] [13, 14]))))))
  (.seq (.region [⟨(some 54), .load (some 3) (.t 2), none⟩,
      ⟨(some 55), .build [(.d (.int .i64 0)), (.d (.int .i64 0)), (.d (.int .i64 0)), (.d (.str []))] [(0, 1, (.k (.c (.d (.int .i64 14)))))], none⟩,
      ⟨(some 56), .qcall 96 [(.t 54), (.t 55)], none⟩,
      ⟨none, .store 3 (.t 4) (.t 56), none⟩] [2, 54, 55, 56])
  (.ret)))
theorem ac78_ok : cFunc Try.prog [1000095, 1000096, 1000097, 1000098] [(0, [0], []), (1, [], []), (2, [9, 10, 11], []), (4, [12, 15, 16, 17, 18], []), (5, [19], []), (6, [6, 20, 21, 22, 23], []), (7, [20], []), (8, [24, 25, 26, 27], []), (10, [28, 31, 32, 33, 34, 35, 36, 37, 38], [1, 3, 6, 0, 2, 4, 5, 7, 8]), (9, [29, 30], []), (11, [], []), (12, [39, 40, 41, 42, 43], []), (13, [44], []), (14, [6, 8, 44, 45, 46, 47, 48, 49, 50, 51, 52, 53], []), (3, [13, 14], []), (15, [2, 54, 55, 56], [])] Try.f78 = some (ac78, [.cell 4 (some 3)], 57) := by kernel_rfl
-- 65 loop.example/prologserver/spec.l8Clause params 1 ntmps 12
def ac65 : Cd := .seq (.region [⟨(some 1), .box (.t 0), none⟩,
      ⟨(some 2), .mv (.k (.c (.full []))), none⟩] [0, 2])
  (.seq (.region [⟨(some 4), .fieldAddr 0 (.t 1), none⟩,
      ⟨(some 5), .fieldAddr 3 (.t 4), none⟩,
      ⟨(some 8), .fieldAddr 4 (.t 1), none⟩,
      ⟨(some 3), .qcall 79 [], none⟩,
      ⟨(some 6), .load none (.t 5), none⟩,
      ⟨(some 7), .qcall 84 [(.t 3), (.t 6)], none⟩,
      ⟨(some 9), .load none (.t 8), none⟩,
      ⟨(some 10), .qcall 78 [(.t 7), (.t 9)], none⟩,
      ⟨(some 11), .field 2 none (.t 10), none⟩,
      ⟨(some 2), .mv (.t 11), none⟩] [1, 3, 4, 5, 6, 7, 8, 9, 10, 11])
  (.ret))
theorem ac65_ok : cFunc Try.prog [1000078, 1000079, 1000084] [(0, [0, 2], []), (1, [1, 3, 4, 5, 6, 7, 8, 9, 10, 11], [1, 2, 5, 0, 3, 4, 6, 7, 8, 9])] Try.f65 = some (ac65, [.tmp 2], 12) := by kernel_rfl
-- 59 loop.example/prologserver/spec.l8Query params 1 ntmps 7
def ac59 : Cd := .seq (.region [⟨(some 2), .mv (.k (.c (.full []))), none⟩] [2])
  (.seq (.region [⟨(some 3), .qcall 79 [], none⟩,
      ⟨(some 4), .mv (.t 0), none⟩,
      ⟨(some 5), .qcall 78 [(.t 3), (.t 4)], none⟩,
      ⟨(some 6), .field 2 none (.t 5), none⟩,
      ⟨(some 2), .mv (.t 6), none⟩] [0, 3, 4, 5, 6])
  (.ret))
theorem ac59_ok : cFunc Try.prog [1000078, 1000079] [(0, [2], []), (1, [0, 3, 4, 5, 6], [])] Try.f59 = some (ac59, [.tmp 2], 7) := by kernel_rfl
-- 19 loop.example/prologserver/spec.CompileQuery params 1 ntmps 10
def ac19 : Cd := .seq (.region [⟨(some 2), .mv (.k (.c (.full []))), none⟩,
      ⟨(some 3), .mv (.k (.c (.d (.bool false)))), none⟩] [2, 3])
  (.seq (.seq (.region [⟨(some 4), .mv (.t 0), none⟩,
        ⟨(some 5), .qcall 58 [(.t 4)], none⟩,
        ⟨(some 6), .un .not (.t 5), none⟩] [4, 5])
    (.cond (.t 6)
      (.seq (.region [⟨(some 7), .buildSlice 4 0 [(.int .i64 0), (.int .i64 0), (.int .i64 0), (.str [])] [], none⟩,
          ⟨(some 2), .mv (.t 7), none⟩,
          ⟨(some 3), .mv (.k (.c (.d (.bool false)))), none⟩] [0, 6, 7])
      (.ret))
      (.skip)))
  (.seq (.region [⟨(some 8), .mv (.t 0), none⟩,
      ⟨(some 9), .qcall 59 [(.t 8)], none⟩,
      ⟨(some 2), .mv (.t 9), none⟩,
      ⟨(some 3), .mv (.k (.c (.d (.bool true)))), none⟩] [0, 6, 8, 9])
  (.ret)))
theorem ac19_ok : cFunc Try.prog [1000058, 1000059] [(0, [2, 3], []), (1, [4, 5], []), (2, [0, 6, 7], []), (3, [0, 6, 8, 9], [])] Try.f19 = some (ac19, [.tmp 2, .tmp 3], 10) := by kernel_rfl
-- 28 loop.example/prologserver/spec.CompileClause params 1 ntmps 10
def ac28 : Cd := .seq (.region [⟨(some 1), .box (.t 0), none⟩,
      ⟨(some 2), .mv (.k (.c (.full []))), none⟩,
      ⟨(some 3), .mv (.k (.c (.d (.bool false)))), none⟩] [0, 2, 3])
  (.seq (.seq (.region [⟨(some 4), .load (some 5) (.t 1), none⟩,
        ⟨(some 5), .qcall 64 [(.t 4)], none⟩,
        ⟨(some 6), .un .not (.t 5), none⟩] [4, 5])
    (.cond (.t 6)
      (.seq (.region [⟨(some 7), .buildSlice 4 0 [(.int .i64 0), (.int .i64 0), (.int .i64 0), (.str [])] [], none⟩,
          ⟨(some 2), .mv (.t 7), none⟩,
          ⟨(some 3), .mv (.k (.c (.d (.bool false)))), none⟩] [1, 6, 7])
      (.ret))
      (.skip)))
  (.seq (.region [⟨(some 8), .load (some 5) (.t 1), none⟩,
      ⟨(some 9), .qcall 65 [(.t 8)], none⟩,
      ⟨(some 2), .mv (.t 9), none⟩,
      ⟨(some 3), .mv (.k (.c (.d (.bool true)))), none⟩] [1, 6, 8, 9])
  (.ret)))
theorem ac28_ok : cFunc Try.prog [1000064, 1000065] [(0, [0, 2, 3], []), (1, [4, 5], []), (2, [1, 6, 7], []), (3, [1, 6, 8, 9], [])] Try.f28 = some (ac28, [.tmp 2, .tmp 3], 10) := by kernel_rfl
/-- the code of a goal -/
def goalT (g : Tm) (M : Mk) : Mk := if g.cutB then M.emit 13 0 0 [] else (putsT g.kids 0 M).emit (if builtB g.s g.kids.length then 12 else 11) g.kids.length 0 g.s
def goalsT : List Tm → Mk → Mk
  | [], M => M
  | g :: l, M => goalsT l (goalT g M)
def bodyT (l : List Tm) (M : Mk) : Mk := (goalsT l M).emit 14 0 0 []
theorem sizes_app : ∀ a b : List Tm, sizes (a ++ b) = sizes a + sizes b
  | [], b => by simp [sizes]
  | t :: a, b => by simp [sizes, sizes_app a b]; omega
theorem puts_fit : ∀ (l : List Tm) (i : Nat) (M : Mk) (B : Nat), M.fit B → (putsT l i M).fit (B + 6 * sizes l + 2 * l.length)
  | [], _, M, B, h => by simpa [putsT, sizes] using h
  | t :: l, i, M, B, h => by
    unfold putsT
    exact (puts_fit l (i + 1) _ _ (put_fit h t i)).mono (by simp [sizes]; omega)
theorem puts_last : ∀ (l : List Tm) (t : Tm) (i : Nat) (M : Mk), putsT (l ++ [t]) i M = putT (putsT l i M) t (i + l.length)
  | [], t, i, M => by simp [putsT]
  | u :: l, t, i, M => by
    simp only [List.cons_append, putsT, List.length_cons]
    rw [puts_last l t (i + 1)]
    congr 1
    omega
theorem sizes_len : ∀ l : List Tm, l.length ≤ sizes l
  | [] => by simp
  | t :: l => by have := size_pos t; have := sizes_len l; simp [sizes]; omega
theorem goal_fit (g : Tm) {M : Mk} {B : Nat} (h : M.fit B) : (goalT g M).fit (B + 8 * g.size + 1) := by
  unfold goalT
  split
  · exact (h.emit ..).mono (by omega)
  · obtain ⟨k, n, s, l⟩ := g
    refine ((puts_fit _ 0 _ _ h).emit ..).mono ?_
    have := sizes_len l
    simp [Tm.size, Tm.kids]
    omega
theorem goals_fit : ∀ (l : List Tm) (M : Mk) (B : Nat), M.fit B → (goalsT l M).fit (B + 9 * sizes l)
  | [], M, B, h => by simpa [goalsT] using h.mono (by omega)
  | g :: l, M, B, h => by
    unfold goalsT
    have := size_pos g
    exact (goals_fit l _ _ (goal_fit g h)).mono (by simp [sizes]; omega)
theorem goals_last : ∀ (l : List Tm) (t : Tm) (M : Mk), goalsT (l ++ [t]) M = goalT t (goalsT l M)
  | [], t, M => by simp [goalsT]
  | u :: l, t, M => by simp only [List.cons_append, goalsT]; rw [goals_last l t]
theorem goals_calls (l : List Tm) (hl : l.length ≤ 6) (hft : ∀ t ∈ l, t.fits) (hg : ∀ t ∈ l, t.good) (hz : sizes l ≤ 1000) (M : Mk) (B : Nat) (hB : B ≤ 100000) (hM : M.fit B) (H : Heap) :
    ACalls Try.prog 78 [.agg [.d (.sl (slotsR M.sl)), .d (.int .i64 M.next), .d (.sl M.code)], .c (.d (.sl (l.map Tm.row)))] H
      (fun r H' => H' = H ∧ r = .agg [.d (.sl (slotsR (bodyT l M).sl)), .d (.int .i64 (bodyT l M).next), .d (.sl (bodyT l M).code)]) := by
  refine acalls Try.func78 (by kernel_rfl) ac78_ok fun hf => ?_
  have hli : inR .i64 (l.length : Int) := small_i64 (by omega) (by omega)
  have hb := goals_fit l M B hM
  simp -implicitDefEqProofs [ac78, hli, kw, ew, sw, tw, a_, b_, c_, -List.set_cons_succ, -List.set_cons_zero, A.ok, A.val, d_, e_, f_, g_, h_, i_, j_, k_, l_, m_, unA, unD, n_, AOp.total, o_, p_, q_, r_, s_, t_, u_, v_, A.thaw, C.thaw, A.fits, As.fits, C.fits, evs, oks, w_, A.pure, C.pure, A.re, C.re, x_, y_, cut, A.cells, C.rows?, z_, A_, B_, C_, D_, Ob.re, Cs.fits, E_, F_, G_, H_, I_, J_, K_, L_, M_, N_, O_, C.toD, P_, Q_, R_, S_, T_, Obs.fits, U_, eqD, V_, W_, X_, Y_, Z_]
  refine loop_set (σ := Nat × Mk) (fun x => [(5, .c (.d (.int .i64 x.1)))]) (fun _ => H)
    (fun x => [.cells [.d (.sl (slotsR x.2.sl)), .d (.int .i64 x.2.next), .d (.sl x.2.code)], .cells [.full [], .d (.int .i64 0), .full []]])
    (fun x => x.1 ≤ l.length ∧ (∃ cc, x.2.fit cc ∧ cc + 9 * sizes (l.drop x.1) ≤ B + 9 * sizes l) ∧ bodyT (l.drop x.1) x.2 = bodyT l M) (fun x => l.length - x.1) (0, M) (by simp [setAll]) ⟨Nat.zero_le _, ⟨B, hM, by simp⟩, by simp⟩ ?_
  rintro ⟨i, N⟩ ⟨hi, ⟨cc, hN, hC⟩, h1⟩
  simp only at hi hN hC h1
  have hnx := hN.next
  have hcd := hN.code
  have hal := hN.all
  simp -implicitDefEqProofs [setAll, hli, kw, ew, sw, tw, a_, b_, c_, -List.set_cons_succ, -List.set_cons_zero, A.ok, A.val, d_, e_, f_, g_, h_, i_, j_, k_, l_, m_, unA, unD, n_, AOp.total, o_, p_, q_, r_, s_, t_, u_, v_, A.thaw, C.thaw, A.fits, As.fits, C.fits, evs, oks, w_, A.pure, C.pure, A.re, C.re, x_, y_, cut, A.cells, C.rows?, z_, A_, B_, C_, D_, Ob.re, Cs.fits, E_, F_, G_, H_, I_, J_, K_, L_, M_, N_, O_, C.toD, P_, Q_, R_, S_, T_, Obs.fits, U_, eqD, V_, W_, X_, Y_, Z_]
  refine ⟨fun hlt => ?_, fun hge => ?_⟩
  · have hadd : inR .i64 ((i : Int) + 1) := small_i64 (by omega) (by omega)
    have hd : l.drop i = l[i] :: l.drop (i + 1) := List.drop_eq_getElem_cons hlt
    have hsz := size_pos l[i]
    rw [hd, sizes] at hC
    have hgf := goal_fit l[i] hN
    rw [hd, bodyT, goalsT] at h1
    have hrow : (l.map Tm.row)[i]? = some l[i].row := by simp [hlt]
    have hgd := hg _ (List.getElem_mem hlt)
    have hfit := hft _ (List.getElem_mem hlt)
    have c1 := cutSpec_calls l[i] hfit
    obtain ⟨t, ht⟩ : ∃ t, t = l[i] := ⟨_, rfl⟩
    rw [← ht] at hgd h1 hrow hC hfit c1 hgf hsz
    clear ht
    obtain ⟨k, n, s, kids⟩ := t
    have hkg := good_kids hgd
    rw [row_mk] at c1
    simp only [List.map_cons, List.map_nil] at c1
    refine row_nat _ hrow rfl ?_
    simp -implicitDefEqProofs [row_mk, hf, kw, ew, sw, tw, a_, b_, c_, -List.set_cons_succ, -List.set_cons_zero, A.ok, A.val, d_, e_, f_, g_, h_, i_, j_, k_, l_, m_, unA, unD, n_, AOp.total, o_, p_, q_, r_, s_, t_, u_, v_, A.thaw, C.thaw, A.fits, As.fits, C.fits, evs, oks, w_, A.pure, C.pure, A.re, C.re, x_, y_, cut, A.cells, C.rows?, z_, A_, B_, C_, D_, Ob.re, Cs.fits, E_, F_, G_, H_, I_, J_, K_, L_, M_, N_, O_, C.toD, P_, Q_, R_, S_, T_, Obs.fits, U_, eqD, V_, W_, X_, Y_, Z_]
    refine qcall_pure c1 hf rfl ?_
    cases hcut : (Tm.mk k n s kids).cutB with
    | true =>
      rw [goalT, hcut] at h1 hgf
      simp only [if_true] at h1 hgf
      simp -implicitDefEqProofs [hf, kw, ew, sw, tw, a_, b_, c_, -List.set_cons_succ, -List.set_cons_zero, A.ok, A.val, d_, e_, f_, g_, h_, i_, j_, k_, l_, m_, unA, unD, n_, AOp.total, o_, p_, q_, r_, s_, t_, u_, v_, A.thaw, C.thaw, A.fits, As.fits, C.fits, evs, oks, w_, A.pure, C.pure, A.re, C.re, x_, y_, cut, A.cells, C.rows?, z_, A_, B_, C_, D_, Ob.re, Cs.fits, E_, F_, G_, H_, I_, J_, K_, L_, M_, N_, O_, C.toD, P_, Q_, R_, S_, T_, Obs.fits, U_, eqD, V_, W_, X_, Y_, Z_]
      refine qcall_pure (emit_calls _ _ _ _ _ _ _ (by omega) hal) hf rfl ?_
      simp -implicitDefEqProofs [hadd, hf, kw, ew, sw, tw, a_, b_, c_, -List.set_cons_succ, -List.set_cons_zero, A.ok, A.val, d_, e_, f_, g_, h_, i_, j_, k_, l_, m_, unA, unD, n_, AOp.total, o_, p_, q_, r_, s_, t_, u_, v_, A.thaw, C.thaw, A.fits, As.fits, C.fits, evs, oks, w_, A.pure, C.pure, A.re, C.re, x_, y_, cut, A.cells, C.rows?, z_, A_, B_, C_, D_, Ob.re, Cs.fits, E_, F_, G_, H_, I_, J_, K_, L_, M_, N_, O_, C.toD, P_, Q_, R_, S_, T_, Obs.fits, U_, eqD, V_, W_, X_, Y_, Z_]
      refine loop_less (i + 1, N.emit 13 0 0 []) (St.le_cut [_] ?_ (by simp [Sl.le, A.le_refl_iff, A.le_u_iff, As.lo, A.lo, C.lo, Ref.lo, Cs.lo, Obs.lo, Ob.lo, setAll, and_true, true_and, List.length_nil, List.length_cons]) (by simp [Mk.emit]; rfl) (by simp [Sl.le, A.le_refl_iff, A.le_u_iff, As.lo, A.lo, C.lo, Ref.lo, Cs.lo, Obs.lo, Ob.lo, setAll, and_true, true_and, List.length_nil, List.length_cons])) ⟨hlt, ⟨_, hgf, by dsimp only; omega⟩, h1⟩ (by show l.length - (i + 1) < l.length - i; omega)
      simp [setAll, Sl.le, A.le_refl_iff, A.le_u_iff, As.lo, A.lo, C.lo, Ref.lo, Cs.lo, Obs.lo, Ob.lo, setAll, and_true, true_and, List.length_nil, List.length_cons]
    | false =>
      rw [goalT, hcut] at h1 hgf
      simp only [Bool.false_eq_true, if_false, Tm.kids, Tm.s] at h1 hgf
      have hkl : inR .i64 (kids.length : Int) := small_i64 (by omega) (by omega)
      obtain ⟨G, hG⟩ : ∃ G, G = putsT kids 0 N := ⟨_, rfl⟩
      have hGf := puts_fit kids 0 N _ hN
      rw [← hG] at h1 hgf hGf
      have hsz2 : (Tm.mk k n s kids).size = 1 + sizes kids := by rw [Tm.size]
      simp -implicitDefEqProofs [hf, kw, ew, sw, tw, a_, b_, c_, -List.set_cons_succ, -List.set_cons_zero, A.ok, A.val, d_, e_, f_, g_, h_, i_, j_, k_, l_, m_, unA, unD, n_, AOp.total, o_, p_, q_, r_, s_, t_, u_, v_, A.thaw, C.thaw, A.fits, As.fits, C.fits, evs, oks, w_, A.pure, C.pure, A.re, C.re, x_, y_, cut, A.cells, C.rows?, z_, A_, B_, C_, D_, Ob.re, Cs.fits, E_, F_, G_, H_, I_, J_, K_, L_, M_, N_, O_, C.toD, P_, Q_, R_, S_, T_, Obs.fits, U_, eqD, V_, W_, X_, Y_, Z_]
      refine loop_set (σ := Nat × Mk) (fun x => [(7, .c (.d (.int .i64 x.1)))]) (fun _ => H)
        (fun x => [.cells [.d (.sl (slotsR x.2.sl)), .d (.int .i64 x.2.next), .d (.sl x.2.code)], .cells [.full [], .d (.int .i64 0), .full []], .cells [.d (.int .i64 k), .d (.int .i64 n), .d (.str s), .d (.sl (kids.map Tm.row))]])
        (fun x => x.1 ≤ kids.length ∧ x.2 = putsT (kids.take x.1) 0 N) (fun x => kids.length - x.1) (0, N) (by simp [setAll]) ⟨Nat.zero_le _, by simp [putsT]⟩ ?_
      rintro ⟨j, P⟩ ⟨hj, e1⟩
      simp only at hj e1
      simp -implicitDefEqProofs [setAll, hkl, kw, ew, sw, tw, a_, b_, c_, -List.set_cons_succ, -List.set_cons_zero, A.ok, A.val, d_, e_, f_, g_, h_, i_, j_, k_, l_, m_, unA, unD, n_, AOp.total, o_, p_, q_, r_, s_, t_, u_, v_, A.thaw, C.thaw, A.fits, As.fits, C.fits, evs, oks, w_, A.pure, C.pure, A.re, C.re, x_, y_, cut, A.cells, C.rows?, z_, A_, B_, C_, D_, Ob.re, Cs.fits, E_, F_, G_, H_, I_, J_, K_, L_, M_, N_, O_, C.toD, P_, Q_, R_, S_, T_, Obs.fits, U_, eqD, V_, W_, X_, Y_, Z_]
      refine ⟨fun hjl => ?_, fun hjg => ?_⟩
      · have hadj : inR .i64 ((j : Int) + 1) := small_i64 (by omega) (by omega)
        have hPf := puts_fit (kids.take j) 0 N _ hN
        have hszj : sizes (kids.take j) + kids[j].size ≤ sizes kids := by
          have e2 : sizes (kids.take (j + 1)) = sizes (kids.take j) + kids[j].size := by
            rw [List.take_succ_eq_append_getElem hjl, sizes_app]; simp [sizes]
          have e3 : sizes kids = sizes (kids.take (j + 1)) + sizes (kids.drop (j + 1)) := by rw [← sizes_app, List.take_append_drop]
          omega
        have hput : putT P kids[j] j = putsT (kids.take (j + 1)) 0 N := by
          rw [List.take_succ_eq_append_getElem hjl, puts_last, e1]
          congr 1
          simp
          omega
        have hjt : (kids.take j).length ≤ 4 := by simp; omega
        rw [← e1] at hPf
        have cp := put_calls kids[j] (hkg.2 _ (List.getElem_mem hjl)) j P _ (by omega) hPf
        rw [hput] at cp
        refine row_of hjl (row_len _) ?_
        simp -implicitDefEqProofs [row_len, take_row, pure_d, re_d, hf, kw, ew, sw, tw, a_, b_, c_, -List.set_cons_succ, -List.set_cons_zero, A.ok, A.val, d_, e_, f_, g_, h_, i_, j_, k_, l_, m_, unA, unD, n_, AOp.total, o_, p_, q_, r_, s_, t_, u_, v_, A.thaw, C.thaw, A.fits, As.fits, C.fits, evs, oks, w_, A.pure, C.pure, A.re, C.re, x_, y_, cut, A.cells, C.rows?, z_, A_, B_, C_, D_, Ob.re, Cs.fits, E_, F_, G_, H_, I_, J_, K_, L_, M_, N_, O_, C.toD, P_, Q_, R_, S_, T_, Obs.fits, U_, eqD, V_, W_, X_, Y_, Z_]
        refine qcall_pure cp hf rfl ?_
        simp -implicitDefEqProofs [hadj, hf, kw, ew, sw, tw, a_, b_, c_, -List.set_cons_succ, -List.set_cons_zero, A.ok, A.val, d_, e_, f_, g_, h_, i_, j_, k_, l_, m_, unA, unD, n_, AOp.total, o_, p_, q_, r_, s_, t_, u_, v_, A.thaw, C.thaw, A.fits, As.fits, C.fits, evs, oks, w_, A.pure, C.pure, A.re, C.re, x_, y_, cut, A.cells, C.rows?, z_, A_, B_, C_, D_, Ob.re, Cs.fits, E_, F_, G_, H_, I_, J_, K_, L_, M_, N_, O_, C.toD, P_, Q_, R_, S_, T_, Obs.fits, U_, eqD, V_, W_, X_, Y_, Z_]
        exact loop_back (j + 1, putsT (kids.take (j + 1)) 0 N) (by simp [setAll]) ⟨hjl, rfl⟩ (by show kids.length - (j + 1) < kids.length - j; omega)
      · obtain rfl : j = kids.length := by omega
        rw [List.take_length, ← hG] at e1
        subst e1
        have hPc := hGf.code
        have hPa := hGf.all
        have cb := builtSpec_calls s kids.length
        simp -implicitDefEqProofs [hkl, hf, kw, ew, sw, tw, a_, b_, c_, -List.set_cons_succ, -List.set_cons_zero, A.ok, A.val, d_, e_, f_, g_, h_, i_, j_, k_, l_, m_, unA, unD, n_, AOp.total, o_, p_, q_, r_, s_, t_, u_, v_, A.thaw, C.thaw, A.fits, As.fits, C.fits, evs, oks, w_, A.pure, C.pure, A.re, C.re, x_, y_, cut, A.cells, C.rows?, z_, A_, B_, C_, D_, Ob.re, Cs.fits, E_, F_, G_, H_, I_, J_, K_, L_, M_, N_, O_, C.toD, P_, Q_, R_, S_, T_, Obs.fits, U_, eqD, V_, W_, X_, Y_, Z_]
        refine qcall_pure cb hf rfl ?_
        cases hbb : builtB s kids.length with
        | true =>
          simp only [hbb, if_true] at h1 hgf
          simp -implicitDefEqProofs [hkl, hf, kw, ew, sw, tw, a_, b_, c_, -List.set_cons_succ, -List.set_cons_zero, A.ok, A.val, d_, e_, f_, g_, h_, i_, j_, k_, l_, m_, unA, unD, n_, AOp.total, o_, p_, q_, r_, s_, t_, u_, v_, A.thaw, C.thaw, A.fits, As.fits, C.fits, evs, oks, w_, A.pure, C.pure, A.re, C.re, x_, y_, cut, A.cells, C.rows?, z_, A_, B_, C_, D_, Ob.re, Cs.fits, E_, F_, G_, H_, I_, J_, K_, L_, M_, N_, O_, C.toD, P_, Q_, R_, S_, T_, Obs.fits, U_, eqD, V_, W_, X_, Y_, Z_]
          refine qcall_pure (emit_calls _ _ _ _ _ _ _ (by omega) hPa) hf rfl ?_
          simp -implicitDefEqProofs [hadd, hf, kw, ew, sw, tw, a_, b_, c_, -List.set_cons_succ, -List.set_cons_zero, A.ok, A.val, d_, e_, f_, g_, h_, i_, j_, k_, l_, m_, unA, unD, n_, AOp.total, o_, p_, q_, r_, s_, t_, u_, v_, A.thaw, C.thaw, A.fits, As.fits, C.fits, evs, oks, w_, A.pure, C.pure, A.re, C.re, x_, y_, cut, A.cells, C.rows?, z_, A_, B_, C_, D_, Ob.re, Cs.fits, E_, F_, G_, H_, I_, J_, K_, L_, M_, N_, O_, C.toD, P_, Q_, R_, S_, T_, Obs.fits, U_, eqD, V_, W_, X_, Y_, Z_]
          refine loop_less (i + 1, P.emit 12 kids.length 0 s) (St.le_cut [_] ?_ (by simp [Sl.le, A.le_refl_iff, A.le_u_iff, As.lo, A.lo, C.lo, Ref.lo, Cs.lo, Obs.lo, Ob.lo, setAll, and_true, true_and, List.length_nil, List.length_cons]) (by simp [Mk.emit]; rfl) (by simp [Sl.le, A.le_refl_iff, A.le_u_iff, As.lo, A.lo, C.lo, Ref.lo, Cs.lo, Obs.lo, Ob.lo, setAll, and_true, true_and, List.length_nil, List.length_cons])) ⟨hlt, ⟨_, hgf, by dsimp only; omega⟩, h1⟩ (by show l.length - (i + 1) < l.length - i; omega)
          simp [setAll, Sl.le, A.le_refl_iff, A.le_u_iff, As.lo, A.lo, C.lo, Ref.lo, Cs.lo, Obs.lo, Ob.lo, setAll, and_true, true_and, List.length_nil, List.length_cons]
        | false =>
          simp only [hbb, Bool.false_eq_true, if_false] at h1 hgf
          simp -implicitDefEqProofs [hkl, hf, kw, ew, sw, tw, a_, b_, c_, -List.set_cons_succ, -List.set_cons_zero, A.ok, A.val, d_, e_, f_, g_, h_, i_, j_, k_, l_, m_, unA, unD, n_, AOp.total, o_, p_, q_, r_, s_, t_, u_, v_, A.thaw, C.thaw, A.fits, As.fits, C.fits, evs, oks, w_, A.pure, C.pure, A.re, C.re, x_, y_, cut, A.cells, C.rows?, z_, A_, B_, C_, D_, Ob.re, Cs.fits, E_, F_, G_, H_, I_, J_, K_, L_, M_, N_, O_, C.toD, P_, Q_, R_, S_, T_, Obs.fits, U_, eqD, V_, W_, X_, Y_, Z_]
          refine qcall_pure (emit_calls _ _ _ _ _ _ _ (by omega) hPa) hf rfl ?_
          simp -implicitDefEqProofs [hadd, hf, kw, ew, sw, tw, a_, b_, c_, -List.set_cons_succ, -List.set_cons_zero, A.ok, A.val, d_, e_, f_, g_, h_, i_, j_, k_, l_, m_, unA, unD, n_, AOp.total, o_, p_, q_, r_, s_, t_, u_, v_, A.thaw, C.thaw, A.fits, As.fits, C.fits, evs, oks, w_, A.pure, C.pure, A.re, C.re, x_, y_, cut, A.cells, C.rows?, z_, A_, B_, C_, D_, Ob.re, Cs.fits, E_, F_, G_, H_, I_, J_, K_, L_, M_, N_, O_, C.toD, P_, Q_, R_, S_, T_, Obs.fits, U_, eqD, V_, W_, X_, Y_, Z_]
          refine loop_less (i + 1, P.emit 11 kids.length 0 s) (St.le_cut [_] ?_ (by simp [Sl.le, A.le_refl_iff, A.le_u_iff, As.lo, A.lo, C.lo, Ref.lo, Cs.lo, Obs.lo, Ob.lo, setAll, and_true, true_and, List.length_nil, List.length_cons]) (by simp [Mk.emit]; rfl) (by simp [Sl.le, A.le_refl_iff, A.le_u_iff, As.lo, A.lo, C.lo, Ref.lo, Cs.lo, Obs.lo, Ob.lo, setAll, and_true, true_and, List.length_nil, List.length_cons])) ⟨hlt, ⟨_, hgf, by dsimp only; omega⟩, h1⟩ (by show l.length - (i + 1) < l.length - i; omega)
          simp [setAll, Sl.le, A.le_refl_iff, A.le_u_iff, As.lo, A.lo, C.lo, Ref.lo, Cs.lo, Obs.lo, Ob.lo, setAll, and_true, true_and, List.length_nil, List.length_cons]
  · obtain rfl : i = l.length := by omega
    rw [List.drop_of_length_le (by omega)] at h1
    rw [← h1]
    simp -implicitDefEqProofs [hf, kw, ew, sw, tw, a_, b_, c_, -List.set_cons_succ, -List.set_cons_zero, A.ok, A.val, d_, e_, f_, g_, h_, i_, j_, k_, l_, m_, unA, unD, n_, AOp.total, o_, p_, q_, r_, s_, t_, u_, v_, A.thaw, C.thaw, A.fits, As.fits, C.fits, evs, oks, w_, A.pure, C.pure, A.re, C.re, x_, y_, cut, A.cells, C.rows?, z_, A_, B_, C_, D_, Ob.re, Cs.fits, E_, F_, G_, H_, I_, J_, K_, L_, M_, N_, O_, C.toD, P_, Q_, R_, S_, T_, Obs.fits, U_, eqD, V_, W_, X_, Y_, Z_]
    refine qcall_pure (emit_calls _ _ _ _ _ _ _ (by omega) hal) hf rfl ?_
    simp -implicitDefEqProofs [bodyT, goalsT, Mk.emit, insR, hf, kw, ew, sw, tw, a_, b_, c_, -List.set_cons_succ, -List.set_cons_zero, A.ok, A.val, d_, e_, f_, g_, h_, i_, j_, k_, l_, m_, unA, unD, n_, AOp.total, o_, p_, q_, r_, s_, t_, u_, v_, A.thaw, C.thaw, A.fits, As.fits, C.fits, evs, oks, w_, A.pure, C.pure, A.re, C.re, x_, y_, cut, A.cells, C.rows?, z_, A_, B_, C_, D_, Ob.re, Cs.fits, E_, F_, G_, H_, I_, J_, K_, L_, M_, N_, O_, C.toD, P_, Q_, R_, S_, T_, Obs.fits, U_, eqD, V_, W_, X_, Y_, Z_]

def mk0 : Mk := ⟨[], 4, []⟩
theorem mk0_fit : mk0.fit 4 := ⟨by decide, by decide, fun p hp => (by cases hp), fun r hr => (by cases hr)⟩
def codeQ (l : List Tm) : List (List D) := (bodyT l mk0).code
def codeC (c : Cl) : List (List D) := (bodyT c.body (headT c.head.kids mk0)).code
theorem goals_sizes : ∀ l : List Tm, (∀ t ∈ l, t.goal = true) → sizes l ≤ 120 * l.length
  | [], _ => by simp [sizes]
  | t :: l, h => by
    have h1 := goals_sizes l fun u hu => h u (by simp [hu])
    have h2 := h t (by simp)
    simp only [Tm.goal, Tm.valid, Bool.and_eq_true, decide_eq_true_eq] at h2
    simp only [sizes, List.length_cons]
    omega
theorem goalsB_iff {l : List Tm} (h : goalsB l = true) : l.length ≤ 6 ∧ (∀ t ∈ l, t.good) ∧ sizes l ≤ 1000 := by
  simp only [goalsB, Bool.and_eq_true, decide_eq_true_eq, List.all_eq_true] at h
  refine ⟨h.1, fun t ht => ?_, ?_⟩
  · have := h.2 t ht
    simp only [Tm.goal, Bool.and_eq_true] at this
    exact valid_good this.1
  · have := goals_sizes l h.2
    omega
theorem l8Query_calls (l : List Tm) (hft : ∀ t ∈ l, t.fits) (hv : goalsB l = true) (H : Heap) : ACalls Try.prog 59 [.c (.d (.sl (l.map Tm.row)))] H (fun r H' => H' = H ∧ r = .c (.d (.sl (codeQ l)))) := by
  obtain ⟨h1, h2, h3⟩ := goalsB_iff hv
  refine acalls Try.func59 (by kernel_rfl) ac59_ok fun hf => ?_
  simp -implicitDefEqProofs [ac59, kw, ew, sw, tw, a_, b_, c_, -List.set_cons_succ, -List.set_cons_zero, A.ok, A.val, d_, e_, f_, g_, h_, i_, j_, k_, l_, m_, unA, unD, n_, AOp.total, o_, p_, q_, r_, s_, t_, u_, v_, A.thaw, C.thaw, A.fits, As.fits, C.fits, evs, oks, w_, A.pure, C.pure, A.re, C.re, x_, y_, cut, A.cells, C.rows?, z_, A_, B_, C_, D_, Ob.re, Cs.fits, E_, F_, G_, H_, I_, J_, K_, L_, M_, N_, O_, C.toD, P_, Q_, R_, S_, T_, Obs.fits, U_, eqD, V_, W_, X_, Y_, Z_]
  refine qcall_pure start_calls hf rfl ?_
  simp -implicitDefEqProofs [hf, kw, ew, sw, tw, a_, b_, c_, -List.set_cons_succ, -List.set_cons_zero, A.ok, A.val, d_, e_, f_, g_, h_, i_, j_, k_, l_, m_, unA, unD, n_, AOp.total, o_, p_, q_, r_, s_, t_, u_, v_, A.thaw, C.thaw, A.fits, As.fits, C.fits, evs, oks, w_, A.pure, C.pure, A.re, C.re, x_, y_, cut, A.cells, C.rows?, z_, A_, B_, C_, D_, Ob.re, Cs.fits, E_, F_, G_, H_, I_, J_, K_, L_, M_, N_, O_, C.toD, P_, Q_, R_, S_, T_, Obs.fits, U_, eqD, V_, W_, X_, Y_, Z_]
  refine qcall_pure (goals_calls l h1 hft h2 h3 mk0 _ (by omega) mk0_fit) hf rfl ?_
  simp -implicitDefEqProofs [codeQ, kw, ew, sw, tw, a_, b_, c_, -List.set_cons_succ, -List.set_cons_zero, A.ok, A.val, d_, e_, f_, g_, h_, i_, j_, k_, l_, m_, unA, unD, n_, AOp.total, o_, p_, q_, r_, s_, t_, u_, v_, A.thaw, C.thaw, A.fits, As.fits, C.fits, evs, oks, w_, A.pure, C.pure, A.re, C.re, x_, y_, cut, A.cells, C.rows?, z_, A_, B_, C_, D_, Ob.re, Cs.fits, E_, F_, G_, H_, I_, J_, K_, L_, M_, N_, O_, C.toD, P_, Q_, R_, S_, T_, Obs.fits, U_, eqD, V_, W_, X_, Y_, Z_]
theorem cqSpec_calls (l : List Tm) (hl : l.length ≤ 1048576) (hft : ∀ t ∈ l, t.fits) (H : Heap) : ACalls Try.prog 19 [.c (.d (.sl (l.map Tm.row)))] H
    (fun r H' => H' = H ∧ r = .tup [.c (.d (.sl (if goalsB l then codeQ l else []))), .c (.d (.bool (goalsB l)))]) := by
  refine acalls Try.func19 (by kernel_rfl) ac19_ok fun hf => ?_
  simp -implicitDefEqProofs [ac19, kw, ew, sw, tw, a_, b_, c_, -List.set_cons_succ, -List.set_cons_zero, A.ok, A.val, d_, e_, f_, g_, h_, i_, j_, k_, l_, m_, unA, unD, n_, AOp.total, o_, p_, q_, r_, s_, t_, u_, v_, A.thaw, C.thaw, A.fits, As.fits, C.fits, evs, oks, w_, A.pure, C.pure, A.re, C.re, x_, y_, cut, A.cells, C.rows?, z_, A_, B_, C_, D_, Ob.re, Cs.fits, E_, F_, G_, H_, I_, J_, K_, L_, M_, N_, O_, C.toD, P_, Q_, R_, S_, T_, Obs.fits, U_, eqD, V_, W_, X_, Y_, Z_]
  refine qcall_pure (qvSpec_calls l hl hft) hf rfl ?_
  cases hv : goalsB l with
  | false => simp -implicitDefEqProofs [kw, ew, sw, tw, a_, b_, c_, -List.set_cons_succ, -List.set_cons_zero, A.ok, A.val, d_, e_, f_, g_, h_, i_, j_, k_, l_, m_, unA, unD, n_, AOp.total, o_, p_, q_, r_, s_, t_, u_, v_, A.thaw, C.thaw, A.fits, As.fits, C.fits, evs, oks, w_, A.pure, C.pure, A.re, C.re, x_, y_, cut, A.cells, C.rows?, z_, A_, B_, C_, D_, Ob.re, Cs.fits, E_, F_, G_, H_, I_, J_, K_, L_, M_, N_, O_, C.toD, P_, Q_, R_, S_, T_, Obs.fits, U_, eqD, V_, W_, X_, Y_, Z_]
  | true =>
    simp -implicitDefEqProofs [kw, ew, sw, tw, a_, b_, c_, -List.set_cons_succ, -List.set_cons_zero, A.ok, A.val, d_, e_, f_, g_, h_, i_, j_, k_, l_, m_, unA, unD, n_, AOp.total, o_, p_, q_, r_, s_, t_, u_, v_, A.thaw, C.thaw, A.fits, As.fits, C.fits, evs, oks, w_, A.pure, C.pure, A.re, C.re, x_, y_, cut, A.cells, C.rows?, z_, A_, B_, C_, D_, Ob.re, Cs.fits, E_, F_, G_, H_, I_, J_, K_, L_, M_, N_, O_, C.toD, P_, Q_, R_, S_, T_, Obs.fits, U_, eqD, V_, W_, X_, Y_, Z_]
    refine qcall_pure (l8Query_calls l hft hv) hf rfl ?_
    simp -implicitDefEqProofs [hf, kw, ew, sw, tw, a_, b_, c_, -List.set_cons_succ, -List.set_cons_zero, A.ok, A.val, d_, e_, f_, g_, h_, i_, j_, k_, l_, m_, unA, unD, n_, AOp.total, o_, p_, q_, r_, s_, t_, u_, v_, A.thaw, C.thaw, A.fits, As.fits, C.fits, evs, oks, w_, A.pure, C.pure, A.re, C.re, x_, y_, cut, A.cells, C.rows?, z_, A_, B_, C_, D_, Ob.re, Cs.fits, E_, F_, G_, H_, I_, J_, K_, L_, M_, N_, O_, C.toD, P_, Q_, R_, S_, T_, Obs.fits, U_, eqD, V_, W_, X_, Y_, Z_]
theorem validB_head {c : Cl} (h : c.validB = true) : c.head.good ∧ c.head.size ≤ 120 ∧ c.head.k = 3 ∧ goalsB c.body = true := by
  simp only [Cl.validB, Bool.and_eq_true] at h
  have hv := h.1.1
  simp only [Tm.valid, Bool.and_eq_true, decide_eq_true_eq] at hv
  have hp := h.1.2
  simp only [Tm.plain, Bool.and_eq_true, decide_eq_true_eq] at hp
  exact ⟨shape_good _ _ hv.1, hv.2, hp.1, h.2⟩
theorem headQ_fit : ∀ (f : Nat) (q : List (Tm × Nat)) (M : Mk) (C B : Nat), M.fit C → C + 6 * qsize q ≤ B + 4 * q.length → (headQ f q M).fit B
  | _, [], M, C, B, h, hB => by
    unfold headQ
    exact h.mono (by simpa [qsize] using hB)
  | 0, p :: q, M, C, B, h, hB => by
    have := qsize_pos (p :: q)
    unfold headQ
    exact h.mono (by omega)
  | f + 1, p :: q, M, C, B, h, hB => by
    unfold headQ
    have h2 := h.emit 3 p.1.kids.length p.2 p.1.s
    refine headQ_fit f _ _ _ B (args_fit p.1.kids _ _ h2).1 ?_
    have h3 := (args_size p.1.kids (M.emit 3 p.1.kids.length p.2 p.1.s)).1
    rw [qsize_app, List.length_append]
    have h4 : p.1.size = 1 + sizes p.1.kids := by obtain ⟨⟨k, n, s, kids⟩, i⟩ := p; rw [Tm.size]; rfl
    simp only [qsize, List.map_cons, List.sum_cons, List.length_cons] at hB ⊢
    simp only [qsize] at h3
    omega
theorem headT_fit (l : List Tm) (hl : l.length ≤ 4) : (headT l mk0).fit (8 + 6 * sizes l) := by
  obtain ⟨h1, h2, h3, h4⟩ := headA_fit l 0 mk0 4 mk0_fit (by omega)
  refine headQ_fit _ _ _ _ _ h1 ?_
  omega
theorem l8Clause_calls (c : Cl) (hft : c.fits) (hv : c.validB = true) (H : Heap) : ACalls Try.prog 65 [.agg (c.row.map .d)] H (fun r H' => H' = H ∧ r = .c (.d (.sl (codeC c)))) := by
  obtain ⟨g1, g2, g3, g4⟩ := validB_head hv
  obtain ⟨h1, h2, h3⟩ := goalsB_iff g4
  refine acalls Try.func65 (by kernel_rfl) ac65_ok fun hf => ?_
  obtain ⟨⟨k, n, s, kids⟩, body⟩ := c
  obtain ⟨hfh, _, hfb⟩ := hft
  have hkg := good_kids g1
  rw [Tm.size] at g2
  simp -implicitDefEqProofs [ac65, Cl.row, Tm.kids, kw, ew, sw, tw, a_, b_, c_, -List.set_cons_succ, -List.set_cons_zero, A.ok, A.val, d_, e_, f_, g_, h_, i_, j_, k_, l_, m_, unA, unD, n_, AOp.total, o_, p_, q_, r_, s_, t_, u_, v_, A.thaw, C.thaw, A.fits, As.fits, C.fits, evs, oks, w_, A.pure, C.pure, A.re, C.re, x_, y_, cut, A.cells, C.rows?, z_, A_, B_, C_, D_, Ob.re, Cs.fits, E_, F_, G_, H_, I_, J_, K_, L_, M_, N_, O_, C.toD, P_, Q_, R_, S_, T_, Obs.fits, U_, eqD, V_, W_, X_, Y_, Z_]
  have cst := start_calls
  refine qcall_pure cst hf rfl ?_
  simp -implicitDefEqProofs [hf, kw, ew, sw, tw, a_, b_, c_, -List.set_cons_succ, -List.set_cons_zero, A.ok, A.val, d_, e_, f_, g_, h_, i_, j_, k_, l_, m_, unA, unD, n_, AOp.total, o_, p_, q_, r_, s_, t_, u_, v_, A.thaw, C.thaw, A.fits, As.fits, C.fits, evs, oks, w_, A.pure, C.pure, A.re, C.re, x_, y_, cut, A.cells, C.rows?, z_, A_, B_, C_, D_, Ob.re, Cs.fits, E_, F_, G_, H_, I_, J_, K_, L_, M_, N_, O_, C.toD, P_, Q_, R_, S_, T_, Obs.fits, U_, eqD, V_, W_, X_, Y_, Z_]
  refine qcall_pure (head_calls kids hkg.1 (by omega) hkg.2 mk0 4 (by omega) (by omega) mk0_fit) hf rfl ?_
  simp -implicitDefEqProofs [hf, kw, ew, sw, tw, a_, b_, c_, -List.set_cons_succ, -List.set_cons_zero, A.ok, A.val, d_, e_, f_, g_, h_, i_, j_, k_, l_, m_, unA, unD, n_, AOp.total, o_, p_, q_, r_, s_, t_, u_, v_, A.thaw, C.thaw, A.fits, As.fits, C.fits, evs, oks, w_, A.pure, C.pure, A.re, C.re, x_, y_, cut, A.cells, C.rows?, z_, A_, B_, C_, D_, Ob.re, Cs.fits, E_, F_, G_, H_, I_, J_, K_, L_, M_, N_, O_, C.toD, P_, Q_, R_, S_, T_, Obs.fits, U_, eqD, V_, W_, X_, Y_, Z_]
  refine qcall_pure (goals_calls body h1 hfb h2 h3 _ _ ?_ (headT_fit kids hkg.1)) hf rfl ?_
  · omega
  simp -implicitDefEqProofs [codeC, Tm.kids, kw, ew, sw, tw, a_, b_, c_, -List.set_cons_succ, -List.set_cons_zero, A.ok, A.val, d_, e_, f_, g_, h_, i_, j_, k_, l_, m_, unA, unD, n_, AOp.total, o_, p_, q_, r_, s_, t_, u_, v_, A.thaw, C.thaw, A.fits, As.fits, C.fits, evs, oks, w_, A.pure, C.pure, A.re, C.re, x_, y_, cut, A.cells, C.rows?, z_, A_, B_, C_, D_, Ob.re, Cs.fits, E_, F_, G_, H_, I_, J_, K_, L_, M_, N_, O_, C.toD, P_, Q_, R_, S_, T_, Obs.fits, U_, eqD, V_, W_, X_, Y_, Z_]
theorem ccSpec_calls (c : Cl) (hft : c.fits) (H : Heap) : ACalls Try.prog 28 [.agg (c.row.map .d)] H
    (fun r H' => H' = H ∧ r = .tup [.c (.d (.sl (if c.validB then codeC c else []))), .c (.d (.bool c.validB))]) := by
  have c1 := cvSpec_calls c hft
  have c2 := l8Clause_calls c hft
  simp only [Cl.row, List.map_cons, List.map_nil] at c1 c2
  refine acalls Try.func28 (by kernel_rfl) ac28_ok fun hf => ?_
  simp -implicitDefEqProofs [ac28, Cl.row, kw, ew, sw, tw, a_, b_, c_, -List.set_cons_succ, -List.set_cons_zero, A.ok, A.val, d_, e_, f_, g_, h_, i_, j_, k_, l_, m_, unA, unD, n_, AOp.total, o_, p_, q_, r_, s_, t_, u_, v_, A.thaw, C.thaw, A.fits, As.fits, C.fits, evs, oks, w_, A.pure, C.pure, A.re, C.re, x_, y_, cut, A.cells, C.rows?, z_, A_, B_, C_, D_, Ob.re, Cs.fits, E_, F_, G_, H_, I_, J_, K_, L_, M_, N_, O_, C.toD, P_, Q_, R_, S_, T_, Obs.fits, U_, eqD, V_, W_, X_, Y_, Z_]
  refine qcall_pure c1 hf rfl ?_
  cases hv : c.validB with
  | false => simp -implicitDefEqProofs [kw, ew, sw, tw, a_, b_, c_, -List.set_cons_succ, -List.set_cons_zero, A.ok, A.val, d_, e_, f_, g_, h_, i_, j_, k_, l_, m_, unA, unD, n_, AOp.total, o_, p_, q_, r_, s_, t_, u_, v_, A.thaw, C.thaw, A.fits, As.fits, C.fits, evs, oks, w_, A.pure, C.pure, A.re, C.re, x_, y_, cut, A.cells, C.rows?, z_, A_, B_, C_, D_, Ob.re, Cs.fits, E_, F_, G_, H_, I_, J_, K_, L_, M_, N_, O_, C.toD, P_, Q_, R_, S_, T_, Obs.fits, U_, eqD, V_, W_, X_, Y_, Z_]
  | true =>
    simp -implicitDefEqProofs [kw, ew, sw, tw, a_, b_, c_, -List.set_cons_succ, -List.set_cons_zero, A.ok, A.val, d_, e_, f_, g_, h_, i_, j_, k_, l_, m_, unA, unD, n_, AOp.total, o_, p_, q_, r_, s_, t_, u_, v_, A.thaw, C.thaw, A.fits, As.fits, C.fits, evs, oks, w_, A.pure, C.pure, A.re, C.re, x_, y_, cut, A.cells, C.rows?, z_, A_, B_, C_, D_, Ob.re, Cs.fits, E_, F_, G_, H_, I_, J_, K_, L_, M_, N_, O_, C.toD, P_, Q_, R_, S_, T_, Obs.fits, U_, eqD, V_, W_, X_, Y_, Z_]
    refine qcall_pure (c2 hv) hf rfl ?_
    simp -implicitDefEqProofs [hf, kw, ew, sw, tw, a_, b_, c_, -List.set_cons_succ, -List.set_cons_zero, A.ok, A.val, d_, e_, f_, g_, h_, i_, j_, k_, l_, m_, unA, unD, n_, AOp.total, o_, p_, q_, r_, s_, t_, u_, v_, A.thaw, C.thaw, A.fits, As.fits, C.fits, evs, oks, w_, A.pure, C.pure, A.re, C.re, x_, y_, cut, A.cells, C.rows?, z_, A_, B_, C_, D_, Ob.re, Cs.fits, E_, F_, G_, H_, I_, J_, K_, L_, M_, N_, O_, C.toD, P_, Q_, R_, S_, T_, Obs.fits, U_, eqD, V_, W_, X_, Y_, Z_]
end Go.Proofs.Ytaegeehpajlebaa
