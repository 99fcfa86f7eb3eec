/-
  Heads as the program makes them.
  Conditions: none.
-/
import Derived.Test.YtaegeehpajlebaaCmI
open Go Go.AM Go.Proofs
namespace Go.Proofs.Ytaegeehpajlebaa
open Go.ChangeShapes Go.WideShapes Go.ChangeAt Go.RowKit
set_option linter.unusedVariables false
set_option linter.unusedSimpArgs false
set_option maxRecDepth 100000
theorem new_calls (H : Heap) : ACalls Try.prog 61 [] H (fun r H' => r = .c (.ptr (.e (H.length + 1)) 0) ∧ H' = H ++ [.map [], .cells [.map (.e H.length), .d (.int .i64 4), .own (.e (H.length + 2)) 0 []], .grow 0 4]) := by
  refine acallsK Try.func61 (by kernel_rfl) ac61_ok fun hf => ?_
  simp -implicitDefEqProofs [ac61, kw, ew, sw, tw, a_, b_, c_, -List.set_cons_succ, -List.set_cons_zero, A.ok, A.val, d_, e_, f_, g_, h_, i_, j_, k_, l_, m_, unA, unD, n_, AOp.total, o_, p_, q_, r_, s_, t_, u_, v_, A.thaw, C.thaw, A.fits, As.fits, C.fits, evs, oks, w_, A.pure, C.pure, A.re, C.re, x_, y_, cut, A.cells, C.rows?, z_, A_, B_, C_, D_, Ob.re, Cs.fits, E_, F_, G_, H_, I_, J_, K_, L_, M_, N_, O_, C.toD, P_, Q_, R_, S_, T_, Obs.fits, U_, eqD, V_, W_, X_, Y_, Z_]
  exact ⟨_, St.le_tokenC 1 2 4 rfl rfl, ⟨trivial, trivial⟩, _, rfl, by simp [A.re, C.re, Ref.re, A.val], by simp [Ob.re, C.re, Ref.re]⟩
-- 86 (*loop.example/prologserver/impl.coding).head params 2 ntmps 109
-- loop head live: [0, 4, 13, 14, 15]
-- loop head live: [0, 4]
-- loop head live: [0, 4, 84, 85, 86]
def ac86 : Cd := .seq (.region [⟨(some 4), .mv (.k (.c (.full []))), none⟩] [])
  (.seq (.seq (.region [⟨(some 13), .mv (.t 1), none⟩,
        ⟨(some 14), .len 1 (.t 13), none⟩,
        ⟨(some 15), .mv (.k (.c (.d (.int .i64 0)))), none⟩] [1])
    (.block 0 (.loop (.seq (.region [⟨(some 16), .bin .lss (.t 15) (.t 14), none⟩] [])
        (.seq (.cond (.t 16)
            (.skip)
            (.exit 0))
        (.seq (.block 1 (.seq (.region [⟨(some 17), .mv (.t 15), none⟩,
                ⟨(some 18), .indexAddr 4 (.t 13) (.t 15), none⟩,
                ⟨(some 19), .load (some 4) (.t 18), none⟩,
                ⟨(some 6), .alloc [(.d (.int .i64 0)), (.d (.int .i64 0)), (.d (.str [])), (.full [])], none⟩,
                ⟨(some 5), .mv (.t 17), none⟩,
                ⟨none, .store 4 (.t 6) (.t 19), none⟩] [16, 17, 18, 19])
            (.seq (.region [⟨(some 20), .fieldAddr 0 (.t 6), none⟩,
                ⟨(some 21), .load none (.t 20), none⟩] [20])
            (.block 2 (.seq (.region [⟨(some 29), .bin .eql (.t 21) (.k (.c (.d (.int .i64 2)))), none⟩,
                  ⟨(some 28), .mv (.t 29), none⟩] [29])
              (.cond (.t 28)
                (.region [⟨(some 30), .mv (.t 0), none⟩,
                  ⟨(some 31), .fieldAddr 1 (.t 6), none⟩,
                  ⟨(some 32), .load none (.t 31), none⟩,
                  ⟨(some 33), .mv (.t 5), none⟩,
                  ⟨(some 34), .build [(.d (.int .i64 0)), (.d (.int .i64 0)), (.d (.int .i64 0)), (.d (.str []))] [(0, 1, (.k (.c (.d (.int .i64 2))))), (1, 1, (.t 32)), (2, 1, (.t 33))], none⟩,
                  ⟨(some 35), .call false 82 [(.t 30), (.t 34)], none⟩] [5, 6, 21, 28, 30, 31, 32, 33, 34, 35])
                (.seq (.region [⟨(some 37), .bin .eql (.t 21) (.k (.c (.d (.int .i64 1)))), none⟩,
                    ⟨(some 36), .mv (.t 37), none⟩] [21, 28, 37])
                (.cond (.t 36)
                  (.seq (.region [⟨(some 39), .mv (.t 0), none⟩,
                      ⟨(some 40), .nilCheck (.t 39), none⟩,
                      ⟨(some 41), .fieldAddr 0 (.t 40), none⟩,
                      ⟨(some 43), .fieldAddr 1 (.t 6), none⟩,
                      ⟨(some 42), .load none (.t 41), none⟩,
                      ⟨(some 44), .load none (.t 43), none⟩,
                      ⟨(some 45), .mapGet none [(.int .i64 0)] true (.t 42) (.t 44), none⟩,
                      ⟨(some 38), .mv (.t 45), none⟩,
                      ⟨(some 46), .extract 0 (.t 38), none⟩,
                      ⟨(some 47), .extract 1 (.t 38), none⟩,
                      ⟨(some 7), .mv (.t 46), none⟩,
                      ⟨(some 8), .mv (.t 47), none⟩] [36, 38, 39, 40, 41, 42, 43, 44, 45, 46, 47])
                  (.seq (.region [⟨(some 48), .mv (.t 8), none⟩] [8])
                  (.cond (.t 48)
                    (.region [⟨(some 49), .mv (.t 0), none⟩,
                      ⟨(some 50), .mv (.t 7), none⟩,
                      ⟨(some 51), .mv (.t 5), none⟩,
                      ⟨(some 52), .build [(.d (.int .i64 0)), (.d (.int .i64 0)), (.d (.int .i64 0)), (.d (.str []))] [(0, 1, (.k (.c (.d (.int .i64 1))))), (1, 1, (.t 50)), (2, 1, (.t 51))], none⟩,
                      ⟨(some 53), .call false 82 [(.t 49), (.t 52)], none⟩] [5, 6, 7, 48, 49, 50, 51, 52, 53])
                    (.region [⟨(some 54), .mv (.t 0), none⟩,
                      ⟨(some 55), .nilCheck (.t 54), none⟩,
                      ⟨(some 56), .fieldAddr 0 (.t 55), none⟩,
                      ⟨(some 58), .fieldAddr 1 (.t 6), none⟩,
                      ⟨(some 60), .mv (.t 5), none⟩,
                      ⟨(some 57), .load none (.t 56), none⟩,
                      ⟨(some 59), .load none (.t 58), none⟩,
                      ⟨none, .mapSet (.t 57) (.t 59) (.t 60), none⟩] [5, 6, 7, 48, 54, 55, 56, 57, 58, 59, 60]))))
                  (.region [⟨(some 22), .mv (.t 4), none⟩,
                    ⟨(some 23), .load (some 4) (.t 6), none⟩,
                    ⟨(some 24), .mv (.t 5), none⟩,
                    ⟨(some 25), .build [(.d (.int .i64 0)), (.d (.int .i64 0)), (.d (.str [])), (.full []), (.d (.int .i64 0))] [(0, 4, (.t 23)), (4, 1, (.t 24))], none⟩,
                    ⟨(some 26), .buildSlice 5 1 [(.int .i64 0), (.int .i64 0), (.str []), (.sl []), (.int .i64 0)] [(0, (.t 25))], none⟩,
                    ⟨(some 27), .append false 5 (.t 22) (.t 26), none⟩,
                    ⟨(some 4), .mv (.t 27), none⟩] [5, 6, 22, 23, 24, 25, 26, 27, 36])))))))))
        (.region [⟨(some 61), .bin .add (.t 15) (.k (.c (.d (.int .i64 1)))), none⟩,
          ⟨(some 15), .mv (.t 61), none⟩] [61])))))))
  (.block 3 (.loop (.seq (.seq (.region [⟨(some 62), .mv (.t 4), none⟩,
            ⟨(some 63), .len 1 (.t 62), none⟩,
            ⟨(some 64), .bin .gtr (.t 63) (.k (.c (.d (.int .i64 0)))), none⟩] [62, 63])
        (.cond (.t 64)
          (.skip)
          (.exit 3)))
      (.block 4 (.seq (.region [⟨(some 65), .mv (.t 4), none⟩,
            ⟨(some 66), .indexAddr 5 (.t 65) (.k (.c (.d (.int .i64 0)))), none⟩,
            ⟨(some 67), .load (some 5) (.t 66), none⟩,
            ⟨(some 9), .alloc [(.d (.int .i64 0)), (.d (.int .i64 0)), (.d (.str [])), (.full []), (.d (.int .i64 0))], none⟩,
            ⟨none, .store 5 (.t 9) (.t 67), none⟩] [64, 65, 66, 67])
        (.seq (.region [⟨(some 68), .mv (.t 4), none⟩,
            ⟨(some 69), .slice 5 (.t 68) (some (.k (.c (.d (.int .i64 1))))) none none, none⟩,
            ⟨(some 4), .mv (.t 69), none⟩] [68, 69])
        (.seq (.region [⟨(some 70), .mv (.t 0), none⟩,
            ⟨(some 71), .fieldAddr 0 (.t 9), none⟩,
            ⟨(some 72), .fieldAddr 3 (.t 71), none⟩,
            ⟨(some 73), .load none (.t 72), none⟩,
            ⟨(some 74), .len 1 (.t 73), none⟩,
            ⟨(some 75), .fieldAddr 4 (.t 9), none⟩,
            ⟨(some 76), .load none (.t 75), none⟩,
            ⟨(some 77), .fieldAddr 0 (.t 9), none⟩,
            ⟨(some 78), .fieldAddr 2 (.t 77), none⟩,
            ⟨(some 79), .load none (.t 78), none⟩,
            ⟨(some 80), .build [(.d (.int .i64 0)), (.d (.int .i64 0)), (.d (.int .i64 0)), (.d (.str []))] [(0, 1, (.k (.c (.d (.int .i64 3))))), (1, 1, (.t 74)), (2, 1, (.t 76)), (3, 1, (.t 79))], none⟩,
            ⟨(some 81), .call false 82 [(.t 70), (.t 80)], none⟩] [70, 71, 72, 73, 74, 75, 76, 77, 78, 79, 80, 81])
        (.seq (.region [⟨(some 82), .fieldAddr 0 (.t 9), none⟩,
            ⟨(some 83), .fieldAddr 3 (.t 82), none⟩,
            ⟨(some 84), .load none (.t 83), none⟩,
            ⟨(some 85), .len 1 (.t 84), none⟩,
            ⟨(some 86), .mv (.k (.c (.d (.int .i64 0)))), none⟩] [9, 82, 83])
        (.block 5 (.loop (.seq (.region [⟨(some 87), .bin .lss (.t 86) (.t 85), none⟩] [])
            (.seq (.cond (.t 87)
                (.skip)
                (.exit 5))
            (.seq (.block 6 (.seq (.region [⟨(some 88), .indexAddr 4 (.t 84) (.t 86), none⟩,
                    ⟨(some 89), .load (some 4) (.t 88), none⟩,
                    ⟨(some 11), .alloc [(.d (.int .i64 0)), (.d (.int .i64 0)), (.d (.str [])), (.full [])], none⟩,
                    ⟨none, .store 4 (.t 11) (.t 89), none⟩] [87, 88, 89])
                (.seq (.seq (.region [⟨(some 90), .fieldAddr 0 (.t 11), none⟩,
                      ⟨(some 91), .load none (.t 90), none⟩,
                      ⟨(some 92), .bin .neq (.t 91) (.k (.c (.d (.int .i64 3)))), none⟩] [90, 91])
                  (.cond (.t 92)
                    (.seq (.region [⟨(some 93), .mv (.t 0), none⟩,
                        ⟨(some 94), .load (some 4) (.t 11), none⟩,
                        ⟨(some 95), .call false 111 [(.t 93), (.t 94)], none⟩] [11, 92, 93, 94, 95])
                    (.exit 6))
                    (.skip)))
                (.seq (.region [⟨(some 96), .mv (.t 0), none⟩,
                    ⟨(some 97), .call false 102 [(.t 96)], none⟩,
                    ⟨(some 12), .mv (.t 97), none⟩] [92, 96, 97])
                (.seq (.region [⟨(some 98), .mv (.t 0), none⟩,
                    ⟨(some 99), .mv (.t 12), none⟩,
                    ⟨(some 100), .build [(.d (.int .i64 0)), (.d (.int .i64 0)), (.d (.int .i64 0)), (.d (.str []))] [(0, 1, (.k (.c (.d (.int .i64 4))))), (1, 1, (.t 99))], none⟩,
                    ⟨(some 101), .call false 82 [(.t 98), (.t 100)], none⟩] [98, 99, 100, 101])
                (.region [⟨(some 102), .mv (.t 4), none⟩,
                  ⟨(some 103), .load (some 4) (.t 11), none⟩,
                  ⟨(some 104), .mv (.t 12), none⟩,
                  ⟨(some 105), .build [(.d (.int .i64 0)), (.d (.int .i64 0)), (.d (.str [])), (.full []), (.d (.int .i64 0))] [(0, 4, (.t 103)), (4, 1, (.t 104))], none⟩,
                  ⟨(some 106), .buildSlice 5 1 [(.int .i64 0), (.int .i64 0), (.str []), (.sl []), (.int .i64 0)] [(0, (.t 105))], none⟩,
                  ⟨(some 107), .append false 5 (.t 102) (.t 106), none⟩,
                  ⟨(some 4), .mv (.t 107), none⟩] [11, 12, 102, 103, 104, 105, 106, 107]))))))
            (.region [⟨(some 108), .bin .add (.t 86) (.k (.c (.d (.int .i64 1)))), none⟩,
              ⟨(some 86), .mv (.t 108), none⟩] [108])))))))))))))))
theorem ac86_ok : cFunc Try.prog [] [(0, [], []), (1, [1], []), (2, [], []), (3, [16, 17, 18, 19], []), (4, [20], []), (6, [29], []), (7, [5, 6, 21, 28, 30, 31, 32, 33, 34, 35], []), (8, [21, 28, 37], []), (9, [36, 38, 39, 40, 41, 42, 43, 44, 45, 46, 47], [0, 1, 2, 4, 3, 5, 6, 7, 8, 9, 10, 11]), (10, [8], []), (11, [5, 6, 7, 48, 49, 50, 51, 52, 53], []), (12, [5, 6, 7, 48, 54, 55, 56, 57, 58, 59, 60], [0, 1, 2, 4, 6, 3, 5, 7]), (5, [5, 6, 22, 23, 24, 25, 26, 27, 36], []), (13, [61], []), (14, [62, 63], []), (15, [64, 65, 66, 67], []), (16, [68, 69], []), (17, [70, 71, 72, 73, 74, 75, 76, 77, 78, 79, 80, 81], []), (18, [9, 82, 83], []), (19, [], []), (20, [87, 88, 89], []), (21, [90, 91], []), (22, [11, 92, 93, 94, 95], []), (23, [92, 96, 97], []), (24, [98, 99, 100, 101], []), (25, [11, 12, 102, 103, 104, 105, 106, 107], []), (26, [108], [])] Try.f86 = some (ac86, [], 109) := by kernel_rfl
theorem take_partR (p : Tm × Nat) : List.take 5 ((partR p).map C.d) = (partR p).map C.d := List.take_of_length_le (by simp [partR_len])
theorem head_makes (l : List Tm) (hl : l.length ≤ 4) (hz : sizes l ≤ 1000) (hg : ∀ t ∈ l, t.good) (M : Mk) (B : Nat) (hB4 : 4 ≤ B) (hB : B ≤ 10000) (hM : M.fit B) : Makes 86 [.c (.d (.sl (l.map Tm.row)))] M (headT l M) (.tup []) := fun H i hi => by
  refine acalls Try.func86 (by kernel_rfl) ac86_ok fun hf => ?_
  rw [cd_len] at hf
  have hf1 := fun M' => cd_fits (M' := M') hf hi
  have hli : inR .i64 (l.length : Int) := small_i64 (by omega) (by omega)
  simp -implicitDefEqProofs [ac86, hli, kw, ew, sw, tw, a_, b_, c_, -List.set_cons_succ, -List.set_cons_zero, A.ok, A.val, d_, e_, f_, g_, h_, i_, j_, k_, l_, m_, unA, unD, n_, AOp.total, o_, p_, q_, r_, s_, t_, u_, v_, A.thaw, C.thaw, A.fits, As.fits, C.fits, evs, oks, w_, A.pure, C.pure, A.re, C.re, x_, y_, cut, A.cells, C.rows?, z_, A_, B_, C_, D_, Ob.re, Cs.fits, E_, F_, G_, H_, I_, J_, K_, L_, M_, N_, O_, C.toD, P_, Q_, R_, S_, T_, Obs.fits, U_, eqD, V_, W_, X_, Y_, Z_]
  refine loop_enter (St.le_token 4 5 rfl) ?_
  obtain ⟨F, hF⟩ : ∃ F, F = headA l 0 M := ⟨_, rfl⟩
  have hFT : headT l M = headQ (qsize F.2) F.2 F.1 := by rw [hF]; rfl
  rw [hFT]
  have hFf := headA_fit l 0 M B hM (by omega)
  rw [← hF] at hFf
  refine loop_set (σ := Nat × Mk × List (Tm × Nat)) (fun x => [(15, .c (.d (.int .i64 x.1))), (4, .c (.own (.l 0) x.2.2.length (x.2.2.map partR)))]) (fun x => cd H i x.2.1)
    (fun x => [.grow x.2.2.length 5])
    (fun x => x.1 ≤ l.length ∧ x.2.1.fit (B + x.1) ∧ F.1 = (headA (l.drop x.1) x.1 x.2.1).1 ∧ F.2 = x.2.2 ++ (headA (l.drop x.1) x.1 x.2.1).2 ∧ x.2.2.length ≤ x.1) (fun x => l.length - x.1) (0, M, []) (by simp [setAll]) ⟨Nat.zero_le _, hM.mono (by omega), by simp [hF], by simp [hF], by simp⟩ ?_
  rintro ⟨j, N, left⟩ ⟨hj, hN, h1, h2, h3⟩
  simp only at hj hN h1 h2 h3
  simp -implicitDefEqProofs [setAll, hli, kw, ew, sw, tw, a_, b_, c_, -List.set_cons_succ, -List.set_cons_zero, A.ok, A.val, d_, e_, f_, g_, h_, i_, j_, k_, l_, m_, unA, unD, n_, AOp.total, o_, p_, q_, r_, s_, t_, u_, v_, A.thaw, C.thaw, A.fits, As.fits, C.fits, evs, oks, w_, A.pure, C.pure, A.re, C.re, x_, y_, cut, A.cells, C.rows?, z_, A_, B_, C_, D_, Ob.re, Cs.fits, E_, F_, G_, H_, I_, J_, K_, L_, M_, N_, O_, C.toD, P_, Q_, R_, S_, T_, Obs.fits, U_, eqD, V_, W_, X_, Y_, Z_]
  refine ⟨fun hlt => ?_, fun hge => ?_⟩
  · have hadd : inR .i64 ((j : Int) + 1) := small_i64 (by omega) (by omega)
    have hnx := hN.next
    have hcd := hN.code
    have hal := hN.all
    have hgt := hg l[j] (List.getElem_mem hlt)
    have hd : l.drop j = l[j] :: l.drop (j + 1) := List.drop_eq_getElem_cons hlt
    rw [hd, headA] at h1 h2
    have hrow : (l.map Tm.row)[j]? = some l[j].row := by simp [hlt]
    have hvs := var_slot hgt
    obtain ⟨t, ht⟩ : ∃ t, t = l[j] := ⟨_, rfl⟩
    rw [← ht] at hgt h1 h2 hrow hvs
    clear ht
    obtain ⟨k, n, s, kids⟩ := t
    refine row_nat _ hrow rfl ?_
    cases hgt with
    | mk ho hk =>
      rcases own_cases ho with ⟨rfl, n0, n1, rfl, rfl⟩ | ⟨rfl, n0, n1, rfl, rfl⟩ | ⟨rfl, rfl, hs2, hl4⟩
      · obtain ⟨v, hv, hv26⟩ := hvs rfl
        simp only [Tm.n] at hv
        subst hv
        simp [Tm.k, Tm.n] at h1 h2
        cases hsv : slotO N.sl v with
        | some u =>
          simp only [hsv] at h1 h2
          simp -implicitDefEqProofs [row_mk, cd_0 N hi, cd_1 N hi, cd_2 N hi, cd_len, Ref.re, hf1, slotsM_row, hsv, kw, ew, sw, tw, a_, b_, c_, -List.set_cons_succ, -List.set_cons_zero, A.ok, A.val, d_, e_, f_, g_, h_, i_, j_, k_, l_, m_, unA, unD, n_, AOp.total, o_, p_, q_, r_, s_, t_, u_, v_, A.thaw, C.thaw, A.fits, As.fits, C.fits, evs, oks, w_, A.pure, C.pure, A.re, C.re, x_, y_, cut, A.cells, C.rows?, z_, A_, B_, C_, D_, Ob.re, Cs.fits, E_, F_, G_, H_, I_, J_, K_, L_, M_, N_, O_, C.toD, P_, Q_, R_, S_, T_, Obs.fits, U_, eqD, V_, W_, X_, Y_, Z_]
          refine call_mk (add_makes N 1 u j [] (by omega) hal) hi (by simp [Ob.re, C.re]) rfl (hf1 _) ?_
          simp -implicitDefEqProofs [hadd, cd_len, kw, ew, sw, tw, a_, b_, c_, -List.set_cons_succ, -List.set_cons_zero, A.ok, A.val, d_, e_, f_, g_, h_, i_, j_, k_, l_, m_, unA, unD, n_, AOp.total, o_, p_, q_, r_, s_, t_, u_, v_, A.thaw, C.thaw, A.fits, As.fits, C.fits, evs, oks, w_, A.pure, C.pure, A.re, C.re, x_, y_, cut, A.cells, C.rows?, z_, A_, B_, C_, D_, Ob.re, Cs.fits, E_, F_, G_, H_, I_, J_, K_, L_, M_, N_, O_, C.toD, P_, Q_, R_, S_, T_, Obs.fits, U_, eqD, V_, W_, X_, Y_, Z_]
          refine loop_less (j + 1, N.emit 1 u j [], left) (St.le_cut [_] ?_ (by simp [cd_len, Sl.le, A.le_refl_iff, A.le_u_iff, As.lo, A.lo, C.lo, Ref.lo, Cs.lo, Obs.lo, Ob.lo, setAll, and_true, true_and, List.length_nil, List.length_cons]; omega) rfl (by simp [Sl.le, A.le_refl_iff, A.le_u_iff, As.lo, A.lo, C.lo, Ref.lo, Cs.lo, Obs.lo, Ob.lo, setAll, and_true, true_and, List.length_nil, List.length_cons])) ⟨hlt, (hN.emit ..).mono (by omega), h1, h2, by simp only; omega⟩ (by show l.length - (j + 1) < l.length - j; omega)
          simp [setAll, Sl.le, A.le_refl_iff, A.le_u_iff, As.lo, A.lo, C.lo, Ref.lo, Cs.lo, Obs.lo, Ob.lo, setAll, and_true, true_and, List.length_nil, List.length_cons]
        | none =>
          simp only [hsv] at h1 h2
          have hput := slotsM_put v j N.sl hsv
          have hset := cd_set0 H i N (N.give v j) rfl rfl
          simp -implicitDefEqProofs [row_mk, cd_0 N hi, cd_1 N hi, cd_2 N hi, cd_len, Ref.re, hf1, slotsM_row, hsv, kw, ew, sw, tw, a_, b_, c_, -List.set_cons_succ, -List.set_cons_zero, A.ok, A.val, d_, e_, f_, g_, h_, i_, j_, k_, l_, m_, unA, unD, n_, AOp.total, o_, p_, q_, r_, s_, t_, u_, v_, A.thaw, C.thaw, A.fits, As.fits, C.fits, evs, oks, w_, A.pure, C.pure, A.re, C.re, x_, y_, cut, A.cells, C.rows?, z_, A_, B_, C_, D_, Ob.re, Cs.fits, E_, F_, G_, H_, I_, J_, K_, L_, M_, N_, O_, C.toD, P_, Q_, R_, S_, T_, Obs.fits, U_, eqD, V_, W_, X_, Y_, Z_]
          rw [hput, show N.sl ++ [((v : Int), j)] = (N.give v j).sl from rfl, hset]
          refine ⟨hf1 _, ?_⟩
          simp -implicitDefEqProofs [hadd, cd_len, kw, ew, sw, tw, a_, b_, c_, -List.set_cons_succ, -List.set_cons_zero, A.ok, A.val, d_, e_, f_, g_, h_, i_, j_, k_, l_, m_, unA, unD, n_, AOp.total, o_, p_, q_, r_, s_, t_, u_, v_, A.thaw, C.thaw, A.fits, As.fits, C.fits, evs, oks, w_, A.pure, C.pure, A.re, C.re, x_, y_, cut, A.cells, C.rows?, z_, A_, B_, C_, D_, Ob.re, Cs.fits, E_, F_, G_, H_, I_, J_, K_, L_, M_, N_, O_, C.toD, P_, Q_, R_, S_, T_, Obs.fits, U_, eqD, V_, W_, X_, Y_, Z_]
          refine loop_less (j + 1, N.give v j, left) (St.le_cut [_] ?_ (by simp [cd_len, Sl.le, A.le_refl_iff, A.le_u_iff, As.lo, A.lo, C.lo, Ref.lo, Cs.lo, Obs.lo, Ob.lo, setAll, and_true, true_and, List.length_nil, List.length_cons]; omega) rfl (by simp [Sl.le, A.le_refl_iff, A.le_u_iff, As.lo, A.lo, C.lo, Ref.lo, Cs.lo, Obs.lo, Ob.lo, setAll, and_true, true_and, List.length_nil, List.length_cons])) ⟨hlt, (hN.give _ _ (by omega)).mono (by omega), h1, h2, by simp only; omega⟩ (by show l.length - (j + 1) < l.length - j; omega)
          simp [setAll, Sl.le, A.le_refl_iff, A.le_u_iff, As.lo, A.lo, C.lo, Ref.lo, Cs.lo, Obs.lo, Ob.lo, setAll, and_true, true_and, List.length_nil, List.length_cons]
      · simp [Tm.k, Tm.n] at h1 h2
        simp -implicitDefEqProofs [row_mk, cd_0 N hi, cd_1 N hi, cd_2 N hi, cd_len, Ref.re, hf1, kw, ew, sw, tw, a_, b_, c_, -List.set_cons_succ, -List.set_cons_zero, A.ok, A.val, d_, e_, f_, g_, h_, i_, j_, k_, l_, m_, unA, unD, n_, AOp.total, o_, p_, q_, r_, s_, t_, u_, v_, A.thaw, C.thaw, A.fits, As.fits, C.fits, evs, oks, w_, A.pure, C.pure, A.re, C.re, x_, y_, cut, A.cells, C.rows?, z_, A_, B_, C_, D_, Ob.re, Cs.fits, E_, F_, G_, H_, I_, J_, K_, L_, M_, N_, O_, C.toD, P_, Q_, R_, S_, T_, Obs.fits, U_, eqD, V_, W_, X_, Y_, Z_]
        refine call_mk (add_makes N 2 n j [] (by omega) hal) hi (by simp [Ob.re, C.re]) rfl (hf1 _) ?_
        simp -implicitDefEqProofs [hadd, cd_len, kw, ew, sw, tw, a_, b_, c_, -List.set_cons_succ, -List.set_cons_zero, A.ok, A.val, d_, e_, f_, g_, h_, i_, j_, k_, l_, m_, unA, unD, n_, AOp.total, o_, p_, q_, r_, s_, t_, u_, v_, A.thaw, C.thaw, A.fits, As.fits, C.fits, evs, oks, w_, A.pure, C.pure, A.re, C.re, x_, y_, cut, A.cells, C.rows?, z_, A_, B_, C_, D_, Ob.re, Cs.fits, E_, F_, G_, H_, I_, J_, K_, L_, M_, N_, O_, C.toD, P_, Q_, R_, S_, T_, Obs.fits, U_, eqD, V_, W_, X_, Y_, Z_]
        refine loop_less (j + 1, N.emit 2 n j [], left) (St.le_cut [_] ?_ (by simp [cd_len, Sl.le, A.le_refl_iff, A.le_u_iff, As.lo, A.lo, C.lo, Ref.lo, Cs.lo, Obs.lo, Ob.lo, setAll, and_true, true_and, List.length_nil, List.length_cons]; omega) rfl (by simp [Sl.le, A.le_refl_iff, A.le_u_iff, As.lo, A.lo, C.lo, Ref.lo, Cs.lo, Obs.lo, Ob.lo, setAll, and_true, true_and, List.length_nil, List.length_cons])) ⟨hlt, (hN.emit ..).mono (by omega), h1, h2, by simp only; omega⟩ (by show l.length - (j + 1) < l.length - j; omega)
        simp [setAll, Sl.le, A.le_refl_iff, A.le_u_iff, As.lo, A.lo, C.lo, Ref.lo, Cs.lo, Obs.lo, Ob.lo, setAll, and_true, true_and, List.length_nil, List.length_cons]
      · simp [Tm.k] at h1 h2
        simp -implicitDefEqProofs [row_mk, cd_0 N hi, cd_1 N hi, cd_2 N hi, cd_len, Ref.re, hf1, kw, ew, sw, tw, a_, b_, c_, -List.set_cons_succ, -List.set_cons_zero, A.ok, A.val, d_, e_, f_, g_, h_, i_, j_, k_, l_, m_, unA, unD, n_, AOp.total, o_, p_, q_, r_, s_, t_, u_, v_, A.thaw, C.thaw, A.fits, As.fits, C.fits, evs, oks, w_, A.pure, C.pure, A.re, C.re, x_, y_, cut, A.cells, C.rows?, z_, A_, B_, C_, D_, Ob.re, Cs.fits, E_, F_, G_, H_, I_, J_, K_, L_, M_, N_, O_, C.toD, P_, Q_, R_, S_, T_, Obs.fits, U_, eqD, V_, W_, X_, Y_, Z_]
        refine ⟨allLen_map partR_len, by unfold maxApp; omega, ?_⟩
        simp -implicitDefEqProofs [hadd, cd_len, kw, ew, sw, tw, a_, b_, c_, -List.set_cons_succ, -List.set_cons_zero, A.ok, A.val, d_, e_, f_, g_, h_, i_, j_, k_, l_, m_, unA, unD, n_, AOp.total, o_, p_, q_, r_, s_, t_, u_, v_, A.thaw, C.thaw, A.fits, As.fits, C.fits, evs, oks, w_, A.pure, C.pure, A.re, C.re, x_, y_, cut, A.cells, C.rows?, z_, A_, B_, C_, D_, Ob.re, Cs.fits, E_, F_, G_, H_, I_, J_, K_, L_, M_, N_, O_, C.toD, P_, Q_, R_, S_, T_, Obs.fits, U_, eqD, V_, W_, X_, Y_, Z_]
        refine loop_less (j + 1, N, left ++ [(.mk 3 0 s kids, j)]) (St.le_cut [_] ?_ (by simp [cd_len, Sl.le, A.le_refl_iff, A.le_u_iff, As.lo, A.lo, C.lo, Ref.lo, Cs.lo, Obs.lo, Ob.lo, setAll, and_true, true_and, List.length_nil, List.length_cons]; omega) (by simp; rfl) (by simp [Sl.le, A.le_refl_iff, A.le_u_iff, As.lo, A.lo, C.lo, Ref.lo, Cs.lo, Obs.lo, Ob.lo, setAll, and_true, true_and, List.length_nil, List.length_cons])) ⟨hlt, hN.mono (by omega), h1, by simp [h2], by simp; omega⟩ (by show l.length - (j + 1) < l.length - j; omega)
        simp [setAll, partR, row_mk, Sl.le, A.le_refl_iff, A.le_u_iff, As.lo, A.lo, C.lo, Ref.lo, Cs.lo, Obs.lo, Ob.lo, setAll, and_true, true_and, List.length_nil, List.length_cons]
  · obtain rfl : j = l.length := by omega
    simp [headA] at h1 h2
    rw [h1, h2]
    rw [h1, h2] at hFf
    obtain ⟨_, g2, g3, g4⟩ := hFf
    obtain ⟨G, hG⟩ : ∃ G, G = headQ (qsize left) left N := ⟨_, rfl⟩
    rw [← hG]
    refine loop_set (σ := Nat × Nat × Mk × List (Tm × Nat)) (fun x => [(4, .c (.own (.l 0) x.2.1 (x.2.2.2.map partR)))]) (fun x => cd H i x.2.2.1)
      (fun x => [.grow x.2.1 5])
      (fun x => headQ x.1 x.2.2.2 x.2.2.1 = G ∧ qsize x.2.2.2 ≤ x.1 ∧ (∃ cc, x.2.2.1.fit cc ∧ cc + 6 * qsize x.2.2.2 ≤ 20000 + 4 * x.2.2.2.length) ∧ qsize x.2.2.2 ≤ 1000 ∧ ∀ p ∈ x.2.2.2, p.1.good) (fun x => qsize x.2.2.2) (qsize left, left.length, N, left) (by simp [setAll]) ⟨by simp [hG], by simp, ⟨_, hN, by simp; omega⟩, by simp; omega, by simpa using fun p hp => hg _ (g2 p hp).1⟩ ?_
    rintro ⟨f, pos, P, work⟩ ⟨e1, e2, ⟨cc, hP, e3⟩, e4, e5⟩
    simp only at e1 e2 hP e3 e4 e5
    have hwl := qsize_pos work
    have hwi : inR .i64 (work.length : Int) := small_i64 (by omega) (by omega)
    simp -implicitDefEqProofs [setAll, hwi, kw, ew, sw, tw, a_, b_, c_, -List.set_cons_succ, -List.set_cons_zero, A.ok, A.val, d_, e_, f_, g_, h_, i_, j_, k_, l_, m_, unA, unD, n_, AOp.total, o_, p_, q_, r_, s_, t_, u_, v_, A.thaw, C.thaw, A.fits, As.fits, C.fits, evs, oks, w_, A.pure, C.pure, A.re, C.re, x_, y_, cut, A.cells, C.rows?, z_, A_, B_, C_, D_, Ob.re, Cs.fits, E_, F_, G_, H_, I_, J_, K_, L_, M_, N_, O_, C.toD, P_, Q_, R_, S_, T_, Obs.fits, U_, eqD, V_, W_, X_, Y_, Z_]
    cases work with
    | nil =>
      simp [headQ] at e1
      subst e1
      simp -implicitDefEqProofs [cd_len, kw, ew, sw, tw, a_, b_, c_, -List.set_cons_succ, -List.set_cons_zero, A.ok, A.val, d_, e_, f_, g_, h_, i_, j_, k_, l_, m_, unA, unD, n_, AOp.total, o_, p_, q_, r_, s_, t_, u_, v_, A.thaw, C.thaw, A.fits, As.fits, C.fits, evs, oks, w_, A.pure, C.pure, A.re, C.re, x_, y_, cut, A.cells, C.rows?, z_, A_, B_, C_, D_, Ob.re, Cs.fits, E_, F_, G_, H_, I_, J_, K_, L_, M_, N_, O_, C.toD, P_, Q_, R_, S_, T_, Obs.fits, U_, eqD, V_, W_, X_, Y_, Z_]
    | cons p work =>
      obtain ⟨⟨k, n, s, kids⟩, at'⟩ := p
      have hpg := e5 _ (List.mem_cons_self ..)
      have hkg := good_kids hpg
      have hz1 := args_size kids (P.emit 3 kids.length at' s)
      have hsz : (Tm.mk k n s kids).size = 1 + sizes kids := by rw [Tm.size]
      simp only [qsize, List.map_cons, List.sum_cons, List.length_cons, hsz] at e2 e3 e4 hwl
      rw [← qsize] at e2 e3 e4
      have hwt := qsize_pos work
      cases f with
      | zero => omega
      | succ f =>
        rw [headQ] at e1
        simp only [Tm.kids, Tm.s] at e1
        have hcd := hP.code
        have hal := hP.all
        have hci : inR .i64 (kids.length : Int) := small_i64 (by omega) (by omega)
        have hP2 := hP.emit 3 kids.length at' s
        have hfa := args_fit kids _ _ hP2
        obtain ⟨R, hR⟩ : ∃ R, R = argsT kids (P.emit 3 kids.length at' s) := ⟨_, rfl⟩
        rw [← hR] at hz1 e1 hfa
        simp -implicitDefEqProofs [partR, row_mk, kw, ew, sw, tw, a_, b_, c_, -List.set_cons_succ, -List.set_cons_zero, A.ok, A.val, d_, e_, f_, g_, h_, i_, j_, k_, l_, m_, unA, unD, n_, AOp.total, o_, p_, q_, r_, s_, t_, u_, v_, A.thaw, C.thaw, A.fits, As.fits, C.fits, evs, oks, w_, A.pure, C.pure, A.re, C.re, x_, y_, cut, A.cells, C.rows?, z_, A_, B_, C_, D_, Ob.re, Cs.fits, E_, F_, G_, H_, I_, J_, K_, L_, M_, N_, O_, C.toD, P_, Q_, R_, S_, T_, Obs.fits, U_, eqD, V_, W_, X_, Y_, Z_]
        refine row_int [.int .i64 k, .int .i64 n, .str s, .sl (kids.map Tm.row), .int .i64 at'] (by omega) (by simp) rfl ?_
        have hwa : allLen 5 (work.map partR) := allLen_map partR_len
        simp -implicitDefEqProofs [hwa, hci, cd_len, Ref.re, hf1, kw, ew, sw, tw, a_, b_, c_, -List.set_cons_succ, -List.set_cons_zero, A.ok, A.val, d_, e_, f_, g_, h_, i_, j_, k_, l_, m_, unA, unD, n_, AOp.total, o_, p_, q_, r_, s_, t_, u_, v_, A.thaw, C.thaw, A.fits, As.fits, C.fits, evs, oks, w_, A.pure, C.pure, A.re, C.re, x_, y_, cut, A.cells, C.rows?, z_, A_, B_, C_, D_, Ob.re, Cs.fits, E_, F_, G_, H_, I_, J_, K_, L_, M_, N_, O_, C.toD, P_, Q_, R_, S_, T_, Obs.fits, U_, eqD, V_, W_, X_, Y_, Z_]
        refine ⟨by omega, call_mk (add_makes P 3 kids.length at' s (by omega) hal) hi (by simp [Ob.re, C.re]) rfl (hf1 _) ?_⟩
        simp -implicitDefEqProofs [hci, cd_len, kw, ew, sw, tw, a_, b_, c_, -List.set_cons_succ, -List.set_cons_zero, A.ok, A.val, d_, e_, f_, g_, h_, i_, j_, k_, l_, m_, unA, unD, n_, AOp.total, o_, p_, q_, r_, s_, t_, u_, v_, A.thaw, C.thaw, A.fits, As.fits, C.fits, evs, oks, w_, A.pure, C.pure, A.re, C.re, x_, y_, cut, A.cells, C.rows?, z_, A_, B_, C_, D_, Ob.re, Cs.fits, E_, F_, G_, H_, I_, J_, K_, L_, M_, N_, O_, C.toD, P_, Q_, R_, S_, T_, Obs.fits, U_, eqD, V_, W_, X_, Y_, Z_]
        refine loop_set (σ := Nat × Mk × List (Tm × Nat)) (fun x => [(86, .c (.d (.int .i64 x.1))), (4, .c (.own (.l 0) (pos + x.2.2.length) ((work ++ x.2.2).map partR)))]) (fun x => cd H i x.2.1)
          (fun x => [.grow (pos + x.2.2.length) 5, .cells [.d (.int .i64 k), .d (.int .i64 n), .d (.str s), .d (.sl (kids.map Tm.row)), .d (.int .i64 at')]])
          (fun x => x.1 ≤ kids.length ∧ x.2.1.fit (cc + 1 + 2 * x.1) ∧ R.1 = (argsT (kids.drop x.1) x.2.1).1 ∧ R.2 = x.2.2 ++ (argsT (kids.drop x.1) x.2.1).2 ∧ x.2.2.length ≤ x.1) (fun x => kids.length - x.1) (0, P.emit 3 kids.length at' s, []) (by simp [setAll]) ⟨Nat.zero_le _, hP2, by simp [hR], by simp [hR], by simp⟩ ?_
        rintro ⟨j, N, new⟩ ⟨hj, hN, h1, h2, h3⟩
        simp only at hj hN h1 h2 h3
        have hNn := hN.next
        have hNc := hN.code
        have hNa := hN.all
        simp -implicitDefEqProofs [setAll, hci, kw, ew, sw, tw, a_, b_, c_, -List.set_cons_succ, -List.set_cons_zero, A.ok, A.val, d_, e_, f_, g_, h_, i_, j_, k_, l_, m_, unA, unD, n_, AOp.total, o_, p_, q_, r_, s_, t_, u_, v_, A.thaw, C.thaw, A.fits, As.fits, C.fits, evs, oks, w_, A.pure, C.pure, A.re, C.re, x_, y_, cut, A.cells, C.rows?, z_, A_, B_, C_, D_, Ob.re, Cs.fits, E_, F_, G_, H_, I_, J_, K_, L_, M_, N_, O_, C.toD, P_, Q_, R_, S_, T_, Obs.fits, U_, eqD, V_, W_, X_, Y_, Z_]
        refine ⟨fun hlt => ?_, fun hge => ?_⟩
        · have hadd : inR .i64 ((j : Int) + 1) := small_i64 (by omega) (by omega)
          have hd : kids.drop j = kids[j] :: kids.drop (j + 1) := List.drop_eq_getElem_cons hlt
          rw [hd, argsT] at h1 h2
          have hrow : (kids.map Tm.row)[j]? = some kids[j].row := by simp [hlt]
          have hgt := hkg.2 kids[j] (List.getElem_mem hlt)
          obtain ⟨t, ht⟩ : ∃ t, t = kids[j] := ⟨_, rfl⟩
          rw [← ht] at hgt h1 h2 hrow
          clear ht
          refine row_nat _ hrow (row_len _) ?_
          by_cases hk3 : t.k = 3
          · obtain ⟨k', n', s', l'⟩ := t
            obtain rfl : k' = 3 := hk3
            simp [Tm.k] at h1 h2
            simp -implicitDefEqProofs [row_mk, cd_len, Ref.re, hf1, kw, ew, sw, tw, a_, b_, c_, -List.set_cons_succ, -List.set_cons_zero, A.ok, A.val, d_, e_, f_, g_, h_, i_, j_, k_, l_, m_, unA, unD, n_, AOp.total, o_, p_, q_, r_, s_, t_, u_, v_, A.thaw, C.thaw, A.fits, As.fits, C.fits, evs, oks, w_, A.pure, C.pure, A.re, C.re, x_, y_, cut, A.cells, C.rows?, z_, A_, B_, C_, D_, Ob.re, Cs.fits, E_, F_, G_, H_, I_, J_, K_, L_, M_, N_, O_, C.toD, P_, Q_, R_, S_, T_, Obs.fits, U_, eqD, V_, W_, X_, Y_, Z_]
            refine call_mk (slot_makes N (by omega)) hi (by simp [Ob.re, C.re]) rfl (hf1 _) ?_
            simp -implicitDefEqProofs [cd_len, kw, ew, sw, tw, a_, b_, c_, -List.set_cons_succ, -List.set_cons_zero, A.ok, A.val, d_, e_, f_, g_, h_, i_, j_, k_, l_, m_, unA, unD, n_, AOp.total, o_, p_, q_, r_, s_, t_, u_, v_, A.thaw, C.thaw, A.fits, As.fits, C.fits, evs, oks, w_, A.pure, C.pure, A.re, C.re, x_, y_, cut, A.cells, C.rows?, z_, A_, B_, C_, D_, Ob.re, Cs.fits, E_, F_, G_, H_, I_, J_, K_, L_, M_, N_, O_, C.toD, P_, Q_, R_, S_, T_, Obs.fits, U_, eqD, V_, W_, X_, Y_, Z_]
            refine call_mk (add_makes N.bump 4 N.next 0 [] (by show N.code.length ≤ _; omega) hNa) hi (by simp [Ob.re, C.re]) rfl (hf1 _) ?_
            simp -implicitDefEqProofs [hadd, cd_len, kw, ew, sw, tw, a_, b_, c_, -List.set_cons_succ, -List.set_cons_zero, A.ok, A.val, d_, e_, f_, g_, h_, i_, j_, k_, l_, m_, unA, unD, n_, AOp.total, o_, p_, q_, r_, s_, t_, u_, v_, A.thaw, C.thaw, A.fits, As.fits, C.fits, evs, oks, w_, A.pure, C.pure, A.re, C.re, x_, y_, cut, A.cells, C.rows?, z_, A_, B_, C_, D_, Ob.re, Cs.fits, E_, F_, G_, H_, I_, J_, K_, L_, M_, N_, O_, C.toD, P_, Q_, R_, S_, T_, Obs.fits, U_, eqD, V_, W_, X_, Y_, Z_]
            refine ⟨⟨allLen_map partR_len, allLen_map partR_len⟩, by unfold maxApp; omega, ?_⟩
            refine loop_less (j + 1, (N.emit 4 N.next 0 []).bump, new ++ [(.mk 3 n' s' l', N.next)]) (St.le_cut [_] ?_ (by simp [cd_len, Sl.le, A.le_refl_iff, A.le_u_iff, As.lo, A.lo, C.lo, Ref.lo, Cs.lo, Obs.lo, Ob.lo, setAll, and_true, true_and, List.length_nil, List.length_cons]; omega) (by simp [Nat.add_assoc]; rfl) (by simp [Sl.le, A.le_refl_iff, A.le_u_iff, As.lo, A.lo, C.lo, Ref.lo, Cs.lo, Obs.lo, Ob.lo, setAll, and_true, true_and, List.length_nil, List.length_cons])) ⟨hlt, (hN.emit ..).bump.mono (by dsimp only; omega), h1, by rw [h2]; simp, by simp; omega⟩ (by show kids.length - (j + 1) < kids.length - j; omega)
            simp [setAll, partR, row_mk, Nat.add_assoc, Sl.le, A.le_refl_iff, A.le_u_iff, As.lo, A.lo, C.lo, Ref.lo, Cs.lo, Obs.lo, Ob.lo, setAll, and_true, true_and, List.length_nil, List.length_cons]
          · have cde := described_makes t hgt hk3 N _ hN (by omega)
            rw [if_neg hk3] at h1 h2
            rw [row_eq] at cde ⊢
            simp only [List.map_cons, List.map_nil] at cde
            simp -implicitDefEqProofs [hk3, cd_len, Ref.re, hf1, kw, ew, sw, tw, a_, b_, c_, -List.set_cons_succ, -List.set_cons_zero, A.ok, A.val, d_, e_, f_, g_, h_, i_, j_, k_, l_, m_, unA, unD, n_, AOp.total, o_, p_, q_, r_, s_, t_, u_, v_, A.thaw, C.thaw, A.fits, As.fits, C.fits, evs, oks, w_, A.pure, C.pure, A.re, C.re, x_, y_, cut, A.cells, C.rows?, z_, A_, B_, C_, D_, Ob.re, Cs.fits, E_, F_, G_, H_, I_, J_, K_, L_, M_, N_, O_, C.toD, P_, Q_, R_, S_, T_, Obs.fits, U_, eqD, V_, W_, X_, Y_, Z_]
            refine call_mk cde hi (by simp [Ob.re, C.re]) rfl (hf1 _) ?_
            simp -implicitDefEqProofs [hadd, cd_len, kw, ew, sw, tw, a_, b_, c_, -List.set_cons_succ, -List.set_cons_zero, A.ok, A.val, d_, e_, f_, g_, h_, i_, j_, k_, l_, m_, unA, unD, n_, AOp.total, o_, p_, q_, r_, s_, t_, u_, v_, A.thaw, C.thaw, A.fits, As.fits, C.fits, evs, oks, w_, A.pure, C.pure, A.re, C.re, x_, y_, cut, A.cells, C.rows?, z_, A_, B_, C_, D_, Ob.re, Cs.fits, E_, F_, G_, H_, I_, J_, K_, L_, M_, N_, O_, C.toD, P_, Q_, R_, S_, T_, Obs.fits, U_, eqD, V_, W_, X_, Y_, Z_]
            refine loop_less (j + 1, N.desc t, new) (St.le_cut [_] ?_ (by simp [cd_len, Sl.le, A.le_refl_iff, A.le_u_iff, As.lo, A.lo, C.lo, Ref.lo, Cs.lo, Obs.lo, Ob.lo, setAll, and_true, true_and, List.length_nil, List.length_cons]; omega) rfl (by simp [Sl.le, A.le_refl_iff, A.le_u_iff, As.lo, A.lo, C.lo, Ref.lo, Cs.lo, Obs.lo, Ob.lo, setAll, and_true, true_and, List.length_nil, List.length_cons])) ⟨hlt, (hN.desc t).mono (by dsimp only; omega), h1, h2, by simp only; omega⟩ (by show kids.length - (j + 1) < kids.length - j; omega)
            simp [setAll, Sl.le, A.le_refl_iff, A.le_u_iff, As.lo, A.lo, C.lo, Ref.lo, Cs.lo, Obs.lo, Ob.lo, setAll, and_true, true_and, List.length_nil, List.length_cons]
        · obtain rfl : j = kids.length := by omega
          simp [argsT] at h1 h2
          rw [h1, h2] at e1 hfa
          rw [h2] at hz1
          refine loop_less (f, pos + new.length, N, work ++ new) (St.le_cut [_] ?_ (by simp [cd_len, Sl.le, A.le_refl_iff, A.le_u_iff, As.lo, A.lo, C.lo, Ref.lo, Cs.lo, Obs.lo, Ob.lo, setAll, and_true, true_and, List.length_nil, List.length_cons]; omega) rfl (by simp [Sl.le, A.le_refl_iff, A.le_u_iff, As.lo, A.lo, C.lo, Ref.lo, Cs.lo, Obs.lo, Ob.lo, setAll, and_true, true_and, List.length_nil, List.length_cons])) ⟨e1, ?_, ⟨_, hN, ?_⟩, ?_, ?_⟩ ?_
          · simp [setAll, Sl.le, A.le_refl_iff, A.le_u_iff, As.lo, A.lo, C.lo, Ref.lo, Cs.lo, Obs.lo, Ob.lo, setAll, and_true, true_and, List.length_nil, List.length_cons]
          · show qsize (work ++ new) ≤ f
            rw [qsize_app]; omega
          · show cc + 1 + 2 * kids.length + 6 * qsize (work ++ new) ≤ 20000 + 4 * (work ++ new).length
            rw [qsize_app, List.length_append]; omega
          · show qsize (work ++ new) ≤ 1000
            rw [qsize_app]; omega
          · show ∀ a b, (a, b) ∈ work ++ new → a.good
            intro a b hp
            rcases List.mem_append.1 hp with hp | hp
            · exact e5 (a, b) (by simp [hp])
            · exact hkg.2 _ (hfa.2 (a, b) hp).1
          · show qsize (work ++ new) < qsize ((Tm.mk k n s kids, at') :: work)
            rw [qsize_app]
            simp only [qsize, List.map_cons, List.sum_cons, hsz]
            simp only [← qsize.eq_def]
            omega
end Go.Proofs.Ytaegeehpajlebaa
