/-
  Code as the reference makes it.
  Conditions: none.
-/
import Derived.Test.YtaegeehpajlebaaCmA
open Go Go.AM Go.Proofs
namespace Go.Proofs.Ytaegeehpajlebaa
open Go.ChangeShapes Go.WideShapes Go.ChangeAt Go.RowKit
set_option linter.unusedVariables false
set_option linter.unusedSimpArgs false
set_option maxRecDepth 100000
-- 79 loop.example/prologserver/spec.l8Start params 0 ntmps 14
-- loop head live: [0, 1, 2]
def ac79 : Cd := .seq (.region [⟨(some 0), .alloc [(.full []), (.d (.int .i64 0)), (.full [])], none⟩] [])
  (.seq (.region [⟨(some 3), .build [(.full []), (.d (.int .i64 0)), (.full [])] [(1, 1, (.k (.c (.d (.int .i64 4)))))], none⟩,
      ⟨(some 1), .alloc [(.full []), (.d (.int .i64 0)), (.full [])], none⟩,
      ⟨none, .store 3 (.t 1) (.t 3), none⟩] [3])
  (.seq (.seq (.region [⟨(some 2), .mv (.k (.c (.d (.int .i64 0)))), none⟩] [])
    (.block 0 (.loop (.seq (.seq (.region [⟨(some 4), .mv (.t 2), none⟩,
              ⟨(some 5), .bin .leq (.t 4) (.k (.c (.d (.int .i64 25)))), none⟩] [4])
          (.cond (.t 5)
            (.skip)
            (.exit 0)))
        (.seq (.block 1 (.region [⟨(some 8), .fieldAddr 0 (.t 1), none⟩,
              ⟨(some 9), .load none (.t 8), none⟩,
              ⟨(some 10), .buildSlice 1 1 [(.int .i64 0)] [(0, (.k (.c (.d (.int .i64 (-1))))))], none⟩,
              ⟨(some 11), .append false 1 (.t 9) (.t 10), none⟩,
              ⟨(some 12), .fieldAddr 0 (.t 1), none⟩,
              ⟨none, .store 1 (.t 12) (.t 11), none⟩] [5, 8, 9, 10, 11, 12]))
        (.region [⟨(some 6), .mv (.t 2), none⟩,
          ⟨(some 7), .bin .add (.t 6) (.k (.c (.d (.int .i64 1)))), none⟩,
          ⟨(some 2), .mv (.t 7), none⟩] [6, 7]))))))
  (.seq (.region [⟨(some 13), .load (some 3) (.t 1), none⟩,
      ⟨none, .store 3 (.t 0) (.t 13), none⟩] [1, 13])
  (.ret))))
theorem ac79_ok : cFunc Try.prog [] [(0, [], []), (1, [3], []), (2, [], []), (3, [4], []), (5, [5, 8, 9, 10, 11, 12], []), (4, [6, 7], []), (6, [1, 13], [])] Try.f79 = some (ac79, [.cell 0 (some 3)], 14) := by kernel_rfl
-- 96 loop.example/prologserver/spec.l8Emit params 2 ntmps 14
def ac96 : Cd := .seq (.region [⟨(some 2), .box (.t 0), none⟩,
      ⟨(some 3), .box (.t 1), none⟩,
      ⟨(some 4), .alloc [(.full []), (.d (.int .i64 0)), (.full [])], none⟩] [0, 1])
  (.seq (.region [⟨(some 5), .buildSlice 4 0 [(.int .i64 0), (.int .i64 0), (.int .i64 0), (.str [])] [], none⟩,
      ⟨(some 6), .fieldAddr 2 (.t 2), none⟩,
      ⟨(some 7), .load none (.t 6), none⟩,
      ⟨(some 9), .load (some 4) (.t 3), none⟩,
      ⟨(some 10), .buildSlice 4 1 [(.int .i64 0), (.int .i64 0), (.int .i64 0), (.str [])] [(0, (.t 9))], none⟩,
      ⟨(some 8), .append false 4 (.t 5) (.t 7), none⟩,
      ⟨(some 11), .append false 4 (.t 8) (.t 10), none⟩,
      ⟨(some 12), .fieldAddr 2 (.t 2), none⟩,
      ⟨none, .store 1 (.t 12) (.t 11), none⟩] [3, 5, 6, 7, 8, 9, 10, 11, 12])
  (.seq (.region [⟨(some 13), .load (some 3) (.t 2), none⟩,
      ⟨none, .store 3 (.t 4) (.t 13), none⟩] [2, 13])
  (.ret)))
theorem ac96_ok : cFunc Try.prog [] [(0, [0, 1], []), (1, [3, 5, 6, 7, 8, 9, 10, 11, 12], [0, 1, 2, 4, 5, 3, 6, 7, 8]), (2, [2, 13], [])] Try.f96 = some (ac96, [.cell 4 (some 3)], 14) := by kernel_rfl
-- 107 loop.example/prologserver/spec.l8Slot params 3 ntmps 18
def ac107 : Cd := .seq (.region [⟨(some 3), .box (.t 0), none⟩,
      ⟨(some 6), .alloc [(.full []), (.d (.int .i64 0)), (.full [])], none⟩] [0])
  (.seq (.region [⟨(some 7), .buildSlice 1 0 [(.int .i64 0)] [], none⟩,
      ⟨(some 8), .fieldAddr 0 (.t 3), none⟩,
      ⟨(some 9), .load none (.t 8), none⟩,
      ⟨(some 10), .appendF 1 (.t 7) (.t 9), none⟩,
      ⟨(some 11), .fieldAddr 0 (.t 3), none⟩,
      ⟨none, .store 1 (.t 11) (.t 10), none⟩] [7, 8, 9, 10, 11])
  (.seq (.region [⟨(some 12), .fieldAddr 0 (.t 3), none⟩,
      ⟨(some 13), .load none (.t 12), none⟩,
      ⟨(some 14), .mv (.t 1), none⟩,
      ⟨(some 15), .mv (.t 2), none⟩,
      ⟨(some 16), .indexAddr 1 (.t 13) (.t 14), none⟩,
      ⟨none, .store 1 (.t 16) (.t 15), none⟩] [1, 2, 12, 13, 14, 15, 16])
  (.seq (.region [⟨(some 17), .load (some 3) (.t 3), none⟩,
      ⟨none, .store 3 (.t 6) (.t 17), none⟩] [3, 17])
  (.ret))))
theorem ac107_ok : cFunc Try.prog [3000007] [(0, [0], []), (1, [7, 8, 9, 10, 11], []), (2, [1, 2, 12, 13, 14, 15, 16], []), (3, [3, 17], [])] Try.f107 = some (ac107, [.cell 6 (some 3)], 18) := by kernel_rfl
-- 108 loop.example/prologserver/spec.l8Args params 2 ntmps 88
-- loop head live: [1, 2, 4, 6, 7]
def ac108 : Cd := .seq (.region [⟨(some 2), .box (.t 0), none⟩,
      ⟨(some 4), .alloc [(.full []), (.d (.int .i64 0)), (.full [])], none⟩,
      ⟨(some 5), .mv (.k (.c (.full []))), none⟩] [0, 5])
  (.seq (.region [⟨(some 9), .buildSlice 5 0 [(.int .i64 0), (.int .i64 0), (.str []), (.sl []), (.int .i64 0)] [], none⟩,
      ⟨(some 6), .mv (.t 9), none⟩] [9])
  (.seq (.seq (.region [⟨(some 7), .mv (.k (.c (.d (.int .i64 0)))), none⟩] [])
    (.block 0 (.loop (.seq (.seq (.region [⟨(some 10), .mv (.t 7), none⟩,
              ⟨(some 11), .mv (.t 1), none⟩,
              ⟨(some 12), .len 1 (.t 11), none⟩,
              ⟨(some 13), .bin .lss (.t 10) (.t 12), none⟩] [10, 11, 12])
          (.cond (.t 13)
            (.skip)
            (.exit 0)))
        (.seq (.block 1 (.seq (.region [⟨(some 16), .mv (.t 1), none⟩,
                ⟨(some 17), .mv (.t 7), none⟩,
                ⟨(some 18), .indexAddr 4 (.t 16) (.t 17), none⟩,
                ⟨(some 19), .load (some 4) (.t 18), none⟩,
                ⟨(some 8), .alloc [(.d (.int .i64 0)), (.d (.int .i64 0)), (.d (.str [])), (.full [])], none⟩,
                ⟨none, .store 4 (.t 8) (.t 19), none⟩] [13, 16, 17, 18, 19])
            (.block 2 (.seq (.region [⟨(some 37), .fieldAddr 0 (.t 8), none⟩,
                  ⟨(some 38), .load none (.t 37), none⟩,
                  ⟨(some 39), .bin .eql (.t 38) (.k (.c (.d (.int .i64 2)))), none⟩,
                  ⟨(some 36), .mv (.t 39), none⟩] [37, 38, 39])
              (.cond (.t 36)
                (.region [⟨(some 40), .load (some 3) (.t 2), none⟩,
                  ⟨(some 41), .fieldAddr 1 (.t 8), none⟩,
                  ⟨(some 42), .load none (.t 41), none⟩,
                  ⟨(some 43), .build [(.d (.int .i64 0)), (.d (.int .i64 0)), (.d (.int .i64 0)), (.d (.str []))] [(0, 1, (.k (.c (.d (.int .i64 6))))), (1, 1, (.t 42))], none⟩,
                  ⟨(some 44), .qcall 96 [(.t 40), (.t 43)], none⟩,
                  ⟨none, .store 3 (.t 2) (.t 44), none⟩] [8, 36, 40, 41, 42, 43, 44])
                (.seq (.region [⟨(some 46), .fieldAddr 0 (.t 8), none⟩,
                    ⟨(some 47), .load none (.t 46), none⟩,
                    ⟨(some 48), .bin .eql (.t 47) (.k (.c (.d (.int .i64 1)))), none⟩,
                    ⟨(some 49), .mv (.t 48), none⟩,
                    ⟨(some 50), .fieldAddr 0 (.t 2), some (49, true)⟩,
                    ⟨(some 51), .load none (.t 50), some (49, true)⟩,
                    ⟨(some 52), .fieldAddr 1 (.t 8), some (49, true)⟩,
                    ⟨(some 53), .load none (.t 52), some (49, true)⟩,
                    ⟨(some 54), .indexAddr 1 (.t 51) (.t 53), some (49, true)⟩,
                    ⟨(some 55), .load none (.t 54), some (49, true)⟩,
                    ⟨(some 56), .bin .geq (.t 55) (.k (.c (.d (.int .i64 0)))), some (49, true)⟩,
                    ⟨(some 57), .pick (.t 49) (.t 56) (.k (.c (.d (.bool false)))), none⟩,
                    ⟨(some 45), .mv (.t 57), none⟩] [36, 46, 47, 48, 49, 50, 51, 52, 53, 54, 55, 56, 57])
                (.cond (.t 45)
                  (.region [⟨(some 59), .fieldAddr 0 (.t 2), none⟩,
                    ⟨(some 61), .fieldAddr 1 (.t 8), none⟩,
                    ⟨(some 58), .load (some 3) (.t 2), none⟩,
                    ⟨(some 60), .load none (.t 59), none⟩,
                    ⟨(some 62), .load none (.t 61), none⟩,
                    ⟨(some 63), .indexAddr 1 (.t 60) (.t 62), none⟩,
                    ⟨(some 64), .load none (.t 63), none⟩,
                    ⟨(some 65), .build [(.d (.int .i64 0)), (.d (.int .i64 0)), (.d (.int .i64 0)), (.d (.str []))] [(0, 1, (.k (.c (.d (.int .i64 5))))), (1, 1, (.t 64))], none⟩,
                    ⟨(some 66), .qcall 96 [(.t 58), (.t 65)], none⟩,
                    ⟨none, .store 3 (.t 2) (.t 66), none⟩] [8, 45, 58, 59, 60, 61, 62, 63, 64, 65, 66])
                  (.seq (.region [⟨(some 68), .fieldAddr 0 (.t 8), none⟩,
                      ⟨(some 69), .load none (.t 68), none⟩,
                      ⟨(some 70), .bin .eql (.t 69) (.k (.c (.d (.int .i64 1)))), none⟩,
                      ⟨(some 67), .mv (.t 70), none⟩] [45, 68, 69, 70])
                  (.cond (.t 67)
                    (.seq (.region [⟨(some 71), .load (some 3) (.t 2), none⟩,
                        ⟨(some 72), .fieldAddr 1 (.t 8), none⟩,
                        ⟨(some 73), .load none (.t 72), none⟩,
                        ⟨(some 74), .fieldAddr 1 (.t 2), none⟩,
                        ⟨(some 75), .load none (.t 74), none⟩,
                        ⟨(some 76), .qcall 107 [(.t 71), (.t 73), (.t 75)], none⟩,
                        ⟨none, .store 3 (.t 2) (.t 76), none⟩] [8, 67, 71, 72, 73, 74, 75, 76])
                    (.seq (.region [⟨(some 77), .load (some 3) (.t 2), none⟩,
                        ⟨(some 78), .fieldAddr 1 (.t 2), none⟩,
                        ⟨(some 79), .load none (.t 78), none⟩,
                        ⟨(some 80), .build [(.d (.int .i64 0)), (.d (.int .i64 0)), (.d (.int .i64 0)), (.d (.str []))] [(0, 1, (.k (.c (.d (.int .i64 4))))), (1, 1, (.t 79))], none⟩,
                        ⟨(some 81), .qcall 96 [(.t 77), (.t 80)], none⟩,
                        ⟨none, .store 3 (.t 2) (.t 81), none⟩] [77, 78, 79, 80, 81])
                    (.region [⟨(some 82), .fieldAddr 1 (.t 2), none⟩,
                      ⟨(some 83), .load none (.t 82), none⟩,
                      ⟨(some 84), .bin .add (.t 83) (.k (.c (.d (.int .i64 1)))), none⟩,
                      ⟨(some 85), .fieldAddr 1 (.t 2), none⟩,
                      ⟨none, .store 1 (.t 85) (.t 84), none⟩] [82, 83, 84, 85])))
                    (.seq (.region [⟨(some 20), .mv (.t 6), none⟩,
                        ⟨(some 21), .load (some 4) (.t 8), none⟩,
                        ⟨(some 22), .fieldAddr 1 (.t 2), none⟩,
                        ⟨(some 23), .load none (.t 22), none⟩,
                        ⟨(some 24), .build [(.d (.int .i64 0)), (.d (.int .i64 0)), (.d (.str [])), (.full []), (.d (.int .i64 0))] [(0, 4, (.t 21)), (4, 1, (.t 23))], none⟩,
                        ⟨(some 25), .buildSlice 5 1 [(.int .i64 0), (.int .i64 0), (.str []), (.sl []), (.int .i64 0)] [(0, (.t 24))], none⟩,
                        ⟨(some 26), .append false 5 (.t 20) (.t 25), none⟩,
                        ⟨(some 6), .mv (.t 26), none⟩] [8, 20, 21, 22, 23, 24, 25, 26, 67])
                    (.seq (.region [⟨(some 27), .load (some 3) (.t 2), none⟩,
                        ⟨(some 28), .fieldAddr 1 (.t 2), none⟩,
                        ⟨(some 29), .load none (.t 28), none⟩,
                        ⟨(some 30), .build [(.d (.int .i64 0)), (.d (.int .i64 0)), (.d (.int .i64 0)), (.d (.str []))] [(0, 1, (.k (.c (.d (.int .i64 4))))), (1, 1, (.t 29))], none⟩,
                        ⟨(some 31), .qcall 96 [(.t 27), (.t 30)], none⟩,
                        ⟨none, .store 3 (.t 2) (.t 31), none⟩] [27, 28, 29, 30, 31])
                    (.region [⟨(some 32), .fieldAddr 1 (.t 2), none⟩,
                      ⟨(some 33), .load none (.t 32), none⟩,
                      ⟨(some 34), .bin .add (.t 33) (.k (.c (.d (.int .i64 1)))), none⟩,
                      ⟨(some 35), .fieldAddr 1 (.t 2), none⟩,
                      ⟨none, .store 1 (.t 35) (.t 34), none⟩] [32, 33, 34, 35]))))))))))))
        (.region [⟨(some 14), .mv (.t 7), none⟩,
          ⟨(some 15), .bin .add (.t 14) (.k (.c (.d (.int .i64 1)))), none⟩,
          ⟨(some 7), .mv (.t 15), none⟩] [14, 15]))))))
  (.seq (.region [⟨(some 86), .load (some 3) (.t 2), none⟩,
      ⟨(some 87), .mv (.t 6), none⟩,
      ⟨none, .store 3 (.t 4) (.t 86), none⟩,
      ⟨(some 5), .mv (.t 87), none⟩] [2, 6, 86, 87])
  (.ret))))
theorem ac108_ok : cFunc Try.prog [1000096, 1000107] [(0, [0, 5], []), (1, [9], []), (2, [], []), (3, [10, 11, 12], []), (5, [13, 16, 17, 18, 19], []), (9, [37, 38, 39], []), (10, [8, 36, 40, 41, 42, 43, 44], []), (11, [36, 46, 47, 48, 49, 50, 51, 52, 53, 54, 55, 56, 57], []), (12, [8, 45, 58, 59, 60, 61, 62, 63, 64, 65, 66], [1, 3, 0, 2, 4, 5, 6, 7, 8, 9]), (13, [45, 68, 69, 70], []), (14, [8, 67, 71, 72, 73, 74, 75, 76], []), (15, [77, 78, 79, 80, 81], []), (16, [82, 83, 84, 85], []), (6, [8, 20, 21, 22, 23, 24, 25, 26, 67], []), (7, [27, 28, 29, 30, 31], []), (8, [32, 33, 34, 35], []), (4, [14, 15], []), (17, [2, 6, 86, 87], [])] Try.f108 = some (ac108, [.cell 4 (some 3), .tmp 5], 88) := by kernel_rfl
theorem allLen_rep (i : Nat) (d : D) : allLen 1 (List.replicate i [d]) := fun r hr => by rw [List.eq_of_mem_replicate hr]; rfl
theorem start_calls (H : Heap) : ACalls Try.prog 79 [] H (fun r H' => H' = H ∧ r = .agg [.d (.sl (slotsR [])), .d (.int .i64 4), .d (.sl [])]) := by
  refine acalls Try.func79 (by kernel_rfl) ac79_ok fun hf => ?_
  simp -implicitDefEqProofs [ac79, kw, ew, sw, tw, a_, b_, c_, -List.set_cons_succ, -List.set_cons_zero, A.ok, A.val, d_, e_, f_, g_, h_, i_, j_, k_, l_, m_, unA, unD, n_, AOp.total, o_, p_, q_, r_, s_, t_, u_, v_, A.thaw, C.thaw, A.fits, As.fits, C.fits, evs, oks, w_, A.pure, C.pure, A.re, C.re, x_, y_, cut, A.cells, C.rows?, z_, A_, B_, C_, D_, Ob.re, Cs.fits, E_, F_, G_, H_, I_, J_, K_, L_, M_, N_, O_, C.toD, P_, Q_, R_, S_, T_, Obs.fits, U_, eqD, V_, W_, X_, Y_, Z_]
  refine ⟨hf, loop_enter (St.le_tokenC 1 0 1 rfl rfl) ?_⟩
  refine loop_set (σ := Nat) (fun i => [(2, .c (.d (.int .i64 i)))]) (fun _ => H) (fun i => [.cells [.full [], .d (.int .i64 0), .full []], .cells [.own (.l 2) i (List.replicate i [.int .i64 (-1)]), .d (.int .i64 4), .full []], .grow i 1]) (fun i => i ≤ 26) (fun i => 26 - i) 0 (by simp [setAll]) (Nat.zero_le _) ?_
  intro i hi
  simp -implicitDefEqProofs [setAll, kw, ew, sw, tw, a_, b_, c_, -List.set_cons_succ, -List.set_cons_zero, A.ok, A.val, d_, e_, f_, g_, h_, i_, j_, k_, l_, m_, unA, unD, n_, AOp.total, o_, p_, q_, r_, s_, t_, u_, v_, A.thaw, C.thaw, A.fits, As.fits, C.fits, evs, oks, w_, A.pure, C.pure, A.re, C.re, x_, y_, cut, A.cells, C.rows?, z_, A_, B_, C_, D_, Ob.re, Cs.fits, E_, F_, G_, H_, I_, J_, K_, L_, M_, N_, O_, C.toD, P_, Q_, R_, S_, T_, Obs.fits, U_, eqD, V_, W_, X_, Y_, Z_]
  refine ⟨fun hlt => ?_, fun hge => ?_⟩
  · have hadd : inR .i64 ((i : Int) + 1) := small_i64 (by omega) (by omega)
    simp -implicitDefEqProofs [hadd, kw, ew, sw, tw, a_, b_, c_, -List.set_cons_succ, -List.set_cons_zero, A.ok, A.val, d_, e_, f_, g_, h_, i_, j_, k_, l_, m_, unA, unD, n_, AOp.total, o_, p_, q_, r_, s_, t_, u_, v_, A.thaw, C.thaw, A.fits, As.fits, C.fits, evs, oks, w_, A.pure, C.pure, A.re, C.re, x_, y_, cut, A.cells, C.rows?, z_, A_, B_, C_, D_, Ob.re, Cs.fits, E_, F_, G_, H_, I_, J_, K_, L_, M_, N_, O_, C.toD, P_, Q_, R_, S_, T_, Obs.fits, U_, eqD, V_, W_, X_, Y_, Z_]
    refine ⟨allLen_rep _ _, by unfold maxApp; omega, hf, loop_back (i + 1) ?_ (by omega) (by show 26 - (i + 1) < 26 - i; omega)⟩
    simp [setAll, List.replicate_succ']
  · obtain rfl : i = 26 := by omega
    have e : slotsR [] = List.replicate 26 [.int .i64 (-1)] := by kernel_rfl
    simp -implicitDefEqProofs [hf, e, kw, ew, sw, tw, a_, b_, c_, -List.set_cons_succ, -List.set_cons_zero, A.ok, A.val, d_, e_, f_, g_, h_, i_, j_, k_, l_, m_, unA, unD, n_, AOp.total, o_, p_, q_, r_, s_, t_, u_, v_, A.thaw, C.thaw, A.fits, As.fits, C.fits, evs, oks, w_, A.pure, C.pure, A.re, C.re, x_, y_, cut, A.cells, C.rows?, z_, A_, B_, C_, D_, Ob.re, Cs.fits, E_, F_, G_, H_, I_, J_, K_, L_, M_, N_, O_, C.toD, P_, Q_, R_, S_, T_, Obs.fits, U_, eqD, V_, W_, X_, Y_, Z_]
theorem emit_calls (s code : List (List D)) (n op a b : Int) (t : List UInt8) (hc : code.length ≤ 1000000) (ha : allLen 4 code) (H : Heap) :
    ACalls Try.prog 96 [.agg [.d (.sl s), .d (.int .i64 n), .d (.sl code)], .agg [.d (.int .i64 op), .d (.int .i64 a), .d (.int .i64 b), .d (.str t)]] H
      (fun r H' => H' = H ∧ r = .agg [.d (.sl s), .d (.int .i64 n), .d (.sl (code ++ [insR op a b t]))]) := by
  refine acalls Try.func96 (by kernel_rfl) ac96_ok fun hf => ?_
  simp -implicitDefEqProofs [ac96, kw, ew, sw, tw, a_, b_, c_, -List.set_cons_succ, -List.set_cons_zero, A.ok, A.val, d_, e_, f_, g_, h_, i_, j_, k_, l_, m_, unA, unD, n_, AOp.total, o_, p_, q_, r_, s_, t_, u_, v_, A.thaw, C.thaw, A.fits, As.fits, C.fits, evs, oks, w_, A.pure, C.pure, A.re, C.re, x_, y_, cut, A.cells, C.rows?, z_, A_, B_, C_, D_, Ob.re, Cs.fits, E_, F_, G_, H_, I_, J_, K_, L_, M_, N_, O_, C.toD, P_, Q_, R_, S_, T_, Obs.fits, U_, eqD, V_, W_, X_, Y_, Z_]
  exact ⟨ha, by unfold maxApp; omega, ha, by unfold maxApp; omega, hf, rfl⟩
theorem slot_calls (m : List (Int × Nat)) (code : List (List D)) (n : Int) (k v : Nat) (hk : k < 26) (hm : slotO m k = none) (hv : v ≤ 1000000) (H : Heap) :
    ACalls Try.prog 107 [.agg [.d (.sl (slotsR m)), .d (.int .i64 n), .d (.sl code)], .c (.d (.int .i64 k)), .c (.d (.int .i64 v))] H
      (fun r H' => H' = H ∧ r = .agg [.d (.sl (slotsR (m ++ [((k : Int), v)]))), .d (.int .i64 n), .d (.sl code)]) := by
  refine acalls Try.func107 (by kernel_rfl) ac107_ok fun hf => ?_
  simp -implicitDefEqProofs [ac107, slotsR_len, slotsR_all, kw, ew, sw, tw, a_, b_, c_, -List.set_cons_succ, -List.set_cons_zero, A.ok, A.val, d_, e_, f_, g_, h_, i_, j_, k_, l_, m_, unA, unD, n_, AOp.total, o_, p_, q_, r_, s_, t_, u_, v_, A.thaw, C.thaw, A.fits, As.fits, C.fits, evs, oks, w_, A.pure, C.pure, A.re, C.re, x_, y_, cut, A.cells, C.rows?, z_, A_, B_, C_, D_, Ob.re, Cs.fits, E_, F_, G_, H_, I_, J_, K_, L_, M_, N_, O_, C.toD, P_, Q_, R_, S_, T_, Obs.fits, U_, eqD, V_, W_, X_, Y_, Z_]
  have hne : ¬ slotsR m = [] := fun h => by have := slotsR_len m; rw [h] at this; cases this
  refine ⟨by unfold maxApp; omega, fun h => absurd h hne, fun _ => ⟨hf, hk, ?_⟩⟩
  have hset := slotsR_set m k v hk hm
  rw [slotsR_get m hk, hm]
  simp -implicitDefEqProofs [hset, hf, kw, ew, sw, tw, a_, b_, c_, -List.set_cons_succ, -List.set_cons_zero, A.ok, A.val, d_, e_, f_, g_, h_, i_, j_, k_, l_, m_, unA, unD, n_, AOp.total, o_, p_, q_, r_, s_, t_, u_, v_, A.thaw, C.thaw, A.fits, As.fits, C.fits, evs, oks, w_, A.pure, C.pure, A.re, C.re, x_, y_, cut, A.cells, C.rows?, z_, A_, B_, C_, D_, Ob.re, Cs.fits, E_, F_, G_, H_, I_, J_, K_, L_, M_, N_, O_, C.toD, P_, Q_, R_, S_, T_, Obs.fits, U_, eqD, V_, W_, X_, Y_, Z_]
theorem var_slot {t : Tm} (ht : t.good) (hk : t.k = 1) : ∃ v : Nat, t.n = v ∧ v < 26 := by
  obtain ⟨k, n, s, l⟩ := t
  cases ht with
  | mk ho _ =>
    rcases own_cases ho with ⟨_, h0, h1, _⟩ | ⟨h, _⟩ | ⟨h, _⟩
    · obtain ⟨v, rfl⟩ := Int.eq_ofNat_of_zero_le h0
      exact ⟨v, rfl, by omega⟩
    · simp only [Tm.k] at hk; omega
    · simp only [Tm.k] at hk; omega
def partR (p : Tm × Nat) : List D := p.1.row ++ [.int .i64 p.2]
theorem partR_len (p : Tm × Nat) : (partR p).length = 5 := by simp [partR, row_len]
theorem args_calls (l : List Tm) (hl : l.length ≤ 1000) (hg : ∀ t ∈ l, t.good) (M : Mk) (B : Nat) (hB : B ≤ 900000) (hM : M.fit B) (H : Heap) :
    ACalls Try.prog 108 [.agg [.d (.sl (slotsR M.sl)), .d (.int .i64 M.next), .d (.sl M.code)], .c (.d (.sl (l.map Tm.row)))] H
      (fun r H' => H' = H ∧ r = .tup [.agg [.d (.sl (slotsR (argsT l M).1.sl)), .d (.int .i64 (argsT l M).1.next), .d (.sl (argsT l M).1.code)], .c (.d (.sl ((argsT l M).2.map partR)))]) := by
  refine acalls Try.func108 (by kernel_rfl) ac108_ok fun hf => ?_
  have hli : inR .i64 (l.length : Int) := small_i64 (by omega) (by omega)
  simp -implicitDefEqProofs [ac108, hli, kw, ew, sw, tw, a_, b_, c_, -List.set_cons_succ, -List.set_cons_zero, A.ok, A.val, d_, e_, f_, g_, h_, i_, j_, k_, l_, m_, unA, unD, n_, AOp.total, o_, p_, q_, r_, s_, t_, u_, v_, A.thaw, C.thaw, A.fits, As.fits, C.fits, evs, oks, w_, A.pure, C.pure, A.re, C.re, x_, y_, cut, A.cells, C.rows?, z_, A_, B_, C_, D_, Ob.re, Cs.fits, E_, F_, G_, H_, I_, J_, K_, L_, M_, N_, O_, C.toD, P_, Q_, R_, S_, T_, Obs.fits, U_, eqD, V_, W_, X_, Y_, Z_]
  refine loop_enter (St.le_token 6 5 rfl) ?_
  obtain ⟨F, hF⟩ : ∃ F, F = argsT l M := ⟨_, rfl⟩
  rw [← hF]
  refine loop_set (σ := Nat × Mk × List (Tm × Nat)) (fun x => [(7, .c (.d (.int .i64 x.1))), (6, .c (.own (.l 2) x.2.2.length (x.2.2.map partR)))]) (fun _ => H)
    (fun x => [.cells [.d (.sl (slotsR x.2.1.sl)), .d (.int .i64 x.2.1.next), .d (.sl x.2.1.code)], .cells [.full [], .d (.int .i64 0), .full []], .grow x.2.2.length 5])
    (fun x => x.1 ≤ l.length ∧ x.2.1.fit (B + 2 * x.1) ∧ F.1 = (argsT (l.drop x.1) x.2.1).1 ∧ F.2 = x.2.2 ++ (argsT (l.drop x.1) x.2.1).2 ∧ x.2.2.length ≤ x.1) (fun x => l.length - x.1) (0, M, []) (by simp [setAll]) ⟨Nat.zero_le _, hM.mono (by omega), by simp [hF], by simp [hF], by simp⟩ ?_
  rintro ⟨i, N, left⟩ ⟨hi, hN, h1, h2, h3⟩
  simp only at hi hN h1 h2 h3
  simp -implicitDefEqProofs [setAll, hli, kw, ew, sw, tw, a_, b_, c_, -List.set_cons_succ, -List.set_cons_zero, A.ok, A.val, d_, e_, f_, g_, h_, i_, j_, k_, l_, m_, unA, unD, n_, AOp.total, o_, p_, q_, r_, s_, t_, u_, v_, A.thaw, C.thaw, A.fits, As.fits, C.fits, evs, oks, w_, A.pure, C.pure, A.re, C.re, x_, y_, cut, A.cells, C.rows?, z_, A_, B_, C_, D_, Ob.re, Cs.fits, E_, F_, G_, H_, I_, J_, K_, L_, M_, N_, O_, C.toD, P_, Q_, R_, S_, T_, Obs.fits, U_, eqD, V_, W_, X_, Y_, Z_]
  refine ⟨fun hlt => ?_, fun hge => ?_⟩
  · have hadd : inR .i64 ((i : Int) + 1) := small_i64 (by omega) (by omega)
    have hnx := hN.next
    have hcd := hN.code
    have hni : inR .i64 (N.next : Int) := small_i64 (by omega) (by omega)
    have hnj : inR .i64 ((N.next : Int) + 1) := small_i64 (by omega) (by omega)
    have hal := hN.all
    have hgt := hg l[i] (List.getElem_mem hlt)
    have hd : l.drop i = l[i] :: l.drop (i + 1) := List.drop_eq_getElem_cons hlt
    rw [hd, argsT] at h1 h2
    have hrow : (l.map Tm.row)[i]? = some l[i].row := by simp [hlt]
    have hvs := var_slot hgt
    obtain ⟨t, ht⟩ : ∃ t, t = l[i] := ⟨_, rfl⟩
    rw [← ht] at hgt h1 h2 hrow hvs
    clear ht
    obtain ⟨k, n, s, kids⟩ := t
    refine row_nat _ hrow rfl ?_
    cases hgt with
    | mk ho hk =>
      rcases own_cases ho with ⟨rfl, n0, n1, rfl, rfl⟩ | ⟨rfl, n0, n1, rfl, rfl⟩ | ⟨rfl, rfl, hs2, hl4⟩
      · obtain ⟨v, hv, hv26⟩ := hvs rfl
        simp only [Tm.n] at hv
        subst hv
        simp [Mk.desc, Tm.k, Tm.n] at h1 h2
        have hget := slotsR_get N.sl hv26
        simp -implicitDefEqProofs [row_mk, hf, kw, ew, sw, tw, a_, b_, c_, -List.set_cons_succ, -List.set_cons_zero, A.ok, A.val, d_, e_, f_, g_, h_, i_, j_, k_, l_, m_, unA, unD, n_, AOp.total, o_, p_, q_, r_, s_, t_, u_, v_, A.thaw, C.thaw, A.fits, As.fits, C.fits, evs, oks, w_, A.pure, C.pure, A.re, C.re, x_, y_, cut, A.cells, C.rows?, z_, A_, B_, C_, D_, Ob.re, Cs.fits, E_, F_, G_, H_, I_, J_, K_, L_, M_, N_, O_, C.toD, P_, Q_, R_, S_, T_, Obs.fits, U_, eqD, V_, W_, X_, Y_, Z_]
        refine row_nat _ hget rfl ?_
        cases hsv : slotO N.sl v with
        | some u =>
          simp only [hsv] at h1 h2
          have hu0 : ¬ (u : Int) < 0 := by omega
          simp -implicitDefEqProofs [hu0, hf, kw, ew, sw, tw, a_, b_, c_, -List.set_cons_succ, -List.set_cons_zero, A.ok, A.val, d_, e_, f_, g_, h_, i_, j_, k_, l_, m_, unA, unD, n_, AOp.total, o_, p_, q_, r_, s_, t_, u_, v_, A.thaw, C.thaw, A.fits, As.fits, C.fits, evs, oks, w_, A.pure, C.pure, A.re, C.re, x_, y_, cut, A.cells, C.rows?, z_, A_, B_, C_, D_, Ob.re, Cs.fits, E_, F_, G_, H_, I_, J_, K_, L_, M_, N_, O_, C.toD, P_, Q_, R_, S_, T_, Obs.fits, U_, eqD, V_, W_, X_, Y_, Z_]
          refine row_nat _ hget rfl ?_
          simp -implicitDefEqProofs [hsv, hf, kw, ew, sw, tw, a_, b_, c_, -List.set_cons_succ, -List.set_cons_zero, A.ok, A.val, d_, e_, f_, g_, h_, i_, j_, k_, l_, m_, unA, unD, n_, AOp.total, o_, p_, q_, r_, s_, t_, u_, v_, A.thaw, C.thaw, A.fits, As.fits, C.fits, evs, oks, w_, A.pure, C.pure, A.re, C.re, x_, y_, cut, A.cells, C.rows?, z_, A_, B_, C_, D_, Ob.re, Cs.fits, E_, F_, G_, H_, I_, J_, K_, L_, M_, N_, O_, C.toD, P_, Q_, R_, S_, T_, Obs.fits, U_, eqD, V_, W_, X_, Y_, Z_]
          refine qcall_pure (emit_calls _ _ _ _ _ _ _ (by omega) hal) hf rfl ?_
          simp -implicitDefEqProofs [hadd, hf, kw, ew, sw, tw, a_, b_, c_, -List.set_cons_succ, -List.set_cons_zero, A.ok, A.val, d_, e_, f_, g_, h_, i_, j_, k_, l_, m_, unA, unD, n_, AOp.total, o_, p_, q_, r_, s_, t_, u_, v_, A.thaw, C.thaw, A.fits, As.fits, C.fits, evs, oks, w_, A.pure, C.pure, A.re, C.re, x_, y_, cut, A.cells, C.rows?, z_, A_, B_, C_, D_, Ob.re, Cs.fits, E_, F_, G_, H_, I_, J_, K_, L_, M_, N_, O_, C.toD, P_, Q_, R_, S_, T_, Obs.fits, U_, eqD, V_, W_, X_, Y_, Z_]
          refine loop_less (i + 1, N.emit 5 u 0 [], left) (St.le_cut [_] ?_ (by simp [Sl.le, A.le_refl_iff, A.le_u_iff, As.lo, A.lo, C.lo, Ref.lo, Cs.lo, Obs.lo, Ob.lo, setAll, and_true, true_and, List.length_nil, List.length_cons]) rfl (by simp [Sl.le, A.le_refl_iff, A.le_u_iff, As.lo, A.lo, C.lo, Ref.lo, Cs.lo, Obs.lo, Ob.lo, setAll, and_true, true_and, List.length_nil, List.length_cons])) ⟨hlt, (hN.emit ..).mono (by omega), h1, h2, by simp only; omega⟩ (by show l.length - (i + 1) < l.length - i; omega)
          simp [setAll, Sl.le, A.le_refl_iff, A.le_u_iff, As.lo, A.lo, C.lo, Ref.lo, Cs.lo, Obs.lo, Ob.lo, setAll, and_true, true_and, List.length_nil, List.length_cons]
        | none =>
          simp only [hsv] at h1 h2
          simp -implicitDefEqProofs [hf, kw, ew, sw, tw, a_, b_, c_, -List.set_cons_succ, -List.set_cons_zero, A.ok, A.val, d_, e_, f_, g_, h_, i_, j_, k_, l_, m_, unA, unD, n_, AOp.total, o_, p_, q_, r_, s_, t_, u_, v_, A.thaw, C.thaw, A.fits, As.fits, C.fits, evs, oks, w_, A.pure, C.pure, A.re, C.re, x_, y_, cut, A.cells, C.rows?, z_, A_, B_, C_, D_, Ob.re, Cs.fits, E_, F_, G_, H_, I_, J_, K_, L_, M_, N_, O_, C.toD, P_, Q_, R_, S_, T_, Obs.fits, U_, eqD, V_, W_, X_, Y_, Z_]
          refine qcall_pure (slot_calls N.sl N.code _ v N.next hv26 hsv (by omega)) hf rfl ?_
          simp -implicitDefEqProofs [hf, kw, ew, sw, tw, a_, b_, c_, -List.set_cons_succ, -List.set_cons_zero, A.ok, A.val, d_, e_, f_, g_, h_, i_, j_, k_, l_, m_, unA, unD, n_, AOp.total, o_, p_, q_, r_, s_, t_, u_, v_, A.thaw, C.thaw, A.fits, As.fits, C.fits, evs, oks, w_, A.pure, C.pure, A.re, C.re, x_, y_, cut, A.cells, C.rows?, z_, A_, B_, C_, D_, Ob.re, Cs.fits, E_, F_, G_, H_, I_, J_, K_, L_, M_, N_, O_, C.toD, P_, Q_, R_, S_, T_, Obs.fits, U_, eqD, V_, W_, X_, Y_, Z_]
          refine qcall_pure (emit_calls _ _ _ _ _ _ _ (by omega) hal) hf rfl ?_
          simp -implicitDefEqProofs [hadd, hnj, hf, kw, ew, sw, tw, a_, b_, c_, -List.set_cons_succ, -List.set_cons_zero, A.ok, A.val, d_, e_, f_, g_, h_, i_, j_, k_, l_, m_, unA, unD, n_, AOp.total, o_, p_, q_, r_, s_, t_, u_, v_, A.thaw, C.thaw, A.fits, As.fits, C.fits, evs, oks, w_, A.pure, C.pure, A.re, C.re, x_, y_, cut, A.cells, C.rows?, z_, A_, B_, C_, D_, Ob.re, Cs.fits, E_, F_, G_, H_, I_, J_, K_, L_, M_, N_, O_, C.toD, P_, Q_, R_, S_, T_, Obs.fits, U_, eqD, V_, W_, X_, Y_, Z_]
          refine loop_less (i + 1, ((N.give v N.next).emit 4 N.next 0 []).bump, left) (St.le_cut [_] ?_ (by simp [Sl.le, A.le_refl_iff, A.le_u_iff, As.lo, A.lo, C.lo, Ref.lo, Cs.lo, Obs.lo, Ob.lo, setAll, and_true, true_and, List.length_nil, List.length_cons]) rfl (by simp [Sl.le, A.le_refl_iff, A.le_u_iff, As.lo, A.lo, C.lo, Ref.lo, Cs.lo, Obs.lo, Ob.lo, setAll, and_true, true_and, List.length_nil, List.length_cons])) ⟨hlt, ((hN.give _ _ hnx).emit ..).bump.mono (by omega), h1, h2, by simp only; omega⟩ (by show l.length - (i + 1) < l.length - i; omega)
          simp [setAll, Sl.le, A.le_refl_iff, A.le_u_iff, As.lo, A.lo, C.lo, Ref.lo, Cs.lo, Obs.lo, Ob.lo, setAll, and_true, true_and, List.length_nil, List.length_cons]
      · simp [Mk.desc, Tm.k, Tm.n] at h1 h2
        simp -implicitDefEqProofs [row_mk, hf, kw, ew, sw, tw, a_, b_, c_, -List.set_cons_succ, -List.set_cons_zero, A.ok, A.val, d_, e_, f_, g_, h_, i_, j_, k_, l_, m_, unA, unD, n_, AOp.total, o_, p_, q_, r_, s_, t_, u_, v_, A.thaw, C.thaw, A.fits, As.fits, C.fits, evs, oks, w_, A.pure, C.pure, A.re, C.re, x_, y_, cut, A.cells, C.rows?, z_, A_, B_, C_, D_, Ob.re, Cs.fits, E_, F_, G_, H_, I_, J_, K_, L_, M_, N_, O_, C.toD, P_, Q_, R_, S_, T_, Obs.fits, U_, eqD, V_, W_, X_, Y_, Z_]
        refine qcall_pure (emit_calls _ _ _ _ _ _ _ (by omega) hal) hf rfl ?_
        simp -implicitDefEqProofs [hadd, hf, kw, ew, sw, tw, a_, b_, c_, -List.set_cons_succ, -List.set_cons_zero, A.ok, A.val, d_, e_, f_, g_, h_, i_, j_, k_, l_, m_, unA, unD, n_, AOp.total, o_, p_, q_, r_, s_, t_, u_, v_, A.thaw, C.thaw, A.fits, As.fits, C.fits, evs, oks, w_, A.pure, C.pure, A.re, C.re, x_, y_, cut, A.cells, C.rows?, z_, A_, B_, C_, D_, Ob.re, Cs.fits, E_, F_, G_, H_, I_, J_, K_, L_, M_, N_, O_, C.toD, P_, Q_, R_, S_, T_, Obs.fits, U_, eqD, V_, W_, X_, Y_, Z_]
        refine loop_less (i + 1, N.emit 6 n 0 [], left) (St.le_cut [_] ?_ (by simp [Sl.le, A.le_refl_iff, A.le_u_iff, As.lo, A.lo, C.lo, Ref.lo, Cs.lo, Obs.lo, Ob.lo, setAll, and_true, true_and, List.length_nil, List.length_cons]) rfl (by simp [Sl.le, A.le_refl_iff, A.le_u_iff, As.lo, A.lo, C.lo, Ref.lo, Cs.lo, Obs.lo, Ob.lo, setAll, and_true, true_and, List.length_nil, List.length_cons])) ⟨hlt, (hN.emit ..).mono (by omega), h1, h2, by simp only; omega⟩ (by show l.length - (i + 1) < l.length - i; omega)
        simp [setAll, Sl.le, A.le_refl_iff, A.le_u_iff, As.lo, A.lo, C.lo, Ref.lo, Cs.lo, Obs.lo, Ob.lo, setAll, and_true, true_and, List.length_nil, List.length_cons]
      · simp [Tm.k] at h1 h2
        simp -implicitDefEqProofs [row_mk, hf, kw, ew, sw, tw, a_, b_, c_, -List.set_cons_succ, -List.set_cons_zero, A.ok, A.val, d_, e_, f_, g_, h_, i_, j_, k_, l_, m_, unA, unD, n_, AOp.total, o_, p_, q_, r_, s_, t_, u_, v_, A.thaw, C.thaw, A.fits, As.fits, C.fits, evs, oks, w_, A.pure, C.pure, A.re, C.re, x_, y_, cut, A.cells, C.rows?, z_, A_, B_, C_, D_, Ob.re, Cs.fits, E_, F_, G_, H_, I_, J_, K_, L_, M_, N_, O_, C.toD, P_, Q_, R_, S_, T_, Obs.fits, U_, eqD, V_, W_, X_, Y_, Z_]
        refine row_off [.int .i64 0] ?_
        simp -implicitDefEqProofs [hf, kw, ew, sw, tw, a_, b_, c_, -List.set_cons_succ, -List.set_cons_zero, A.ok, A.val, d_, e_, f_, g_, h_, i_, j_, k_, l_, m_, unA, unD, n_, AOp.total, o_, p_, q_, r_, s_, t_, u_, v_, A.thaw, C.thaw, A.fits, As.fits, C.fits, evs, oks, w_, A.pure, C.pure, A.re, C.re, x_, y_, cut, A.cells, C.rows?, z_, A_, B_, C_, D_, Ob.re, Cs.fits, E_, F_, G_, H_, I_, J_, K_, L_, M_, N_, O_, C.toD, P_, Q_, R_, S_, T_, Obs.fits, U_, eqD, V_, W_, X_, Y_, Z_]
        refine ⟨allLen_map partR_len, by unfold maxApp; omega, qcall_pure (emit_calls _ _ _ _ _ _ _ (by omega) hal) hf rfl ?_⟩
        simp -implicitDefEqProofs [hadd, hnj, hf, kw, ew, sw, tw, a_, b_, c_, -List.set_cons_succ, -List.set_cons_zero, A.ok, A.val, d_, e_, f_, g_, h_, i_, j_, k_, l_, m_, unA, unD, n_, AOp.total, o_, p_, q_, r_, s_, t_, u_, v_, A.thaw, C.thaw, A.fits, As.fits, C.fits, evs, oks, w_, A.pure, C.pure, A.re, C.re, x_, y_, cut, A.cells, C.rows?, z_, A_, B_, C_, D_, Ob.re, Cs.fits, E_, F_, G_, H_, I_, J_, K_, L_, M_, N_, O_, C.toD, P_, Q_, R_, S_, T_, Obs.fits, U_, eqD, V_, W_, X_, Y_, Z_]
        refine loop_less (i + 1, (N.emit 4 N.next 0 []).bump, left ++ [(.mk 3 0 s kids, N.next)]) (St.le_cut [_] ?_ (by simp [Sl.le, A.le_refl_iff, A.le_u_iff, As.lo, A.lo, C.lo, Ref.lo, Cs.lo, Obs.lo, Ob.lo, setAll, and_true, true_and, List.length_nil, List.length_cons]) (by simp [Mk.emit, Mk.bump]; rfl) (by simp [Sl.le, A.le_refl_iff, A.le_u_iff, As.lo, A.lo, C.lo, Ref.lo, Cs.lo, Obs.lo, Ob.lo, setAll, and_true, true_and, List.length_nil, List.length_cons])) ⟨hlt, (hN.emit ..).bump.mono (by omega), h1, by simp [h2], by simp; omega⟩ (by show l.length - (i + 1) < l.length - i; omega)
        simp [setAll, partR, row_mk, Sl.le, A.le_refl_iff, A.le_u_iff, As.lo, A.lo, C.lo, Ref.lo, Cs.lo, Obs.lo, Ob.lo, setAll, and_true, true_and, List.length_nil, List.length_cons]
  · obtain rfl : i = l.length := by omega
    simp [argsT] at h1 h2
    simp -implicitDefEqProofs [h1, h2, hf, kw, ew, sw, tw, a_, b_, c_, -List.set_cons_succ, -List.set_cons_zero, A.ok, A.val, d_, e_, f_, g_, h_, i_, j_, k_, l_, m_, unA, unD, n_, AOp.total, o_, p_, q_, r_, s_, t_, u_, v_, A.thaw, C.thaw, A.fits, As.fits, C.fits, evs, oks, w_, A.pure, C.pure, A.re, C.re, x_, y_, cut, A.cells, C.rows?, z_, A_, B_, C_, D_, Ob.re, Cs.fits, E_, F_, G_, H_, I_, J_, K_, L_, M_, N_, O_, C.toD, P_, Q_, R_, S_, T_, Obs.fits, U_, eqD, V_, W_, X_, Y_, Z_]
-- 84 loop.example/prologserver/spec.l8Head params 2 ntmps 106
-- loop head live: [1, 2, 4, 5, 6]
-- loop head live: [2, 4, 5, 8]
def ac84 : Cd := .seq (.region [⟨(some 2), .box (.t 0), none⟩,
      ⟨(some 4), .alloc [(.full []), (.d (.int .i64 0)), (.full [])], none⟩] [0])
  (.seq (.region [⟨(some 12), .buildSlice 5 0 [(.int .i64 0), (.int .i64 0), (.str []), (.sl []), (.int .i64 0)] [], none⟩,
      ⟨(some 5), .mv (.t 12), none⟩] [12])
  (.seq (.seq (.region [⟨(some 6), .mv (.k (.c (.d (.int .i64 0)))), none⟩] [])
    (.block 0 (.loop (.seq (.seq (.region [⟨(some 13), .mv (.t 6), none⟩,
              ⟨(some 14), .mv (.t 1), none⟩,
              ⟨(some 15), .len 1 (.t 14), none⟩,
              ⟨(some 16), .bin .lss (.t 13) (.t 15), none⟩] [13, 14, 15])
          (.cond (.t 16)
            (.skip)
            (.exit 0)))
        (.seq (.block 1 (.seq (.region [⟨(some 19), .mv (.t 1), none⟩,
                ⟨(some 20), .mv (.t 6), none⟩,
                ⟨(some 21), .indexAddr 4 (.t 19) (.t 20), none⟩,
                ⟨(some 22), .load (some 4) (.t 21), none⟩,
                ⟨(some 7), .alloc [(.d (.int .i64 0)), (.d (.int .i64 0)), (.d (.str [])), (.full [])], none⟩,
                ⟨none, .store 4 (.t 7) (.t 22), none⟩] [16, 19, 20, 21, 22])
            (.block 2 (.seq (.region [⟨(some 30), .fieldAddr 0 (.t 7), none⟩,
                  ⟨(some 31), .load none (.t 30), none⟩,
                  ⟨(some 32), .bin .eql (.t 31) (.k (.c (.d (.int .i64 2)))), none⟩,
                  ⟨(some 29), .mv (.t 32), none⟩] [30, 31, 32])
              (.cond (.t 29)
                (.region [⟨(some 33), .load (some 3) (.t 2), none⟩,
                  ⟨(some 34), .fieldAddr 1 (.t 7), none⟩,
                  ⟨(some 35), .load none (.t 34), none⟩,
                  ⟨(some 36), .mv (.t 6), none⟩,
                  ⟨(some 37), .build [(.d (.int .i64 0)), (.d (.int .i64 0)), (.d (.int .i64 0)), (.d (.str []))] [(0, 1, (.k (.c (.d (.int .i64 2))))), (1, 1, (.t 35)), (2, 1, (.t 36))], none⟩,
                  ⟨(some 38), .qcall 96 [(.t 33), (.t 37)], none⟩,
                  ⟨none, .store 3 (.t 2) (.t 38), none⟩] [7, 29, 33, 34, 35, 36, 37, 38])
                (.seq (.region [⟨(some 40), .fieldAddr 0 (.t 7), none⟩,
                    ⟨(some 41), .load none (.t 40), none⟩,
                    ⟨(some 42), .bin .eql (.t 41) (.k (.c (.d (.int .i64 1)))), none⟩,
                    ⟨(some 43), .mv (.t 42), none⟩,
                    ⟨(some 44), .fieldAddr 0 (.t 2), some (43, true)⟩,
                    ⟨(some 45), .load none (.t 44), some (43, true)⟩,
                    ⟨(some 46), .fieldAddr 1 (.t 7), some (43, true)⟩,
                    ⟨(some 47), .load none (.t 46), some (43, true)⟩,
                    ⟨(some 48), .indexAddr 1 (.t 45) (.t 47), some (43, true)⟩,
                    ⟨(some 49), .load none (.t 48), some (43, true)⟩,
                    ⟨(some 50), .bin .geq (.t 49) (.k (.c (.d (.int .i64 0)))), some (43, true)⟩,
                    ⟨(some 51), .pick (.t 43) (.t 50) (.k (.c (.d (.bool false)))), none⟩,
                    ⟨(some 39), .mv (.t 51), none⟩] [29, 40, 41, 42, 43, 44, 45, 46, 47, 48, 49, 50, 51])
                (.cond (.t 39)
                  (.region [⟨(some 53), .fieldAddr 0 (.t 2), none⟩,
                    ⟨(some 55), .fieldAddr 1 (.t 7), none⟩,
                    ⟨(some 59), .mv (.t 6), none⟩,
                    ⟨(some 52), .load (some 3) (.t 2), none⟩,
                    ⟨(some 54), .load none (.t 53), none⟩,
                    ⟨(some 56), .load none (.t 55), none⟩,
                    ⟨(some 57), .indexAddr 1 (.t 54) (.t 56), none⟩,
                    ⟨(some 58), .load none (.t 57), none⟩,
                    ⟨(some 60), .build [(.d (.int .i64 0)), (.d (.int .i64 0)), (.d (.int .i64 0)), (.d (.str []))] [(0, 1, (.k (.c (.d (.int .i64 1))))), (1, 1, (.t 58)), (2, 1, (.t 59))], none⟩,
                    ⟨(some 61), .qcall 96 [(.t 52), (.t 60)], none⟩,
                    ⟨none, .store 3 (.t 2) (.t 61), none⟩] [7, 39, 52, 53, 54, 55, 56, 57, 58, 59, 60, 61])
                  (.seq (.region [⟨(some 63), .fieldAddr 0 (.t 7), none⟩,
                      ⟨(some 64), .load none (.t 63), none⟩,
                      ⟨(some 65), .bin .eql (.t 64) (.k (.c (.d (.int .i64 1)))), none⟩,
                      ⟨(some 62), .mv (.t 65), none⟩] [39, 63, 64, 65])
                  (.cond (.t 62)
                    (.region [⟨(some 66), .load (some 3) (.t 2), none⟩,
                      ⟨(some 67), .fieldAddr 1 (.t 7), none⟩,
                      ⟨(some 68), .load none (.t 67), none⟩,
                      ⟨(some 69), .mv (.t 6), none⟩,
                      ⟨(some 70), .qcall 107 [(.t 66), (.t 68), (.t 69)], none⟩,
                      ⟨none, .store 3 (.t 2) (.t 70), none⟩] [7, 62, 66, 67, 68, 69, 70])
                    (.region [⟨(some 23), .mv (.t 5), none⟩,
                      ⟨(some 24), .load (some 4) (.t 7), none⟩,
                      ⟨(some 25), .mv (.t 6), none⟩,
                      ⟨(some 26), .build [(.d (.int .i64 0)), (.d (.int .i64 0)), (.d (.str [])), (.full []), (.d (.int .i64 0))] [(0, 4, (.t 24)), (4, 1, (.t 25))], none⟩,
                      ⟨(some 27), .buildSlice 5 1 [(.int .i64 0), (.int .i64 0), (.str []), (.sl []), (.int .i64 0)] [(0, (.t 26))], none⟩,
                      ⟨(some 28), .append false 5 (.t 23) (.t 27), none⟩,
                      ⟨(some 5), .mv (.t 28), none⟩] [7, 23, 24, 25, 26, 27, 28, 62]))))))))))
        (.region [⟨(some 17), .mv (.t 6), none⟩,
          ⟨(some 18), .bin .add (.t 17) (.k (.c (.d (.int .i64 1)))), none⟩,
          ⟨(some 6), .mv (.t 18), none⟩] [17, 18]))))))
  (.seq (.seq (.region [⟨(some 8), .mv (.k (.c (.d (.int .i64 0)))), none⟩] [])
    (.block 3 (.loop (.seq (.seq (.region [⟨(some 71), .mv (.t 8), none⟩,
              ⟨(some 72), .mv (.t 5), none⟩,
              ⟨(some 73), .len 1 (.t 72), none⟩,
              ⟨(some 74), .bin .lss (.t 71) (.t 73), none⟩] [71, 72, 73])
          (.cond (.t 74)
            (.skip)
            (.exit 3)))
        (.seq (.block 4 (.seq (.region [⟨(some 77), .mv (.t 5), none⟩,
                ⟨(some 78), .mv (.t 8), none⟩,
                ⟨(some 79), .indexAddr 5 (.t 77) (.t 78), none⟩,
                ⟨(some 80), .load (some 5) (.t 79), none⟩,
                ⟨(some 9), .alloc [(.d (.int .i64 0)), (.d (.int .i64 0)), (.d (.str [])), (.full []), (.d (.int .i64 0))], none⟩,
                ⟨none, .store 5 (.t 9) (.t 80), none⟩] [74, 77, 78, 79, 80])
            (.seq (.region [⟨(some 81), .load (some 3) (.t 2), none⟩,
                ⟨(some 82), .fieldAddr 0 (.t 9), none⟩,
                ⟨(some 83), .fieldAddr 3 (.t 82), none⟩,
                ⟨(some 84), .load none (.t 83), none⟩,
                ⟨(some 85), .len 1 (.t 84), none⟩,
                ⟨(some 86), .fieldAddr 4 (.t 9), none⟩,
                ⟨(some 87), .load none (.t 86), none⟩,
                ⟨(some 88), .fieldAddr 0 (.t 9), none⟩,
                ⟨(some 89), .fieldAddr 2 (.t 88), none⟩,
                ⟨(some 90), .load none (.t 89), none⟩,
                ⟨(some 91), .build [(.d (.int .i64 0)), (.d (.int .i64 0)), (.d (.int .i64 0)), (.d (.str []))] [(0, 1, (.k (.c (.d (.int .i64 3))))), (1, 1, (.t 85)), (2, 1, (.t 87)), (3, 1, (.t 90))], none⟩,
                ⟨(some 92), .qcall 96 [(.t 81), (.t 91)], none⟩,
                ⟨none, .store 3 (.t 2) (.t 92), none⟩] [81, 82, 83, 84, 85, 86, 87, 88, 89, 90, 91, 92])
            (.seq (.region [⟨(some 94), .load (some 3) (.t 2), none⟩,
                ⟨(some 95), .fieldAddr 0 (.t 9), none⟩,
                ⟨(some 96), .fieldAddr 3 (.t 95), none⟩,
                ⟨(some 97), .load none (.t 96), none⟩,
                ⟨(some 98), .qcall 108 [(.t 94), (.t 97)], none⟩,
                ⟨(some 93), .mv (.t 98), none⟩,
                ⟨(some 99), .extract 0 (.t 93), none⟩,
                ⟨(some 100), .extract 1 (.t 93), none⟩,
                ⟨(some 10), .alloc [(.full []), (.d (.int .i64 0)), (.full [])], none⟩,
                ⟨none, .store 3 (.t 10) (.t 99), none⟩,
                ⟨(some 11), .mv (.t 100), none⟩] [9, 93, 94, 95, 96, 97, 98, 99, 100])
            (.seq (.region [⟨(some 101), .load (some 3) (.t 10), none⟩,
                ⟨none, .store 3 (.t 2) (.t 101), none⟩] [10, 101])
            (.region [⟨(some 102), .mv (.t 5), none⟩,
              ⟨(some 103), .mv (.t 11), none⟩,
              ⟨(some 104), .append false 5 (.t 102) (.t 103), none⟩,
              ⟨(some 5), .mv (.t 104), none⟩] [11, 102, 103, 104]))))))
        (.region [⟨(some 75), .mv (.t 8), none⟩,
          ⟨(some 76), .bin .add (.t 75) (.k (.c (.d (.int .i64 1)))), none⟩,
          ⟨(some 8), .mv (.t 76), none⟩] [75, 76]))))))
  (.seq (.region [⟨(some 105), .load (some 3) (.t 2), none⟩,
      ⟨none, .store 3 (.t 4) (.t 105), none⟩] [2, 105])
  (.ret)))))
theorem ac84_ok : cFunc Try.prog [1000096, 1000107, 1000108] [(0, [0], []), (1, [12], []), (2, [], []), (3, [13, 14, 15], []), (5, [16, 19, 20, 21, 22], []), (7, [30, 31, 32], []), (8, [7, 29, 33, 34, 35, 36, 37, 38], []), (9, [29, 40, 41, 42, 43, 44, 45, 46, 47, 48, 49, 50, 51], []), (10, [7, 39, 52, 53, 54, 55, 56, 57, 58, 59, 60, 61], [1, 3, 7, 0, 2, 4, 5, 6, 8, 9, 10]), (11, [39, 63, 64, 65], []), (12, [7, 62, 66, 67, 68, 69, 70], []), (6, [7, 23, 24, 25, 26, 27, 28, 62], []), (4, [17, 18], []), (13, [], []), (14, [71, 72, 73], []), (16, [74, 77, 78, 79, 80], []), (17, [81, 82, 83, 84, 85, 86, 87, 88, 89, 90, 91, 92], []), (18, [9, 93, 94, 95, 96, 97, 98, 99, 100], []), (19, [10, 101], []), (20, [11, 102, 103, 104], []), (15, [75, 76], []), (21, [2, 105], [])] Try.f84 = some (ac84, [.cell 4 (some 3)], 106) := by kernel_rfl
theorem qsize_app (a b : List (Tm × Nat)) : qsize (a ++ b) = qsize a + qsize b := by simp [qsize]
theorem good_kids {k n : Int} {s : List UInt8} {l : List Tm} (h : (Tm.mk k n s l).good) : l.length ≤ 4 ∧ ∀ t ∈ l, t.good := by
  cases h with
  | mk ho hk =>
    rcases own_cases ho with ⟨_, _, _, _, rfl⟩ | ⟨_, _, _, _, rfl⟩ | ⟨_, _, _, h4⟩
    · exact ⟨by simp, hk⟩
    · exact ⟨by simp, hk⟩
    · exact ⟨h4, hk⟩
theorem head_calls (l : List Tm) (hl : l.length ≤ 4) (hz : sizes l ≤ 1000) (hg : ∀ t ∈ l, t.good) (M : Mk) (B : Nat) (hB4 : 4 ≤ B) (hB : B ≤ 10000) (hM : M.fit B) (H : Heap) :
    ACalls Try.prog 84 [.agg [.d (.sl (slotsR M.sl)), .d (.int .i64 M.next), .d (.sl M.code)], .c (.d (.sl (l.map Tm.row)))] H
      (fun r H' => H' = H ∧ r = .agg [.d (.sl (slotsR (headT l M).sl)), .d (.int .i64 (headT l M).next), .d (.sl (headT l M).code)]) := by
  refine acalls Try.func84 (by kernel_rfl) ac84_ok fun hf => ?_
  have hli : inR .i64 (l.length : Int) := small_i64 (by omega) (by omega)
  simp -implicitDefEqProofs [ac84, hli, kw, ew, sw, tw, a_, b_, c_, -List.set_cons_succ, -List.set_cons_zero, A.ok, A.val, d_, e_, f_, g_, h_, i_, j_, k_, l_, m_, unA, unD, n_, AOp.total, o_, p_, q_, r_, s_, t_, u_, v_, A.thaw, C.thaw, A.fits, As.fits, C.fits, evs, oks, w_, A.pure, C.pure, A.re, C.re, x_, y_, cut, A.cells, C.rows?, z_, A_, B_, C_, D_, Ob.re, Cs.fits, E_, F_, G_, H_, I_, J_, K_, L_, M_, N_, O_, C.toD, P_, Q_, R_, S_, T_, Obs.fits, U_, eqD, V_, W_, X_, Y_, Z_]
  refine loop_enter (St.le_token 5 5 rfl) ?_
  obtain ⟨F, hF⟩ : ∃ F, F = headA l 0 M := ⟨_, rfl⟩
  have hFT : headT l M = headQ (qsize F.2) F.2 F.1 := by rw [hF]; rfl
  rw [hFT]
  have hFf := headA_fit l 0 M B hM (by omega)
  rw [← hF] at hFf
  refine loop_set (σ := Nat × Mk × List (Tm × Nat)) (fun x => [(6, .c (.d (.int .i64 x.1))), (5, .c (.own (.l 2) x.2.2.length (x.2.2.map partR)))]) (fun _ => H)
    (fun x => [.cells [.d (.sl (slotsR x.2.1.sl)), .d (.int .i64 x.2.1.next), .d (.sl x.2.1.code)], .cells [.full [], .d (.int .i64 0), .full []], .grow x.2.2.length 5])
    (fun x => x.1 ≤ l.length ∧ x.2.1.fit (B + x.1) ∧ F.1 = (headA (l.drop x.1) x.1 x.2.1).1 ∧ F.2 = x.2.2 ++ (headA (l.drop x.1) x.1 x.2.1).2 ∧ x.2.2.length ≤ x.1) (fun x => l.length - x.1) (0, M, []) (by simp [setAll]) ⟨Nat.zero_le _, hM.mono (by omega), by simp [hF], by simp [hF], by simp⟩ ?_
  rintro ⟨i, N, left⟩ ⟨hi, hN, h1, h2, h3⟩
  simp only at hi hN h1 h2 h3
  simp -implicitDefEqProofs [setAll, hli, kw, ew, sw, tw, a_, b_, c_, -List.set_cons_succ, -List.set_cons_zero, A.ok, A.val, d_, e_, f_, g_, h_, i_, j_, k_, l_, m_, unA, unD, n_, AOp.total, o_, p_, q_, r_, s_, t_, u_, v_, A.thaw, C.thaw, A.fits, As.fits, C.fits, evs, oks, w_, A.pure, C.pure, A.re, C.re, x_, y_, cut, A.cells, C.rows?, z_, A_, B_, C_, D_, Ob.re, Cs.fits, E_, F_, G_, H_, I_, J_, K_, L_, M_, N_, O_, C.toD, P_, Q_, R_, S_, T_, Obs.fits, U_, eqD, V_, W_, X_, Y_, Z_]
  refine ⟨fun hlt => ?_, fun hge => ?_⟩
  · have hadd : inR .i64 ((i : Int) + 1) := small_i64 (by omega) (by omega)
    have hnx := hN.next
    have hcd := hN.code
    have hal := hN.all
    have hgt := hg l[i] (List.getElem_mem hlt)
    have hd : l.drop i = l[i] :: l.drop (i + 1) := List.drop_eq_getElem_cons hlt
    rw [hd, headA] at h1 h2
    have hrow : (l.map Tm.row)[i]? = some l[i].row := by simp [hlt]
    have hvs := var_slot hgt
    obtain ⟨t, ht⟩ : ∃ t, t = l[i] := ⟨_, rfl⟩
    rw [← ht] at hgt h1 h2 hrow hvs
    clear ht
    obtain ⟨k, n, s, kids⟩ := t
    refine row_nat _ hrow rfl ?_
    cases hgt with
    | mk ho hk =>
      rcases own_cases ho with ⟨rfl, n0, n1, rfl, rfl⟩ | ⟨rfl, n0, n1, rfl, rfl⟩ | ⟨rfl, rfl, hs2, hl4⟩
      · obtain ⟨v, hv, hv26⟩ := hvs rfl
        simp only [Tm.n] at hv
        subst hv
        simp [Tm.k, Tm.n] at h1 h2
        have hget := slotsR_get N.sl hv26
        simp -implicitDefEqProofs [row_mk, hf, kw, ew, sw, tw, a_, b_, c_, -List.set_cons_succ, -List.set_cons_zero, A.ok, A.val, d_, e_, f_, g_, h_, i_, j_, k_, l_, m_, unA, unD, n_, AOp.total, o_, p_, q_, r_, s_, t_, u_, v_, A.thaw, C.thaw, A.fits, As.fits, C.fits, evs, oks, w_, A.pure, C.pure, A.re, C.re, x_, y_, cut, A.cells, C.rows?, z_, A_, B_, C_, D_, Ob.re, Cs.fits, E_, F_, G_, H_, I_, J_, K_, L_, M_, N_, O_, C.toD, P_, Q_, R_, S_, T_, Obs.fits, U_, eqD, V_, W_, X_, Y_, Z_]
        refine row_nat _ hget rfl ?_
        cases hsv : slotO N.sl v with
        | some u =>
          simp only [hsv] at h1 h2
          have hu0 : ¬ (u : Int) < 0 := by omega
          simp -implicitDefEqProofs [hu0, hf, kw, ew, sw, tw, a_, b_, c_, -List.set_cons_succ, -List.set_cons_zero, A.ok, A.val, d_, e_, f_, g_, h_, i_, j_, k_, l_, m_, unA, unD, n_, AOp.total, o_, p_, q_, r_, s_, t_, u_, v_, A.thaw, C.thaw, A.fits, As.fits, C.fits, evs, oks, w_, A.pure, C.pure, A.re, C.re, x_, y_, cut, A.cells, C.rows?, z_, A_, B_, C_, D_, Ob.re, Cs.fits, E_, F_, G_, H_, I_, J_, K_, L_, M_, N_, O_, C.toD, P_, Q_, R_, S_, T_, Obs.fits, U_, eqD, V_, W_, X_, Y_, Z_]
          refine row_nat _ hget rfl ?_
          simp -implicitDefEqProofs [hsv, hf, kw, ew, sw, tw, a_, b_, c_, -List.set_cons_succ, -List.set_cons_zero, A.ok, A.val, d_, e_, f_, g_, h_, i_, j_, k_, l_, m_, unA, unD, n_, AOp.total, o_, p_, q_, r_, s_, t_, u_, v_, A.thaw, C.thaw, A.fits, As.fits, C.fits, evs, oks, w_, A.pure, C.pure, A.re, C.re, x_, y_, cut, A.cells, C.rows?, z_, A_, B_, C_, D_, Ob.re, Cs.fits, E_, F_, G_, H_, I_, J_, K_, L_, M_, N_, O_, C.toD, P_, Q_, R_, S_, T_, Obs.fits, U_, eqD, V_, W_, X_, Y_, Z_]
          refine qcall_pure (emit_calls _ _ _ _ _ _ _ (by omega) hal) hf rfl ?_
          simp -implicitDefEqProofs [hadd, hf, kw, ew, sw, tw, a_, b_, c_, -List.set_cons_succ, -List.set_cons_zero, A.ok, A.val, d_, e_, f_, g_, h_, i_, j_, k_, l_, m_, unA, unD, n_, AOp.total, o_, p_, q_, r_, s_, t_, u_, v_, A.thaw, C.thaw, A.fits, As.fits, C.fits, evs, oks, w_, A.pure, C.pure, A.re, C.re, x_, y_, cut, A.cells, C.rows?, z_, A_, B_, C_, D_, Ob.re, Cs.fits, E_, F_, G_, H_, I_, J_, K_, L_, M_, N_, O_, C.toD, P_, Q_, R_, S_, T_, Obs.fits, U_, eqD, V_, W_, X_, Y_, Z_]
          refine loop_less (i + 1, N.emit 1 u i [], left) (St.le_cut [_] ?_ (by simp [Sl.le, A.le_refl_iff, A.le_u_iff, As.lo, A.lo, C.lo, Ref.lo, Cs.lo, Obs.lo, Ob.lo, setAll, and_true, true_and, List.length_nil, List.length_cons]) rfl (by simp [Sl.le, A.le_refl_iff, A.le_u_iff, As.lo, A.lo, C.lo, Ref.lo, Cs.lo, Obs.lo, Ob.lo, setAll, and_true, true_and, List.length_nil, List.length_cons])) ⟨hlt, (hN.emit ..).mono (by omega), h1, h2, by simp only; omega⟩ (by show l.length - (i + 1) < l.length - i; omega)
          simp [setAll, Sl.le, A.le_refl_iff, A.le_u_iff, As.lo, A.lo, C.lo, Ref.lo, Cs.lo, Obs.lo, Ob.lo, setAll, and_true, true_and, List.length_nil, List.length_cons]
        | none =>
          simp only [hsv] at h1 h2
          simp -implicitDefEqProofs [hf, kw, ew, sw, tw, a_, b_, c_, -List.set_cons_succ, -List.set_cons_zero, A.ok, A.val, d_, e_, f_, g_, h_, i_, j_, k_, l_, m_, unA, unD, n_, AOp.total, o_, p_, q_, r_, s_, t_, u_, v_, A.thaw, C.thaw, A.fits, As.fits, C.fits, evs, oks, w_, A.pure, C.pure, A.re, C.re, x_, y_, cut, A.cells, C.rows?, z_, A_, B_, C_, D_, Ob.re, Cs.fits, E_, F_, G_, H_, I_, J_, K_, L_, M_, N_, O_, C.toD, P_, Q_, R_, S_, T_, Obs.fits, U_, eqD, V_, W_, X_, Y_, Z_]
          refine qcall_pure (slot_calls N.sl N.code _ v i hv26 hsv (by omega)) hf rfl ?_
          simp -implicitDefEqProofs [hadd, hf, kw, ew, sw, tw, a_, b_, c_, -List.set_cons_succ, -List.set_cons_zero, A.ok, A.val, d_, e_, f_, g_, h_, i_, j_, k_, l_, m_, unA, unD, n_, AOp.total, o_, p_, q_, r_, s_, t_, u_, v_, A.thaw, C.thaw, A.fits, As.fits, C.fits, evs, oks, w_, A.pure, C.pure, A.re, C.re, x_, y_, cut, A.cells, C.rows?, z_, A_, B_, C_, D_, Ob.re, Cs.fits, E_, F_, G_, H_, I_, J_, K_, L_, M_, N_, O_, C.toD, P_, Q_, R_, S_, T_, Obs.fits, U_, eqD, V_, W_, X_, Y_, Z_]
          refine loop_less (i + 1, N.give v i, left) (St.le_cut [_] ?_ (by simp [Sl.le, A.le_refl_iff, A.le_u_iff, As.lo, A.lo, C.lo, Ref.lo, Cs.lo, Obs.lo, Ob.lo, setAll, and_true, true_and, List.length_nil, List.length_cons]) rfl (by simp [Sl.le, A.le_refl_iff, A.le_u_iff, As.lo, A.lo, C.lo, Ref.lo, Cs.lo, Obs.lo, Ob.lo, setAll, and_true, true_and, List.length_nil, List.length_cons])) ⟨hlt, (hN.give _ _ (by omega)).mono (by omega), h1, h2, by simp only; omega⟩ (by show l.length - (i + 1) < l.length - i; omega)
          simp [setAll, Sl.le, A.le_refl_iff, A.le_u_iff, As.lo, A.lo, C.lo, Ref.lo, Cs.lo, Obs.lo, Ob.lo, setAll, and_true, true_and, List.length_nil, List.length_cons]
      · simp [Tm.k, Tm.n] at h1 h2
        simp -implicitDefEqProofs [row_mk, hf, kw, ew, sw, tw, a_, b_, c_, -List.set_cons_succ, -List.set_cons_zero, A.ok, A.val, d_, e_, f_, g_, h_, i_, j_, k_, l_, m_, unA, unD, n_, AOp.total, o_, p_, q_, r_, s_, t_, u_, v_, A.thaw, C.thaw, A.fits, As.fits, C.fits, evs, oks, w_, A.pure, C.pure, A.re, C.re, x_, y_, cut, A.cells, C.rows?, z_, A_, B_, C_, D_, Ob.re, Cs.fits, E_, F_, G_, H_, I_, J_, K_, L_, M_, N_, O_, C.toD, P_, Q_, R_, S_, T_, Obs.fits, U_, eqD, V_, W_, X_, Y_, Z_]
        refine qcall_pure (emit_calls _ _ _ _ _ _ _ (by omega) hal) hf rfl ?_
        simp -implicitDefEqProofs [hadd, hf, kw, ew, sw, tw, a_, b_, c_, -List.set_cons_succ, -List.set_cons_zero, A.ok, A.val, d_, e_, f_, g_, h_, i_, j_, k_, l_, m_, unA, unD, n_, AOp.total, o_, p_, q_, r_, s_, t_, u_, v_, A.thaw, C.thaw, A.fits, As.fits, C.fits, evs, oks, w_, A.pure, C.pure, A.re, C.re, x_, y_, cut, A.cells, C.rows?, z_, A_, B_, C_, D_, Ob.re, Cs.fits, E_, F_, G_, H_, I_, J_, K_, L_, M_, N_, O_, C.toD, P_, Q_, R_, S_, T_, Obs.fits, U_, eqD, V_, W_, X_, Y_, Z_]
        refine loop_less (i + 1, N.emit 2 n i [], left) (St.le_cut [_] ?_ (by simp [Sl.le, A.le_refl_iff, A.le_u_iff, As.lo, A.lo, C.lo, Ref.lo, Cs.lo, Obs.lo, Ob.lo, setAll, and_true, true_and, List.length_nil, List.length_cons]) rfl (by simp [Sl.le, A.le_refl_iff, A.le_u_iff, As.lo, A.lo, C.lo, Ref.lo, Cs.lo, Obs.lo, Ob.lo, setAll, and_true, true_and, List.length_nil, List.length_cons])) ⟨hlt, (hN.emit ..).mono (by omega), h1, h2, by simp only; omega⟩ (by show l.length - (i + 1) < l.length - i; omega)
        simp [setAll, Sl.le, A.le_refl_iff, A.le_u_iff, As.lo, A.lo, C.lo, Ref.lo, Cs.lo, Obs.lo, Ob.lo, setAll, and_true, true_and, List.length_nil, List.length_cons]
      · simp [Tm.k] at h1 h2
        simp -implicitDefEqProofs [row_mk, hf, kw, ew, sw, tw, a_, b_, c_, -List.set_cons_succ, -List.set_cons_zero, A.ok, A.val, d_, e_, f_, g_, h_, i_, j_, k_, l_, m_, unA, unD, n_, AOp.total, o_, p_, q_, r_, s_, t_, u_, v_, A.thaw, C.thaw, A.fits, As.fits, C.fits, evs, oks, w_, A.pure, C.pure, A.re, C.re, x_, y_, cut, A.cells, C.rows?, z_, A_, B_, C_, D_, Ob.re, Cs.fits, E_, F_, G_, H_, I_, J_, K_, L_, M_, N_, O_, C.toD, P_, Q_, R_, S_, T_, Obs.fits, U_, eqD, V_, W_, X_, Y_, Z_]
        refine row_off [.int .i64 0] ?_
        simp -implicitDefEqProofs [hadd, hf, kw, ew, sw, tw, a_, b_, c_, -List.set_cons_succ, -List.set_cons_zero, A.ok, A.val, d_, e_, f_, g_, h_, i_, j_, k_, l_, m_, unA, unD, n_, AOp.total, o_, p_, q_, r_, s_, t_, u_, v_, A.thaw, C.thaw, A.fits, As.fits, C.fits, evs, oks, w_, A.pure, C.pure, A.re, C.re, x_, y_, cut, A.cells, C.rows?, z_, A_, B_, C_, D_, Ob.re, Cs.fits, E_, F_, G_, H_, I_, J_, K_, L_, M_, N_, O_, C.toD, P_, Q_, R_, S_, T_, Obs.fits, U_, eqD, V_, W_, X_, Y_, Z_]
        refine ⟨allLen_map partR_len, by unfold maxApp; omega, ?_⟩
        refine loop_less (i + 1, N, left ++ [(.mk 3 0 s kids, i)]) (St.le_cut [_] ?_ (by simp [Sl.le, A.le_refl_iff, A.le_u_iff, As.lo, A.lo, C.lo, Ref.lo, Cs.lo, Obs.lo, Ob.lo, setAll, and_true, true_and, List.length_nil, List.length_cons]) (by simp; rfl) (by simp [Sl.le, A.le_refl_iff, A.le_u_iff, As.lo, A.lo, C.lo, Ref.lo, Cs.lo, Obs.lo, Ob.lo, setAll, and_true, true_and, List.length_nil, List.length_cons])) ⟨hlt, hN.mono (by omega), h1, by simp [h2], by simp; omega⟩ (by show l.length - (i + 1) < l.length - i; omega)
        simp [setAll, partR, row_mk, Sl.le, A.le_refl_iff, A.le_u_iff, As.lo, A.lo, C.lo, Ref.lo, Cs.lo, Obs.lo, Ob.lo, setAll, and_true, true_and, List.length_nil, List.length_cons]
  · obtain rfl : i = l.length := by omega
    simp [headA] at h1 h2
    rw [h1, h2]
    rw [h1, h2] at hFf
    obtain ⟨_, g2, g3, g4⟩ := hFf
    obtain ⟨G, hG⟩ : ∃ G, G = headQ (qsize left) left N := ⟨_, rfl⟩
    rw [← hG]
    refine loop_set (σ := Nat × Nat × Mk × List (Tm × Nat)) (fun x => [(8, .c (.d (.int .i64 x.1))), (5, .c (.own (.l 2) x.2.2.2.length (x.2.2.2.map partR)))]) (fun _ => H)
      (fun x => [.cells [.d (.sl (slotsR x.2.2.1.sl)), .d (.int .i64 x.2.2.1.next), .d (.sl x.2.2.1.code)], .cells [.full [], .d (.int .i64 0), .full []], .grow x.2.2.2.length 5])
      (fun x => x.1 ≤ x.2.2.2.length ∧ headQ x.2.1 (x.2.2.2.drop x.1) x.2.2.1 = G ∧ qsize (x.2.2.2.drop x.1) ≤ x.2.1 ∧ (∃ C, x.2.2.1.fit C ∧ C + 6 * qsize (x.2.2.2.drop x.1) ≤ 20000 + 4 * (x.2.2.2.drop x.1).length) ∧ x.1 + qsize (x.2.2.2.drop x.1) ≤ 1000 ∧ ∀ p ∈ x.2.2.2.drop x.1, p.1.good) (fun x => qsize (x.2.2.2.drop x.1)) (0, qsize left, N, left) (by simp [setAll]) ⟨Nat.zero_le _, by simp [hG], by simp, ⟨_, hN, by simp; omega⟩, by simp; omega, by simpa using fun p hp => hg _ (g2 p hp).1⟩ ?_
    rintro ⟨j, f, P, work⟩ ⟨hj, e1, e2, ⟨cc, hP, e3⟩, e4, e5⟩
    simp only at hj e1 e2 hP e3 e4 e5
    have hwl : work.length ≤ 1000 := by
      have := qsize_pos (work.drop j)
      simp at this
      omega
    have hwi : inR .i64 (work.length : Int) := small_i64 (by omega) (by omega)
    simp -implicitDefEqProofs [setAll, hwi, kw, ew, sw, tw, a_, b_, c_, -List.set_cons_succ, -List.set_cons_zero, A.ok, A.val, d_, e_, f_, g_, h_, i_, j_, k_, l_, m_, unA, unD, n_, AOp.total, o_, p_, q_, r_, s_, t_, u_, v_, A.thaw, C.thaw, A.fits, As.fits, C.fits, evs, oks, w_, A.pure, C.pure, A.re, C.re, x_, y_, cut, A.cells, C.rows?, z_, A_, B_, C_, D_, Ob.re, Cs.fits, E_, F_, G_, H_, I_, J_, K_, L_, M_, N_, O_, C.toD, P_, Q_, R_, S_, T_, Obs.fits, U_, eqD, V_, W_, X_, Y_, Z_]
    refine ⟨fun hlt => ?_, fun hge => ?_⟩
    · have hadd : inR .i64 ((j : Int) + 1) := small_i64 (by omega) (by omega)
      have hd : work.drop j = work[j] :: work.drop (j + 1) := List.drop_eq_getElem_cons hlt
      have hrow : (work.map partR)[j]? = some (partR work[j]) := by simp [hlt]
      obtain ⟨p, hp⟩ : ∃ p, p = work[j] := ⟨_, rfl⟩
      rw [← hp] at hd hrow
      rw [hd] at e1 e2 e3 e4 e5
      have hpg := e5 p (by simp)
      have hdl : (work.drop (j + 1)).length ≤ work.length := by simp
      obtain ⟨⟨k, n, s, kids⟩, at'⟩ := p
      have hkg := good_kids hpg
      have hz1 := args_size kids (P.emit 3 kids.length at' s)
      have hsz : (Tm.mk k n s kids).size = 1 + sizes kids := by rw [Tm.size]
      simp only [qsize, List.map_cons, List.sum_cons, List.length_cons, hsz] at e2 e3 e4
      rw [← qsize] at e2 e3 e4
      cases f with
      | zero => omega
      | succ f =>
        rw [headQ] at e1
        simp only [Tm.kids, Tm.s] at e1
        have hcd := hP.code
        have hal := hP.all
        have hci : inR .i64 (kids.length : Int) := small_i64 (by omega) (by omega)
        have hP2 := hP.emit 3 kids.length at' s
        have cag := args_calls kids (by omega) hkg.2 (P.emit 3 kids.length at' s) _ (by omega) hP2
        have hfa := args_fit kids _ _ hP2
        obtain ⟨R, hR⟩ : ∃ R, R = argsT kids (P.emit 3 kids.length at' s) := ⟨_, rfl⟩
        rw [← hR] at cag hz1 e1 hfa
        refine row_nat _ hrow (partR_len _) ?_
        simp -implicitDefEqProofs [partR, row_mk, hf, hci, kw, ew, sw, tw, a_, b_, c_, -List.set_cons_succ, -List.set_cons_zero, A.ok, A.val, d_, e_, f_, g_, h_, i_, j_, k_, l_, m_, unA, unD, n_, AOp.total, o_, p_, q_, r_, s_, t_, u_, v_, A.thaw, C.thaw, A.fits, As.fits, C.fits, evs, oks, w_, A.pure, C.pure, A.re, C.re, x_, y_, cut, A.cells, C.rows?, z_, A_, B_, C_, D_, Ob.re, Cs.fits, E_, F_, G_, H_, I_, J_, K_, L_, M_, N_, O_, C.toD, P_, Q_, R_, S_, T_, Obs.fits, U_, eqD, V_, W_, X_, Y_, Z_]
        refine qcall_pure (emit_calls _ _ _ _ _ _ _ (by omega) hal) hf rfl ?_
        simp -implicitDefEqProofs [hf, kw, ew, sw, tw, a_, b_, c_, -List.set_cons_succ, -List.set_cons_zero, A.ok, A.val, d_, e_, f_, g_, h_, i_, j_, k_, l_, m_, unA, unD, n_, AOp.total, o_, p_, q_, r_, s_, t_, u_, v_, A.thaw, C.thaw, A.fits, As.fits, C.fits, evs, oks, w_, A.pure, C.pure, A.re, C.re, x_, y_, cut, A.cells, C.rows?, z_, A_, B_, C_, D_, Ob.re, Cs.fits, E_, F_, G_, H_, I_, J_, K_, L_, M_, N_, O_, C.toD, P_, Q_, R_, S_, T_, Obs.fits, U_, eqD, V_, W_, X_, Y_, Z_]
        refine qcall_pure cag hf rfl ?_
        simp -implicitDefEqProofs [hf, hadd, kw, ew, sw, tw, a_, b_, c_, -List.set_cons_succ, -List.set_cons_zero, A.ok, A.val, d_, e_, f_, g_, h_, i_, j_, k_, l_, m_, unA, unD, n_, AOp.total, o_, p_, q_, r_, s_, t_, u_, v_, A.thaw, C.thaw, A.fits, As.fits, C.fits, evs, oks, w_, A.pure, C.pure, A.re, C.re, x_, y_, cut, A.cells, C.rows?, z_, A_, B_, C_, D_, Ob.re, Cs.fits, E_, F_, G_, H_, I_, J_, K_, L_, M_, N_, O_, C.toD, P_, Q_, R_, S_, T_, Obs.fits, U_, eqD, V_, W_, X_, Y_, Z_]
        have hrl := qsize_pos R.2
        refine ⟨allLen_map partR_len, allLen_map partR_len, by unfold maxApp; omega, ?_⟩
        have hda : (work ++ R.2).drop (j + 1) = work.drop (j + 1) ++ R.2 := List.drop_append_of_le_length (by omega)
        refine loop_less (j + 1, f, R.1, work ++ R.2) (St.le_cut [_, _] ?_ (by simp [Sl.le, A.le_refl_iff, A.le_u_iff, As.lo, A.lo, C.lo, Ref.lo, Cs.lo, Obs.lo, Ob.lo, setAll, and_true, true_and, List.length_nil, List.length_cons]) (by simp; exact ⟨rfl, rfl⟩) (by simp [Sl.le, A.le_refl_iff, A.le_u_iff, As.lo, A.lo, C.lo, Ref.lo, Cs.lo, Obs.lo, Ob.lo, setAll, and_true, true_and, List.length_nil, List.length_cons])) ⟨by simp only [List.length_append]; omega, ?_, ?_, ⟨_, hfa.1, ?_⟩, ?_, ?_⟩ ?_
        · simp [setAll, Sl.le, A.le_refl_iff, A.le_u_iff, As.lo, A.lo, C.lo, Ref.lo, Cs.lo, Obs.lo, Ob.lo, setAll, and_true, true_and, List.length_nil, List.length_cons]
        · show headQ f ((work ++ R.2).drop (j + 1)) R.1 = G
          rw [hda]; exact e1
        · show qsize ((work ++ R.2).drop (j + 1)) ≤ f
          rw [hda, qsize_app]; omega
        · show cc + 1 + 2 * kids.length + 6 * qsize ((work ++ R.2).drop (j + 1)) ≤ 20000 + 4 * ((work ++ R.2).length - (j + 1))
          rw [hda, qsize_app, List.length_append]
          have := List.length_drop (i := j + 1) (l := work)
          omega
        · show j + 1 + qsize ((work ++ R.2).drop (j + 1)) ≤ 1000
          rw [hda, qsize_app]; omega
        · show ∀ a b, (a, b) ∈ (work ++ R.2).drop (j + 1) → a.good
          rw [hda]
          intro a b hp
          rcases List.mem_append.1 hp with hp | hp
          · exact e5 (a, b) (by simp [hp])
          · exact hkg.2 _ (hfa.2 (a, b) hp).1
        · show qsize ((work ++ R.2).drop (j + 1)) < qsize (work.drop j)
          rw [hda, qsize_app, hd]
          simp only [qsize, List.map_cons, List.sum_cons, hsz]
          simp only [← qsize.eq_def]
          omega
    · have hjw : j = work.length := by omega
      subst hjw
      simp [headQ] at e1
      subst e1
      simp -implicitDefEqProofs [hf, kw, ew, sw, tw, a_, b_, c_, -List.set_cons_succ, -List.set_cons_zero, A.ok, A.val, d_, e_, f_, g_, h_, i_, j_, k_, l_, m_, unA, unD, n_, AOp.total, o_, p_, q_, r_, s_, t_, u_, v_, A.thaw, C.thaw, A.fits, As.fits, C.fits, evs, oks, w_, A.pure, C.pure, A.re, C.re, x_, y_, cut, A.cells, C.rows?, z_, A_, B_, C_, D_, Ob.re, Cs.fits, E_, F_, G_, H_, I_, J_, K_, L_, M_, N_, O_, C.toD, P_, Q_, R_, S_, T_, Obs.fits, U_, eqD, V_, W_, X_, Y_, Z_]
end Go.Proofs.Ytaegeehpajlebaa
