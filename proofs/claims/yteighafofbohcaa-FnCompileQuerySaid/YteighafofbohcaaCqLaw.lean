/-
  The law FnCompileQuery holds: the code of a query has a goal's operation for each goal, and ends.
  Conditions: none.
-/
import Derived.Test.YteighafofbohcaaBundC
import Derived.Test.YteighafofbohcaaBundD
open Go Go.AM Go.Proofs
namespace Go.Proofs.Yteighafofbohcaa
open Go.ChangeShapes Go.WideShapes Go.ChangeAt Go.RowKit
set_option linter.unusedVariables false
set_option linter.unusedSimpArgs false
set_option maxRecDepth 100000
-- 7 loop.example/prologserver/laws.pgCode params 2 ntmps 26
-- loop head live: [0, 1, 5]
def ac7 : Cd := .seq (.region [⟨(some 4), .mv (.k (.c (.d (.bool false)))), none⟩] [4])
  (.seq (.seq (.region [⟨(some 6), .mv (.t 0), none⟩,
        ⟨(some 7), .len 1 (.t 6), none⟩,
        ⟨(some 8), .mv (.t 1), none⟩,
        ⟨(some 9), .len 1 (.t 8), none⟩,
        ⟨(some 10), .bin .neq (.t 7) (.t 9), none⟩] [6, 7, 8, 9])
    (.cond (.t 10)
      (.seq (.region [⟨(some 4), .mv (.k (.c (.d (.bool false)))), none⟩] [0, 1, 10])
      (.ret))
      (.skip)))
  (.seq (.seq (.region [⟨(some 5), .mv (.k (.c (.d (.int .i64 0)))), none⟩] [4, 10])
    (.block 0 (.loop (.seq (.seq (.region [⟨(some 11), .mv (.t 5), none⟩,
              ⟨(some 12), .mv (.t 0), none⟩,
              ⟨(some 13), .len 1 (.t 12), none⟩,
              ⟨(some 14), .bin .lss (.t 11) (.t 13), none⟩] [11, 12, 13])
          (.cond (.t 14)
            (.skip)
            (.exit 0)))
        (.seq (.block 1 (.seq (.region [⟨(some 17), .mv (.t 0), none⟩,
                ⟨(some 18), .mv (.t 5), none⟩,
                ⟨(some 19), .indexAddr 4 (.t 17) (.t 18), none⟩,
                ⟨(some 21), .mv (.t 1), none⟩,
                ⟨(some 22), .mv (.t 5), none⟩,
                ⟨(some 23), .indexAddr 4 (.t 21) (.t 22), none⟩,
                ⟨(some 20), .load (some 4) (.t 19), none⟩,
                ⟨(some 24), .load (some 4) (.t 23), none⟩,
                ⟨(some 25), .eqAgg true [.int, .int, .int, .str] (.t 20) (.t 24), none⟩] [14, 17, 18, 19, 20, 21, 22, 23, 24])
            (.cond (.t 25)
              (.seq (.region [⟨(some 4), .mv (.k (.c (.d (.bool false)))), none⟩] [0, 1, 5, 25])
              (.ret))
              (.skip))))
        (.region [⟨(some 15), .mv (.t 5), none⟩,
          ⟨(some 16), .bin .add (.t 15) (.k (.c (.d (.int .i64 1)))), none⟩,
          ⟨(some 5), .mv (.t 16), none⟩] [4, 15, 16, 25]))))))
  (.seq (.region [⟨(some 4), .mv (.k (.c (.d (.bool true)))), none⟩] [])
  (.ret))))
theorem ac7_ok : cFunc Try.prog [] [(0, [4], []), (1, [6, 7, 8, 9], []), (2, [0, 1, 10], []), (3, [4, 10], []), (4, [11, 12, 13], []), (6, [14, 17, 18, 19, 20, 21, 22, 23, 24], [0, 1, 2, 4, 5, 6, 3, 7, 8]), (7, [0, 1, 5, 25], []), (5, [4, 15, 16, 25], []), (8, [], [])] Try.f7 = some (ac7, [.tmp 4], 26) := by kernel_rfl
-- 3 loop.example/prologserver/laws.FnCompileQuery params 1 ntmps 90
-- loop head live: [3, 4, 8, 9]
def ac3 : Cd := .seq (.region [⟨(some 2), .mv (.k (.c (.d (.bool false)))), none⟩] [2])
  (.seq (.seq (.region [⟨(some 10), .mv (.t 0), none⟩,
        ⟨(some 11), .len 1 (.t 10), none⟩,
        ⟨(some 12), .bin .gtr (.t 11) (.k (.c (.d (.int .i64 1048576)))), none⟩] [10, 11])
    (.cond (.t 12)
      (.seq (.region [⟨(some 2), .mv (.k (.c (.d (.bool true)))), none⟩] [0, 12])
      (.ret))
      (.skip)))
  (.seq (.region [⟨(some 13), .mv (.t 0), none⟩,
      ⟨(some 14), .call false 4 [(.t 13)], none⟩,
      ⟨(some 3), .mv (.t 14), none⟩] [0, 2, 12, 13, 14])
  (.seq (.region [⟨(some 16), .mv (.t 3), none⟩,
      ⟨(some 17), .qcall 5 [(.t 16)], none⟩,
      ⟨(some 15), .mv (.t 17), none⟩,
      ⟨(some 18), .extract 0 (.t 15), none⟩,
      ⟨(some 19), .extract 1 (.t 15), none⟩,
      ⟨(some 4), .mv (.t 18), none⟩,
      ⟨(some 5), .mv (.t 19), none⟩] [15, 16, 17, 18, 19])
  (.seq (.region [⟨(some 21), .mv (.t 3), none⟩,
      ⟨(some 22), .qcall 6 [(.t 21)], none⟩,
      ⟨(some 20), .mv (.t 22), none⟩,
      ⟨(some 23), .extract 0 (.t 20), none⟩,
      ⟨(some 24), .extract 1 (.t 20), none⟩,
      ⟨(some 6), .mv (.t 23), none⟩,
      ⟨(some 7), .mv (.t 24), none⟩] [20, 21, 22, 23, 24])
  (.seq (.seq (.region [⟨(some 25), .mv (.t 5), none⟩,
        ⟨(some 26), .mv (.t 7), none⟩,
        ⟨(some 27), .binB true (.t 25) (.t 26), none⟩,
        ⟨(some 28), .mv (.t 27), none⟩,
        ⟨(some 29), .mv (.t 4), some (28, false)⟩,
        ⟨(some 30), .mv (.t 6), some (28, false)⟩,
        ⟨(some 31), .qcall 7 [(.t 29), (.t 30)], some (28, false)⟩,
        ⟨(some 32), .un .not (.t 31), some (28, false)⟩,
        ⟨(some 33), .pick (.t 28) (.k (.c (.d (.bool true)))) (.t 32), none⟩,
        ⟨(some 34), .mv (.t 33), none⟩,
        ⟨(some 35), .mv (.t 5), some (34, false)⟩,
        ⟨(some 36), .un .not (.t 35), some (34, false)⟩,
        ⟨(some 37), .pick (.t 34) (.k (.c (.d (.bool true)))) (.t 36), none⟩] [25, 26, 27, 28, 29, 30, 31, 32, 33, 34, 35, 36])
    (.cond (.t 37)
      (.seq (.region [⟨(some 38), .mv (.t 5), none⟩,
          ⟨(some 39), .mv (.t 7), none⟩,
          ⟨(some 40), .binB false (.t 38) (.t 39), none⟩,
          ⟨(some 41), .mv (.t 40), none⟩,
          ⟨(some 42), .mv (.t 4), some (41, true)⟩,
          ⟨(some 43), .mv (.t 6), some (41, true)⟩,
          ⟨(some 44), .qcall 7 [(.t 42), (.t 43)], some (41, true)⟩,
          ⟨(some 45), .pick (.t 41) (.t 44) (.k (.c (.d (.bool false)))), none⟩,
          ⟨(some 2), .mv (.t 45), none⟩] [3, 4, 5, 6, 7, 37, 38, 39, 40, 41, 42, 43, 44, 45])
      (.ret))
      (.skip)))
  (.seq (.region [⟨(some 8), .mv (.k (.c (.d (.int .i64 0)))), none⟩] [2, 5, 6, 7, 37])
  (.seq (.seq (.region [⟨(some 9), .mv (.k (.c (.d (.int .i64 0)))), none⟩] [])
    (.block 0 (.loop (.seq (.seq (.region [⟨(some 46), .mv (.t 9), none⟩,
              ⟨(some 47), .mv (.t 4), none⟩,
              ⟨(some 48), .len 1 (.t 47), none⟩,
              ⟨(some 49), .bin .lss (.t 46) (.t 48), none⟩] [46, 47, 48])
          (.cond (.t 49)
            (.skip)
            (.exit 0)))
        (.seq (.block 1 (.seq (.region [⟨(some 52), .mv (.t 4), none⟩,
                ⟨(some 53), .mv (.t 9), none⟩,
                ⟨(some 54), .indexAddr 4 (.t 52) (.t 53), none⟩,
                ⟨(some 55), .fieldAddr 0 (.t 54), none⟩,
                ⟨(some 56), .load none (.t 55), none⟩,
                ⟨(some 57), .bin .eql (.t 56) (.k (.c (.d (.int .i64 11)))), none⟩,
                ⟨(some 58), .mv (.t 57), none⟩,
                ⟨(some 59), .mv (.t 4), some (58, false)⟩,
                ⟨(some 60), .mv (.t 9), some (58, false)⟩,
                ⟨(some 61), .indexAddr 4 (.t 59) (.t 60), some (58, false)⟩,
                ⟨(some 62), .fieldAddr 0 (.t 61), some (58, false)⟩,
                ⟨(some 63), .load none (.t 62), some (58, false)⟩,
                ⟨(some 64), .bin .eql (.t 63) (.k (.c (.d (.int .i64 12)))), some (58, false)⟩,
                ⟨(some 65), .pick (.t 58) (.k (.c (.d (.bool true)))) (.t 64), none⟩,
                ⟨(some 66), .mv (.t 65), none⟩,
                ⟨(some 67), .mv (.t 4), some (66, false)⟩,
                ⟨(some 68), .mv (.t 9), some (66, false)⟩,
                ⟨(some 69), .indexAddr 4 (.t 67) (.t 68), some (66, false)⟩,
                ⟨(some 70), .fieldAddr 0 (.t 69), some (66, false)⟩,
                ⟨(some 71), .load none (.t 70), some (66, false)⟩,
                ⟨(some 72), .bin .eql (.t 71) (.k (.c (.d (.int .i64 13)))), some (66, false)⟩,
                ⟨(some 73), .pick (.t 66) (.k (.c (.d (.bool true)))) (.t 72), none⟩] [49, 52, 53, 54, 55, 56, 57, 58, 59, 60, 61, 62, 63, 64, 65, 66, 67, 68, 69, 70, 71, 72])
            (.cond (.t 73)
              (.region [⟨(some 74), .mv (.t 8), none⟩,
                ⟨(some 75), .bin .add (.t 74) (.k (.c (.d (.int .i64 1)))), none⟩,
                ⟨(some 8), .mv (.t 75), none⟩] [73, 74, 75])
              (.skip))))
        (.region [⟨(some 50), .mv (.t 9), none⟩,
          ⟨(some 51), .bin .add (.t 50) (.k (.c (.d (.int .i64 1)))), none⟩,
          ⟨(some 9), .mv (.t 51), none⟩] [50, 51, 73]))))))
  (.seq (.region [⟨(some 76), .mv (.t 8), none⟩,
      ⟨(some 77), .mv (.t 3), none⟩,
      ⟨(some 78), .len 1 (.t 77), none⟩,
      ⟨(some 79), .bin .eql (.t 76) (.t 78), none⟩,
      ⟨(some 80), .mv (.t 79), none⟩,
      ⟨(some 81), .mv (.t 4), some (80, true)⟩,
      ⟨(some 82), .mv (.t 4), some (80, true)⟩,
      ⟨(some 83), .len 1 (.t 82), some (80, true)⟩,
      ⟨(some 84), .bin .sub (.t 83) (.k (.c (.d (.int .i64 1)))), some (80, true)⟩,
      ⟨(some 85), .indexAddr 4 (.t 81) (.t 84), some (80, true)⟩,
      ⟨(some 86), .fieldAddr 0 (.t 85), some (80, true)⟩,
      ⟨(some 87), .load none (.t 86), some (80, true)⟩,
      ⟨(some 88), .bin .eql (.t 87) (.k (.c (.d (.int .i64 14)))), some (80, true)⟩,
      ⟨(some 89), .pick (.t 80) (.t 88) (.k (.c (.d (.bool false)))), none⟩,
      ⟨(some 2), .mv (.t 89), none⟩] [3, 4, 8, 76, 77, 78, 79, 80, 81, 82, 83, 84, 85, 86, 87, 88, 89])
  (.ret)))))))))
theorem ac3_ok : cFunc Try.prog [1000005, 1000006, 1000007] [(0, [2], []), (1, [10, 11], []), (2, [0, 12], []), (3, [0, 2, 12, 13, 14], []), (4, [15, 16, 17, 18, 19], []), (5, [20, 21, 22, 23, 24], []), (6, [25, 26, 27, 28, 29, 30, 31, 32, 33, 34, 35, 36], []), (7, [3, 4, 5, 6, 7, 37, 38, 39, 40, 41, 42, 43, 44, 45], []), (8, [2, 5, 6, 7, 37], []), (9, [], []), (10, [46, 47, 48], []), (12, [49, 52, 53, 54, 55, 56, 57, 58, 59, 60, 61, 62, 63, 64, 65, 66, 67, 68, 69, 70, 71, 72], []), (13, [73, 74, 75], []), (11, [50, 51, 73], []), (14, [3, 4, 8, 76, 77, 78, 79, 80, 81, 82, 83, 84, 85, 86, 87, 88, 89], [])] Try.f3 = some (ac3, [.tmp 2], 90) := by kernel_rfl
theorem pgCode_calls (L : List Ins) (hl : L.length ≤ 1000000) (H : Heap) : ACalls Try.prog 7 [.c (.d (.sl (L.map Ins.row))), .c (.d (.sl (L.map Ins.row)))] H (fun r H' => H' = H ∧ r = .c (.d (.bool true))) := by
  refine acalls Try.func7 (by kernel_rfl) ac7_ok fun hf => ?_
  have hli : inR .i64 (L.length : Int) := small_i64 (by omega) (by omega)
  simp -implicitDefEqProofs [ac7, hli, kw, ew, sw, tw, a_, b_, c_, -List.set_cons_succ, -List.set_cons_zero, A.ok, A.val, d_, e_, f_, g_, h_, i_, j_, k_, l_, m_, unA, unD, n_, AOp.total, o_, p_, q_, r_, s_, t_, u_, v_, A.thaw, C.thaw, A.fits, As.fits, C.fits, evs, oks, w_, A.pure, C.pure, A.re, C.re, x_, y_, cut, A.cells, C.rows?, z_, A_, B_, C_, D_, Ob.re, Cs.fits, E_, F_, G_, H_, I_, J_, K_, L_, M_, N_, O_, C.toD, P_, Q_, R_, S_, T_, Obs.fits, U_, eqD, V_, W_, X_, Y_, Z_]
  refine loop_set (σ := Nat) (fun i => [(5, .c (.d (.int .i64 i)))]) (fun _ => H) (fun _ => []) (fun i => i ≤ L.length) (fun i => L.length - i) 0 rfl (Nat.zero_le _) ?_
  intro i hi
  simp -implicitDefEqProofs [setAll, hli, kw, ew, sw, tw, a_, b_, c_, -List.set_cons_succ, -List.set_cons_zero, A.ok, A.val, d_, e_, f_, g_, h_, i_, j_, k_, l_, m_, unA, unD, n_, AOp.total, o_, p_, q_, r_, s_, t_, u_, v_, A.thaw, C.thaw, A.fits, As.fits, C.fits, evs, oks, w_, A.pure, C.pure, A.re, C.re, x_, y_, cut, A.cells, C.rows?, z_, A_, B_, C_, D_, Ob.re, Cs.fits, E_, F_, G_, H_, I_, J_, K_, L_, M_, N_, O_, C.toD, P_, Q_, R_, S_, T_, Obs.fits, U_, eqD, V_, W_, X_, Y_, Z_]
  intro hlt
  have hadd : inR .i64 ((i : Int) + 1) := small_i64 (by omega) (by omega)
  refine row_of hlt rfl ?_
  simp -implicitDefEqProofs [Ins.row, kw, ew, sw, tw, a_, b_, c_, -List.set_cons_succ, -List.set_cons_zero, A.ok, A.val, d_, e_, f_, g_, h_, i_, j_, k_, l_, m_, unA, unD, n_, AOp.total, o_, p_, q_, r_, s_, t_, u_, v_, A.thaw, C.thaw, A.fits, As.fits, C.fits, evs, oks, w_, A.pure, C.pure, A.re, C.re, x_, y_, cut, A.cells, C.rows?, z_, A_, B_, C_, D_, Ob.re, Cs.fits, E_, F_, G_, H_, I_, J_, K_, L_, M_, N_, O_, C.toD, P_, Q_, R_, S_, T_, Obs.fits, U_, eqD, V_, W_, X_, Y_, Z_]
  refine row_of hlt rfl ?_
  simp -implicitDefEqProofs [Ins.row, hadd, kw, ew, sw, tw, a_, b_, c_, -List.set_cons_succ, -List.set_cons_zero, A.ok, A.val, d_, e_, f_, g_, h_, i_, j_, k_, l_, m_, unA, unD, n_, AOp.total, o_, p_, q_, r_, s_, t_, u_, v_, A.thaw, C.thaw, A.fits, As.fits, C.fits, evs, oks, w_, A.pure, C.pure, A.re, C.re, x_, y_, cut, A.cells, C.rows?, z_, A_, B_, C_, D_, Ob.re, Cs.fits, E_, F_, G_, H_, I_, J_, K_, L_, M_, N_, O_, C.toD, P_, Q_, R_, S_, T_, Obs.fits, U_, eqD, V_, W_, X_, Y_, Z_]
  exact loop_back (i + 1) (by simp [setAll]) hlt (by show L.length - (i + 1) < L.length - i; omega)
theorem cqLaw_calls (c : List UInt8) (hc : c.length ≤ reachBytes) : ACalls Try.prog 3 [.c (.d (.sl (bytesRows c)))] [] (fun r _ => r = .c (.d (.bool true))) := by
  refine acalls Try.func3 (by kernel_rfl) ac3_ok fun hf => ?_
  have hli := reach_i64 hc
  simp -implicitDefEqProofs [ac3, hli, bytesRows_len, kw, ew, sw, tw, a_, b_, c_, -List.set_cons_succ, -List.set_cons_zero, A.ok, A.val, d_, e_, f_, g_, h_, i_, j_, k_, l_, m_, unA, unD, n_, AOp.total, o_, p_, q_, r_, s_, t_, u_, v_, A.thaw, C.thaw, A.fits, As.fits, C.fits, evs, oks, w_, A.pure, C.pure, A.re, C.re, x_, y_, cut, A.cells, C.rows?, z_, A_, B_, C_, D_, Ob.re, Cs.fits, E_, F_, G_, H_, I_, J_, K_, L_, M_, N_, O_, C.toD, P_, Q_, R_, S_, T_, Obs.fits, U_, eqD, V_, W_, X_, Y_, Z_]
  refine fun hle => ?_
  have hc2 : c.length ≤ 1048576 := by omega
  refine call_some (drawCq_calls c hc2 _) (by simp) (fun r => TmsR.re) hf ?_
  rintro _ ⟨l, rfl, hl, hft⟩
  have ci := cqImpl_calls l (by omega) hft
  have cs := cqSpec_calls l (by omega) hft
  simp -implicitDefEqProofs [hf, kw, ew, sw, tw, a_, b_, c_, -List.set_cons_succ, -List.set_cons_zero, A.ok, A.val, d_, e_, f_, g_, h_, i_, j_, k_, l_, m_, unA, unD, n_, AOp.total, o_, p_, q_, r_, s_, t_, u_, v_, A.thaw, C.thaw, A.fits, As.fits, C.fits, evs, oks, w_, A.pure, C.pure, A.re, C.re, x_, y_, cut, A.cells, C.rows?, z_, A_, B_, C_, D_, Ob.re, Cs.fits, E_, F_, G_, H_, I_, J_, K_, L_, M_, N_, O_, C.toD, P_, Q_, R_, S_, T_, Obs.fits, U_, eqD, V_, W_, X_, Y_, Z_]
  refine qcall_pure ci hf (by simp [A.re, A.res, C.re]) ?_
  simp -implicitDefEqProofs [hf, kw, ew, sw, tw, a_, b_, c_, -List.set_cons_succ, -List.set_cons_zero, A.ok, A.val, d_, e_, f_, g_, h_, i_, j_, k_, l_, m_, unA, unD, n_, AOp.total, o_, p_, q_, r_, s_, t_, u_, v_, A.thaw, C.thaw, A.fits, As.fits, C.fits, evs, oks, w_, A.pure, C.pure, A.re, C.re, x_, y_, cut, A.cells, C.rows?, z_, A_, B_, C_, D_, Ob.re, Cs.fits, E_, F_, G_, H_, I_, J_, K_, L_, M_, N_, O_, C.toD, P_, Q_, R_, S_, T_, Obs.fits, U_, eqD, V_, W_, X_, Y_, Z_]
  refine qcall_pure cs hf (by simp [A.re, A.res, C.re]) ?_
  cases hv : goalsB l with
  | false =>
    have cp := pgCode_calls [] (by simp)
    simp only [List.map_nil] at cp
    simp -implicitDefEqProofs [hf, kw, ew, sw, tw, a_, b_, c_, -List.set_cons_succ, -List.set_cons_zero, A.ok, A.val, d_, e_, f_, g_, h_, i_, j_, k_, l_, m_, unA, unD, n_, AOp.total, o_, p_, q_, r_, s_, t_, u_, v_, A.thaw, C.thaw, A.fits, As.fits, C.fits, evs, oks, w_, A.pure, C.pure, A.re, C.re, x_, y_, cut, A.cells, C.rows?, z_, A_, B_, C_, D_, Ob.re, Cs.fits, E_, F_, G_, H_, I_, J_, K_, L_, M_, N_, O_, C.toD, P_, Q_, R_, S_, T_, Obs.fits, U_, eqD, V_, W_, X_, Y_, Z_]
    refine qcall_pure cp hf rfl ?_
    simp -implicitDefEqProofs [hf, kw, ew, sw, tw, a_, b_, c_, -List.set_cons_succ, -List.set_cons_zero, A.ok, A.val, d_, e_, f_, g_, h_, i_, j_, k_, l_, m_, unA, unD, n_, AOp.total, o_, p_, q_, r_, s_, t_, u_, v_, A.thaw, C.thaw, A.fits, As.fits, C.fits, evs, oks, w_, A.pure, C.pure, A.re, C.re, x_, y_, cut, A.cells, C.rows?, z_, A_, B_, C_, D_, Ob.re, Cs.fits, E_, F_, G_, H_, I_, J_, K_, L_, M_, N_, O_, C.toD, P_, Q_, R_, S_, T_, Obs.fits, U_, eqD, V_, W_, X_, Y_, Z_]
    refine qcall_pure cp hf rfl ?_
    simp -implicitDefEqProofs [hf, kw, ew, sw, tw, a_, b_, c_, -List.set_cons_succ, -List.set_cons_zero, A.ok, A.val, d_, e_, f_, g_, h_, i_, j_, k_, l_, m_, unA, unD, n_, AOp.total, o_, p_, q_, r_, s_, t_, u_, v_, A.thaw, C.thaw, A.fits, As.fits, C.fits, evs, oks, w_, A.pure, C.pure, A.re, C.re, x_, y_, cut, A.cells, C.rows?, z_, A_, B_, C_, D_, Ob.re, Cs.fits, E_, F_, G_, H_, I_, J_, K_, L_, M_, N_, O_, C.toD, P_, Q_, R_, S_, T_, Obs.fits, U_, eqD, V_, W_, X_, Y_, Z_]
  | true =>
    obtain ⟨L, e1, e2⟩ := codeQ_form l
    obtain ⟨g1, g2, g3⟩ := goalsB_iff hv
    have hfit := (goals_fit l mk0 4 mk0_fit).emit 14 0 0 []
    have hcl : (codeQ l).length ≤ _ := hfit.code
    obtain ⟨W, hW⟩ : ∃ W, W = L ++ [⟨14, 0, 0, []⟩] := ⟨_, rfl⟩
    have eW : codeQ l = W.map Ins.row := by rw [e1, hW]; simp [insR, Ins.row]
    have hWl : W.length ≤ 1000000 := by rw [eW] at hcl; simp at hcl; omega
    have hW1 : 1 ≤ W.length := by rw [hW]; simp
    have hcnt : cntG (W.map Ins.row) = l.length := by
      rw [← e2, hW]
      simp [cntG, Ins.row, isG, opsG]
    have hlast : ∀ (h : W.length - 1 < W.length), W[W.length - 1].op = 14 := fun h => by
      subst hW
      simp
    have hstep : ∀ i (h : i < W.length), cntG ((W.take (i + 1)).map Ins.row) = cntG ((W.take i).map Ins.row) + if opsG W[i].op then 1 else 0 := fun i h => by
      rw [List.take_succ_eq_append_getElem h]
      simp only [cntG, List.map_append, List.filter_append, List.length_append, List.map_cons, List.map_nil]
      congr 1
      cases ho : opsG W[i].op <;> simp [Ins.row, isG, ho]
    have cp := pgCode_calls W hWl
    have hWi : inR .i64 (W.length : Int) := small_i64 (by omega) (by omega)
    have hln : inR .i64 (l.length : Int) := small_i64 (by omega) (by omega)
    rw [eW]
    simp -implicitDefEqProofs [hf, kw, ew, sw, tw, a_, b_, c_, -List.set_cons_succ, -List.set_cons_zero, A.ok, A.val, d_, e_, f_, g_, h_, i_, j_, k_, l_, m_, unA, unD, n_, AOp.total, o_, p_, q_, r_, s_, t_, u_, v_, A.thaw, C.thaw, A.fits, As.fits, C.fits, evs, oks, w_, A.pure, C.pure, A.re, C.re, x_, y_, cut, A.cells, C.rows?, z_, A_, B_, C_, D_, Ob.re, Cs.fits, E_, F_, G_, H_, I_, J_, K_, L_, M_, N_, O_, C.toD, P_, Q_, R_, S_, T_, Obs.fits, U_, eqD, V_, W_, X_, Y_, Z_]
    refine qcall_pure cp hf rfl ?_
    simp -implicitDefEqProofs [hf, kw, ew, sw, tw, a_, b_, c_, -List.set_cons_succ, -List.set_cons_zero, A.ok, A.val, d_, e_, f_, g_, h_, i_, j_, k_, l_, m_, unA, unD, n_, AOp.total, o_, p_, q_, r_, s_, t_, u_, v_, A.thaw, C.thaw, A.fits, As.fits, C.fits, evs, oks, w_, A.pure, C.pure, A.re, C.re, x_, y_, cut, A.cells, C.rows?, z_, A_, B_, C_, D_, Ob.re, Cs.fits, E_, F_, G_, H_, I_, J_, K_, L_, M_, N_, O_, C.toD, P_, Q_, R_, S_, T_, Obs.fits, U_, eqD, V_, W_, X_, Y_, Z_]
    refine loop_set (σ := Nat) (fun i => [(9, .c (.d (.int .i64 i))), (8, .c (.d (.int .i64 (cntG ((W.take i).map Ins.row) : Nat))))]) (fun _ => []) (fun _ => []) (fun i => i ≤ W.length) (fun i => W.length - i) 0 (by simp [setAll, cntG]) (Nat.zero_le _) ?_
    intro i hi
    obtain ⟨n, hn⟩ : ∃ n, n = cntG ((W.take i).map Ins.row) := ⟨_, rfl⟩
    have hni : n ≤ i := by
      rw [hn]
      refine Nat.le_trans (List.length_filter_le _ _) ?_
      simp
      omega
    rw [← hn]
    simp -implicitDefEqProofs [setAll, hWi, kw, ew, sw, tw, a_, b_, c_, -List.set_cons_succ, -List.set_cons_zero, A.ok, A.val, d_, e_, f_, g_, h_, i_, j_, k_, l_, m_, unA, unD, n_, AOp.total, o_, p_, q_, r_, s_, t_, u_, v_, A.thaw, C.thaw, A.fits, As.fits, C.fits, evs, oks, w_, A.pure, C.pure, A.re, C.re, x_, y_, cut, A.cells, C.rows?, z_, A_, B_, C_, D_, Ob.re, Cs.fits, E_, F_, G_, H_, I_, J_, K_, L_, M_, N_, O_, C.toD, P_, Q_, R_, S_, T_, Obs.fits, U_, eqD, V_, W_, X_, Y_, Z_]
    refine ⟨fun hlt => ?_, fun hge => ?_⟩
    · have hs := hstep i hlt
      rw [← hn, List.map_take] at hs
      have hadd : inR .i64 ((i : Int) + 1) := small_i64 (by omega) (by omega)
      have hadn : inR .i64 ((n : Int) + 1) := small_i64 (by omega) (by omega)
      have hrow : (W.map Ins.row)[i]? = some W[i].row := by simp [hlt]
      obtain ⟨w, hw⟩ : ∃ w, w = W[i] := ⟨_, rfl⟩
      rw [← hw] at hs hrow
      refine row_nat _ hrow rfl ?_
      by_cases h11 : w.op = 11
      · have : opsG w.op = true := by simp [opsG, h11]
        rw [this] at hs
        simp only [if_true] at hs
        simp -implicitDefEqProofs [Ins.row, h11, hadd, hadn, kw, ew, sw, tw, a_, b_, c_, -List.set_cons_succ, -List.set_cons_zero, A.ok, A.val, d_, e_, f_, g_, h_, i_, j_, k_, l_, m_, unA, unD, n_, AOp.total, o_, p_, q_, r_, s_, t_, u_, v_, A.thaw, C.thaw, A.fits, As.fits, C.fits, evs, oks, w_, A.pure, C.pure, A.re, C.re, x_, y_, cut, A.cells, C.rows?, z_, A_, B_, C_, D_, Ob.re, Cs.fits, E_, F_, G_, H_, I_, J_, K_, L_, M_, N_, O_, C.toD, P_, Q_, R_, S_, T_, Obs.fits, U_, eqD, V_, W_, X_, Y_, Z_]
        refine row_off w.row ?_
        simp -implicitDefEqProofs [Ins.row, h11, hadd, hadn, kw, ew, sw, tw, a_, b_, c_, -List.set_cons_succ, -List.set_cons_zero, A.ok, A.val, d_, e_, f_, g_, h_, i_, j_, k_, l_, m_, unA, unD, n_, AOp.total, o_, p_, q_, r_, s_, t_, u_, v_, A.thaw, C.thaw, A.fits, As.fits, C.fits, evs, oks, w_, A.pure, C.pure, A.re, C.re, x_, y_, cut, A.cells, C.rows?, z_, A_, B_, C_, D_, Ob.re, Cs.fits, E_, F_, G_, H_, I_, J_, K_, L_, M_, N_, O_, C.toD, P_, Q_, R_, S_, T_, Obs.fits, U_, eqD, V_, W_, X_, Y_, Z_]
        refine row_off w.row ?_
        simp -implicitDefEqProofs [Ins.row, h11, hadd, hadn, kw, ew, sw, tw, a_, b_, c_, -List.set_cons_succ, -List.set_cons_zero, A.ok, A.val, d_, e_, f_, g_, h_, i_, j_, k_, l_, m_, unA, unD, n_, AOp.total, o_, p_, q_, r_, s_, t_, u_, v_, A.thaw, C.thaw, A.fits, As.fits, C.fits, evs, oks, w_, A.pure, C.pure, A.re, C.re, x_, y_, cut, A.cells, C.rows?, z_, A_, B_, C_, D_, Ob.re, Cs.fits, E_, F_, G_, H_, I_, J_, K_, L_, M_, N_, O_, C.toD, P_, Q_, R_, S_, T_, Obs.fits, U_, eqD, V_, W_, X_, Y_, Z_]
        exact loop_back (i + 1) (by simp [setAll, hs]) hlt (by show W.length - (i + 1) < W.length - i; omega)
      · have h11' : (w.op == 11) = false := by simp [h11]
        simp -implicitDefEqProofs [Ins.row, h11, h11', hadd, hadn, kw, ew, sw, tw, a_, b_, c_, -List.set_cons_succ, -List.set_cons_zero, A.ok, A.val, d_, e_, f_, g_, h_, i_, j_, k_, l_, m_, unA, unD, n_, AOp.total, o_, p_, q_, r_, s_, t_, u_, v_, A.thaw, C.thaw, A.fits, As.fits, C.fits, evs, oks, w_, A.pure, C.pure, A.re, C.re, x_, y_, cut, A.cells, C.rows?, z_, A_, B_, C_, D_, Ob.re, Cs.fits, E_, F_, G_, H_, I_, J_, K_, L_, M_, N_, O_, C.toD, P_, Q_, R_, S_, T_, Obs.fits, U_, eqD, V_, W_, X_, Y_, Z_]
        refine row_nat _ hrow rfl ?_
        by_cases h12 : w.op = 12
        · have : opsG w.op = true := by simp [opsG, h12]
          rw [this] at hs
          simp only [if_true] at hs
          simp -implicitDefEqProofs [Ins.row, h12, hadd, hadn, kw, ew, sw, tw, a_, b_, c_, -List.set_cons_succ, -List.set_cons_zero, A.ok, A.val, d_, e_, f_, g_, h_, i_, j_, k_, l_, m_, unA, unD, n_, AOp.total, o_, p_, q_, r_, s_, t_, u_, v_, A.thaw, C.thaw, A.fits, As.fits, C.fits, evs, oks, w_, A.pure, C.pure, A.re, C.re, x_, y_, cut, A.cells, C.rows?, z_, A_, B_, C_, D_, Ob.re, Cs.fits, E_, F_, G_, H_, I_, J_, K_, L_, M_, N_, O_, C.toD, P_, Q_, R_, S_, T_, Obs.fits, U_, eqD, V_, W_, X_, Y_, Z_]
          refine row_off w.row ?_
          simp -implicitDefEqProofs [Ins.row, h12, hadd, hadn, kw, ew, sw, tw, a_, b_, c_, -List.set_cons_succ, -List.set_cons_zero, A.ok, A.val, d_, e_, f_, g_, h_, i_, j_, k_, l_, m_, unA, unD, n_, AOp.total, o_, p_, q_, r_, s_, t_, u_, v_, A.thaw, C.thaw, A.fits, As.fits, C.fits, evs, oks, w_, A.pure, C.pure, A.re, C.re, x_, y_, cut, A.cells, C.rows?, z_, A_, B_, C_, D_, Ob.re, Cs.fits, E_, F_, G_, H_, I_, J_, K_, L_, M_, N_, O_, C.toD, P_, Q_, R_, S_, T_, Obs.fits, U_, eqD, V_, W_, X_, Y_, Z_]
          exact loop_back (i + 1) (by simp [setAll, hs]) hlt (by show W.length - (i + 1) < W.length - i; omega)
        · have h12' : (w.op == 12) = false := by simp [h12]
          simp -implicitDefEqProofs [Ins.row, h12, h12', hadd, hadn, kw, ew, sw, tw, a_, b_, c_, -List.set_cons_succ, -List.set_cons_zero, A.ok, A.val, d_, e_, f_, g_, h_, i_, j_, k_, l_, m_, unA, unD, n_, AOp.total, o_, p_, q_, r_, s_, t_, u_, v_, A.thaw, C.thaw, A.fits, As.fits, C.fits, evs, oks, w_, A.pure, C.pure, A.re, C.re, x_, y_, cut, A.cells, C.rows?, z_, A_, B_, C_, D_, Ob.re, Cs.fits, E_, F_, G_, H_, I_, J_, K_, L_, M_, N_, O_, C.toD, P_, Q_, R_, S_, T_, Obs.fits, U_, eqD, V_, W_, X_, Y_, Z_]
          refine row_nat _ hrow rfl ?_
          by_cases h13 : w.op = 13
          · have : opsG w.op = true := by simp [opsG, h13]
            rw [this] at hs
            simp only [if_true] at hs
            simp -implicitDefEqProofs [Ins.row, h13, hadd, hadn, kw, ew, sw, tw, a_, b_, c_, -List.set_cons_succ, -List.set_cons_zero, A.ok, A.val, d_, e_, f_, g_, h_, i_, j_, k_, l_, m_, unA, unD, n_, AOp.total, o_, p_, q_, r_, s_, t_, u_, v_, A.thaw, C.thaw, A.fits, As.fits, C.fits, evs, oks, w_, A.pure, C.pure, A.re, C.re, x_, y_, cut, A.cells, C.rows?, z_, A_, B_, C_, D_, Ob.re, Cs.fits, E_, F_, G_, H_, I_, J_, K_, L_, M_, N_, O_, C.toD, P_, Q_, R_, S_, T_, Obs.fits, U_, eqD, V_, W_, X_, Y_, Z_]
            exact loop_back (i + 1) (by simp [setAll, hs]) hlt (by show W.length - (i + 1) < W.length - i; omega)
          · have : opsG w.op = false := by simp [opsG, h11, h12, h13]
            rw [this] at hs
            simp only [Bool.false_eq_true, if_false, Nat.add_zero] at hs
            have h13' : (w.op == 13) = false := by simp [h13]
            simp -implicitDefEqProofs [Ins.row, h13, h13', hadd, hadn, kw, ew, sw, tw, a_, b_, c_, -List.set_cons_succ, -List.set_cons_zero, A.ok, A.val, d_, e_, f_, g_, h_, i_, j_, k_, l_, m_, unA, unD, n_, AOp.total, o_, p_, q_, r_, s_, t_, u_, v_, A.thaw, C.thaw, A.fits, As.fits, C.fits, evs, oks, w_, A.pure, C.pure, A.re, C.re, x_, y_, cut, A.cells, C.rows?, z_, A_, B_, C_, D_, Ob.re, Cs.fits, E_, F_, G_, H_, I_, J_, K_, L_, M_, N_, O_, C.toD, P_, Q_, R_, S_, T_, Obs.fits, U_, eqD, V_, W_, X_, Y_, Z_]
            exact loop_back (i + 1) (by simp [setAll, hs]) hlt (by show W.length - (i + 1) < W.length - i; omega)
    · obtain rfl : i = W.length := by omega
      rw [List.take_length, hcnt] at hn
      subst hn
      have hlt : W.length - 1 < W.length := by omega
      have hsub : inR .i64 ((W.length : Int) - 1) := small_i64 (by omega) (by omega)
      have hl14 := hlast hlt
      simp -implicitDefEqProofs [hln, hWi, hsub, kw, ew, sw, tw, a_, b_, c_, -List.set_cons_succ, -List.set_cons_zero, A.ok, A.val, d_, e_, f_, g_, h_, i_, j_, k_, l_, m_, unA, unD, n_, AOp.total, o_, p_, q_, r_, s_, t_, u_, v_, A.thaw, C.thaw, A.fits, As.fits, C.fits, evs, oks, w_, A.pure, C.pure, A.re, C.re, x_, y_, cut, A.cells, C.rows?, z_, A_, B_, C_, D_, Ob.re, Cs.fits, E_, F_, G_, H_, I_, J_, K_, L_, M_, N_, O_, C.toD, P_, Q_, R_, S_, T_, Obs.fits, U_, eqD, V_, W_, X_, Y_, Z_]
      refine row_int W[W.length - 1].row (by omega) (by
        have : ((W.length : Int) - 1).toNat = W.length - 1 := by omega
        rw [this]; simp [hlt]) rfl ?_
      simp -implicitDefEqProofs [Ins.row, hl14, kw, ew, sw, tw, a_, b_, c_, -List.set_cons_succ, -List.set_cons_zero, A.ok, A.val, d_, e_, f_, g_, h_, i_, j_, k_, l_, m_, unA, unD, n_, AOp.total, o_, p_, q_, r_, s_, t_, u_, v_, A.thaw, C.thaw, A.fits, As.fits, C.fits, evs, oks, w_, A.pure, C.pure, A.re, C.re, x_, y_, cut, A.cells, C.rows?, z_, A_, B_, C_, D_, Ob.re, Cs.fits, E_, F_, G_, H_, I_, J_, K_, L_, M_, N_, O_, C.toD, P_, Q_, R_, S_, T_, Obs.fits, U_, eqD, V_, W_, X_, Y_, Z_]
theorem law_run3 (rows : List (List D)) (hr : HasTys Try.prog (#[22] : Array TypeId).toList rows) : ACalls Try.prog 3 (argsA Try.prog (#[22] : Array TypeId).toList rows) [] (fun r _ => r = .c (.d (.bool true))) := by
  obtain ⟨r, rs, rfl, h1, h2⟩ := hr.cons
  obtain rfl := h2.nil
  obtain ⟨s, rfl, hs⟩ := bytes_ty h1
  simp only [argsA, argA, Try.underlying22, List.headD_cons]
  exact cqLaw_calls s hs
namespace fnCompileQuery
theorem own : ownKnob Try.prog.godebug = none := by kernel_rfl
theorem contract (H : Type) (enc : TypeId × Value → H) (W : World) (base : Nat) (args : Array Value) (ds gs : List (DataW H)) (before : List MemPlace)
    (hval : ∀ (j : Nat) t v, Try.f3.params[j]? = some t → args[j]? = some v → Value.okWide Try.prog W .any base t v)
    (hW : DataW.Whole enc Try.prog Try.f3.params.toList Rows.fnCompileQuerySpec.vars false W args.toList ds gs before)
    (hw : (DataW.weightsEach Try.prog (Try.f3.params.toList ++ Rows.fnCompileQuerySpec.plain.varTypes Try.prog) (ds ++ gs)).all (· ≤ reachBytes) = true) :
    Calls Try.prog 3 args W fun e W' => ∃ v, e = .returned v ∧ Rows.fnCompileQuerySpec.post enc Try.prog Try.f3 false true false false W args v W' := by
  refine law_contract (L := [5, 22]) (tb := 4) (by kernel_rfl) (by kernel_rfl) (by kernel_rfl) rfl ?_ (by kernel_rfl) Try.underlying4 ?_ W base args ds gs before hval hW hw
  · intro ds hl
    match ds, hl with
    | [d0], _ => rfl
  · intro rows hr
    rw [Try.params3] at hr ⊢
    exact law_run3 rows hr

theorem lifted (os : Os) (started : os.Started) (H : Type) (enc : TypeId × Value → H) :
    ReturnsInHanded {} Try.checked os 3 .any (Rows.fnCompileQuerySpec.pre6 enc Try.prog Try.f3 Rows.fnCompileQueryRow.domain false) (Rows.fnCompileQuerySpec.post enc Try.prog Try.f3 false true false false) := by
  refine returnsInHanded_of_change_sized (C := Try.checked) own started (by kernel_rfl) Try.func3
    (ChangeSpec.witness6 (enc := enc) (C := Try.checked) false ⟨#[], #[.slice none 0 0], []⟩ 8 (by kernel_rfl) (by kernel_rfl) (by kernel_rfl) (by kernel_rfl)) ?_
  intro W base args ds gs before hval hW _ hw _
  exact contract H enc W base args ds gs before hval hW hw

theorem proved : Rows.FnCompileQuerySaid :=
  OpenClaim.holds_of_wide 3 Try.f3 rfl rfl rfl rfl rfl rfl rfl ⟨rfl, rfl, rfl, rfl, rfl⟩ rfl rfl rfl rfl rfl (by kernel_rfl) Try.func3 (by kernel_rfl)
    (of_decide_eq_true (by kernel_rfl)) (by unfold Func.isWrapper; first | (rw [if_pos (by decide +kernel)]; kernel_rfl) | (rw [if_neg (by decide +kernel)]; exact ⟨rfl, rfl⟩))
    (fun os started H enc _ => lifted os started H enc)
end fnCompileQuery

end Go.Proofs.Yteighafofbohcaa
