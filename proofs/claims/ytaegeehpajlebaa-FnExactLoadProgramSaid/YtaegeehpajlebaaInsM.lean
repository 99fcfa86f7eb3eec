/-
  Instructions that are marked and looked at again.
  Conditions: none.
-/
import Derived.Test.YtaegeehpajlebaaInsE
import Derived.Test.YtaegeehpajlebaaMText
import Derived.Test.YtaegeehpajlebaaAbsN
open Go Go.AM Go.Proofs
namespace Go.Proofs.Ytaegeehpajlebaa
open Go.ChangeShapes Go.WideShapes Go.ChangeAt Go.RowKit
set_option linter.unusedVariables false
set_option linter.unusedSimpArgs false
set_option maxRecDepth 100000
-- 25 loop.example/prologserver/laws.markInstrS params 2 ntmps 42
-- loop head live: [0, 1, 5]
def ac25 : Cd := .seq (.region [⟨(some 4), .mv (.k (.c (.d (.int .i64 0)))), none⟩] [4])
  (.seq (.seq (.region [⟨(some 5), .mv (.k (.c (.d (.int .i64 0)))), none⟩] [])
    (.block 0 (.loop (.seq (.seq (.region [⟨(some 6), .mv (.t 5), none⟩,
              ⟨(some 7), .mv (.t 0), none⟩,
              ⟨(some 8), .len 1 (.t 7), none⟩,
              ⟨(some 9), .bin .lss (.t 6) (.t 8), none⟩] [6, 7, 8])
          (.cond (.t 9)
            (.skip)
            (.exit 0)))
        (.seq (.block 1 (.seq (.region [⟨(some 12), .mv (.t 0), none⟩,
                ⟨(some 13), .mv (.t 5), none⟩,
                ⟨(some 14), .mv (.t 1), none⟩,
                ⟨(some 15), .indexAddr 4 (.t 12) (.t 13), none⟩,
                ⟨(some 16), .fieldAddr 0 (.t 15), none⟩,
                ⟨none, .store 1 (.t 16) (.t 14), none⟩] [9, 12, 13, 14, 15, 16])
            (.seq (.region [⟨(some 17), .mv (.t 1), none⟩,
                ⟨(some 18), .bin .add (.t 17) (.k (.c (.d (.int .i64 1)))), none⟩,
                ⟨(some 1), .mv (.t 18), none⟩] [17, 18])
            (.seq (.region [⟨(some 19), .mv (.t 0), none⟩,
                ⟨(some 20), .mv (.t 5), none⟩,
                ⟨(some 21), .mv (.t 1), none⟩,
                ⟨(some 22), .indexAddr 4 (.t 19) (.t 20), none⟩,
                ⟨(some 23), .fieldAddr 1 (.t 22), none⟩,
                ⟨none, .store 1 (.t 23) (.t 21), none⟩] [19, 20, 21, 22, 23])
            (.seq (.region [⟨(some 24), .mv (.t 1), none⟩,
                ⟨(some 25), .bin .add (.t 24) (.k (.c (.d (.int .i64 1)))), none⟩,
                ⟨(some 1), .mv (.t 25), none⟩] [24, 25])
            (.seq (.region [⟨(some 26), .mv (.t 0), none⟩,
                ⟨(some 27), .mv (.t 5), none⟩,
                ⟨(some 28), .mv (.t 1), none⟩,
                ⟨(some 29), .indexAddr 4 (.t 26) (.t 27), none⟩,
                ⟨(some 30), .fieldAddr 2 (.t 29), none⟩,
                ⟨none, .store 1 (.t 30) (.t 28), none⟩] [26, 27, 28, 29, 30])
            (.seq (.region [⟨(some 31), .mv (.t 1), none⟩,
                ⟨(some 32), .bin .add (.t 31) (.k (.c (.d (.int .i64 1)))), none⟩,
                ⟨(some 1), .mv (.t 32), none⟩] [31, 32])
            (.seq (.region [⟨(some 33), .mv (.t 0), none⟩,
                ⟨(some 34), .mv (.t 5), none⟩,
                ⟨(some 35), .mv (.t 1), none⟩,
                ⟨(some 36), .qcall 56 [(.t 35)], none⟩,
                ⟨(some 37), .indexAddr 4 (.t 33) (.t 34), none⟩,
                ⟨(some 38), .fieldAddr 3 (.t 37), none⟩,
                ⟨none, .store 1 (.t 38) (.t 36), none⟩] [33, 34, 35, 36, 37, 38])
            (.region [⟨(some 39), .mv (.t 1), none⟩,
              ⟨(some 40), .bin .add (.t 39) (.k (.c (.d (.int .i64 1)))), none⟩,
              ⟨(some 1), .mv (.t 40), none⟩] [39, 40])))))))))
        (.region [⟨(some 10), .mv (.t 5), none⟩,
          ⟨(some 11), .bin .add (.t 10) (.k (.c (.d (.int .i64 1)))), none⟩,
          ⟨(some 5), .mv (.t 11), none⟩] [10, 11]))))))
  (.seq (.region [⟨(some 41), .mv (.t 1), none⟩,
      ⟨(some 4), .mv (.t 41), none⟩] [1, 41])
  (.ret)))
theorem ac25_ok : cFunc Try.prog [1000056] [(0, [4], []), (1, [], []), (2, [6, 7, 8], []), (4, [9, 12, 13, 14, 15, 16], []), (5, [17, 18], []), (6, [19, 20, 21, 22, 23], []), (7, [24, 25], []), (8, [26, 27, 28, 29, 30], []), (9, [31, 32], []), (10, [33, 34, 35, 36, 37, 38], []), (11, [39, 40], []), (3, [10, 11], []), (12, [1, 41], [])] Try.f25 = some (ac25, [.tmp 4], 42) := by kernel_rfl
-- 26 loop.example/prologserver/laws.heldInstrS params 2 ntmps 50
-- loop head live: [0, 1, 5]
def ac26 : Cd := .seq (.region [⟨(some 4), .mv (.k (.c (.d (.int .i64 0)))), none⟩] [4])
  (.seq (.seq (.region [⟨(some 5), .mv (.k (.c (.d (.int .i64 0)))), none⟩] [])
    (.block 0 (.loop (.seq (.seq (.region [⟨(some 6), .mv (.t 5), none⟩,
              ⟨(some 7), .mv (.t 0), none⟩,
              ⟨(some 8), .len 1 (.t 7), none⟩,
              ⟨(some 9), .bin .lss (.t 6) (.t 8), none⟩] [6, 7, 8])
          (.cond (.t 9)
            (.skip)
            (.exit 0)))
        (.seq (.block 1 (.seq (.seq (.region [⟨(some 12), .mv (.t 0), none⟩,
                  ⟨(some 13), .mv (.t 5), none⟩,
                  ⟨(some 14), .indexAddr 4 (.t 12) (.t 13), none⟩,
                  ⟨(some 15), .fieldAddr 0 (.t 14), none⟩,
                  ⟨(some 16), .load none (.t 15), none⟩,
                  ⟨(some 17), .mv (.t 1), none⟩,
                  ⟨(some 18), .bin .neq (.t 16) (.t 17), none⟩] [9, 12, 13, 14, 15, 16, 17])
              (.cond (.t 18)
                (.seq (.region [⟨(some 4), .mv (.k (.c (.d (.int .i64 (-1))))), none⟩] [0, 1, 5, 18])
                (.ret))
                (.skip)))
            (.seq (.region [⟨(some 19), .mv (.t 1), none⟩,
                ⟨(some 20), .bin .add (.t 19) (.k (.c (.d (.int .i64 1)))), none⟩,
                ⟨(some 1), .mv (.t 20), none⟩] [4, 18, 19, 20])
            (.seq (.seq (.region [⟨(some 21), .mv (.t 0), none⟩,
                  ⟨(some 22), .mv (.t 5), none⟩,
                  ⟨(some 23), .indexAddr 4 (.t 21) (.t 22), none⟩,
                  ⟨(some 24), .fieldAddr 1 (.t 23), none⟩,
                  ⟨(some 25), .load none (.t 24), none⟩,
                  ⟨(some 26), .mv (.t 1), none⟩,
                  ⟨(some 27), .bin .neq (.t 25) (.t 26), none⟩] [21, 22, 23, 24, 25, 26])
              (.cond (.t 27)
                (.seq (.region [⟨(some 4), .mv (.k (.c (.d (.int .i64 (-1))))), none⟩] [0, 1, 5, 27])
                (.ret))
                (.skip)))
            (.seq (.region [⟨(some 28), .mv (.t 1), none⟩,
                ⟨(some 29), .bin .add (.t 28) (.k (.c (.d (.int .i64 1)))), none⟩,
                ⟨(some 1), .mv (.t 29), none⟩] [4, 27, 28, 29])
            (.seq (.seq (.region [⟨(some 30), .mv (.t 0), none⟩,
                  ⟨(some 31), .mv (.t 5), none⟩,
                  ⟨(some 32), .indexAddr 4 (.t 30) (.t 31), none⟩,
                  ⟨(some 33), .fieldAddr 2 (.t 32), none⟩,
                  ⟨(some 34), .load none (.t 33), none⟩,
                  ⟨(some 35), .mv (.t 1), none⟩,
                  ⟨(some 36), .bin .neq (.t 34) (.t 35), none⟩] [30, 31, 32, 33, 34, 35])
              (.cond (.t 36)
                (.seq (.region [⟨(some 4), .mv (.k (.c (.d (.int .i64 (-1))))), none⟩] [0, 1, 5, 36])
                (.ret))
                (.skip)))
            (.seq (.region [⟨(some 37), .mv (.t 1), none⟩,
                ⟨(some 38), .bin .add (.t 37) (.k (.c (.d (.int .i64 1)))), none⟩,
                ⟨(some 1), .mv (.t 38), none⟩] [4, 36, 37, 38])
            (.seq (.seq (.region [⟨(some 39), .mv (.t 0), none⟩,
                  ⟨(some 40), .mv (.t 5), none⟩,
                  ⟨(some 41), .indexAddr 4 (.t 39) (.t 40), none⟩,
                  ⟨(some 42), .fieldAddr 3 (.t 41), none⟩,
                  ⟨(some 44), .mv (.t 1), none⟩,
                  ⟨(some 43), .load none (.t 42), none⟩,
                  ⟨(some 45), .qcall 56 [(.t 44)], none⟩,
                  ⟨(some 46), .bin .neq (.t 43) (.t 45), none⟩] [39, 40, 41, 42, 43, 44, 45])
              (.cond (.t 46)
                (.seq (.region [⟨(some 4), .mv (.k (.c (.d (.int .i64 (-1))))), none⟩] [0, 1, 5, 46])
                (.ret))
                (.skip)))
            (.region [⟨(some 47), .mv (.t 1), none⟩,
              ⟨(some 48), .bin .add (.t 47) (.k (.c (.d (.int .i64 1)))), none⟩,
              ⟨(some 1), .mv (.t 48), none⟩] [4, 46, 47, 48])))))))))
        (.region [⟨(some 10), .mv (.t 5), none⟩,
          ⟨(some 11), .bin .add (.t 10) (.k (.c (.d (.int .i64 1)))), none⟩,
          ⟨(some 5), .mv (.t 11), none⟩] [10, 11]))))))
  (.seq (.region [⟨(some 49), .mv (.t 1), none⟩,
      ⟨(some 4), .mv (.t 49), none⟩] [1, 49])
  (.ret)))
theorem ac26_ok : cFunc Try.prog [1000056] [(0, [4], []), (1, [], []), (2, [6, 7, 8], []), (4, [9, 12, 13, 14, 15, 16, 17], []), (5, [0, 1, 5, 18], []), (6, [4, 18, 19, 20], []), (7, [21, 22, 23, 24, 25, 26], []), (8, [0, 1, 5, 27], []), (9, [4, 27, 28, 29], []), (10, [30, 31, 32, 33, 34, 35], []), (11, [0, 1, 5, 36], []), (12, [4, 36, 37, 38], []), (13, [39, 40, 41, 42, 43, 44, 45], [0, 1, 2, 3, 5, 4, 6, 7]), (14, [0, 1, 5, 46], []), (15, [4, 46, 47, 48], []), (3, [10, 11], []), (16, [1, 49], [])] Try.f26 = some (ac26, [.tmp 4], 50) := by kernel_rfl
theorem insRow_len (x : Ins) : x.row.length = 4 := rfl
theorem flat_ins (l : List Ins) : Flat (l.map Ins.row) := by
  intro x hx
  simp only [List.mem_flatten, List.mem_map] at hx
  obtain ⟨r, ⟨b, _, rfl⟩, hx⟩ := hx
  simp [Ins.row] at hx
  rcases hx with rfl | rfl | rfl | rfl <;> rfl
/-- the marks of instructions -/
def mRow (k : Int) (i : Nat) : List D := [.int .i64 (k + 4 * i), .int .i64 (k + 4 * i + 1), .int .i64 (k + 4 * i + 2), .str (mText (k + 4 * i + 3))]
def mIns (k : Int) (n : Nat) : List (List D) := (List.range n).map (mRow k)
theorem mIns_len (k : Int) (n : Nat) : (mIns k n).length = n := by simp [mIns]
theorem mRow_len (k : Int) (i : Nat) : (mRow k i).length = 4 := rfl
theorem mixed_setx {α : Type} (f : Nat → α) (rows : List α) {i : Nat} (h : i < rows.length) (x : α) (hx : x = f i) : (mixed f rows i).set i x = mixed f rows (i + 1) := by rw [hx]; exact mixed_set f rows h
theorem markInstrS_calls (l : List Ins) (k : Int) (h0 : 0 ≤ k) (h1 : k + 4 * l.length ≤ 500000000000000) (kv : Value) : ACalls Try.prog 25 [.c (.d (.v kv)), .c (.d (.int .i64 k))] [.tree kv (l.map Ins.row)]
    (fun r H' => H' = [.tree kv (mIns k l.length)] ∧ r = .c (.d (.int .i64 (k + 4 * l.length)))) := by
  have hlen : (l.map Ins.row).length = l.length := by simp
  refine (acalls_flat (f := 25) (pre := []) (post := [.c (.d (.int .i64 k))]) (rows := l.map Ins.row) (Q := fun r rows' => r = .c (.d (.int .i64 (k + 4 * l.length))) ∧ rows' = mIns k l.length) 4 (allLen_map insRow_len) (flat_ins l) rfl rfl (fun he => ?_) ?_ kv).mono fun r H' ⟨rows', h1, _, h2, h3⟩ => ⟨by rw [h1, h3], h2⟩
  · have hs : l.length = 0 := by rw [← hlen, he]; rfl
    have hk0 : inR .i64 k := small_i64 (by omega) (by omega)
    have hz0 : inR .i64 0 := small_i64 (by omega) (by omega)
    refine acalls Try.func25 (by kernel_rfl) ac25_ok fun hf => ?_
    simp -implicitDefEqProofs [ac25, kw, ew, sw, tw, a_, b_, c_, -List.set_cons_succ, -List.set_cons_zero, A.ok, A.val, d_, e_, f_, g_, h_, i_, j_, k_, l_, m_, unA, unD, n_, AOp.total, o_, p_, q_, r_, s_, t_, u_, v_, A.thaw, C.thaw, A.fits, As.fits, C.fits, evs, oks, w_, A.pure, C.pure, A.re, C.re, x_, y_, cut, A.cells, C.rows?, z_, A_, B_, C_, D_, Ob.re, Cs.fits, E_, F_, G_, H_, I_, J_, K_, L_, M_, N_, O_, C.toD, P_, Q_, R_, S_, T_, Obs.fits, U_, eqD, V_, W_, X_, Y_, Z_]
    refine loop_set (σ := Unit) (fun _ => [(5, .c (.d (.int .i64 0)))]) (fun _ => []) (fun _ => []) (fun _ => True) (fun _ => 0) () rfl trivial ?_
    intro _ _
    simp -implicitDefEqProofs [setAll, hs, hz0, mIns, A.portT, A.portB, C.portB, D.leaf, kw, ew, sw, tw, a_, b_, c_, -List.set_cons_succ, -List.set_cons_zero, A.ok, A.val, d_, e_, f_, g_, h_, i_, j_, k_, l_, m_, unA, unD, n_, AOp.total, o_, p_, q_, r_, s_, t_, u_, v_, A.thaw, C.thaw, A.fits, As.fits, C.fits, evs, oks, w_, A.pure, C.pure, A.re, C.re, x_, y_, cut, A.cells, C.rows?, z_, A_, B_, C_, D_, Ob.re, Cs.fits, E_, F_, G_, H_, I_, J_, K_, L_, M_, N_, O_, C.toD, P_, Q_, R_, S_, T_, Obs.fits, U_, eqD, V_, W_, X_, Y_, Z_]
  · refine acalls Try.func25 (by kernel_rfl) ac25_ok fun hf => ?_
    have hl : inR .i64 (l.length : Int) := small_i64 (by omega) (by omega)
    simp -implicitDefEqProofs [ac25, hl, kw, ew, sw, tw, a_, b_, c_, -List.set_cons_succ, -List.set_cons_zero, A.ok, A.val, d_, e_, f_, g_, h_, i_, j_, k_, l_, m_, unA, unD, n_, AOp.total, o_, p_, q_, r_, s_, t_, u_, v_, A.thaw, C.thaw, A.fits, As.fits, C.fits, evs, oks, w_, A.pure, C.pure, A.re, C.re, x_, y_, cut, A.cells, C.rows?, z_, A_, B_, C_, D_, Ob.re, Cs.fits, E_, F_, G_, H_, I_, J_, K_, L_, M_, N_, O_, C.toD, P_, Q_, R_, S_, T_, Obs.fits, U_, eqD, V_, W_, X_, Y_, Z_]
    refine loop_set (σ := Nat) (fun i => [(5, .c (.d (.int .i64 i))), (1, .c (.d (.int .i64 (k + 4 * i))))]) (fun i => [.rows (mixed (mRow k) (l.map Ins.row) i)]) (fun _ => []) (fun i => i ≤ l.length) (fun i => l.length - i) 0 (by simp [setAll, mixed_zero]) (Nat.zero_le _) ?_
    intro i hi
    simp -implicitDefEqProofs [setAll, hl, kw, ew, sw, tw, a_, b_, c_, -List.set_cons_succ, -List.set_cons_zero, A.ok, A.val, d_, e_, f_, g_, h_, i_, j_, k_, l_, m_, unA, unD, n_, AOp.total, o_, p_, q_, r_, s_, t_, u_, v_, A.thaw, C.thaw, A.fits, As.fits, C.fits, evs, oks, w_, A.pure, C.pure, A.re, C.re, x_, y_, cut, A.cells, C.rows?, z_, A_, B_, C_, D_, Ob.re, Cs.fits, E_, F_, G_, H_, I_, J_, K_, L_, M_, N_, O_, C.toD, P_, Q_, R_, S_, T_, Obs.fits, U_, eqD, V_, W_, X_, Y_, Z_]
    refine ⟨fun hlt => ?_, fun hge => ?_⟩
    · have hadd : inR .i64 ((i : Int) + 1) := small_i64 (by omega) (by omega)
      have had1 : inR .i64 (k + 4 * i + 1) := small_i64 (by omega) (by omega)
      have had2 : inR .i64 (k + 4 * i + 1 + 1) := small_i64 (by omega) (by omega)
      have had3 : inR .i64 (k + 4 * i + 1 + 1 + 1) := small_i64 (by omega) (by omega)
      have had4 : inR .i64 (k + 4 * i + 1 + 1 + 1 + 1) := small_i64 (by omega) (by omega)
      have hlt' : i < (l.map Ins.row).length := by rw [hlen]; exact hlt
      have hml := mixed_len (mRow k) (l.map Ins.row) (i := i) (by omega)
      rw [hlen] at hml
      have hget : (mixed (mRow k) (l.map Ins.row) i)[i]? = some l[i].row := by rw [mixed_get _ _ hlt']; simp
      have hmi : i < (mixed (mRow k) (l.map Ins.row) i).length := by omega
      refine ⟨hlt, ?_⟩
      generalize hX : mixed (mRow k) (l.map Ins.row) i = X at *
      have hs := fun x => mixed_setx (mRow k) (l.map Ins.row) hlt' x
      rw [hX] at hs
      have e1 : ∀ r r' : List D, (X.set i r).set i r' = X.set i r' := fun r r' => by simp
      have e2 : ∀ r : List D, (X.set i r)[i]? = some r := fun r => by rw [List.getElem?_set_self (by omega)]
      simp -implicitDefEqProofs [hget, hadd, had1, had2, had3, had4, Ins.row, kw, ew, sw, tw, a_, b_, c_, -List.set_cons_succ, -List.set_cons_zero, A.ok, A.val, d_, e_, f_, g_, h_, i_, j_, k_, l_, m_, unA, unD, n_, AOp.total, o_, p_, q_, r_, s_, t_, u_, v_, A.thaw, C.thaw, A.fits, As.fits, C.fits, evs, oks, w_, A.pure, C.pure, A.re, C.re, x_, y_, cut, A.cells, C.rows?, z_, A_, B_, C_, D_, Ob.re, Cs.fits, E_, F_, G_, H_, I_, J_, K_, L_, M_, N_, O_, C.toD, P_, Q_, R_, S_, T_, Obs.fits, U_, eqD, V_, W_, X_, Y_, Z_]
      refine ⟨trivial, hlt, ?_⟩
      simp -implicitDefEqProofs [e2, hadd, had1, had2, had3, had4, kw, ew, sw, tw, a_, b_, c_, -List.set_cons_succ, -List.set_cons_zero, A.ok, A.val, d_, e_, f_, g_, h_, i_, j_, k_, l_, m_, unA, unD, n_, AOp.total, o_, p_, q_, r_, s_, t_, u_, v_, A.thaw, C.thaw, A.fits, As.fits, C.fits, evs, oks, w_, A.pure, C.pure, A.re, C.re, x_, y_, cut, A.cells, C.rows?, z_, A_, B_, C_, D_, Ob.re, Cs.fits, E_, F_, G_, H_, I_, J_, K_, L_, M_, N_, O_, C.toD, P_, Q_, R_, S_, T_, Obs.fits, U_, eqD, V_, W_, X_, Y_, Z_]
      refine ⟨trivial, hlt, trivial, ?_⟩
      refine qcall_pure (markText_calls (k + 4 * i + 1 + 1 + 1) (by omega)) ⟨trivial, trivial⟩ rfl ?_
      simp -implicitDefEqProofs [e2, hadd, had1, had2, had3, had4, kw, ew, sw, tw, a_, b_, c_, -List.set_cons_succ, -List.set_cons_zero, A.ok, A.val, d_, e_, f_, g_, h_, i_, j_, k_, l_, m_, unA, unD, n_, AOp.total, o_, p_, q_, r_, s_, t_, u_, v_, A.thaw, C.thaw, A.fits, As.fits, C.fits, evs, oks, w_, A.pure, C.pure, A.re, C.re, x_, y_, cut, A.cells, C.rows?, z_, A_, B_, C_, D_, Ob.re, Cs.fits, E_, F_, G_, H_, I_, J_, K_, L_, M_, N_, O_, C.toD, P_, Q_, R_, S_, T_, Obs.fits, U_, eqD, V_, W_, X_, Y_, Z_]
      refine ⟨hlt, trivial, loop_back (i + 1) ?_ hlt (by show l.length - (i + 1) < l.length - i; omega)⟩
      have e3 : k + 4 * ((i : Int) + 1) = k + 4 * i + 1 + 1 + 1 + 1 := by omega
      have e4 : k + 4 * (i : Int) + 1 + 1 = k + 4 * i + 2 := by omega
      have e5 : k + 4 * (i : Int) + 1 + 1 + 1 = k + 4 * i + 3 := by omega
      have e6 := hs _ rfl
      simp only [mRow] at e6
      rw [e5, e4, e6]
      simp [setAll]
      omega
    · obtain rfl : i = l.length := by omega
      refine ⟨mIns k l.length, ?_, mIns_len _ _, ?_, ?_, rfl, rfl, rfl⟩
      · intro x hx
        simp only [mIns, List.mem_flatten, List.mem_map] at hx
        obtain ⟨r, ⟨b, _, rfl⟩, hx⟩ := hx
        simp [mRow] at hx
        rcases hx with rfl | rfl | rfl | rfl <;> rfl
      · intro r hr
        obtain ⟨b, _, rfl⟩ := List.mem_map.1 hr
        rfl
      · have := mixed_all (mRow k) (l.map Ins.row)
        rw [hlen] at this
        exact this
theorem heldInstrS_calls (n : Nat) (k : Int) (h0 : 0 ≤ k) (h1 : k + 4 * n ≤ 500000000000000) (H : Heap) : ACalls Try.prog 26 [.c (.d (.sl (mIns k n))), .c (.d (.int .i64 k))] H
    (fun r H' => H' = H ∧ r = .c (.d (.int .i64 (k + 4 * n)))) := by
  refine acalls Try.func26 (by kernel_rfl) ac26_ok fun hf => ?_
  have hl : inR .i64 (n : Int) := small_i64 (by omega) (by omega)
  simp -implicitDefEqProofs [ac26, hl, mIns_len, kw, ew, sw, tw, a_, b_, c_, -List.set_cons_succ, -List.set_cons_zero, A.ok, A.val, d_, e_, f_, g_, h_, i_, j_, k_, l_, m_, unA, unD, n_, AOp.total, o_, p_, q_, r_, s_, t_, u_, v_, A.thaw, C.thaw, A.fits, As.fits, C.fits, evs, oks, w_, A.pure, C.pure, A.re, C.re, x_, y_, cut, A.cells, C.rows?, z_, A_, B_, C_, D_, Ob.re, Cs.fits, E_, F_, G_, H_, I_, J_, K_, L_, M_, N_, O_, C.toD, P_, Q_, R_, S_, T_, Obs.fits, U_, eqD, V_, W_, X_, Y_, Z_]
  refine loop_set (σ := Nat) (fun i => [(5, .c (.d (.int .i64 i))), (1, .c (.d (.int .i64 (k + 4 * i))))]) (fun i => H) (fun _ => []) (fun i => i ≤ n) (fun i => n - i) 0 (by simp [setAll]) (Nat.zero_le _) ?_
  intro i hi
  simp -implicitDefEqProofs [setAll, hl, mIns_len, kw, ew, sw, tw, a_, b_, c_, -List.set_cons_succ, -List.set_cons_zero, A.ok, A.val, d_, e_, f_, g_, h_, i_, j_, k_, l_, m_, unA, unD, n_, AOp.total, o_, p_, q_, r_, s_, t_, u_, v_, A.thaw, C.thaw, A.fits, As.fits, C.fits, evs, oks, w_, A.pure, C.pure, A.re, C.re, x_, y_, cut, A.cells, C.rows?, z_, A_, B_, C_, D_, Ob.re, Cs.fits, E_, F_, G_, H_, I_, J_, K_, L_, M_, N_, O_, C.toD, P_, Q_, R_, S_, T_, Obs.fits, U_, eqD, V_, W_, X_, Y_, Z_]
  refine ⟨fun hlt => ?_, fun hge => ?_⟩
  · have hadd : inR .i64 ((i : Int) + 1) := small_i64 (by omega) (by omega)
    have had1 : inR .i64 (k + 4 * i + 1) := small_i64 (by omega) (by omega)
    have had2 : inR .i64 (k + 4 * i + 1 + 1) := small_i64 (by omega) (by omega)
    have had3 : inR .i64 (k + 4 * i + 1 + 1 + 1) := small_i64 (by omega) (by omega)
    have had4 : inR .i64 (k + 4 * i + 1 + 1 + 1 + 1) := small_i64 (by omega) (by omega)
    have e4 : k + 4 * (i : Int) + 2 = k + 4 * i + 1 + 1 := by omega
    have e5 : k + 4 * (i : Int) + 3 = k + 4 * i + 1 + 1 + 1 := by omega
    have hrow : (mIns k n)[i]? = some [.int .i64 (k + 4 * i), .int .i64 (k + 4 * i + 1), .int .i64 (k + 4 * i + 1 + 1), .str (mText (k + 4 * i + 1 + 1 + 1))] := by
      rw [← e5, ← e4]
      exact range_row (f := mRow k) hlt
    refine row_nat _ hrow rfl ?_
    simp -implicitDefEqProofs [hadd, had1, kw, ew, sw, tw, a_, b_, c_, -List.set_cons_succ, -List.set_cons_zero, A.ok, A.val, d_, e_, f_, g_, h_, i_, j_, k_, l_, m_, unA, unD, n_, AOp.total, o_, p_, q_, r_, s_, t_, u_, v_, A.thaw, C.thaw, A.fits, As.fits, C.fits, evs, oks, w_, A.pure, C.pure, A.re, C.re, x_, y_, cut, A.cells, C.rows?, z_, A_, B_, C_, D_, Ob.re, Cs.fits, E_, F_, G_, H_, I_, J_, K_, L_, M_, N_, O_, C.toD, P_, Q_, R_, S_, T_, Obs.fits, U_, eqD, V_, W_, X_, Y_, Z_]
    refine row_nat _ hrow rfl ?_
    simp -implicitDefEqProofs [hadd, had1, had2, kw, ew, sw, tw, a_, b_, c_, -List.set_cons_succ, -List.set_cons_zero, A.ok, A.val, d_, e_, f_, g_, h_, i_, j_, k_, l_, m_, unA, unD, n_, AOp.total, o_, p_, q_, r_, s_, t_, u_, v_, A.thaw, C.thaw, A.fits, As.fits, C.fits, evs, oks, w_, A.pure, C.pure, A.re, C.re, x_, y_, cut, A.cells, C.rows?, z_, A_, B_, C_, D_, Ob.re, Cs.fits, E_, F_, G_, H_, I_, J_, K_, L_, M_, N_, O_, C.toD, P_, Q_, R_, S_, T_, Obs.fits, U_, eqD, V_, W_, X_, Y_, Z_]
    refine row_nat _ hrow rfl ?_
    simp -implicitDefEqProofs [hadd, had1, had2, had3, kw, ew, sw, tw, a_, b_, c_, -List.set_cons_succ, -List.set_cons_zero, A.ok, A.val, d_, e_, f_, g_, h_, i_, j_, k_, l_, m_, unA, unD, n_, AOp.total, o_, p_, q_, r_, s_, t_, u_, v_, A.thaw, C.thaw, A.fits, As.fits, C.fits, evs, oks, w_, A.pure, C.pure, A.re, C.re, x_, y_, cut, A.cells, C.rows?, z_, A_, B_, C_, D_, Ob.re, Cs.fits, E_, F_, G_, H_, I_, J_, K_, L_, M_, N_, O_, C.toD, P_, Q_, R_, S_, T_, Obs.fits, U_, eqD, V_, W_, X_, Y_, Z_]
    refine row_nat _ hrow rfl ?_
    simp -implicitDefEqProofs [kw, ew, sw, tw, a_, b_, c_, -List.set_cons_succ, -List.set_cons_zero, A.ok, A.val, d_, e_, f_, g_, h_, i_, j_, k_, l_, m_, unA, unD, n_, AOp.total, o_, p_, q_, r_, s_, t_, u_, v_, A.thaw, C.thaw, A.fits, As.fits, C.fits, evs, oks, w_, A.pure, C.pure, A.re, C.re, x_, y_, cut, A.cells, C.rows?, z_, A_, B_, C_, D_, Ob.re, Cs.fits, E_, F_, G_, H_, I_, J_, K_, L_, M_, N_, O_, C.toD, P_, Q_, R_, S_, T_, Obs.fits, U_, eqD, V_, W_, X_, Y_, Z_]
    refine qcall_pure (markText_calls (k + 4 * i + 1 + 1 + 1) (by omega)) hf rfl ?_
    simp -implicitDefEqProofs [hadd, had4, kw, ew, sw, tw, a_, b_, c_, -List.set_cons_succ, -List.set_cons_zero, A.ok, A.val, d_, e_, f_, g_, h_, i_, j_, k_, l_, m_, unA, unD, n_, AOp.total, o_, p_, q_, r_, s_, t_, u_, v_, A.thaw, C.thaw, A.fits, As.fits, C.fits, evs, oks, w_, A.pure, C.pure, A.re, C.re, x_, y_, cut, A.cells, C.rows?, z_, A_, B_, C_, D_, Ob.re, Cs.fits, E_, F_, G_, H_, I_, J_, K_, L_, M_, N_, O_, C.toD, P_, Q_, R_, S_, T_, Obs.fits, U_, eqD, V_, W_, X_, Y_, Z_]
    exact loop_back (i + 1) (by simp [setAll]; omega) hlt (by show n - (i + 1) < n - i; omega)
  · obtain rfl : i = n := by omega
    rfl
end Go.Proofs.Ytaegeehpajlebaa
