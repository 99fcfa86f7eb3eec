/-
  Clauses as data: what the laws' sizes, copies and comparisons of clauses answer, and ClauseSame.
  Conditions: none.
-/
import Derived.Test.YtaegeehpajlebaaTermTy
open Go Go.AM Go.Proofs
namespace Go.Proofs.Ytaegeehpajlebaa
open Go.ChangeShapes Go.WideShapes Go.ChangeAt Go.RowKit
set_option linter.unusedVariables false
set_option linter.unusedSimpArgs false
set_option maxRecDepth 100000
-- 33 loop.example/prologserver/laws.szClauseS params 2 ntmps 27
-- loop head live: [0, 1, 5]
def ac33 : Cd := .seq (.region [⟨(some 4), .mv (.k (.c (.d (.int .i64 0)))), none⟩] [4])
  (.seq (.region [⟨(some 6), .mv (.t 1), none⟩,
      ⟨(some 7), .mv (.t 0), none⟩,
      ⟨(some 8), .len 1 (.t 7), none⟩,
      ⟨(some 9), .bin .sub (.t 6) (.t 8), none⟩,
      ⟨(some 1), .mv (.t 9), none⟩] [6, 7, 8, 9])
  (.seq (.seq (.region [⟨(some 10), .mv (.t 1), none⟩,
        ⟨(some 11), .bin .lss (.t 10) (.k (.c (.d (.int .i64 0)))), none⟩] [10])
    (.cond (.t 11)
      (.seq (.region [⟨(some 4), .mv (.k (.c (.d (.int .i64 (-1))))), none⟩] [0, 1, 11])
      (.ret))
      (.skip)))
  (.seq (.seq (.region [⟨(some 5), .mv (.k (.c (.d (.int .i64 0)))), none⟩] [4, 11])
    (.block 0 (.loop (.seq (.seq (.region [⟨(some 12), .mv (.t 5), none⟩,
              ⟨(some 13), .mv (.t 0), none⟩,
              ⟨(some 14), .len 1 (.t 13), none⟩,
              ⟨(some 15), .bin .lss (.t 12) (.t 14), none⟩] [12, 13, 14])
          (.cond (.t 15)
            (.skip)
            (.exit 0)))
        (.seq (.block 1 (.seq (.region [⟨(some 18), .mv (.t 0), none⟩,
                ⟨(some 19), .mv (.t 5), none⟩,
                ⟨(some 20), .indexAddr 5 (.t 18) (.t 19), none⟩,
                ⟨(some 21), .load (some 5) (.t 20), none⟩,
                ⟨(some 22), .mv (.t 1), none⟩,
                ⟨(some 23), .call false 27 [(.t 21), (.t 22)], none⟩,
                ⟨(some 1), .mv (.t 23), none⟩] [15, 18, 19, 20, 21, 22, 23])
            (.seq (.region [⟨(some 24), .mv (.t 1), none⟩,
                ⟨(some 25), .bin .lss (.t 24) (.k (.c (.d (.int .i64 0)))), none⟩] [24])
            (.cond (.t 25)
              (.seq (.region [⟨(some 4), .mv (.k (.c (.d (.int .i64 (-1))))), none⟩] [0, 1, 5, 25])
              (.ret))
              (.skip)))))
        (.region [⟨(some 16), .mv (.t 5), none⟩,
          ⟨(some 17), .bin .add (.t 16) (.k (.c (.d (.int .i64 1)))), none⟩,
          ⟨(some 5), .mv (.t 17), none⟩] [4, 16, 17, 25]))))))
  (.seq (.region [⟨(some 26), .mv (.t 1), none⟩,
      ⟨(some 4), .mv (.t 26), none⟩] [1, 26])
  (.ret)))))
theorem ac33_ok : cFunc Try.prog [] [(0, [4], []), (1, [6, 7, 8, 9], []), (2, [10], []), (3, [0, 1, 11], []), (4, [4, 11], []), (5, [12, 13, 14], []), (7, [15, 18, 19, 20, 21, 22, 23], []), (8, [24], []), (9, [0, 1, 5, 25], []), (6, [4, 16, 17, 25], []), (10, [1, 26], [])] Try.f33 = some (ac33, [.tmp 4], 27) := by kernel_rfl
-- 27 loop.example/prologserver/laws.szClause params 2 ntmps 18
def ac27 : Cd := .seq (.region [⟨(some 2), .box (.t 0), none⟩,
      ⟨(some 4), .mv (.k (.c (.d (.int .i64 0)))), none⟩] [0, 4])
  (.seq (.region [⟨(some 5), .fieldAddr 0 (.t 2), none⟩,
      ⟨(some 6), .load (some 4) (.t 5), none⟩,
      ⟨(some 7), .mv (.t 1), none⟩,
      ⟨(some 8), .call false 7 [(.t 6), (.t 7)], none⟩,
      ⟨(some 1), .mv (.t 8), none⟩] [5, 6, 7, 8])
  (.seq (.seq (.region [⟨(some 9), .mv (.t 1), none⟩,
        ⟨(some 10), .bin .lss (.t 9) (.k (.c (.d (.int .i64 0)))), none⟩] [9])
    (.cond (.t 10)
      (.seq (.region [⟨(some 4), .mv (.k (.c (.d (.int .i64 (-1))))), none⟩] [1, 2, 10])
      (.ret))
      (.skip)))
  (.seq (.region [⟨(some 11), .fieldAddr 4 (.t 2), none⟩,
      ⟨(some 12), .load none (.t 11), none⟩,
      ⟨(some 13), .mv (.t 1), none⟩,
      ⟨(some 14), .call false 18 [(.t 12), (.t 13)], none⟩,
      ⟨(some 1), .mv (.t 14), none⟩] [2, 4, 10, 11, 12, 13, 14])
  (.seq (.seq (.region [⟨(some 15), .mv (.t 1), none⟩,
        ⟨(some 16), .bin .lss (.t 15) (.k (.c (.d (.int .i64 0)))), none⟩] [15])
    (.cond (.t 16)
      (.seq (.region [⟨(some 4), .mv (.k (.c (.d (.int .i64 (-1))))), none⟩] [1, 16])
      (.ret))
      (.skip)))
  (.seq (.region [⟨(some 17), .mv (.t 1), none⟩,
      ⟨(some 4), .mv (.t 17), none⟩] [1, 16, 17])
  (.ret))))))
theorem ac27_ok : cFunc Try.prog [] [(0, [0, 4], []), (1, [5, 6, 7, 8], []), (2, [9], []), (3, [1, 2, 10], []), (4, [2, 4, 10, 11, 12, 13, 14], []), (5, [15], []), (6, [1, 16], []), (7, [1, 16, 17], [])] Try.f27 = some (ac27, [.tmp 4], 18) := by kernel_rfl
-- 35 loop.example/prologserver/laws.toClauseS params 1 ntmps 23
-- loop head live: [0, 3, 4]
def ac35 : Cd := .seq (.region [⟨(some 2), .mv (.k (.c (.full []))), none⟩] [2])
  (.seq (.region [⟨(some 5), .mv (.t 0), none⟩,
      ⟨(some 6), .len 1 (.t 5), none⟩,
      ⟨(some 7), .mkSlice [(.int .i64 0), (.int .i64 0), (.str []), (.sl []), (.sl [])] (.t 6), none⟩,
      ⟨(some 3), .mv (.t 7), none⟩] [5, 6, 7])
  (.seq (.seq (.region [⟨(some 4), .mv (.k (.c (.d (.int .i64 0)))), none⟩] [])
    (.block 0 (.loop (.seq (.seq (.region [⟨(some 8), .mv (.t 4), none⟩,
              ⟨(some 9), .mv (.t 0), none⟩,
              ⟨(some 10), .len 1 (.t 9), none⟩,
              ⟨(some 11), .bin .lss (.t 8) (.t 10), none⟩] [8, 9, 10])
          (.cond (.t 11)
            (.skip)
            (.exit 0)))
        (.seq (.block 1 (.region [⟨(some 14), .mv (.t 3), none⟩,
              ⟨(some 15), .mv (.t 4), none⟩,
              ⟨(some 16), .mv (.t 0), none⟩,
              ⟨(some 17), .mv (.t 4), none⟩,
              ⟨(some 18), .indexAddr 5 (.t 16) (.t 17), none⟩,
              ⟨(some 19), .load (some 5) (.t 18), none⟩,
              ⟨(some 20), .qcall 29 [(.t 19)], none⟩,
              ⟨(some 21), .indexAddr 5 (.t 14) (.t 15), none⟩,
              ⟨none, .store 5 (.t 21) (.t 20), none⟩] [11, 14, 15, 16, 17, 18, 19, 20, 21]))
        (.region [⟨(some 12), .mv (.t 4), none⟩,
          ⟨(some 13), .bin .add (.t 12) (.k (.c (.d (.int .i64 1)))), none⟩,
          ⟨(some 4), .mv (.t 13), none⟩] [12, 13]))))))
  (.seq (.region [⟨(some 22), .mv (.t 3), none⟩,
      ⟨(some 2), .mv (.t 22), none⟩] [3, 22])
  (.ret))))
theorem ac35_ok : cFunc Try.prog [1000029] [(0, [2], []), (1, [5, 6, 7], []), (2, [], []), (3, [8, 9, 10], []), (5, [11, 14, 15, 16, 17, 18, 19, 20, 21], []), (4, [12, 13], []), (6, [3, 22], [])] Try.f35 = some (ac35, [.tmp 2], 23) := by kernel_rfl
-- 29 loop.example/prologserver/laws.toClause params 1 ntmps 13
def ac29 : Cd := .seq (.region [⟨(some 1), .box (.t 0), none⟩,
      ⟨(some 2), .alloc [(.d (.int .i64 0)), (.d (.int .i64 0)), (.d (.str [])), (.full []), (.full [])], none⟩] [0])
  (.seq (.region [⟨(some 3), .alloc [(.d (.int .i64 0)), (.d (.int .i64 0)), (.d (.str [])), (.full []), (.full [])], none⟩] [])
  (.seq (.region [⟨(some 4), .fieldAddr 0 (.t 1), none⟩,
      ⟨(some 5), .load (some 4) (.t 4), none⟩,
      ⟨(some 6), .qcall 10 [(.t 5)], none⟩,
      ⟨(some 7), .fieldAddr 0 (.t 3), none⟩,
      ⟨none, .store 4 (.t 7) (.t 6), none⟩] [4, 5, 6, 7])
  (.seq (.region [⟨(some 8), .fieldAddr 4 (.t 1), none⟩,
      ⟨(some 9), .load none (.t 8), none⟩,
      ⟨(some 10), .qcall 20 [(.t 9)], none⟩,
      ⟨(some 11), .fieldAddr 4 (.t 3), none⟩,
      ⟨none, .store 1 (.t 11) (.t 10), none⟩] [1, 8, 9, 10, 11])
  (.seq (.region [⟨(some 12), .load (some 5) (.t 3), none⟩,
      ⟨none, .store 5 (.t 2) (.t 12), none⟩] [3, 12])
  (.ret)))))
theorem ac29_ok : cFunc Try.prog [1000010, 1000020] [(0, [0], []), (1, [], []), (2, [4, 5, 6, 7], []), (3, [1, 8, 9, 10, 11], []), (4, [3, 12], [])] Try.f29 = some (ac29, [.cell 2 (some 5)], 13) := by kernel_rfl
-- 38 loop.example/prologserver/laws.eqClauseS params 2 ntmps 27
-- loop head live: [0, 1, 5]
def ac38 : Cd := .seq (.region [⟨(some 4), .mv (.k (.c (.d (.bool false)))), none⟩] [4])
  (.seq (.seq (.region [⟨(some 6), .mv (.t 0), none⟩,
        ⟨(some 7), .len 1 (.t 6), none⟩,
        ⟨(some 8), .mv (.t 1), none⟩,
        ⟨(some 9), .len 1 (.t 8), none⟩,
        ⟨(some 10), .bin .neq (.t 7) (.t 9), none⟩] [6, 7, 8, 9])
    (.cond (.t 10)
      (.seq (.region [⟨(some 4), .mv (.k (.c (.d (.bool false)))), none⟩] [0, 1, 10])
      (.ret))
      (.skip)))
  (.seq (.seq (.region [⟨(some 5), .mv (.k (.c (.d (.int .i64 0)))), none⟩] [4, 10])
    (.block 0 (.loop (.seq (.seq (.region [⟨(some 11), .mv (.t 5), none⟩,
              ⟨(some 12), .mv (.t 0), none⟩,
              ⟨(some 13), .len 1 (.t 12), none⟩,
              ⟨(some 14), .bin .lss (.t 11) (.t 13), none⟩] [11, 12, 13])
          (.cond (.t 14)
            (.skip)
            (.exit 0)))
        (.seq (.block 1 (.seq (.region [⟨(some 17), .mv (.t 0), none⟩,
                ⟨(some 18), .mv (.t 5), none⟩,
                ⟨(some 19), .indexAddr 5 (.t 17) (.t 18), none⟩,
                ⟨(some 21), .mv (.t 1), none⟩,
                ⟨(some 22), .mv (.t 5), none⟩,
                ⟨(some 23), .indexAddr 5 (.t 21) (.t 22), none⟩,
                ⟨(some 20), .load (some 5) (.t 19), none⟩,
                ⟨(some 24), .load (some 5) (.t 23), none⟩,
                ⟨(some 25), .qcall 31 [(.t 20), (.t 24)], none⟩,
                ⟨(some 26), .un .not (.t 25), none⟩] [14, 17, 18, 19, 20, 21, 22, 23, 24, 25])
            (.cond (.t 26)
              (.seq (.region [⟨(some 4), .mv (.k (.c (.d (.bool false)))), none⟩] [0, 1, 5, 26])
              (.ret))
              (.skip))))
        (.region [⟨(some 15), .mv (.t 5), none⟩,
          ⟨(some 16), .bin .add (.t 15) (.k (.c (.d (.int .i64 1)))), none⟩,
          ⟨(some 5), .mv (.t 16), none⟩] [4, 15, 16, 26]))))))
  (.seq (.region [⟨(some 4), .mv (.k (.c (.d (.bool true)))), none⟩] [])
  (.ret))))
theorem ac38_ok : cFunc Try.prog [1000031] [(0, [4], []), (1, [6, 7, 8, 9], []), (2, [0, 1, 10], []), (3, [4, 10], []), (4, [11, 12, 13], []), (6, [14, 17, 18, 19, 20, 21, 22, 23, 24, 25], [0, 1, 2, 4, 5, 6, 3, 7, 8, 9]), (7, [0, 1, 5, 26], []), (5, [4, 15, 16, 26], []), (8, [], [])] Try.f38 = some (ac38, [.tmp 4], 27) := by kernel_rfl
-- 31 loop.example/prologserver/laws.eqClause params 2 ntmps 17
def ac31 : Cd := .seq (.region [⟨(some 2), .box (.t 0), none⟩,
      ⟨(some 3), .box (.t 1), none⟩,
      ⟨(some 4), .mv (.k (.c (.d (.bool false)))), none⟩] [0, 1, 4])
  (.seq (.seq (.region [⟨(some 5), .fieldAddr 0 (.t 2), none⟩,
        ⟨(some 6), .load (some 4) (.t 5), none⟩,
        ⟨(some 7), .fieldAddr 0 (.t 3), none⟩,
        ⟨(some 8), .load (some 4) (.t 7), none⟩,
        ⟨(some 9), .qcall 13 [(.t 6), (.t 8)], none⟩,
        ⟨(some 10), .un .not (.t 9), none⟩] [5, 6, 7, 8, 9])
    (.cond (.t 10)
      (.seq (.region [⟨(some 4), .mv (.k (.c (.d (.bool false)))), none⟩] [2, 3, 10])
      (.ret))
      (.skip)))
  (.seq (.seq (.region [⟨(some 11), .fieldAddr 4 (.t 2), none⟩,
        ⟨(some 12), .load none (.t 11), none⟩,
        ⟨(some 13), .fieldAddr 4 (.t 3), none⟩,
        ⟨(some 14), .load none (.t 13), none⟩,
        ⟨(some 15), .qcall 23 [(.t 12), (.t 14)], none⟩,
        ⟨(some 16), .un .not (.t 15), none⟩] [2, 3, 4, 10, 11, 12, 13, 14, 15])
    (.cond (.t 16)
      (.seq (.region [⟨(some 4), .mv (.k (.c (.d (.bool false)))), none⟩] [16])
      (.ret))
      (.skip)))
  (.seq (.region [⟨(some 4), .mv (.k (.c (.d (.bool true)))), none⟩] [16])
  (.ret))))
theorem ac31_ok : cFunc Try.prog [1000013, 1000023] [(0, [0, 1, 4], []), (1, [5, 6, 7, 8, 9], []), (2, [2, 3, 10], []), (3, [2, 3, 4, 10, 11, 12, 13, 14, 15], []), (4, [16], []), (5, [16], [])] Try.f31 = some (ac31, [.tmp 4], 17) := by kernel_rfl
/-- a clause -/
structure Cl where
  head : Tm
  body : List Tm
noncomputable instance : DecidableEq Cl := fun a b => Classical.propDecidable (a = b)
def Cl.row (c : Cl) : List D := [.int .i64 c.head.k, .int .i64 c.head.n, .str c.head.s, .sl (c.head.kids.map Tm.row), .sl (c.body.map Tm.row)]
theorem crow_len (c : Cl) : c.row.length = 5 := rfl
theorem take_crow (c : Cl) : List.take 5 (List.map C.d c.row) = List.map C.d c.row := List.take_of_length_le (by simp [crow_len])
structure Cl.fine (c : Cl) : Prop where
  head : c.head.fine
  len : c.body.length ≤ reachBytes
  body : ∀ t ∈ c.body, t.fine
structure Cl.fits (c : Cl) : Prop where
  head : c.head.fits
  len : c.body.length ≤ 1048576
  body : ∀ t ∈ c.body, t.fits
def SzC (t : Cl) : Prop := ∀ (m : Int), 0 ≤ m → m ≤ 1048576 → ∀ H, ACalls Try.prog 27 [.agg (t.row.map .d), .c (.d (.int .i64 m))] H (fun r H' => H' = H ∧ Left m t.fits r)
theorem szClauseS_of (l : List Cl) (hl : l.length ≤ reachBytes) (h : ∀ t ∈ l, SzC t) (m : Int) (h0 : 0 ≤ m) (h1 : m ≤ 1048576) (H : Heap) :
    ACalls Try.prog 33 [.c (.d (.sl (l.map Cl.row))), .c (.d (.int .i64 m))] H (fun r H' => H' = H ∧ Left m (l.length ≤ 1048576 ∧ ∀ t ∈ l, Cl.fits t) r) := by
  refine acalls Try.func33 (by kernel_rfl) ac33_ok fun hf => ?_
  have hlen := reach_i64 hl
  have hsm := reach_small hl
  have hsub : inR .i64 (m - (l.length : Int)) := small_i64 (by omega) (by omega)
  simp -implicitDefEqProofs [ac33, hlen, hsub, kw, ew, sw, tw, a_, b_, c_, -List.set_cons_succ, -List.set_cons_zero, A.ok, A.val, d_, e_, f_, g_, h_, i_, j_, k_, l_, m_, unA, unD, n_, AOp.total, o_, p_, q_, r_, s_, t_, u_, v_, A.thaw, C.thaw, A.fits, As.fits, C.fits, evs, oks, w_, A.pure, C.pure, A.re, C.re, x_, y_, cut, A.cells, C.rows?, z_, A_, B_, C_, D_, Ob.re, Cs.fits, E_, F_, G_, H_, I_, J_, K_, L_, M_, N_, O_, C.toD, P_, Q_, R_, S_, T_, Obs.fits, U_, eqD, V_, W_, X_, Y_, Z_]
  refine ⟨fun _ => ⟨-1, rfl, by omega, by omega, fun h => by omega⟩, fun hge => ?_⟩
  have hsmall : l.length ≤ 1048576 := by omega
  refine loop_set (σ := Nat × Int) (fun x => [(5, .c (.d (.int .i64 x.1))), (1, .c (.d (.int .i64 x.2)))]) (fun _ => H) (fun _ => []) (fun x => x.1 ≤ l.length ∧ 0 ≤ x.2 ∧ x.2 ≤ m ∧ ∀ t ∈ l.take x.1, Cl.fits t) (fun x => l.length - x.1) (0, m - l.length) rfl ⟨Nat.zero_le _, by simp; omega, by simp; omega, by simp⟩ ?_
  rintro ⟨i, k⟩ ⟨hi, hm0, hm1, hall⟩
  simp only at hi hm0 hm1 hall
  simp -implicitDefEqProofs [setAll, hlen, kw, ew, sw, tw, a_, b_, c_, -List.set_cons_succ, -List.set_cons_zero, A.ok, A.val, d_, e_, f_, g_, h_, i_, j_, k_, l_, m_, unA, unD, n_, AOp.total, o_, p_, q_, r_, s_, t_, u_, v_, A.thaw, C.thaw, A.fits, As.fits, C.fits, evs, oks, w_, A.pure, C.pure, A.re, C.re, x_, y_, cut, A.cells, C.rows?, z_, A_, B_, C_, D_, Ob.re, Cs.fits, E_, F_, G_, H_, I_, J_, K_, L_, M_, N_, O_, C.toD, P_, Q_, R_, S_, T_, Obs.fits, U_, eqD, V_, W_, X_, Y_, Z_]
  refine ⟨fun hlt => ?_, fun hge => ⟨k, rfl, by omega, hm1, fun _ => ⟨hsmall, by rw [List.take_of_length_le hge] at hall; exact hall⟩⟩⟩
  refine row_of hlt (crow_len _) ?_
  simp -implicitDefEqProofs [crow_len, take_crow, pure_d, re_d, kw, ew, sw, tw, a_, b_, c_, -List.set_cons_succ, -List.set_cons_zero, A.ok, A.val, d_, e_, f_, g_, h_, i_, j_, k_, l_, m_, unA, unD, n_, AOp.total, o_, p_, q_, r_, s_, t_, u_, v_, A.thaw, C.thaw, A.fits, As.fits, C.fits, evs, oks, w_, A.pure, C.pure, A.re, C.re, x_, y_, cut, A.cells, C.rows?, z_, A_, B_, C_, D_, Ob.re, Cs.fits, E_, F_, G_, H_, I_, J_, K_, L_, M_, N_, O_, C.toD, P_, Q_, R_, S_, T_, Obs.fits, U_, eqD, V_, W_, X_, Y_, Z_]
  refine call_some (h l[i] (List.getElem_mem hlt) k hm0 (by omega) _) (by simp) (fun r => Left.re) hf ?_
  rintro _ ⟨q, rfl, hq0, hq1, hq2⟩
  have hadd : inR .i64 ((i : Int) + 1) := small_i64 (by omega) (by omega)
  simp -implicitDefEqProofs [hadd, kw, ew, sw, tw, a_, b_, c_, -List.set_cons_succ, -List.set_cons_zero, A.ok, A.val, d_, e_, f_, g_, h_, i_, j_, k_, l_, m_, unA, unD, n_, AOp.total, o_, p_, q_, r_, s_, t_, u_, v_, A.thaw, C.thaw, A.fits, As.fits, C.fits, evs, oks, w_, A.pure, C.pure, A.re, C.re, x_, y_, cut, A.cells, C.rows?, z_, A_, B_, C_, D_, Ob.re, Cs.fits, E_, F_, G_, H_, I_, J_, K_, L_, M_, N_, O_, C.toD, P_, Q_, R_, S_, T_, Obs.fits, U_, eqD, V_, W_, X_, Y_, Z_]
  refine ⟨fun _ => ⟨-1, rfl, by omega, by omega, fun h => by omega⟩, fun hk => ?_⟩
  refine loop_back (i + 1, q) (by simp [setAll]) ⟨hlt, hk, by simp; omega, fun t ht => ?_⟩ (by show l.length - (i + 1) < l.length - i; omega)
  rw [List.take_succ_eq_append_getElem hlt, List.mem_append] at ht
  rcases ht with ht | ht
  · exact hall t ht
  · simp at ht; subst ht; exact hq2 hk

theorem toClauseS_of (l : List Cl) (hl : l.length ≤ 1048576) (h : ∀ t ∈ l, ∀ H, ACalls Try.prog 29 [.agg ((Cl.row t).map .d)] H (fun r H' => H' = H ∧ r = .agg ((Cl.row t).map .d))) (H : Heap) :
    ACalls Try.prog 35 [.c (.d (.sl (l.map Cl.row)))] H (fun r H' => H' = H ∧ r = .c (.d (.sl (l.map Cl.row)))) := by
  refine acalls Try.func35 (by kernel_rfl) ac35_ok fun hf => ?_
  have hli : inR .i64 (l.length : Int) := small_i64 (by omega) (by omega)
  simp -implicitDefEqProofs [ac35, hli, kw, ew, sw, tw, a_, b_, c_, -List.set_cons_succ, -List.set_cons_zero, A.ok, A.val, d_, e_, f_, g_, h_, i_, j_, k_, l_, m_, unA, unD, n_, AOp.total, o_, p_, q_, r_, s_, t_, u_, v_, A.thaw, C.thaw, A.fits, As.fits, C.fits, evs, oks, w_, A.pure, C.pure, A.re, C.re, x_, y_, cut, A.cells, C.rows?, z_, A_, B_, C_, D_, Ob.re, Cs.fits, E_, F_, G_, H_, I_, J_, K_, L_, M_, N_, O_, C.toD, P_, Q_, R_, S_, T_, Obs.fits, U_, eqD, V_, W_, X_, Y_, Z_]
  refine ⟨by unfold maxApp; omega, ?_⟩
  refine loop_set (σ := Nat) (fun i => [(4, .c (.d (.int .i64 i)))]) (fun _ => H) (fun i => [.rows (fill Cl.row [.int .i64 0, .int .i64 0, .str [], .sl [], .sl []] l i)]) (fun i => i ≤ l.length) (fun i => l.length - i) 0 (by simp [setAll, fill_zero]) (Nat.zero_le _) ?_
  intro i hi
  simp -implicitDefEqProofs [setAll, hli, kw, ew, sw, tw, a_, b_, c_, -List.set_cons_succ, -List.set_cons_zero, A.ok, A.val, d_, e_, f_, g_, h_, i_, j_, k_, l_, m_, unA, unD, n_, AOp.total, o_, p_, q_, r_, s_, t_, u_, v_, A.thaw, C.thaw, A.fits, As.fits, C.fits, evs, oks, w_, A.pure, C.pure, A.re, C.re, x_, y_, cut, A.cells, C.rows?, z_, A_, B_, C_, D_, Ob.re, Cs.fits, E_, F_, G_, H_, I_, J_, K_, L_, M_, N_, O_, C.toD, P_, Q_, R_, S_, T_, Obs.fits, U_, eqD, V_, W_, X_, Y_, Z_]
  refine ⟨fun hlt => ?_, fun hge => by rw [show i = l.length by omega, fill_all]⟩
  have hadd : inR .i64 ((i : Int) + 1) := small_i64 (by omega) (by omega)
  refine row_of hlt (crow_len _) ?_
  simp -implicitDefEqProofs [crow_len, take_crow, pure_d, re_d, kw, ew, sw, tw, a_, b_, c_, -List.set_cons_succ, -List.set_cons_zero, A.ok, A.val, d_, e_, f_, g_, h_, i_, j_, k_, l_, m_, unA, unD, n_, AOp.total, o_, p_, q_, r_, s_, t_, u_, v_, A.thaw, C.thaw, A.fits, As.fits, C.fits, evs, oks, w_, A.pure, C.pure, A.re, C.re, x_, y_, cut, A.cells, C.rows?, z_, A_, B_, C_, D_, Ob.re, Cs.fits, E_, F_, G_, H_, I_, J_, K_, L_, M_, N_, O_, C.toD, P_, Q_, R_, S_, T_, Obs.fits, U_, eqD, V_, W_, X_, Y_, Z_]
  refine qcall_pure (h l[i] (List.getElem_mem hlt)) hf (by simp [A.re, re_d]) ?_
  simp -implicitDefEqProofs [hadd, hlt, fill_get _ _ _ hlt, toDs_map, crow_len, kw, ew, sw, tw, a_, b_, c_, -List.set_cons_succ, -List.set_cons_zero, A.ok, A.val, d_, e_, f_, g_, h_, i_, j_, k_, l_, m_, unA, unD, n_, AOp.total, o_, p_, q_, r_, s_, t_, u_, v_, A.thaw, C.thaw, A.fits, As.fits, C.fits, evs, oks, w_, A.pure, C.pure, A.re, C.re, x_, y_, cut, A.cells, C.rows?, z_, A_, B_, C_, D_, Ob.re, Cs.fits, E_, F_, G_, H_, I_, J_, K_, L_, M_, N_, O_, C.toD, P_, Q_, R_, S_, T_, Obs.fits, U_, eqD, V_, W_, X_, Y_, Z_]
  have hset := fill_set Cl.row [.int .i64 0, .int .i64 0, .str [], .sl [], .sl []] l hlt
  exact ⟨hf, loop_back (i + 1) (by simp [setAll]; exact hset) hlt (by show l.length - (i + 1) < l.length - i; omega)⟩

theorem eqClauseS_big (l : List Cl) (hl : l.length ≤ 4294967296) (h : ∀ t ∈ l, ∀ H, ACalls Try.prog 31 [.agg ((Cl.row t).map .d), .agg ((Cl.row t).map .d)] H (fun r H' => H' = H ∧ r = .c (.d (.bool true)))) (H : Heap) :
    ACalls Try.prog 38 [.c (.d (.sl (l.map Cl.row))), .c (.d (.sl (l.map Cl.row)))] H (fun r H' => H' = H ∧ r = .c (.d (.bool true))) := by
  refine acalls Try.func38 (by kernel_rfl) ac38_ok fun hf => ?_
  have hli : inR .i64 (l.length : Int) := small_i64 (by omega) (by omega)
  simp -implicitDefEqProofs [ac38, hli, kw, ew, sw, tw, a_, b_, c_, -List.set_cons_succ, -List.set_cons_zero, A.ok, A.val, d_, e_, f_, g_, h_, i_, j_, k_, l_, m_, unA, unD, n_, AOp.total, o_, p_, q_, r_, s_, t_, u_, v_, A.thaw, C.thaw, A.fits, As.fits, C.fits, evs, oks, w_, A.pure, C.pure, A.re, C.re, x_, y_, cut, A.cells, C.rows?, z_, A_, B_, C_, D_, Ob.re, Cs.fits, E_, F_, G_, H_, I_, J_, K_, L_, M_, N_, O_, C.toD, P_, Q_, R_, S_, T_, Obs.fits, U_, eqD, V_, W_, X_, Y_, Z_]
  refine loop_set (σ := Nat) (fun i => [(5, .c (.d (.int .i64 i)))]) (fun _ => H) (fun _ => []) (fun i => i ≤ l.length) (fun i => l.length - i) 0 rfl (Nat.zero_le _) ?_
  intro i hi
  simp -implicitDefEqProofs [setAll, hli, kw, ew, sw, tw, a_, b_, c_, -List.set_cons_succ, -List.set_cons_zero, A.ok, A.val, d_, e_, f_, g_, h_, i_, j_, k_, l_, m_, unA, unD, n_, AOp.total, o_, p_, q_, r_, s_, t_, u_, v_, A.thaw, C.thaw, A.fits, As.fits, C.fits, evs, oks, w_, A.pure, C.pure, A.re, C.re, x_, y_, cut, A.cells, C.rows?, z_, A_, B_, C_, D_, Ob.re, Cs.fits, E_, F_, G_, H_, I_, J_, K_, L_, M_, N_, O_, C.toD, P_, Q_, R_, S_, T_, Obs.fits, U_, eqD, V_, W_, X_, Y_, Z_]
  intro hlt
  have hadd : inR .i64 ((i : Int) + 1) := small_i64 (by omega) (by omega)
  refine row_of hlt (crow_len _) ?_
  simp -implicitDefEqProofs [crow_len, take_crow, kw, ew, sw, tw, a_, b_, c_, -List.set_cons_succ, -List.set_cons_zero, A.ok, A.val, d_, e_, f_, g_, h_, i_, j_, k_, l_, m_, unA, unD, n_, AOp.total, o_, p_, q_, r_, s_, t_, u_, v_, A.thaw, C.thaw, A.fits, As.fits, C.fits, evs, oks, w_, A.pure, C.pure, A.re, C.re, x_, y_, cut, A.cells, C.rows?, z_, A_, B_, C_, D_, Ob.re, Cs.fits, E_, F_, G_, H_, I_, J_, K_, L_, M_, N_, O_, C.toD, P_, Q_, R_, S_, T_, Obs.fits, U_, eqD, V_, W_, X_, Y_, Z_]
  refine row_of hlt (crow_len _) ?_
  simp -implicitDefEqProofs [crow_len, take_crow, pure_d, re_d, kw, ew, sw, tw, a_, b_, c_, -List.set_cons_succ, -List.set_cons_zero, A.ok, A.val, d_, e_, f_, g_, h_, i_, j_, k_, l_, m_, unA, unD, n_, AOp.total, o_, p_, q_, r_, s_, t_, u_, v_, A.thaw, C.thaw, A.fits, As.fits, C.fits, evs, oks, w_, A.pure, C.pure, A.re, C.re, x_, y_, cut, A.cells, C.rows?, z_, A_, B_, C_, D_, Ob.re, Cs.fits, E_, F_, G_, H_, I_, J_, K_, L_, M_, N_, O_, C.toD, P_, Q_, R_, S_, T_, Obs.fits, U_, eqD, V_, W_, X_, Y_, Z_]
  refine qcall_pure (h l[i] (List.getElem_mem hlt)) hf rfl ?_
  simp -implicitDefEqProofs [hadd, kw, ew, sw, tw, a_, b_, c_, -List.set_cons_succ, -List.set_cons_zero, A.ok, A.val, d_, e_, f_, g_, h_, i_, j_, k_, l_, m_, unA, unD, n_, AOp.total, o_, p_, q_, r_, s_, t_, u_, v_, A.thaw, C.thaw, A.fits, As.fits, C.fits, evs, oks, w_, A.pure, C.pure, A.re, C.re, x_, y_, cut, A.cells, C.rows?, z_, A_, B_, C_, D_, Ob.re, Cs.fits, E_, F_, G_, H_, I_, J_, K_, L_, M_, N_, O_, C.toD, P_, Q_, R_, S_, T_, Obs.fits, U_, eqD, V_, W_, X_, Y_, Z_]
  exact loop_back (i + 1) (by simp [setAll]) hlt (by show l.length - (i + 1) < l.length - i; omega)
theorem eqClauseS_of (l : List Cl) (hl : l.length ≤ 1048576) (h : ∀ t ∈ l, ∀ H, ACalls Try.prog 31 [.agg ((Cl.row t).map .d), .agg ((Cl.row t).map .d)] H (fun r H' => H' = H ∧ r = .c (.d (.bool true)))) (H : Heap) :
    ACalls Try.prog 38 [.c (.d (.sl (l.map Cl.row))), .c (.d (.sl (l.map Cl.row)))] H (fun r H' => H' = H ∧ r = .c (.d (.bool true))) := eqClauseS_big l (by omega) h H

theorem szClause_calls (c : Cl) (hc : c.fine) : SzC c := fun m h0 h1 H => by
  obtain ⟨h, b⟩ := c
  obtain ⟨hh, hl, hb⟩ := hc
  have c1 := szTerm_calls h hh m h0 h1
  rw [row_eq] at c1
  simp only [List.map_cons, List.map_nil] at c1
  refine acalls Try.func27 (by kernel_rfl) ac27_ok fun hf => ?_
  simp -implicitDefEqProofs [ac27, Cl.row, kw, ew, sw, tw, a_, b_, c_, -List.set_cons_succ, -List.set_cons_zero, A.ok, A.val, d_, e_, f_, g_, h_, i_, j_, k_, l_, m_, unA, unD, n_, AOp.total, o_, p_, q_, r_, s_, t_, u_, v_, A.thaw, C.thaw, A.fits, As.fits, C.fits, evs, oks, w_, A.pure, C.pure, A.re, C.re, x_, y_, cut, A.cells, C.rows?, z_, A_, B_, C_, D_, Ob.re, Cs.fits, E_, F_, G_, H_, I_, J_, K_, L_, M_, N_, O_, C.toD, P_, Q_, R_, S_, T_, Obs.fits, U_, eqD, V_, W_, X_, Y_, Z_]
  refine call_some (c1 _) (by simp [Ob.re, C.re]) (fun r => Left.re) hf ?_
  rintro _ ⟨q, rfl, hq0, hq1, hq2⟩
  simp -implicitDefEqProofs [kw, ew, sw, tw, a_, b_, c_, -List.set_cons_succ, -List.set_cons_zero, A.ok, A.val, d_, e_, f_, g_, h_, i_, j_, k_, l_, m_, unA, unD, n_, AOp.total, o_, p_, q_, r_, s_, t_, u_, v_, A.thaw, C.thaw, A.fits, As.fits, C.fits, evs, oks, w_, A.pure, C.pure, A.re, C.re, x_, y_, cut, A.cells, C.rows?, z_, A_, B_, C_, D_, Ob.re, Cs.fits, E_, F_, G_, H_, I_, J_, K_, L_, M_, N_, O_, C.toD, P_, Q_, R_, S_, T_, Obs.fits, U_, eqD, V_, W_, X_, Y_, Z_]
  refine ⟨fun _ => ⟨-1, rfl, by omega, by omega, fun h => by omega⟩, fun hq => ?_⟩
  refine call_some (szTermS_calls b hl hb q hq (by omega) _) (by simp [Ob.re, C.re]) (fun r => Left.re) hf ?_
  rintro _ ⟨q2, rfl, hp0, hp1, hp2⟩
  simp -implicitDefEqProofs [kw, ew, sw, tw, a_, b_, c_, -List.set_cons_succ, -List.set_cons_zero, A.ok, A.val, d_, e_, f_, g_, h_, i_, j_, k_, l_, m_, unA, unD, n_, AOp.total, o_, p_, q_, r_, s_, t_, u_, v_, A.thaw, C.thaw, A.fits, As.fits, C.fits, evs, oks, w_, A.pure, C.pure, A.re, C.re, x_, y_, cut, A.cells, C.rows?, z_, A_, B_, C_, D_, Ob.re, Cs.fits, E_, F_, G_, H_, I_, J_, K_, L_, M_, N_, O_, C.toD, P_, Q_, R_, S_, T_, Obs.fits, U_, eqD, V_, W_, X_, Y_, Z_]
  exact ⟨fun _ => ⟨-1, rfl, by omega, by omega, fun h => by omega⟩, fun hp => ⟨q2, rfl, by omega, by omega, fun _ => ⟨hq2 hq, (hp2 hp).1, (hp2 hp).2⟩⟩⟩
theorem toClause_calls (c : Cl) (hc : c.fits) (H : Heap) : ACalls Try.prog 29 [.agg (c.row.map .d)] H (fun r H' => H' = H ∧ r = .agg (c.row.map .d)) := by
  obtain ⟨h, b⟩ := c
  obtain ⟨hh, hl, hb⟩ := hc
  have c1 := toTerm_calls h hh
  unfold ToT at c1
  rw [row_eq] at c1
  simp only [List.map_cons, List.map_nil] at c1
  refine acalls Try.func29 (by kernel_rfl) ac29_ok fun hf => ?_
  simp -implicitDefEqProofs [ac29, Cl.row, hf, kw, ew, sw, tw, a_, b_, c_, -List.set_cons_succ, -List.set_cons_zero, A.ok, A.val, d_, e_, f_, g_, h_, i_, j_, k_, l_, m_, unA, unD, n_, AOp.total, o_, p_, q_, r_, s_, t_, u_, v_, A.thaw, C.thaw, A.fits, As.fits, C.fits, evs, oks, w_, A.pure, C.pure, A.re, C.re, x_, y_, cut, A.cells, C.rows?, z_, A_, B_, C_, D_, Ob.re, Cs.fits, E_, F_, G_, H_, I_, J_, K_, L_, M_, N_, O_, C.toD, P_, Q_, R_, S_, T_, Obs.fits, U_, eqD, V_, W_, X_, Y_, Z_]
  refine qcall_pure c1 hf rfl ?_
  simp -implicitDefEqProofs [hf, kw, ew, sw, tw, a_, b_, c_, -List.set_cons_succ, -List.set_cons_zero, A.ok, A.val, d_, e_, f_, g_, h_, i_, j_, k_, l_, m_, unA, unD, n_, AOp.total, o_, p_, q_, r_, s_, t_, u_, v_, A.thaw, C.thaw, A.fits, As.fits, C.fits, evs, oks, w_, A.pure, C.pure, A.re, C.re, x_, y_, cut, A.cells, C.rows?, z_, A_, B_, C_, D_, Ob.re, Cs.fits, E_, F_, G_, H_, I_, J_, K_, L_, M_, N_, O_, C.toD, P_, Q_, R_, S_, T_, Obs.fits, U_, eqD, V_, W_, X_, Y_, Z_]
  refine qcall_pure (toTermS_calls b hl hb) hf rfl ?_
  simp -implicitDefEqProofs [hf, kw, ew, sw, tw, a_, b_, c_, -List.set_cons_succ, -List.set_cons_zero, A.ok, A.val, d_, e_, f_, g_, h_, i_, j_, k_, l_, m_, unA, unD, n_, AOp.total, o_, p_, q_, r_, s_, t_, u_, v_, A.thaw, C.thaw, A.fits, As.fits, C.fits, evs, oks, w_, A.pure, C.pure, A.re, C.re, x_, y_, cut, A.cells, C.rows?, z_, A_, B_, C_, D_, Ob.re, Cs.fits, E_, F_, G_, H_, I_, J_, K_, L_, M_, N_, O_, C.toD, P_, Q_, R_, S_, T_, Obs.fits, U_, eqD, V_, W_, X_, Y_, Z_]
theorem eqClause_calls (c : Cl) (hc : c.fits) (H : Heap) : ACalls Try.prog 31 [.agg (c.row.map .d), .agg (c.row.map .d)] H (fun r H' => H' = H ∧ r = .c (.d (.bool true))) := by
  obtain ⟨h, b⟩ := c
  obtain ⟨hh, hl, hb⟩ := hc
  have c1 := eqTerm_calls h hh
  unfold Same2 at c1
  rw [row_eq] at c1
  simp only [List.map_cons, List.map_nil, decide_true] at c1
  refine acalls Try.func31 (by kernel_rfl) ac31_ok fun hf => ?_
  simp -implicitDefEqProofs [ac31, Cl.row, hf, kw, ew, sw, tw, a_, b_, c_, -List.set_cons_succ, -List.set_cons_zero, A.ok, A.val, d_, e_, f_, g_, h_, i_, j_, k_, l_, m_, unA, unD, n_, AOp.total, o_, p_, q_, r_, s_, t_, u_, v_, A.thaw, C.thaw, A.fits, As.fits, C.fits, evs, oks, w_, A.pure, C.pure, A.re, C.re, x_, y_, cut, A.cells, C.rows?, z_, A_, B_, C_, D_, Ob.re, Cs.fits, E_, F_, G_, H_, I_, J_, K_, L_, M_, N_, O_, C.toD, P_, Q_, R_, S_, T_, Obs.fits, U_, eqD, V_, W_, X_, Y_, Z_]
  refine qcall_pure c1 hf rfl ?_
  simp -implicitDefEqProofs [hf, kw, ew, sw, tw, a_, b_, c_, -List.set_cons_succ, -List.set_cons_zero, A.ok, A.val, d_, e_, f_, g_, h_, i_, j_, k_, l_, m_, unA, unD, n_, AOp.total, o_, p_, q_, r_, s_, t_, u_, v_, A.thaw, C.thaw, A.fits, As.fits, C.fits, evs, oks, w_, A.pure, C.pure, A.re, C.re, x_, y_, cut, A.cells, C.rows?, z_, A_, B_, C_, D_, Ob.re, Cs.fits, E_, F_, G_, H_, I_, J_, K_, L_, M_, N_, O_, C.toD, P_, Q_, R_, S_, T_, Obs.fits, U_, eqD, V_, W_, X_, Y_, Z_]
  refine qcall_pure (eqTermS_calls b hl hb) hf rfl ?_
  simp -implicitDefEqProofs [hf, kw, ew, sw, tw, a_, b_, c_, -List.set_cons_succ, -List.set_cons_zero, A.ok, A.val, d_, e_, f_, g_, h_, i_, j_, k_, l_, m_, unA, unD, n_, AOp.total, o_, p_, q_, r_, s_, t_, u_, v_, A.thaw, C.thaw, A.fits, As.fits, C.fits, evs, oks, w_, A.pure, C.pure, A.re, C.re, x_, y_, cut, A.cells, C.rows?, z_, A_, B_, C_, D_, Ob.re, Cs.fits, E_, F_, G_, H_, I_, J_, K_, L_, M_, N_, O_, C.toD, P_, Q_, R_, S_, T_, Obs.fits, U_, eqD, V_, W_, X_, Y_, Z_]
theorem clause_ty {row : List D} (h : HasTy Try.prog 52 row) : ∃ c : Cl, row = c.row ∧ c.fine := by
  obtain ⟨hl, hf⟩ := h.st_inv Try.underlying52
  rw [show Try.prog.cellsOf 52 = 5 from by kernel_rfl] at hl
  match row, hl with
  | [a, b, c, d, e], _ =>
    simp [show Try.prog.cellsOf 24 = 4 from by kernel_rfl, show Try.prog.cellsOf 22 = 1 from by kernel_rfl] at hf
    obtain ⟨h1, h2⟩ := hf
    obtain ⟨t, e1, ht⟩ := tm_ty h1
    obtain ⟨l, e2, hl, hb⟩ := tms_ty h2
    rw [row_eq] at e1
    cases e1; cases e2
    exact ⟨⟨t, l⟩, rfl, ht, hl, hb⟩
theorem clauses_ty {row : List D} (h : HasTy Try.prog 61 row) : ∃ l : List Cl, row = [.sl (l.map Cl.row)] ∧ l.length ≤ reachBytes ∧ ∀ c ∈ l, c.fine := by
  obtain ⟨rows, rfl, hb, hc, ht⟩ := h.sl_inv Try.underlying61
  rw [show Try.prog.bytesOf 52 = 80 from by kernel_rfl] at hb
  obtain ⟨l, rfl, hl⟩ := list_of_ty (f := Cl.row) (p := Cl.fine) (fun r hr => clause_ty (ht r hr))
  exact ⟨l, rfl, by simp at hb; omega, hl⟩
/-- clauses that a law looks at -/
def FitsC (l : List Cl) : Prop := l.length ≤ 1048576 ∧ ∀ c ∈ l, c.fits
theorem szClauseS_calls (l : List Cl) (hl : l.length ≤ reachBytes) (h : ∀ t ∈ l, t.fine) (m : Int) (h0 : 0 ≤ m) (h1 : m ≤ 1048576) (H : Heap) :
    ACalls Try.prog 33 [.c (.d (.sl (l.map Cl.row))), .c (.d (.int .i64 m))] H (fun r H' => H' = H ∧ Left m (FitsC l) r) :=
  szClauseS_of l hl (fun t ht => szClause_calls t (h t ht)) m h0 h1 H
theorem toClauseS_calls (l : List Cl) (h : FitsC l) (H : Heap) : ACalls Try.prog 35 [.c (.d (.sl (l.map Cl.row)))] H (fun r H' => H' = H ∧ r = .c (.d (.sl (l.map Cl.row)))) :=
  toClauseS_of l h.1 (fun t ht => toClause_calls t (h.2 t ht)) H
theorem eqClauseS_calls (l : List Cl) (h : FitsC l) (H : Heap) : ACalls Try.prog 38 [.c (.d (.sl (l.map Cl.row))), .c (.d (.sl (l.map Cl.row)))] H (fun r H' => H' = H ∧ r = .c (.d (.bool true))) :=
  eqClauseS_of l h.1 (fun t ht => eqClause_calls t (h.2 t ht)) H
end Go.Proofs.Ytaegeehpajlebaa
