/-
  Terms are marked, and looked at again.
  Conditions: none.
-/
import Derived.Test.YtaegeehpajlebaaTermW
import Derived.Test.YtaegeehpajlebaaMText
open Go Go.AM Go.Proofs
namespace Go.Proofs.Ytaegeehpajlebaa
open Go.ChangeShapes Go.WideShapes Go.ChangeAt Go.RowKit
set_option linter.unusedVariables false
set_option linter.unusedSimpArgs false
set_option maxRecDepth 100000
mutual
/-- a term that bears marks -/
def mTm (k : Int) : Tm → Tm
  | .mk _ _ _ l => .mk k (k + 1) (mText (k + 2)) (mTms (k + 3) l)
def mTms (k : Int) : List Tm → List Tm
  | [] => []
  | t :: l => mTm k t :: mTms (k + 3 + 3 * t.sub) l
end
theorem mTms_nil (k : Int) : mTms k [] = [] := by rw [mTms]
theorem mTms_cons (k : Int) (t : Tm) (l : List Tm) : mTms k (t :: l) = mTm k t :: mTms (k + 3 + 3 * t.sub) l := by rw [mTms]
theorem mTms_len : ∀ (k : Int) (l : List Tm), (mTms k l).length = l.length
  | k, [] => by rw [mTms]
  | k, t :: l => by rw [mTms_cons, List.length_cons, mTms_len, List.length_cons]
theorem mTms_get : ∀ (k : Int) (l : List Tm) (i : Nat) (h : i < l.length), (mTms k l)[i]? = some (mTm (k + 3 * Tm.cnt (l.take i)) l[i])
  | k, t :: l, 0, h => by rw [mTms_cons]; simp [Tm.cnt]
  | k, t :: l, i + 1, h => by
    rw [mTms_cons, List.getElem?_cons_succ, mTms_get _ l i (by simpa using h)]
    simp only [List.take_succ_cons, cnt_cons, List.getElem_cons_succ]
    congr 2
    simp only [Int.natCast_add]
    omega
theorem mTm_row (k : Int) (t : Tm) : (mTm k t).row = [.int .i64 k, .int .i64 (k + 1), .str (mText (k + 2)), .sl ((mTms (k + 3) t.kids).map Tm.row)] := by
  obtain ⟨a, n, s, l⟩ := t
  rw [mTm, row_mk]
  rfl
/-- a term's cells, its kids cut off -/
def srow (t : Tm) (v : Value) : List D := [.int .i64 t.k, .int .i64 t.n, .str t.s, .v v]
def ktree (t : Tm) (v : Value) : Ob := .tree v (t.kids.map Tm.row)
theorem strip_terms : ∀ (l : List Tm) (vs : List Value), vs.length = l.length → Strip (l.map Tm.row).flatten (List.zipWith srow l vs).flatten (List.zipWith ktree l vs)
  | [], [], _ => ⟨rfl, rfl⟩
  | [], _ :: _, h => by simp at h
  | _ :: _, [], h => by simp at h
  | t :: l, v :: vs, h => by
    simp only [List.map_cons, List.flatten_cons, List.zipWith_cons_cons, row_eq, srow, List.cons_append, List.nil_append]
    exact ⟨_, rfl, _, rfl, _, rfl, _, _, _, rfl, rfl, strip_terms l vs (by simpa using h)⟩
theorem strip_inv : ∀ (l : List Tm) (c : List D) (t : Heap), Strip (l.map Tm.row).flatten c t → ∃ vs : List Value, vs.length = l.length ∧ c = (List.zipWith srow l vs).flatten ∧ t = List.zipWith ktree l vs
  | [], c, t, ⟨h1, h2⟩ => ⟨[], rfl, h1, h2⟩
  | x :: l, c, t, h => by
    simp only [List.map_cons, List.flatten_cons, row_eq, List.cons_append, List.nil_append] at h
    obtain ⟨c1, rfl, c2, rfl, c3, rfl, v, c4, t4, rfl, rfl, h5⟩ := h
    obtain ⟨vs, h6, rfl, rfl⟩ := strip_inv l c4 t4 h5
    exact ⟨v :: vs, by simp [h6], rfl, rfl⟩
theorem zip_lens {l : List Tm} {vs : List Value} (h : vs.length = l.length) : (List.zipWith srow l vs).map List.length = (l.map Tm.row).map List.length := by
  refine List.ext_getElem? fun i => ?_
  rcases Nat.lt_or_ge i l.length with hi | hi
  · simp [List.getElem?_zipWith, hi, h, row_len, srow]
  · rw [List.getElem?_eq_none (by simp [h]; omega), List.getElem?_eq_none (by simp; omega)]
theorem term_rows (l : List Tm) : ∀ r ∈ l.map Tm.row, r.length = 4 := fun r hr => by obtain ⟨t, _, rfl⟩ := List.mem_map.1 hr; exact row_len t
theorem fits_trees {n : Nat} : ∀ {l : Heap}, l.all Ob.isTreeB = true → Obs.fits n 0 l
  | [], _ => trivial
  | o :: l, h => by
    simp only [List.all_cons, Bool.and_eq_true] at h
    refine ⟨?_, fits_trees h.2⟩
    cases o <;> first | trivial | cases h.1
theorem all_mixed {f : Nat → Ob} {l : Heap} {i : Nat} (hf : ∀ j, (f j).isTreeB = true) (hl : l.all Ob.isTreeB = true) : (mixed f l i).all Ob.isTreeB = true := by
  rw [List.all_eq_true] at hl ⊢
  intro o ho
  rcases List.mem_append.1 ho with h | h
  · obtain ⟨j, _, rfl⟩ := List.mem_map.1 h; exact hf j
  · exact hl o (List.mem_of_mem_drop h)
theorem zip_trees (l : List Tm) (vs : List Value) : (List.zipWith ktree l vs).all Ob.isTreeB = true := by
  induction l generalizing vs with
  | nil => rfl
  | cons t l ih =>
    cases vs with
    | nil => rfl
    | cons v vs => simp only [List.zipWith_cons_cons, List.all_cons, ih, Bool.and_true]; rfl
-- 24 loop.example/prologserver/laws.markTermS params 2 ntmps 42
-- loop head live: [0, 1, 5]
def ac24 : Cd := .seq (.region [⟨(some 4), .mv (.k (.c (.d (.int .i64 0)))), none⟩] [4])
  (.seq (.seq (.region [⟨(some 5), .mv (.k (.c (.d (.int .i64 0)))), none⟩] [])
    (.block 0 (.loop (.seq (.seq (.region [⟨(some 6), .mv (.t 5), none⟩,
              ⟨(some 7), .mv (.t 0), none⟩,
              ⟨(some 8), .len 1 (.t 7), none⟩,
              ⟨(some 9), .bin .lss (.t 6) (.t 8), none⟩] [6, 7, 8])
          (.cond (.t 9)
            (.skip)
            (.exit 0)))
        (.seq (.block 1 (.seq (.region [⟨(some 12), .mv (.t 0), none⟩,
                ⟨(some 13), .mv (.t 5), none⟩,
                ⟨(some 14), .mv (.t 1), none⟩,
                ⟨(some 15), .indexAddr 4 (.t 12) (.t 13), none⟩,
                ⟨(some 16), .fieldAddr 0 (.t 15), none⟩,
                ⟨none, .store 1 (.t 16) (.t 14), none⟩] [9, 12, 13, 14, 15, 16])
            (.seq (.region [⟨(some 17), .mv (.t 1), none⟩,
                ⟨(some 18), .bin .add (.t 17) (.k (.c (.d (.int .i64 1)))), none⟩,
                ⟨(some 1), .mv (.t 18), none⟩] [17, 18])
            (.seq (.region [⟨(some 19), .mv (.t 0), none⟩,
                ⟨(some 20), .mv (.t 5), none⟩,
                ⟨(some 21), .mv (.t 1), none⟩,
                ⟨(some 22), .indexAddr 4 (.t 19) (.t 20), none⟩,
                ⟨(some 23), .fieldAddr 1 (.t 22), none⟩,
                ⟨none, .store 1 (.t 23) (.t 21), none⟩] [19, 20, 21, 22, 23])
            (.seq (.region [⟨(some 24), .mv (.t 1), none⟩,
                ⟨(some 25), .bin .add (.t 24) (.k (.c (.d (.int .i64 1)))), none⟩,
                ⟨(some 1), .mv (.t 25), none⟩] [24, 25])
            (.seq (.region [⟨(some 26), .mv (.t 0), none⟩,
                ⟨(some 27), .mv (.t 5), none⟩,
                ⟨(some 28), .mv (.t 1), none⟩,
                ⟨(some 29), .qcall 56 [(.t 28)], none⟩,
                ⟨(some 30), .indexAddr 4 (.t 26) (.t 27), none⟩,
                ⟨(some 31), .fieldAddr 2 (.t 30), none⟩,
                ⟨none, .store 1 (.t 31) (.t 29), none⟩] [26, 27, 28, 29, 30, 31])
            (.seq (.region [⟨(some 32), .mv (.t 1), none⟩,
                ⟨(some 33), .bin .add (.t 32) (.k (.c (.d (.int .i64 1)))), none⟩,
                ⟨(some 1), .mv (.t 33), none⟩] [32, 33])
            (.region [⟨(some 34), .mv (.t 0), none⟩,
              ⟨(some 35), .mv (.t 5), none⟩,
              ⟨(some 36), .indexAddr 4 (.t 34) (.t 35), none⟩,
              ⟨(some 37), .fieldAddr 3 (.t 36), none⟩,
              ⟨(some 38), .load none (.t 37), none⟩,
              ⟨(some 39), .mv (.t 1), none⟩,
              ⟨(some 40), .call false 24 [(.t 38), (.t 39)], none⟩,
              ⟨(some 1), .mv (.t 40), none⟩] [34, 35, 36, 37, 38, 39, 40]))))))))
        (.region [⟨(some 10), .mv (.t 5), none⟩,
          ⟨(some 11), .bin .add (.t 10) (.k (.c (.d (.int .i64 1)))), none⟩,
          ⟨(some 5), .mv (.t 11), none⟩] [10, 11]))))))
  (.seq (.region [⟨(some 41), .mv (.t 1), none⟩,
      ⟨(some 4), .mv (.t 41), none⟩] [1, 41])
  (.ret)))
theorem ac24_ok : cFunc Try.prog [1000056] [(0, [4], []), (1, [], []), (2, [6, 7, 8], []), (4, [9, 12, 13, 14, 15, 16], []), (5, [17, 18], []), (6, [19, 20, 21, 22, 23], []), (7, [24, 25], []), (8, [26, 27, 28, 29, 30, 31], []), (9, [32, 33], []), (10, [34, 35, 36, 37, 38, 39, 40], []), (3, [10, 11], []), (11, [1, 41], [])] Try.f24 = some (ac24, [.tmp 4], 42) := by kernel_rfl
-- 57 loop.example/prologserver/laws.heldTermS params 2 ntmps 50
-- loop head live: [0, 1, 5]
def ac57 : Cd := .seq (.region [⟨(some 4), .mv (.k (.c (.d (.int .i64 0)))), none⟩] [4])
  (.seq (.seq (.region [⟨(some 5), .mv (.k (.c (.d (.int .i64 0)))), none⟩] [])
    (.block 0 (.loop (.seq (.seq (.region [⟨(some 6), .mv (.t 5), none⟩,
              ⟨(some 7), .mv (.t 0), none⟩,
              ⟨(some 8), .len 1 (.t 7), none⟩,
              ⟨(some 9), .bin .lss (.t 6) (.t 8), none⟩] [6, 7, 8])
          (.cond (.t 9)
            (.skip)
            (.exit 0)))
        (.seq (.block 1 (.seq (.seq (.region [⟨(some 12), .mv (.t 0), none⟩,
                  ⟨(some 13), .mv (.t 5), none⟩,
                  ⟨(some 14), .indexAddr 4 (.t 12) (.t 13), none⟩,
                  ⟨(some 15), .fieldAddr 0 (.t 14), none⟩,
                  ⟨(some 16), .load none (.t 15), none⟩,
                  ⟨(some 17), .mv (.t 1), none⟩,
                  ⟨(some 18), .bin .neq (.t 16) (.t 17), none⟩] [9, 12, 13, 14, 15, 16, 17])
              (.cond (.t 18)
                (.seq (.region [⟨(some 4), .mv (.k (.c (.d (.int .i64 (-1))))), none⟩] [0, 1, 5, 18])
                (.ret))
                (.skip)))
            (.seq (.region [⟨(some 19), .mv (.t 1), none⟩,
                ⟨(some 20), .bin .add (.t 19) (.k (.c (.d (.int .i64 1)))), none⟩,
                ⟨(some 1), .mv (.t 20), none⟩] [4, 18, 19, 20])
            (.seq (.seq (.region [⟨(some 21), .mv (.t 0), none⟩,
                  ⟨(some 22), .mv (.t 5), none⟩,
                  ⟨(some 23), .indexAddr 4 (.t 21) (.t 22), none⟩,
                  ⟨(some 24), .fieldAddr 1 (.t 23), none⟩,
                  ⟨(some 25), .load none (.t 24), none⟩,
                  ⟨(some 26), .mv (.t 1), none⟩,
                  ⟨(some 27), .bin .neq (.t 25) (.t 26), none⟩] [21, 22, 23, 24, 25, 26])
              (.cond (.t 27)
                (.seq (.region [⟨(some 4), .mv (.k (.c (.d (.int .i64 (-1))))), none⟩] [0, 1, 5, 27])
                (.ret))
                (.skip)))
            (.seq (.region [⟨(some 28), .mv (.t 1), none⟩,
                ⟨(some 29), .bin .add (.t 28) (.k (.c (.d (.int .i64 1)))), none⟩,
                ⟨(some 1), .mv (.t 29), none⟩] [4, 27, 28, 29])
            (.seq (.seq (.region [⟨(some 30), .mv (.t 0), none⟩,
                  ⟨(some 31), .mv (.t 5), none⟩,
                  ⟨(some 32), .indexAddr 4 (.t 30) (.t 31), none⟩,
                  ⟨(some 33), .fieldAddr 2 (.t 32), none⟩,
                  ⟨(some 35), .mv (.t 1), none⟩,
                  ⟨(some 34), .load none (.t 33), none⟩,
                  ⟨(some 36), .qcall 56 [(.t 35)], none⟩,
                  ⟨(some 37), .bin .neq (.t 34) (.t 36), none⟩] [30, 31, 32, 33, 34, 35, 36])
              (.cond (.t 37)
                (.seq (.region [⟨(some 4), .mv (.k (.c (.d (.int .i64 (-1))))), none⟩] [0, 1, 5, 37])
                (.ret))
                (.skip)))
            (.seq (.region [⟨(some 38), .mv (.t 1), none⟩,
                ⟨(some 39), .bin .add (.t 38) (.k (.c (.d (.int .i64 1)))), none⟩,
                ⟨(some 1), .mv (.t 39), none⟩] [4, 37, 38, 39])
            (.seq (.region [⟨(some 40), .mv (.t 0), none⟩,
                ⟨(some 41), .mv (.t 5), none⟩,
                ⟨(some 42), .indexAddr 4 (.t 40) (.t 41), none⟩,
                ⟨(some 43), .fieldAddr 3 (.t 42), none⟩,
                ⟨(some 44), .load none (.t 43), none⟩,
                ⟨(some 45), .mv (.t 1), none⟩,
                ⟨(some 46), .call false 57 [(.t 44), (.t 45)], none⟩,
                ⟨(some 1), .mv (.t 46), none⟩] [40, 41, 42, 43, 44, 45, 46])
            (.seq (.region [⟨(some 47), .mv (.t 1), none⟩,
                ⟨(some 48), .bin .lss (.t 47) (.k (.c (.d (.int .i64 0)))), none⟩] [47])
            (.cond (.t 48)
              (.seq (.region [⟨(some 4), .mv (.k (.c (.d (.int .i64 (-1))))), none⟩] [0, 1, 5, 48])
              (.ret))
              (.skip)))))))))))
        (.region [⟨(some 10), .mv (.t 5), none⟩,
          ⟨(some 11), .bin .add (.t 10) (.k (.c (.d (.int .i64 1)))), none⟩,
          ⟨(some 5), .mv (.t 11), none⟩] [4, 10, 11, 48]))))))
  (.seq (.region [⟨(some 49), .mv (.t 1), none⟩,
      ⟨(some 4), .mv (.t 49), none⟩] [1, 49])
  (.ret)))
theorem ac57_ok : cFunc Try.prog [1000056] [(0, [4], []), (1, [], []), (2, [6, 7, 8], []), (4, [9, 12, 13, 14, 15, 16, 17], []), (5, [0, 1, 5, 18], []), (6, [4, 18, 19, 20], []), (7, [21, 22, 23, 24, 25, 26], []), (8, [0, 1, 5, 27], []), (9, [4, 27, 28, 29], []), (10, [30, 31, 32, 33, 34, 35, 36], [0, 1, 2, 3, 5, 4, 6, 7]), (11, [0, 1, 5, 37], []), (12, [4, 37, 38, 39], []), (13, [40, 41, 42, 43, 44, 45, 46], []), (14, [47], []), (15, [0, 1, 5, 48], []), (3, [4, 10, 11, 48], []), (16, [1, 49], [])] Try.f57 = some (ac57, [.tmp 4], 50) := by kernel_rfl
/-- a term's kids are marked -/
def MarkT (t : Tm) : Prop := ∀ (k : Int), 0 ≤ k → k + 3 * t.sub ≤ 500000000000000 → ∀ kv, ACalls Try.prog 24 [.c (.d (.v kv)), .c (.d (.int .i64 k))] [.tree kv (t.kids.map Tm.row)]
    (fun r H' => H' = [.tree kv ((mTms k t.kids).map Tm.row)] ∧ r = .c (.d (.int .i64 (k + 3 * t.sub))))
theorem markTermS_of (l : List Tm) (hl : l.length ≤ 1048576) (h : ∀ t ∈ l, MarkT t) (k : Int) (h0 : 0 ≤ k) (h1 : k + 3 * Tm.cnt l ≤ 500000000000000) (kv : Value) :
    ACalls Try.prog 24 [.c (.d (.v kv)), .c (.d (.int .i64 k))] [.tree kv (l.map Tm.row)]
    (fun r H' => H' = [.tree kv ((mTms k l).map Tm.row)] ∧ r = .c (.d (.int .i64 (k + 3 * Tm.cnt l)))) := by
  refine (acalls_tree (f := 24) (pre := []) (post := [.c (.d (.int .i64 k))]) (rows := l.map Tm.row) (Q := fun r rows' => r = .c (.d (.int .i64 (k + 3 * Tm.cnt l))) ∧ rows' = (mTms k l).map Tm.row) 4 (term_rows l) rfl rfl (fun he => ?_) (fun hne srows trs hst hlens => ?_) kv).mono fun r H' ⟨rows', h1, _, h2, h3⟩ => ⟨by rw [h1, h3], h2⟩
  · obtain rfl : l = [] := by simpa using he
    have hk0 : inR .i64 k := small_i64 (by simp [cnt_nil] at h1; omega) (by simp [cnt_nil] at h1; omega)
    have hz0 : inR .i64 0 := small_i64 (by omega) (by omega)
    refine acalls Try.func24 (by kernel_rfl) ac24_ok fun hf => ?_
    simp -implicitDefEqProofs [ac24, kw, ew, sw, tw, a_, b_, c_, -List.set_cons_succ, -List.set_cons_zero, A.ok, A.val, d_, e_, f_, g_, h_, i_, j_, k_, l_, m_, unA, unD, n_, AOp.total, o_, p_, q_, r_, s_, t_, u_, v_, A.thaw, C.thaw, A.fits, As.fits, C.fits, evs, oks, w_, A.pure, C.pure, A.re, C.re, x_, y_, cut, A.cells, C.rows?, z_, A_, B_, C_, D_, Ob.re, Cs.fits, E_, F_, G_, H_, I_, J_, K_, L_, M_, N_, O_, C.toD, P_, Q_, R_, S_, T_, Obs.fits, U_, eqD, V_, W_, X_, Y_, Z_]
    refine loop_set (σ := Unit) (fun _ => [(5, .c (.d (.int .i64 0)))]) (fun _ => []) (fun _ => []) (fun _ => True) (fun _ => 0) () rfl trivial ?_
    intro _ _
    simp -implicitDefEqProofs [setAll, hz0, mTms_nil, cnt_nil, A.portT, A.portB, C.portB, D.leaf, kw, ew, sw, tw, a_, b_, c_, -List.set_cons_succ, -List.set_cons_zero, A.ok, A.val, d_, e_, f_, g_, h_, i_, j_, k_, l_, m_, unA, unD, n_, AOp.total, o_, p_, q_, r_, s_, t_, u_, v_, A.thaw, C.thaw, A.fits, As.fits, C.fits, evs, oks, w_, A.pure, C.pure, A.re, C.re, x_, y_, cut, A.cells, C.rows?, z_, A_, B_, C_, D_, Ob.re, Cs.fits, E_, F_, G_, H_, I_, J_, K_, L_, M_, N_, O_, C.toD, P_, Q_, R_, S_, T_, Obs.fits, U_, eqD, V_, W_, X_, Y_, Z_]
  · obtain ⟨vs, hvl, hc, ht⟩ := strip_inv l _ _ hst
    obtain rfl := flatten_uniq hc (by rw [hlens, zip_lens hvl])
    subst ht
    obtain ⟨kk, hkk⟩ : ∃ kk : Nat → Int, ∀ j, kk j = k + 3 * (Tm.cnt (l.take j) : Int) := ⟨_, fun _ => rfl⟩
    have hvs : ∀ j (hj : j < l.length), vs[j]? = some (vs.getD j undef) := fun j hj => by simp [hvl, hj]
    obtain ⟨fr, hfr⟩ : ∃ fr : Nat → List D, ∀ j, fr j = srow (mTm (kk j) (l.getD j default)) (vs.getD j undef) := ⟨_, fun _ => rfl⟩
    obtain ⟨ft, hft⟩ : ∃ ft : Nat → Ob, ∀ j, ft j = ktree (mTm (kk j) (l.getD j default)) (vs.getD j undef) := ⟨_, fun _ => rfl⟩
    have hzl : (List.zipWith srow l vs).length = l.length := by simp [hvl]
    have hzt : (List.zipWith ktree l vs).length = l.length := by simp [hvl]
    refine acalls Try.func24 (by kernel_rfl) ac24_ok fun hf => ?_
    have hli : inR .i64 (l.length : Int) := small_i64 (by omega) (by omega)
    simp -implicitDefEqProofs [ac24, hli, kw, ew, sw, tw, a_, b_, c_, -List.set_cons_succ, -List.set_cons_zero, A.ok, A.val, d_, e_, f_, g_, h_, i_, j_, k_, l_, m_, unA, unD, n_, AOp.total, o_, p_, q_, r_, s_, t_, u_, v_, A.thaw, C.thaw, A.fits, As.fits, C.fits, evs, oks, w_, A.pure, C.pure, A.re, C.re, x_, y_, cut, A.cells, C.rows?, z_, A_, B_, C_, D_, Ob.re, Cs.fits, E_, F_, G_, H_, I_, J_, K_, L_, M_, N_, O_, C.toD, P_, Q_, R_, S_, T_, Obs.fits, U_, eqD, V_, W_, X_, Y_, Z_]
    refine loop_set (σ := Nat) (fun i => [(5, .c (.d (.int .i64 i))), (1, .c (.d (.int .i64 (kk i))))]) (fun i => .rows (mixed fr (List.zipWith srow l vs) i) :: mixed ft (List.zipWith ktree l vs) i) (fun _ => []) (fun i => i ≤ l.length) (fun i => l.length - i) 0 (by simp [setAll, mixed_zero, hkk, cnt_nil]) (Nat.zero_le _) ?_
    intro i hi
    simp -implicitDefEqProofs [setAll, hli, kw, ew, sw, tw, a_, b_, c_, -List.set_cons_succ, -List.set_cons_zero, A.ok, A.val, d_, e_, f_, g_, h_, i_, j_, k_, l_, m_, unA, unD, n_, AOp.total, o_, p_, q_, r_, s_, t_, u_, v_, A.thaw, C.thaw, A.fits, As.fits, C.fits, evs, oks, w_, A.pure, C.pure, A.re, C.re, x_, y_, cut, A.cells, C.rows?, z_, A_, B_, C_, D_, Ob.re, Cs.fits, E_, F_, G_, H_, I_, J_, K_, L_, M_, N_, O_, C.toD, P_, Q_, R_, S_, T_, Obs.fits, U_, eqD, V_, W_, X_, Y_, Z_]
    refine ⟨fun hlt => ⟨hlt, ?_⟩, fun hge => ?_⟩
    · have hs := cnt_take_sub l hlt
      have hki := hkk i
      have hlz : i < (List.zipWith srow l vs).length := by omega
      have hlt' : i < (List.zipWith ktree l vs).length := by omega
      have hlm : i < (mixed fr (List.zipWith srow l vs) i).length := by rw [mixed_len _ _ (by omega)]; exact hlz
      have hgs : ∀ r, ((mixed fr (List.zipWith srow l vs) i).set i r)[i]? = some r := fun r => List.getElem?_set_self hlm
      have hget : (mixed fr (List.zipWith srow l vs) i)[i]? = some [.int .i64 l[i].k, .int .i64 l[i].n, .str l[i].s, .v vs[i]] := by rw [mixed_get _ _ hlz]; simp [srow]
      have hgt : (mixed ft (List.zipWith ktree l vs) i)[i]? = some (.tree vs[i] (l[i].kids.map Tm.row)) := by rw [mixed_get _ _ hlt']; simp [ktree]
      have i0 : inR .i64 (kk i) := small_i64 (by omega) (by omega)
      have i1 : inR .i64 (kk i + 1) := small_i64 (by omega) (by omega)
      have i2 : inR .i64 (kk i + 1 + 1) := small_i64 (by omega) (by omega)
      have i3 : inR .i64 (kk i + 1 + 1 + 1) := small_i64 (by omega) (by omega)
      have hadd : inR .i64 ((i : Int) + 1) := small_i64 (by omega) (by omega)
      have hfx : ∀ rs, Obs.fits ((Ob.rows rs :: mixed ft (List.zipWith ktree l vs) i).length) 0 (Ob.rows rs :: mixed ft (List.zipWith ktree l vs) i) := fun rs => ⟨trivial, fits_trees (all_mixed (fun j => by rw [hft]; rfl) (zip_trees l vs))⟩
      simp -implicitDefEqProofs [hget, hgs, i0, i1, i2, i3, hadd, kw, ew, sw, tw, a_, b_, c_, -List.set_cons_succ, -List.set_cons_zero, A.ok, A.val, d_, e_, f_, g_, h_, i_, j_, k_, l_, m_, unA, unD, n_, AOp.total, o_, p_, q_, r_, s_, t_, u_, v_, A.thaw, C.thaw, A.fits, As.fits, C.fits, evs, oks, w_, A.pure, C.pure, A.re, C.re, x_, y_, cut, A.cells, C.rows?, z_, A_, B_, C_, D_, Ob.re, Cs.fits, E_, F_, G_, H_, I_, J_, K_, L_, M_, N_, O_, C.toD, P_, Q_, R_, S_, T_, Obs.fits, U_, eqD, V_, W_, X_, Y_, Z_]
      refine ⟨hfx _, hlt, hfx _, qcall_pure (markText_calls _ (by omega)) (hfx _) rfl ?_⟩
      simp -implicitDefEqProofs [hget, hgs, hlt, i0, i1, i2, i3, hadd, kw, ew, sw, tw, a_, b_, c_, -List.set_cons_succ, -List.set_cons_zero, A.ok, A.val, d_, e_, f_, g_, h_, i_, j_, k_, l_, m_, unA, unD, n_, AOp.total, o_, p_, q_, r_, s_, t_, u_, v_, A.thaw, C.thaw, A.fits, As.fits, C.fits, evs, oks, w_, A.pure, C.pure, A.re, C.re, x_, y_, cut, A.cells, C.rows?, z_, A_, B_, C_, D_, Ob.re, Cs.fits, E_, F_, G_, H_, I_, J_, K_, L_, M_, N_, O_, C.toD, P_, Q_, R_, S_, T_, Obs.fits, U_, eqD, V_, W_, X_, Y_, Z_]
      refine ⟨hfx _, call_ext (J := [i + 1]) (h l[i] (List.getElem_mem hlt) (kk i + 1 + 1 + 1) (by omega) (by omega) vs[i]) (fun r H' ⟨h1, h2⟩ => by subst h1; subst h2; exact ⟨⟨rfl, rfl⟩, rfl⟩) (by simp) (.cons (.c .d) (.cons (.c .d) .nil)) (by simp) (by simp [hgt]) rfl (hfx _) ?_⟩
      rintro _ _ ⟨rfl, rfl⟩
      simp -implicitDefEqProofs [putAll, hadd, kw, ew, sw, tw, a_, b_, c_, -List.set_cons_succ, -List.set_cons_zero, A.ok, A.val, d_, e_, f_, g_, h_, i_, j_, k_, l_, m_, unA, unD, n_, AOp.total, o_, p_, q_, r_, s_, t_, u_, v_, A.thaw, C.thaw, A.fits, As.fits, C.fits, evs, oks, w_, A.pure, C.pure, A.re, C.re, x_, y_, cut, A.cells, C.rows?, z_, A_, B_, C_, D_, Ob.re, Cs.fits, E_, F_, G_, H_, I_, J_, K_, L_, M_, N_, O_, C.toD, P_, Q_, R_, S_, T_, Obs.fits, U_, eqD, V_, W_, X_, Y_, Z_]
      have hk1 : kk (i + 1) = kk i + 1 + 1 + 1 + 3 * (l[i].sub : Int) := by
        have := cnt_take_succ l hlt
        rw [hkk, hkk]; omega
      have hv : vs.getD i undef = vs[i] := by simp [hvl, hlt]
      have e1 := mixed_set fr (List.zipWith srow l vs) hlz
      have e2 := mixed_set ft (List.zipWith ktree l vs) hlt'
      have e3 : l.getD i default = l[i] := by simp [hlt]
      rw [hfr, e3, hv] at e1
      rw [hft, e3, hv] at e2
      have r1 : srow (mTm (kk i) l[i]) vs[i] = [.int .i64 (kk i), .int .i64 (kk i + 1), .str (mText (kk i + 1 + 1)), .v vs[i]] := by
        have := mTm_row (kk i) l[i]
        rw [row_eq] at this
        simp only [List.cons.injEq, D.int.injEq, D.str.injEq, D.sl.injEq, and_true, true_and] at this
        rw [srow, this.1, this.2.1, this.2.2.1, show kk i + 1 + 1 = kk i + 2 by omega]
      have r2 : ktree (mTm (kk i) l[i]) vs[i] = .tree vs[i] ((mTms (kk i + 1 + 1 + 1) l[i].kids).map Tm.row) := by
        have := mTm_row (kk i) l[i]
        rw [row_eq] at this
        simp only [List.cons.injEq, D.int.injEq, D.str.injEq, D.sl.injEq, and_true, true_and] at this
        rw [ktree, this.2.2.2, show kk i + 1 + 1 + 1 = kk i + 3 by omega]
      rw [r1] at e1
      rw [r2] at e2
      refine loop_back (i + 1) ?_ hlt (by show l.length - (i + 1) < l.length - i; omega)
      simp [setAll, hk1, ← e1, ← e2]
    · obtain rfl : i = l.length := by omega
      have e1 : mixed fr (List.zipWith srow l vs) l.length = List.zipWith srow (mTms k l) vs := by
        refine List.ext_getElem? fun j => ?_
        rw [mixed_get' _ _ (by omega)]
        by_cases hj : j < l.length
        · rw [if_pos hj, hfr, List.getElem?_zipWith, mTms_get k l j hj, hvs j hj, hkk]; simp [hj]
        · rw [if_neg hj, List.getElem?_eq_none (by omega), List.getElem?_eq_none (by simp [mTms_len]; omega)]
      have e2 : mixed ft (List.zipWith ktree l vs) l.length = List.zipWith ktree (mTms k l) vs := by
        refine List.ext_getElem? fun j => ?_
        rw [mixed_get' _ _ (by omega)]
        by_cases hj : j < l.length
        · rw [if_pos hj, hft, List.getElem?_zipWith, mTms_get k l j hj, hvs j hj, hkk]; simp [hj]
        · rw [if_neg hj, List.getElem?_eq_none (by omega), List.getElem?_eq_none (by simp [mTms_len]; omega)]
      have hml := mTms_len k l
      exact ⟨_, _, _, strip_terms (mTms k l) vs (by omega), by simp [hml], term_rows _, zip_lens (by omega), by simp [hml], ⟨e1, e2⟩, rfl, by rw [hkk, List.take_length], rfl⟩
theorem markT_calls : ∀ t : Tm, t.fits → MarkT t := by
  refine Tm.ind fun k n s l ih hfits a h0 h1 kv => ?_
  obtain ⟨_, _, _, hl, hkids⟩ := hfits
  rw [sub_mk] at h1 ⊢
  exact markTermS_of l hl (fun t ht => ih t ht (hkids t ht)) a h0 h1 kv
theorem markTermS_calls (l : List Tm) (hl : l.length ≤ 1048576) (h : ∀ t ∈ l, t.fits) (k : Int) (h0 : 0 ≤ k) (h1 : k + 3 * Tm.cnt l ≤ 500000000000000) (kv : Value) :
    ACalls Try.prog 24 [.c (.d (.v kv)), .c (.d (.int .i64 k))] [.tree kv (l.map Tm.row)]
    (fun r H' => H' = [.tree kv ((mTms k l).map Tm.row)] ∧ r = .c (.d (.int .i64 (k + 3 * Tm.cnt l)))) := markTermS_of l hl (fun t ht => markT_calls t (h t ht)) k h0 h1 kv
/-- marked kids are looked at -/
def HeldT (t : Tm) : Prop := ∀ (k : Int), 0 ≤ k → k + 3 * t.sub ≤ 500000000000000 → ∀ H, ACalls Try.prog 57 [.c (.d (.sl ((mTms k t.kids).map Tm.row))), .c (.d (.int .i64 k))] H
    (fun r H' => H' = H ∧ r = .c (.d (.int .i64 (k + 3 * t.sub))))
theorem heldTermS_of (l : List Tm) (hl : l.length ≤ 1048576) (h : ∀ t ∈ l, HeldT t) (k : Int) (h0 : 0 ≤ k) (h1 : k + 3 * Tm.cnt l ≤ 500000000000000) (H : Heap) :
    ACalls Try.prog 57 [.c (.d (.sl ((mTms k l).map Tm.row))), .c (.d (.int .i64 k))] H
    (fun r H' => H' = H ∧ r = .c (.d (.int .i64 (k + 3 * Tm.cnt l)))) := by
  refine acalls Try.func57 (by kernel_rfl) ac57_ok fun hf => ?_
  have hli : inR .i64 (l.length : Int) := small_i64 (by omega) (by omega)
  obtain ⟨kk, hkk⟩ : ∃ kk : Nat → Int, ∀ j, kk j = k + 3 * (Tm.cnt (l.take j) : Int) := ⟨_, fun _ => rfl⟩
  simp -implicitDefEqProofs [ac57, hli, mTms_len, kw, ew, sw, tw, a_, b_, c_, -List.set_cons_succ, -List.set_cons_zero, A.ok, A.val, d_, e_, f_, g_, h_, i_, j_, k_, l_, m_, unA, unD, n_, AOp.total, o_, p_, q_, r_, s_, t_, u_, v_, A.thaw, C.thaw, A.fits, As.fits, C.fits, evs, oks, w_, A.pure, C.pure, A.re, C.re, x_, y_, cut, A.cells, C.rows?, z_, A_, B_, C_, D_, Ob.re, Cs.fits, E_, F_, G_, H_, I_, J_, K_, L_, M_, N_, O_, C.toD, P_, Q_, R_, S_, T_, Obs.fits, U_, eqD, V_, W_, X_, Y_, Z_]
  refine loop_set (σ := Nat) (fun i => [(5, .c (.d (.int .i64 i))), (1, .c (.d (.int .i64 (kk i))))]) (fun i => H) (fun _ => []) (fun i => i ≤ l.length) (fun i => l.length - i) 0 (by simp [setAll, hkk, cnt_nil]) (Nat.zero_le _) ?_
  intro i hi
  simp -implicitDefEqProofs [setAll, hli, mTms_len, kw, ew, sw, tw, a_, b_, c_, -List.set_cons_succ, -List.set_cons_zero, A.ok, A.val, d_, e_, f_, g_, h_, i_, j_, k_, l_, m_, unA, unD, n_, AOp.total, o_, p_, q_, r_, s_, t_, u_, v_, A.thaw, C.thaw, A.fits, As.fits, C.fits, evs, oks, w_, A.pure, C.pure, A.re, C.re, x_, y_, cut, A.cells, C.rows?, z_, A_, B_, C_, D_, Ob.re, Cs.fits, E_, F_, G_, H_, I_, J_, K_, L_, M_, N_, O_, C.toD, P_, Q_, R_, S_, T_, Obs.fits, U_, eqD, V_, W_, X_, Y_, Z_]
  refine ⟨fun hlt => ?_, fun hge => ?_⟩
  · have hs := cnt_take_sub l hlt
    have hki := hkk i
    have hk1 : kk (i + 1) = kk i + 1 + 1 + 1 + 3 * (l[i].sub : Int) := by
      have := cnt_take_succ l hlt
      rw [hkk, hkk]; omega
    have i0 : inR .i64 (kk i) := small_i64 (by omega) (by omega)
    have i1 : inR .i64 (kk i + 1) := small_i64 (by omega) (by omega)
    have i2 : inR .i64 (kk i + 1 + 1) := small_i64 (by omega) (by omega)
    have i3 : inR .i64 (kk i + 1 + 1 + 1) := small_i64 (by omega) (by omega)
    have hadd : inR .i64 ((i : Int) + 1) := small_i64 (by omega) (by omega)
    have hrow : ((mTms k l).map Tm.row)[i]? = some [.int .i64 (kk i), .int .i64 (kk i + 1), .str (mText (kk i + 1 + 1)), .sl ((mTms (kk i + 1 + 1 + 1) l[i].kids).map Tm.row)] := by
      rw [List.getElem?_map, mTms_get k l i hlt, ← hkk, Option.map_some, mTm_row, show kk i + 1 + 1 + 1 = kk i + 3 by omega, show kk i + 1 + 1 = kk i + 2 by omega]
    have hp : ¬ (kk i + 1 + 1 + 1 + 3 * (l[i].sub : Int) < 0) := by omega
    refine row_nat _ hrow rfl ?_
    simp -implicitDefEqProofs [i0, i1, i2, i3, hadd, kw, ew, sw, tw, a_, b_, c_, -List.set_cons_succ, -List.set_cons_zero, A.ok, A.val, d_, e_, f_, g_, h_, i_, j_, k_, l_, m_, unA, unD, n_, AOp.total, o_, p_, q_, r_, s_, t_, u_, v_, A.thaw, C.thaw, A.fits, As.fits, C.fits, evs, oks, w_, A.pure, C.pure, A.re, C.re, x_, y_, cut, A.cells, C.rows?, z_, A_, B_, C_, D_, Ob.re, Cs.fits, E_, F_, G_, H_, I_, J_, K_, L_, M_, N_, O_, C.toD, P_, Q_, R_, S_, T_, Obs.fits, U_, eqD, V_, W_, X_, Y_, Z_]
    refine row_nat _ hrow rfl ?_
    simp -implicitDefEqProofs [i0, i1, i2, i3, hadd, kw, ew, sw, tw, a_, b_, c_, -List.set_cons_succ, -List.set_cons_zero, A.ok, A.val, d_, e_, f_, g_, h_, i_, j_, k_, l_, m_, unA, unD, n_, AOp.total, o_, p_, q_, r_, s_, t_, u_, v_, A.thaw, C.thaw, A.fits, As.fits, C.fits, evs, oks, w_, A.pure, C.pure, A.re, C.re, x_, y_, cut, A.cells, C.rows?, z_, A_, B_, C_, D_, Ob.re, Cs.fits, E_, F_, G_, H_, I_, J_, K_, L_, M_, N_, O_, C.toD, P_, Q_, R_, S_, T_, Obs.fits, U_, eqD, V_, W_, X_, Y_, Z_]
    refine row_nat _ hrow rfl ?_
    simp -implicitDefEqProofs [i0, i1, i2, i3, hadd, kw, ew, sw, tw, a_, b_, c_, -List.set_cons_succ, -List.set_cons_zero, A.ok, A.val, d_, e_, f_, g_, h_, i_, j_, k_, l_, m_, unA, unD, n_, AOp.total, o_, p_, q_, r_, s_, t_, u_, v_, A.thaw, C.thaw, A.fits, As.fits, C.fits, evs, oks, w_, A.pure, C.pure, A.re, C.re, x_, y_, cut, A.cells, C.rows?, z_, A_, B_, C_, D_, Ob.re, Cs.fits, E_, F_, G_, H_, I_, J_, K_, L_, M_, N_, O_, C.toD, P_, Q_, R_, S_, T_, Obs.fits, U_, eqD, V_, W_, X_, Y_, Z_]
    refine qcall_pure (markText_calls _ (by omega)) hf rfl ?_
    simp -implicitDefEqProofs [i0, i1, i2, i3, hadd, kw, ew, sw, tw, a_, b_, c_, -List.set_cons_succ, -List.set_cons_zero, A.ok, A.val, d_, e_, f_, g_, h_, i_, j_, k_, l_, m_, unA, unD, n_, AOp.total, o_, p_, q_, r_, s_, t_, u_, v_, A.thaw, C.thaw, A.fits, As.fits, C.fits, evs, oks, w_, A.pure, C.pure, A.re, C.re, x_, y_, cut, A.cells, C.rows?, z_, A_, B_, C_, D_, Ob.re, Cs.fits, E_, F_, G_, H_, I_, J_, K_, L_, M_, N_, O_, C.toD, P_, Q_, R_, S_, T_, Obs.fits, U_, eqD, V_, W_, X_, Y_, Z_]
    refine row_nat _ hrow rfl ?_
    simp -implicitDefEqProofs [i0, i1, i2, i3, hadd, kw, ew, sw, tw, a_, b_, c_, -List.set_cons_succ, -List.set_cons_zero, A.ok, A.val, d_, e_, f_, g_, h_, i_, j_, k_, l_, m_, unA, unD, n_, AOp.total, o_, p_, q_, r_, s_, t_, u_, v_, A.thaw, C.thaw, A.fits, As.fits, C.fits, evs, oks, w_, A.pure, C.pure, A.re, C.re, x_, y_, cut, A.cells, C.rows?, z_, A_, B_, C_, D_, Ob.re, Cs.fits, E_, F_, G_, H_, I_, J_, K_, L_, M_, N_, O_, C.toD, P_, Q_, R_, S_, T_, Obs.fits, U_, eqD, V_, W_, X_, Y_, Z_]
    refine call_same (h l[i] (List.getElem_mem hlt) (kk i + 1 + 1 + 1) (by omega) (by omega) _) (by simp [Ob.re, C.re]) rfl hf ?_
    simp -implicitDefEqProofs [hp, hadd, kw, ew, sw, tw, a_, b_, c_, -List.set_cons_succ, -List.set_cons_zero, A.ok, A.val, d_, e_, f_, g_, h_, i_, j_, k_, l_, m_, unA, unD, n_, AOp.total, o_, p_, q_, r_, s_, t_, u_, v_, A.thaw, C.thaw, A.fits, As.fits, C.fits, evs, oks, w_, A.pure, C.pure, A.re, C.re, x_, y_, cut, A.cells, C.rows?, z_, A_, B_, C_, D_, Ob.re, Cs.fits, E_, F_, G_, H_, I_, J_, K_, L_, M_, N_, O_, C.toD, P_, Q_, R_, S_, T_, Obs.fits, U_, eqD, V_, W_, X_, Y_, Z_]
    exact loop_back (i + 1) (by simp [setAll, hk1]) hlt (by show l.length - (i + 1) < l.length - i; omega)
  · obtain rfl : i = l.length := by omega
    rw [hkk, List.take_length]
theorem heldT_calls : ∀ t : Tm, t.fits → HeldT t := by
  refine Tm.ind fun k n s l ih hfits a h0 h1 H => ?_
  obtain ⟨_, _, _, hl, hkids⟩ := hfits
  rw [sub_mk] at h1 ⊢
  exact heldTermS_of l hl (fun t ht => ih t ht (hkids t ht)) a h0 h1 H
theorem heldTermS_calls (l : List Tm) (hl : l.length ≤ 1048576) (h : ∀ t ∈ l, t.fits) (k : Int) (h0 : 0 ≤ k) (h1 : k + 3 * Tm.cnt l ≤ 500000000000000) (H : Heap) :
    ACalls Try.prog 57 [.c (.d (.sl ((mTms k l).map Tm.row))), .c (.d (.int .i64 k))] H
    (fun r H' => H' = H ∧ r = .c (.d (.int .i64 (k + 3 * Tm.cnt l)))) := heldTermS_of l hl (fun t ht => heldT_calls t (h t ht)) k h0 h1 H
end Go.Proofs.Ytaegeehpajlebaa
