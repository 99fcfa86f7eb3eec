/-
  Clauses are counted, marked, and looked at again.
  Conditions: none.
-/
import Derived.Test.YtaegeehpajlebaaClauseO
import Derived.Test.YtaegeehpajlebaaClauseW
open Go Go.AM Go.Proofs
namespace Go.Proofs.Ytaegeehpajlebaa
open Go.ChangeShapes Go.WideShapes Go.ChangeAt Go.RowKit
set_option linter.unusedVariables false
set_option linter.unusedSimpArgs false
set_option maxRecDepth 100000
theorem szClauseS_w (l : List Cl) (hl : l.length ≤ reachBytes) (h : ∀ t ∈ l, SzWC t) (m : Int) (h0 : 0 ≤ m) (h1 : m ≤ 1048576) (H : Heap) :
    ACalls Try.prog 33 [.c (.d (.sl (l.map Cl.row))), .c (.d (.int .i64 m))] H (fun r H' => H' = H ∧ LeftW m (l.length ≤ 1048576 ∧ ∀ t ∈ l, Cl.fits t) (wsum Cl.wt l) r) := by
  refine acalls Try.func33 (by kernel_rfl) ac33_ok fun hf => ?_
  have hlen := reach_i64 hl
  have hsm := reach_small hl
  have hsub : inR .i64 (m - (l.length : Int)) := small_i64 (by omega) (by omega)
  simp -implicitDefEqProofs [ac33, hlen, hsub, kw, ew, sw, tw, a_, b_, c_, -List.set_cons_succ, -List.set_cons_zero, A.ok, A.val, d_, e_, f_, g_, h_, i_, j_, k_, l_, m_, unA, unD, n_, AOp.total, o_, p_, q_, r_, s_, t_, u_, v_, A.thaw, C.thaw, A.fits, As.fits, C.fits, evs, oks, w_, A.pure, C.pure, A.re, C.re, x_, y_, cut, A.cells, C.rows?, z_, A_, B_, C_, D_, Ob.re, Cs.fits, E_, F_, G_, H_, I_, J_, K_, L_, M_, N_, O_, C.toD, P_, Q_, R_, S_, T_, Obs.fits, U_, eqD, V_, W_, X_, Y_, Z_]
  refine ⟨fun _ => ⟨-1, rfl, by omega, by omega, fun h => by omega⟩, fun hge => ?_⟩
  have hsmall : l.length ≤ 1048576 := by omega
  refine loop_set (σ := Nat × Int) (fun x => [(5, .c (.d (.int .i64 x.1))), (1, .c (.d (.int .i64 x.2)))]) (fun _ => H) (fun _ => []) (fun x => x.1 ≤ l.length ∧ 0 ≤ x.2 ∧ x.2 + wsum Cl.wt (l.take x.1) + (l.length - x.1 : Nat) ≤ m ∧ ∀ t ∈ l.take x.1, Cl.fits t) (fun x => l.length - x.1) (0, m - l.length) rfl ⟨Nat.zero_le _, by simp; omega, by simp [wsum], by simp⟩ ?_
  rintro ⟨i, k⟩ ⟨hi, hm0, hm1, hall⟩
  simp only at hi hm0 hm1 hall
  simp -implicitDefEqProofs [setAll, hlen, kw, ew, sw, tw, a_, b_, c_, -List.set_cons_succ, -List.set_cons_zero, A.ok, A.val, d_, e_, f_, g_, h_, i_, j_, k_, l_, m_, unA, unD, n_, AOp.total, o_, p_, q_, r_, s_, t_, u_, v_, A.thaw, C.thaw, A.fits, As.fits, C.fits, evs, oks, w_, A.pure, C.pure, A.re, C.re, x_, y_, cut, A.cells, C.rows?, z_, A_, B_, C_, D_, Ob.re, Cs.fits, E_, F_, G_, H_, I_, J_, K_, L_, M_, N_, O_, C.toD, P_, Q_, R_, S_, T_, Obs.fits, U_, eqD, V_, W_, X_, Y_, Z_]
  refine ⟨fun hlt => ?_, fun hge => ⟨k, rfl, by omega, by omega, fun _ => ⟨⟨hsmall, by rw [List.take_of_length_le hge] at hall; exact hall⟩, by rw [List.take_of_length_le hge] at hm1; omega⟩⟩⟩
  refine row_of hlt (crow_len _) ?_
  simp -implicitDefEqProofs [crow_len, take_crow, pure_d, re_d, kw, ew, sw, tw, a_, b_, c_, -List.set_cons_succ, -List.set_cons_zero, A.ok, A.val, d_, e_, f_, g_, h_, i_, j_, k_, l_, m_, unA, unD, n_, AOp.total, o_, p_, q_, r_, s_, t_, u_, v_, A.thaw, C.thaw, A.fits, As.fits, C.fits, evs, oks, w_, A.pure, C.pure, A.re, C.re, x_, y_, cut, A.cells, C.rows?, z_, A_, B_, C_, D_, Ob.re, Cs.fits, E_, F_, G_, H_, I_, J_, K_, L_, M_, N_, O_, C.toD, P_, Q_, R_, S_, T_, Obs.fits, U_, eqD, V_, W_, X_, Y_, Z_]
  refine call_some (h l[i] (List.getElem_mem hlt) k hm0 (by omega) _) (by simp) (fun r => LeftW.re) hf ?_
  rintro _ ⟨q, rfl, hq0, hq1, hq2⟩
  have hadd : inR .i64 ((i : Int) + 1) := small_i64 (by omega) (by omega)
  simp -implicitDefEqProofs [hadd, kw, ew, sw, tw, a_, b_, c_, -List.set_cons_succ, -List.set_cons_zero, A.ok, A.val, d_, e_, f_, g_, h_, i_, j_, k_, l_, m_, unA, unD, n_, AOp.total, o_, p_, q_, r_, s_, t_, u_, v_, A.thaw, C.thaw, A.fits, As.fits, C.fits, evs, oks, w_, A.pure, C.pure, A.re, C.re, x_, y_, cut, A.cells, C.rows?, z_, A_, B_, C_, D_, Ob.re, Cs.fits, E_, F_, G_, H_, I_, J_, K_, L_, M_, N_, O_, C.toD, P_, Q_, R_, S_, T_, Obs.fits, U_, eqD, V_, W_, X_, Y_, Z_]
  refine ⟨fun _ => ⟨-1, rfl, by omega, by omega, fun h => by omega⟩, fun hk => ?_⟩
  have hw := wsum_take_succ Cl.wt l hlt
  have hq3 := (hq2 hk).2
  refine loop_back (i + 1, q) (by simp [setAll]) ⟨hlt, hk, by simp only [hw]; omega, fun t ht => ?_⟩ (by show l.length - (i + 1) < l.length - i; omega)
  rw [List.take_succ_eq_append_getElem hlt, List.mem_append] at ht
  rcases ht with ht | ht
  · exact hall t ht
  · simp at ht; subst ht; exact (hq2 hk).1

theorem szwClauseS_calls (l : List Cl) (hl : l.length ≤ reachBytes) (h : ∀ c ∈ l, c.fine) (m : Int) (h0 : 0 ≤ m) (h1 : m ≤ 1048576) (H : Heap) :
    ACalls Try.prog 33 [.c (.d (.sl (l.map Cl.row))), .c (.d (.int .i64 m))] H (fun r H' => H' = H ∧ LeftW m (FitsC l) (wsum Cl.wt l) r) :=
  szClauseS_w l hl (fun c hc => szwClause_calls c (h c hc)) m h0 h1 H
-- 39 loop.example/prologserver/laws.markClauseS params 2 ntmps 53
-- loop head live: [0, 1, 5]
def ac39 : Cd := .seq (.region [⟨(some 4), .mv (.k (.c (.d (.int .i64 0)))), none⟩] [4])
  (.seq (.seq (.region [⟨(some 5), .mv (.k (.c (.d (.int .i64 0)))), none⟩] [])
    (.block 0 (.loop (.seq (.seq (.region [⟨(some 6), .mv (.t 5), none⟩,
              ⟨(some 7), .mv (.t 0), none⟩,
              ⟨(some 8), .len 1 (.t 7), none⟩,
              ⟨(some 9), .bin .lss (.t 6) (.t 8), none⟩] [6, 7, 8])
          (.cond (.t 9)
            (.skip)
            (.exit 0)))
        (.seq (.block 1 (.seq (.region [⟨(some 12), .mv (.t 0), none⟩,
                ⟨(some 13), .mv (.t 5), none⟩,
                ⟨(some 14), .mv (.t 1), none⟩,
                ⟨(some 15), .indexAddr 5 (.t 12) (.t 13), none⟩,
                ⟨(some 16), .fieldAddr 0 (.t 15), none⟩,
                ⟨(some 17), .fieldAddr 0 (.t 16), none⟩,
                ⟨none, .store 1 (.t 17) (.t 14), none⟩] [9, 12, 13, 14, 15, 16, 17])
            (.seq (.region [⟨(some 18), .mv (.t 1), none⟩,
                ⟨(some 19), .bin .add (.t 18) (.k (.c (.d (.int .i64 1)))), none⟩,
                ⟨(some 1), .mv (.t 19), none⟩] [18, 19])
            (.seq (.region [⟨(some 20), .mv (.t 0), none⟩,
                ⟨(some 21), .mv (.t 5), none⟩,
                ⟨(some 22), .mv (.t 1), none⟩,
                ⟨(some 23), .indexAddr 5 (.t 20) (.t 21), none⟩,
                ⟨(some 24), .fieldAddr 0 (.t 23), none⟩,
                ⟨(some 25), .fieldAddr 1 (.t 24), none⟩,
                ⟨none, .store 1 (.t 25) (.t 22), none⟩] [20, 21, 22, 23, 24, 25])
            (.seq (.region [⟨(some 26), .mv (.t 1), none⟩,
                ⟨(some 27), .bin .add (.t 26) (.k (.c (.d (.int .i64 1)))), none⟩,
                ⟨(some 1), .mv (.t 27), none⟩] [26, 27])
            (.seq (.region [⟨(some 28), .mv (.t 0), none⟩,
                ⟨(some 29), .mv (.t 5), none⟩,
                ⟨(some 30), .mv (.t 1), none⟩,
                ⟨(some 31), .qcall 56 [(.t 30)], none⟩,
                ⟨(some 32), .indexAddr 5 (.t 28) (.t 29), none⟩,
                ⟨(some 33), .fieldAddr 0 (.t 32), none⟩,
                ⟨(some 34), .fieldAddr 2 (.t 33), none⟩,
                ⟨none, .store 1 (.t 34) (.t 31), none⟩] [28, 29, 30, 31, 32, 33, 34])
            (.seq (.region [⟨(some 35), .mv (.t 1), none⟩,
                ⟨(some 36), .bin .add (.t 35) (.k (.c (.d (.int .i64 1)))), none⟩,
                ⟨(some 1), .mv (.t 36), none⟩] [35, 36])
            (.seq (.region [⟨(some 37), .mv (.t 0), none⟩,
                ⟨(some 38), .mv (.t 5), none⟩,
                ⟨(some 39), .indexAddr 5 (.t 37) (.t 38), none⟩,
                ⟨(some 40), .fieldAddr 0 (.t 39), none⟩,
                ⟨(some 41), .fieldAddr 3 (.t 40), none⟩,
                ⟨(some 42), .load none (.t 41), none⟩,
                ⟨(some 43), .mv (.t 1), none⟩,
                ⟨(some 44), .call false 24 [(.t 42), (.t 43)], none⟩,
                ⟨(some 1), .mv (.t 44), none⟩] [37, 38, 39, 40, 41, 42, 43, 44])
            (.region [⟨(some 45), .mv (.t 0), none⟩,
              ⟨(some 46), .mv (.t 5), none⟩,
              ⟨(some 47), .indexAddr 5 (.t 45) (.t 46), none⟩,
              ⟨(some 48), .fieldAddr 4 (.t 47), none⟩,
              ⟨(some 49), .load none (.t 48), none⟩,
              ⟨(some 50), .mv (.t 1), none⟩,
              ⟨(some 51), .call false 24 [(.t 49), (.t 50)], none⟩,
              ⟨(some 1), .mv (.t 51), none⟩] [45, 46, 47, 48, 49, 50, 51])))))))))
        (.region [⟨(some 10), .mv (.t 5), none⟩,
          ⟨(some 11), .bin .add (.t 10) (.k (.c (.d (.int .i64 1)))), none⟩,
          ⟨(some 5), .mv (.t 11), none⟩] [10, 11]))))))
  (.seq (.region [⟨(some 52), .mv (.t 1), none⟩,
      ⟨(some 4), .mv (.t 52), none⟩] [1, 52])
  (.ret)))
theorem ac39_ok : cFunc Try.prog [1000056] [(0, [4], []), (1, [], []), (2, [6, 7, 8], []), (4, [9, 12, 13, 14, 15, 16, 17], []), (5, [18, 19], []), (6, [20, 21, 22, 23, 24, 25], []), (7, [26, 27], []), (8, [28, 29, 30, 31, 32, 33, 34], []), (9, [35, 36], []), (10, [37, 38, 39, 40, 41, 42, 43, 44], []), (11, [45, 46, 47, 48, 49, 50, 51], []), (3, [10, 11], []), (12, [1, 52], [])] Try.f39 = some (ac39, [.tmp 4], 53) := by kernel_rfl
/-- a clause that bears marks -/
def mCl (k : Int) (c : Cl) : Cl := ⟨mTm k c.head, mTms (k + 3 + 3 * c.head.sub) c.body⟩
def mCls (k : Int) : List Cl → List Cl
  | [] => []
  | c :: l => mCl k c :: mCls (k + 3 + 3 * c.sub) l
theorem mCls_len : ∀ (k : Int) (l : List Cl), (mCls k l).length = l.length
  | k, [] => rfl
  | k, c :: l => by rw [mCls, List.length_cons, mCls_len, List.length_cons]
theorem mCls_get : ∀ (k : Int) (l : List Cl) (i : Nat) (h : i < l.length), (mCls k l)[i]? = some (mCl (k + 3 * wsum Cl.sub (l.take i)) l[i])
  | k, c :: l, 0, h => by rw [mCls]; simp [wsum]
  | k, c :: l, i + 1, h => by
    rw [mCls, List.getElem?_cons_succ, mCls_get _ l i (by simpa using h)]
    simp only [List.take_succ_cons, wsum, List.getElem_cons_succ]
    congr 2
    simp only [Int.natCast_add]
    omega
theorem mCl_row (k : Int) (c : Cl) : (mCl k c).row = [.int .i64 k, .int .i64 (k + 1), .str (mText (k + 1 + 1)), .sl ((mTms (k + 1 + 1 + 1) c.head.kids).map Tm.row), .sl ((mTms (k + 1 + 1 + 1 + 3 * c.head.sub) c.body).map Tm.row)] := by
  have h := mTm_row k c.head
  rw [row_eq] at h
  simp only [List.cons.injEq, D.int.injEq, D.str.injEq, D.sl.injEq, and_true, true_and] at h
  simp only [mCl, Cl.row]
  rw [h.1, h.2.1, h.2.2.1, h.2.2.2, show k + 1 + 1 = k + 2 by omega, show k + 2 + 1 = k + 3 by omega]
theorem cl_rows (l : List Cl) : ∀ r ∈ l.map Cl.row, r.length = 5 := fun r hr => by obtain ⟨t, _, rfl⟩ := List.mem_map.1 hr; rfl
theorem cl_nsl (l : List Cl) : ∀ r ∈ l.map Cl.row, nsl r = 2 := fun r hr => by obtain ⟨t, _, rfl⟩ := List.mem_map.1 hr; rfl
theorem markClauseS_calls (l : List Cl) (h : FitsC l) (k : Int) (h0 : 0 ≤ k) (h1 : k + 3 * wsum Cl.sub l ≤ 500000000000000) (kv : Value) :
    ACalls Try.prog 39 [.c (.d (.v kv)), .c (.d (.int .i64 k))] [.tree kv (l.map Cl.row)]
    (fun r H' => H' = [.tree kv ((mCls k l).map Cl.row)] ∧ r = .c (.d (.int .i64 (k + 3 * wsum Cl.sub l)))) := by
  have hl := h.1
  refine (acalls_tree (f := 39) (pre := []) (post := [.c (.d (.int .i64 k))]) (rows := l.map Cl.row) (Q := fun r rows' => r = .c (.d (.int .i64 (k + 3 * wsum Cl.sub l))) ∧ rows' = (mCls k l).map Cl.row) 5 (cl_rows l) rfl rfl (fun he => ?_) (fun hne srows trees hst hlens => ?_) kv).mono fun r H' ⟨rows', h1, _, h2, h3⟩ => ⟨by rw [h1, h3], h2⟩
  · obtain rfl : l = [] := by simpa using he
    have hk0 : inR .i64 k := small_i64 (by simp [wsum] at h1; omega) (by simp [wsum] at h1; omega)
    have hz0 : inR .i64 0 := small_i64 (by omega) (by omega)
    refine acalls Try.func39 (by kernel_rfl) ac39_ok fun hf => ?_
    simp -implicitDefEqProofs [ac39, kw, ew, sw, tw, a_, b_, c_, -List.set_cons_succ, -List.set_cons_zero, A.ok, A.val, d_, e_, f_, g_, h_, i_, j_, k_, l_, m_, unA, unD, n_, AOp.total, o_, p_, q_, r_, s_, t_, u_, v_, A.thaw, C.thaw, A.fits, As.fits, C.fits, evs, oks, w_, A.pure, C.pure, A.re, C.re, x_, y_, cut, A.cells, C.rows?, z_, A_, B_, C_, D_, Ob.re, Cs.fits, E_, F_, G_, H_, I_, J_, K_, L_, M_, N_, O_, C.toD, P_, Q_, R_, S_, T_, Obs.fits, U_, eqD, V_, W_, X_, Y_, Z_]
    refine loop_set (σ := Unit) (fun _ => [(5, .c (.d (.int .i64 0)))]) (fun _ => []) (fun _ => []) (fun _ => True) (fun _ => 0) () rfl trivial ?_
    intro _ _
    simp -implicitDefEqProofs [setAll, hz0, mCls, wsum, A.portT, A.portB, C.portB, D.leaf, kw, ew, sw, tw, a_, b_, c_, -List.set_cons_succ, -List.set_cons_zero, A.ok, A.val, d_, e_, f_, g_, h_, i_, j_, k_, l_, m_, unA, unD, n_, AOp.total, o_, p_, q_, r_, s_, t_, u_, v_, A.thaw, C.thaw, A.fits, As.fits, C.fits, evs, oks, w_, A.pure, C.pure, A.re, C.re, x_, y_, cut, A.cells, C.rows?, z_, A_, B_, C_, D_, Ob.re, Cs.fits, E_, F_, G_, H_, I_, J_, K_, L_, M_, N_, O_, C.toD, P_, Q_, R_, S_, T_, Obs.fits, U_, eqD, V_, W_, X_, Y_, Z_]
  · obtain ⟨vss, hV, hc, ht⟩ := rows_unstrip (m := 2) _ _ _ (cl_nsl l) hst
    obtain rfl := flatten_uniq hc (by rw [hlens, cut_lens hV.1])
    subst ht
    have hvl : vss.length = l.length := by rw [hV.1]; simp
    obtain ⟨kk, hkk⟩ : ∃ kk : Nat → Int, ∀ j, kk j = k + 3 * (wsum Cl.sub (l.take j) : Int) := ⟨_, fun _ => rfl⟩
    obtain ⟨fr, hfr⟩ : ∃ fr : Nat → List D, ∀ j, fr j = cutR (mCl (kk j) (l.getD j ⟨default, []⟩)).row (vss.getD j []) := ⟨_, fun _ => rfl⟩
    obtain ⟨ft, hft⟩ : ∃ ft : Nat → Heap, ∀ j, ft j = trs (mCl (kk j) (l.getD j ⟨default, []⟩)).row (vss.getD j []) := ⟨_, fun _ => rfl⟩
    obtain ⟨R, hR⟩ : ∃ R, R = List.zipWith cutR (l.map Cl.row) vss := ⟨_, rfl⟩
    obtain ⟨T, hT⟩ : ∃ T, T = List.zipWith trs (l.map Cl.row) vss := ⟨_, rfl⟩
    have hRl : R.length = l.length := by simp [hR, hvl]
    have hTl : T.length = l.length := by simp [hT, hvl]
    have hTm : ∀ p ∈ T, p.length = 2 := by rw [hT]; exact zipt_lens hV
    have hTt : ∀ p ∈ T, p.all Ob.isTreeB = true := by rw [hT]; exact zipt_trees _ _
    have hRi : ∀ i (hi : i < l.length), ∃ v w, vss[i]? = some [v, w] ∧ R[i]? = some [.int .i64 l[i].head.k, .int .i64 l[i].head.n, .str l[i].head.s, .v v, .v w] ∧ T[i]? = some [.tree v (l[i].head.kids.map Tm.row), .tree w (l[i].body.map Tm.row)] := fun i hi => by
      have h1 : vss[i]? = some (vss[i]'(by omega)) := List.getElem?_eq_getElem _
      have h2 := hV.2.2 _ (List.mem_of_getElem? h1)
      match hvi : vss[i]'(by omega), h2 with
      | [v, w], _ =>
        rw [hvi] at h1
        refine ⟨v, w, h1, ?_, ?_⟩
        · rw [hR, List.getElem?_zipWith, h1]; simp [hi]; rfl
        · rw [hT, List.getElem?_zipWith, h1]; simp [hi]; rfl
    have hmem : ∀ i (hi : i ≤ l.length), ∀ p ∈ mixed ft T i, p.length = 2 := fun i hi p hp => by
      rcases List.mem_append.1 hp with hp | hp
      · obtain ⟨j, hj, rfl⟩ := List.mem_map.1 hp
        have hjl : j < l.length := by simp at hj; omega
        obtain ⟨v, w, e1, _, _⟩ := hRi j hjl
        rw [hft, trs_len _ _ (by simp [List.getD, e1, Cl.row, nsl])]
        rfl
      · exact hTm p (List.mem_of_mem_drop hp)
    have hmt : ∀ i, (mixed ft T i).flatten.all Ob.isTreeB = true := fun i => flat_trees fun p hp => by
      rcases List.mem_append.1 hp with hp | hp
      · obtain ⟨j, hj, rfl⟩ := List.mem_map.1 hp
        rw [hft]; exact trs_trees _ _
      · exact hTt p (List.mem_of_mem_drop hp)
    rw [← hR, ← hT]
    refine acalls Try.func39 (by kernel_rfl) ac39_ok fun hf => ?_
    have hli : inR .i64 (l.length : Int) := small_i64 (by omega) (by omega)
    simp -implicitDefEqProofs [ac39, hli, kw, ew, sw, tw, a_, b_, c_, -List.set_cons_succ, -List.set_cons_zero, A.ok, A.val, d_, e_, f_, g_, h_, i_, j_, k_, l_, m_, unA, unD, n_, AOp.total, o_, p_, q_, r_, s_, t_, u_, v_, A.thaw, C.thaw, A.fits, As.fits, C.fits, evs, oks, w_, A.pure, C.pure, A.re, C.re, x_, y_, cut, A.cells, C.rows?, z_, A_, B_, C_, D_, Ob.re, Cs.fits, E_, F_, G_, H_, I_, J_, K_, L_, M_, N_, O_, C.toD, P_, Q_, R_, S_, T_, Obs.fits, U_, eqD, V_, W_, X_, Y_, Z_]
    refine loop_set (σ := Nat) (fun i => [(5, .c (.d (.int .i64 i))), (1, .c (.d (.int .i64 (kk i))))]) (fun i => .rows (mixed fr R i) :: (mixed ft T i).flatten) (fun _ => []) (fun i => i ≤ l.length) (fun i => l.length - i) 0 (by simp [setAll, mixed_zero, hkk, wsum]) (Nat.zero_le _) ?_
    intro i hi
    obtain ⟨TT, hTT⟩ : ∃ TT, TT = (mixed ft T i).flatten := ⟨_, rfl⟩
    have hTa : TT.all Ob.isTreeB = true := by rw [hTT]; exact hmt i
    rw [← hTT]
    simp -implicitDefEqProofs [setAll, hli, kw, ew, sw, tw, a_, b_, c_, -List.set_cons_succ, -List.set_cons_zero, A.ok, A.val, d_, e_, f_, g_, h_, i_, j_, k_, l_, m_, unA, unD, n_, AOp.total, o_, p_, q_, r_, s_, t_, u_, v_, A.thaw, C.thaw, A.fits, As.fits, C.fits, evs, oks, w_, A.pure, C.pure, A.re, C.re, x_, y_, cut, A.cells, C.rows?, z_, A_, B_, C_, D_, Ob.re, Cs.fits, E_, F_, G_, H_, I_, J_, K_, L_, M_, N_, O_, C.toD, P_, Q_, R_, S_, T_, Obs.fits, U_, eqD, V_, W_, X_, Y_, Z_]
    refine ⟨fun hlt => ⟨hlt, ?_⟩, fun hge => ?_⟩
    · have hs := wsum_take_sub Cl.sub l hlt
      have hki := hkk i
      obtain ⟨v, w, hv, hRv, hTv⟩ := hRi i hlt
      have hc := h.2 l[i] (List.getElem_mem hlt)
      have hcs : l[i].sub = l[i].head.sub + Tm.cnt l[i].body := rfl
      have hRlt : i < R.length := by omega
      have hTlt : i < T.length := by omega
      have hlm : i < (mixed fr R i).length := by rw [mixed_len _ _ (by omega)]; exact hRlt
      have hgs : ∀ r, ((mixed fr R i).set i r)[i]? = some r := fun r => List.getElem?_set_self hlm
      have hget : (mixed fr R i)[i]? = some [.int .i64 l[i].head.k, .int .i64 l[i].head.n, .str l[i].head.s, .v v, .v w] := by rw [mixed_get _ _ hRlt, ← List.getElem?_eq_getElem hRlt, hRv]
      have hTg : (mixed ft T i)[i]? = some [.tree v (l[i].head.kids.map Tm.row), .tree w (l[i].body.map Tm.row)] := by rw [mixed_get _ _ hTlt, ← List.getElem?_eq_getElem hTlt, hTv]
      have hg0 : TT[i * 2]? = some (.tree v (l[i].head.kids.map Tm.row)) := by rw [hTT]; exact fl_get (j := 0) (hmem i hi) hTg (by omega)
      have hg1 : TT[i * 2 + 1]? = some (.tree w (l[i].body.map Tm.row)) := by rw [hTT]; exact fl_get (j := 1) (hmem i hi) hTg (by omega)
      have i0 : inR .i64 (kk i) := small_i64 (by omega) (by omega)
      have i1 : inR .i64 (kk i + 1) := small_i64 (by omega) (by omega)
      have i2 : inR .i64 (kk i + 1 + 1) := small_i64 (by omega) (by omega)
      have i3 : inR .i64 (kk i + 1 + 1 + 1) := small_i64 (by omega) (by omega)
      have hadd : inR .i64 ((i : Int) + 1) := small_i64 (by omega) (by omega)
      have hfx : ∀ rs (T' : Heap), T'.all Ob.isTreeB = true → Obs.fits ((Ob.rows rs :: T').length) 0 (Ob.rows rs :: T') := fun rs T' h => ⟨trivial, trees_fits h⟩
      simp -implicitDefEqProofs [hget, hgs, hlt, i0, i1, i2, i3, hadd, kw, ew, sw, tw, a_, b_, c_, -List.set_cons_succ, -List.set_cons_zero, A.ok, A.val, d_, e_, f_, g_, h_, i_, j_, k_, l_, m_, unA, unD, n_, AOp.total, o_, p_, q_, r_, s_, t_, u_, v_, A.thaw, C.thaw, A.fits, As.fits, C.fits, evs, oks, w_, A.pure, C.pure, A.re, C.re, x_, y_, cut, A.cells, C.rows?, z_, A_, B_, C_, D_, Ob.re, Cs.fits, E_, F_, G_, H_, I_, J_, K_, L_, M_, N_, O_, C.toD, P_, Q_, R_, S_, T_, Obs.fits, U_, eqD, V_, W_, X_, Y_, Z_]
      refine ⟨hfx _ _ hTa, hfx _ _ hTa, qcall_pure (markText_calls _ (by omega)) (hfx _ _ hTa) rfl ?_⟩
      simp -implicitDefEqProofs [hget, hgs, hlt, i0, i1, i2, i3, hadd, kw, ew, sw, tw, a_, b_, c_, -List.set_cons_succ, -List.set_cons_zero, A.ok, A.val, d_, e_, f_, g_, h_, i_, j_, k_, l_, m_, unA, unD, n_, AOp.total, o_, p_, q_, r_, s_, t_, u_, v_, A.thaw, C.thaw, A.fits, As.fits, C.fits, evs, oks, w_, A.pure, C.pure, A.re, C.re, x_, y_, cut, A.cells, C.rows?, z_, A_, B_, C_, D_, Ob.re, Cs.fits, E_, F_, G_, H_, I_, J_, K_, L_, M_, N_, O_, C.toD, P_, Q_, R_, S_, T_, Obs.fits, U_, eqD, V_, W_, X_, Y_, Z_]
      have hca : ∀ (a : Ob) (l : Heap) (n : Nat) (b : Ob), (a :: l).set (n + 1) b = a :: l.set n b := fun _ _ _ _ => rfl
      have hTb : (TT.set (i * 2) (.tree v ((mTms (kk i + 1 + 1 + 1) l[i].head.kids).map Tm.row))).all Ob.isTreeB = true := by
        rw [List.all_eq_true] at hTa ⊢
        intro o ho
        rcases List.mem_or_eq_of_mem_set ho with ho | rfl
        · exact hTa o ho
        · rfl
      have hg2 : (TT.set (i * 2) (.tree v ((mTms (kk i + 1 + 1 + 1) l[i].head.kids).map Tm.row)))[i * 2 + 1]? = some (.tree w (l[i].body.map Tm.row)) := by rw [List.getElem?_set_ne (by omega)]; exact hg1
      refine ⟨hfx _ _ hTa, call_ext (J := [i * 2 + 1]) (markT_calls l[i].head hc.head (kk i + 1 + 1 + 1) (by omega) (by omega) v) (fun r H' ⟨h1, h2⟩ => by subst h1; subst h2; exact ⟨⟨rfl, rfl⟩, rfl⟩) (by simp) (.cons (.c .d) (.cons (.c .d) .nil)) (by simp) (by simp [hg0]) rfl (hfx _ _ hTa) ?_⟩
      rintro _ _ ⟨rfl, rfl⟩
      simp -implicitDefEqProofs [putAll, hca, hadd, hgs, kw, ew, sw, tw, a_, b_, c_, -List.set_cons_succ, -List.set_cons_zero, A.ok, A.val, d_, e_, f_, g_, h_, i_, j_, k_, l_, m_, unA, unD, n_, AOp.total, o_, p_, q_, r_, s_, t_, u_, v_, A.thaw, C.thaw, A.fits, As.fits, C.fits, evs, oks, w_, A.pure, C.pure, A.re, C.re, x_, y_, cut, A.cells, C.rows?, z_, A_, B_, C_, D_, Ob.re, Cs.fits, E_, F_, G_, H_, I_, J_, K_, L_, M_, N_, O_, C.toD, P_, Q_, R_, S_, T_, Obs.fits, U_, eqD, V_, W_, X_, Y_, Z_]
      refine ⟨hlt, ?_⟩
      refine call_ext (loc := []) (J := [i * 2 + 1 + 1]) (markTermS_calls l[i].body hc.len hc.body (kk i + 1 + 1 + 1 + 3 * l[i].head.sub) (by omega) (by omega) w) (fun r H' ⟨h1, h2⟩ => by subst h1; subst h2; exact ⟨⟨rfl, rfl⟩, rfl⟩) (by simp) (.cons (.c .d) (.cons (.c .d) .nil)) (by simp) (by simp [hg2]) rfl (hfx _ _ hTb) ?_
      rintro _ _ ⟨rfl, rfl⟩
      simp -implicitDefEqProofs [putAll, hca, hadd, kw, ew, sw, tw, a_, b_, c_, -List.set_cons_succ, -List.set_cons_zero, A.ok, A.val, d_, e_, f_, g_, h_, i_, j_, k_, l_, m_, unA, unD, n_, AOp.total, o_, p_, q_, r_, s_, t_, u_, v_, A.thaw, C.thaw, A.fits, As.fits, C.fits, evs, oks, w_, A.pure, C.pure, A.re, C.re, x_, y_, cut, A.cells, C.rows?, z_, A_, B_, C_, D_, Ob.re, Cs.fits, E_, F_, G_, H_, I_, J_, K_, L_, M_, N_, O_, C.toD, P_, Q_, R_, S_, T_, Obs.fits, U_, eqD, V_, W_, X_, Y_, Z_]
      have hk1 : kk (i + 1) = kk i + 1 + 1 + 1 + 3 * (l[i].head.sub : Int) + 3 * (Tm.cnt l[i].body : Int) := by
        have := wsum_take_succ Cl.sub l hlt
        rw [hkk, hkk]; omega
      have hvd : vss.getD i [] = [v, w] := by simp [List.getD, hv]
      have hld : l.getD i ⟨default, []⟩ = l[i] := by simp [hlt]
      have e1 := mixed_set fr R hRlt
      have e2 := mixed_set ft T hTlt
      rw [hfr, hld, hvd, mCl_row] at e1
      rw [hft, hld, hvd, mCl_row] at e2
      have hl2 := hmem i hi
      have s1 := fl_set (j := 0) hl2 hTg (by omega) (.tree v ((mTms (kk i + 1 + 1 + 1) l[i].head.kids).map Tm.row))
      have hTm1 : i < (mixed ft T i).length := by rw [mixed_len _ _ (by omega)]; exact hTlt
      have s2 := fl_set (L := (mixed ft T i).set i [.tree v ((mTms (kk i + 1 + 1 + 1) l[i].head.kids).map Tm.row), .tree w (l[i].body.map Tm.row)]) (m := 2) (i := i) (j := 1) (fun p hp => by
        rcases List.mem_or_eq_of_mem_set hp with hp | rfl
        · exact hl2 p hp
        · rfl) (List.getElem?_set_self hTm1) (by omega) (.tree w ((mTms (kk i + 1 + 1 + 1 + 3 * l[i].head.sub) l[i].body).map Tm.row))
      have s3 : (TT.set (i * 2) (.tree v ((mTms (kk i + 1 + 1 + 1) l[i].head.kids).map Tm.row))).set (i * 2 + 1) (.tree w ((mTms (kk i + 1 + 1 + 1 + 3 * l[i].head.sub) l[i].body).map Tm.row)) = (mixed ft T (i + 1)).flatten := by
        rw [← e2, hTT]
        refine (congrArg (fun x => List.set x (i * 2 + 1) _) s1).trans (s2.trans ?_)
        rw [List.set_set]
        rfl
      refine loop_back (i + 1) ?_ hlt (by show l.length - (i + 1) < l.length - i; omega)
      simp only [hk1, ← e1, ← s3]
      simp [setAll, cutR]
    · obtain rfl : i = l.length := by omega
      have hml := mCls_len k l
      have hV' : Vals 2 ((mCls k l).map Cl.row) vss := ⟨by simp [hml, hvl], cl_nsl _, hV.2.2⟩
      have e1 : mixed fr R l.length = List.zipWith cutR ((mCls k l).map Cl.row) vss := by
        refine List.ext_getElem? fun j => ?_
        rw [mixed_get' _ _ (by omega)]
        by_cases hj : j < l.length
        · obtain ⟨v, w, hv, _, _⟩ := hRi j hj
          rw [if_pos hj, hfr, List.getElem?_zipWith, List.getElem?_map, mCls_get k l j hj, hv, hkk]; simp [hj, List.getD, hv]
        · rw [if_neg hj, List.getElem?_eq_none (by omega), List.getElem?_eq_none (by simp [hml]; omega)]
      have e2 : mixed ft T l.length = List.zipWith trs ((mCls k l).map Cl.row) vss := by
        refine List.ext_getElem? fun j => ?_
        rw [mixed_get' _ _ (by omega)]
        by_cases hj : j < l.length
        · obtain ⟨v, w, hv, _, _⟩ := hRi j hj
          rw [if_pos hj, hft, List.getElem?_zipWith, List.getElem?_map, mCls_get k l j hj, hv, hkk]; simp [hj, List.getD, hv]
        · rw [if_neg hj, List.getElem?_eq_none (by omega), List.getElem?_eq_none (by simp [hml]; omega)]
      rw [e1, hTT, e2]
      refine ⟨_, _, _, strip_rows _ _ hV', by simp [hml], cl_rows _, cut_lens hV'.1, ?_, ⟨rfl, rfl⟩, rfl, by rw [hkk, List.take_length], rfl⟩
      rw [List.length_flatten, sum_len (zipt_lens hV'), sum_len hTm, hTl]
      simp [hml, hvl]
end Go.Proofs.Ytaegeehpajlebaa
