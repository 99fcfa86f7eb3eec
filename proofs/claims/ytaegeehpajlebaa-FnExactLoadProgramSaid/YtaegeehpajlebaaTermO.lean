/-
  Copies of terms that stand in arrays of their own.
  Conditions: none.
-/
import Derived.Test.YtaegeehpajlebaaTermM
open Go Go.AM Go.Proofs
namespace Go.Proofs.Ytaegeehpajlebaa
open Go.ChangeShapes Go.WideShapes Go.ChangeAt Go.RowKit
set_option linter.unusedVariables false
set_option linter.unusedSimpArgs false
set_option maxRecDepth 100000
namespace Own
-- 20 loop.example/prologserver/laws.toTermS params 1 ntmps 23
-- loop head live: [0, 3, 4]
def ac20 : Cd := .seq (.region [⟨(some 2), .mv (.k (.c (.full []))), none⟩] [2])
  (.seq (.region [⟨(some 5), .mv (.t 0), none⟩,
      ⟨(some 6), .len 1 (.t 5), none⟩,
      ⟨(some 7), .mkSlice [(.int .i64 0), (.int .i64 0), (.str []), (.sl [])] (.t 6), none⟩,
      ⟨(some 3), .mv (.t 7), none⟩] [5, 6, 7])
  (.seq (.seq (.region [⟨(some 4), .mv (.k (.c (.d (.int .i64 0)))), none⟩] [])
    (.block 0 (.loop (.seq (.seq (.region [⟨(some 8), .mv (.t 4), none⟩,
              ⟨(some 9), .mv (.t 0), none⟩,
              ⟨(some 10), .len 1 (.t 9), none⟩,
              ⟨(some 11), .bin .lss (.t 8) (.t 10), none⟩] [8, 9, 10])
          (.cond (.t 11)
            (.skip)
            (.exit 0)))
        (.seq (.block 1 (.region [⟨(some 14), .mv (.t 3), none⟩,
              ⟨(some 15), .mv (.t 4), none⟩,
              ⟨(some 16), .mv (.t 0), none⟩,
              ⟨(some 17), .mv (.t 4), none⟩,
              ⟨(some 18), .indexAddr 4 (.t 16) (.t 17), none⟩,
              ⟨(some 19), .load (some 4) (.t 18), none⟩,
              ⟨(some 20), .call false 10 [(.t 19)], none⟩,
              ⟨(some 21), .indexAddr 4 (.t 14) (.t 15), none⟩,
              ⟨none, .store 4 (.t 21) (.t 20), none⟩] [11, 14, 15, 16, 17, 18, 19, 20, 21]))
        (.region [⟨(some 12), .mv (.t 4), none⟩,
          ⟨(some 13), .bin .add (.t 12) (.k (.c (.d (.int .i64 1)))), none⟩,
          ⟨(some 4), .mv (.t 13), none⟩] [12, 13]))))))
  (.seq (.region [⟨(some 22), .mv (.t 3), none⟩,
      ⟨(some 2), .mv (.t 22), none⟩] [3, 22])
  (.ret))))
theorem ac20_ok : cFunc Try.prog [] [(0, [2], []), (1, [5, 6, 7], []), (2, [], []), (3, [8, 9, 10], []), (5, [11, 14, 15, 16, 17, 18, 19, 20, 21], []), (4, [12, 13], []), (6, [3, 22], [])] Try.f20 = some (ac20, [.tmp 2], 23) := by kernel_rfl
-- 10 loop.example/prologserver/laws.toTerm params 1 ntmps 18
def ac10 : Cd := .seq (.region [⟨(some 1), .box (.t 0), none⟩,
      ⟨(some 2), .alloc [(.d (.int .i64 0)), (.d (.int .i64 0)), (.d (.str [])), (.full [])], none⟩] [0])
  (.seq (.region [⟨(some 3), .alloc [(.d (.int .i64 0)), (.d (.int .i64 0)), (.d (.str [])), (.full [])], none⟩] [])
  (.seq (.region [⟨(some 4), .fieldAddr 0 (.t 1), none⟩,
      ⟨(some 5), .load none (.t 4), none⟩,
      ⟨(some 6), .fieldAddr 0 (.t 3), none⟩,
      ⟨none, .store 1 (.t 6) (.t 5), none⟩] [4, 5, 6])
  (.seq (.region [⟨(some 7), .fieldAddr 1 (.t 1), none⟩,
      ⟨(some 8), .load none (.t 7), none⟩,
      ⟨(some 9), .fieldAddr 1 (.t 3), none⟩,
      ⟨none, .store 1 (.t 9) (.t 8), none⟩] [7, 8, 9])
  (.seq (.region [⟨(some 10), .fieldAddr 2 (.t 1), none⟩,
      ⟨(some 11), .load none (.t 10), none⟩,
      ⟨(some 12), .fieldAddr 2 (.t 3), none⟩,
      ⟨none, .store 1 (.t 12) (.t 11), none⟩] [10, 11, 12])
  (.seq (.region [⟨(some 13), .fieldAddr 3 (.t 1), none⟩,
      ⟨(some 14), .load none (.t 13), none⟩,
      ⟨(some 15), .call false 20 [(.t 14)], none⟩,
      ⟨(some 16), .fieldAddr 3 (.t 3), none⟩,
      ⟨none, .store 1 (.t 16) (.t 15), none⟩] [1, 13, 14, 15, 16])
  (.seq (.region [⟨(some 17), .load (some 4) (.t 3), none⟩,
      ⟨none, .store 4 (.t 2) (.t 17), none⟩] [3, 17])
  (.ret)))))))
theorem ac10_ok : cFunc Try.prog [] [(0, [0], []), (1, [], []), (2, [4, 5, 6], []), (3, [7, 8, 9], []), (4, [10, 11, 12], []), (5, [1, 13, 14, 15, 16], []), (6, [3, 17], [])] Try.f10 = some (ac10, [.cell 2 (some 4)], 18) := by kernel_rfl
end Own
/-- what is handed out: rows in an array of their own -/
def HandsRows (rows : List (List D)) (r : A) (H : Heap) : Prop := ∃ v : Value, r = .c (.d (.v v)) ∧ H = [.tree v rows]
theorem HandsRows.handed {rows : List (List D)} {r : A} {H : Heap} (h : HandsRows rows r H) : Handed r H := by
  obtain ⟨v, rfl, rfl⟩ := h
  exact ⟨rfl, rfl⟩
/-- .. a term -/
def HandsTm (t : Tm) (r : A) (H : Heap) : Prop := ∃ v : Value, r = .agg [.d (.int .i64 t.k), .d (.int .i64 t.n), .d (.str t.s), .d (.v v)] ∧ H = [.tree v (t.kids.map Tm.row)]
theorem HandsTm.handed {t : Tm} {r : A} {H : Heap} (h : HandsTm t r H) : Handed r H := by
  obtain ⟨v, rfl, rfl⟩ := h
  exact ⟨rfl, rfl⟩
def zrow : List D := [.int .i64 0, .int .i64 0, .str [], .sl []]
/-- rows of which the first are made -/
def fillv (l : List Tm) (vs : List Value) : List (List D) := List.zipWith srow l vs ++ List.replicate (l.length - vs.length) zrow
theorem fillv_nil (l : List Tm) : fillv l [] = List.replicate l.length zrow := by simp [fillv]
theorem fillv_all {l : List Tm} {vs : List Value} (h : vs.length = l.length) : fillv l vs = List.zipWith srow l vs := by simp [fillv, h]
theorem fillv_get {l : List Tm} {vs : List Value} (h : vs.length < l.length) : (fillv l vs)[vs.length]? = some zrow := by
  rw [fillv, List.getElem?_append_right (by simp; omega)]
  have : vs.length - (List.zipWith srow l vs).length = 0 := by simp; omega
  rw [this, List.getElem?_replicate, if_pos (by omega)]
theorem zip_snoc {α β γ : Type} (f : α → β → γ) (l : List α) (vs : List β) (v : β) (h : vs.length < l.length) : List.zipWith f l (vs ++ [v]) = List.zipWith f l vs ++ [f l[vs.length] v] := by
  induction vs generalizing l with
  | nil => cases l with
    | nil => simp at h
    | cons x l => simp
  | cons w vs ih => cases l with
    | nil => simp at h
    | cons x l => simp only [List.cons_append, List.zipWith_cons_cons, List.length_cons, List.getElem_cons_succ]; rw [ih l (by simpa using h)]
theorem fillv_set {l : List Tm} {vs : List Value} (v : Value) (h : vs.length < l.length) : (fillv l vs).set vs.length (srow l[vs.length] v) = fillv l (vs ++ [v]) := by
  have e : l.length - vs.length = (l.length - (vs ++ [v]).length) + 1 := by simp; omega
  rw [fillv, fillv, List.set_append_right _ _ (by simp; omega), zip_snoc _ _ _ _ h, e, List.replicate_succ]
  have : vs.length - (List.zipWith srow l vs).length = 0 := by simp; omega
  rw [this]
  simp
def ToO (t : Tm) : Prop := ACalls Try.prog 10 [.agg (t.row.map .d)] [] (HandsTm t)
theorem toTermSOwn_of (l : List Tm) (hl : l.length ≤ 1048576) (h : ∀ t ∈ l, ToO t) : ACalls Try.prog 20 [.c (.d (.sl (l.map Tm.row)))] [] (HandsRows (l.map Tm.row)) := by
  refine acallsT Try.func20 (by kernel_rfl) Own.ac20_ok ?_
  have hli : inR .i64 (l.length : Int) := small_i64 (by omega) (by omega)
  simp -implicitDefEqProofs [Own.ac20, hli, kw, ew, sw, tw, a_, b_, c_, -List.set_cons_succ, -List.set_cons_zero, A.ok, A.val, d_, e_, f_, g_, h_, i_, j_, k_, l_, m_, unA, unD, n_, AOp.total, o_, p_, q_, r_, s_, t_, u_, v_, A.thaw, C.thaw, A.fits, As.fits, C.fits, evs, oks, w_, A.pure, C.pure, A.re, C.re, x_, y_, cut, A.cells, C.rows?, z_, A_, B_, C_, D_, Ob.re, Cs.fits, E_, F_, G_, H_, I_, J_, K_, L_, M_, N_, O_, C.toD, P_, Q_, R_, S_, T_, Obs.fits, U_, eqD, V_, W_, X_, Y_, Z_]
  refine ⟨by unfold maxApp; omega, ?_⟩
  refine loop_set (σ := List Value) (fun vs => [(4, .c (.d (.int .i64 vs.length)))]) (fun _ => []) (fun vs => .rows (fillv l vs) :: List.zipWith ktree l vs) (fun vs => vs.length ≤ l.length) (fun vs => l.length - vs.length) [] (by simp [setAll, fillv_nil, zrow]) (Nat.zero_le _) ?_
  intro vs hi
  simp -implicitDefEqProofs [setAll, hli, kw, ew, sw, tw, a_, b_, c_, -List.set_cons_succ, -List.set_cons_zero, A.ok, A.val, d_, e_, f_, g_, h_, i_, j_, k_, l_, m_, unA, unD, n_, AOp.total, o_, p_, q_, r_, s_, t_, u_, v_, A.thaw, C.thaw, A.fits, As.fits, C.fits, evs, oks, w_, A.pure, C.pure, A.re, C.re, x_, y_, cut, A.cells, C.rows?, z_, A_, B_, C_, D_, Ob.re, Cs.fits, E_, F_, G_, H_, I_, J_, K_, L_, M_, N_, O_, C.toD, P_, Q_, R_, S_, T_, Obs.fits, U_, eqD, V_, W_, X_, Y_, Z_]
  refine ⟨fun hlt => ?_, fun hge => ?_⟩
  · have hadd : inR .i64 ((vs.length : Int) + 1) := small_i64 (by omega) (by omega)
    refine row_of hlt (row_len _) ?_
    simp -implicitDefEqProofs [row_len, take_row, pure_d, re_d, kw, ew, sw, tw, a_, b_, c_, -List.set_cons_succ, -List.set_cons_zero, A.ok, A.val, d_, e_, f_, g_, h_, i_, j_, k_, l_, m_, unA, unD, n_, AOp.total, o_, p_, q_, r_, s_, t_, u_, v_, A.thaw, C.thaw, A.fits, As.fits, C.fits, evs, oks, w_, A.pure, C.pure, A.re, C.re, x_, y_, cut, A.cells, C.rows?, z_, A_, B_, C_, D_, Ob.re, Cs.fits, E_, F_, G_, H_, I_, J_, K_, L_, M_, N_, O_, C.toD, P_, Q_, R_, S_, T_, Obs.fits, U_, eqD, V_, W_, X_, Y_, Z_]
    refine call_loc (J := []) (h l[vs.length] (List.getElem_mem hlt)) (fun r H' h => h.handed) (by simp [ktree, Ob.re, List.map_zipWith]) (.cons (.agg (fzCs_id _)) .nil) List.nodup_nil rfl rfl ?_
    rintro _ _ ⟨v, rfl, rfl⟩ _
    simp -implicitDefEqProofs [putAll, hadd, hlt, fillv_get hlt, zrow, kw, ew, sw, tw, a_, b_, c_, -List.set_cons_succ, -List.set_cons_zero, A.ok, A.val, d_, e_, f_, g_, h_, i_, j_, k_, l_, m_, unA, unD, n_, AOp.total, o_, p_, q_, r_, s_, t_, u_, v_, A.thaw, C.thaw, A.fits, As.fits, C.fits, evs, oks, w_, A.pure, C.pure, A.re, C.re, x_, y_, cut, A.cells, C.rows?, z_, A_, B_, C_, D_, Ob.re, Cs.fits, E_, F_, G_, H_, I_, J_, K_, L_, M_, N_, O_, C.toD, P_, Q_, R_, S_, T_, Obs.fits, U_, eqD, V_, W_, X_, Y_, Z_]
    have hset := fillv_set v hlt
    rw [srow] at hset
    rw [hset]
    refine loop_back (vs ++ [v]) ?_ (by simp; omega) (by show l.length - (vs ++ [v]).length < l.length - vs.length; simp; omega)
    simp [setAll, zip_snoc ktree l vs v hlt]
    rfl
  · have hvl : vs.length = l.length := by omega
    have hn : (0 :: List.range' 1 vs.length).Nodup := List.nodup_cons.2 ⟨by simp, List.nodup_range'⟩
    refine finT_ret _ ⟨trivial, trivial⟩ rfl fun kv => ⟨_, _, _, .one (.c (.fsl (js := List.range' 1 vs.length) rfl (by rw [fillv_all hvl]; exact strip_terms l vs hvl) (by rw [fillv_all hvl, zip_lens hvl]) (fun m hm => ?_))), by simpa using hn, _, rfl, rfl⟩
    have hm' : m < vs.length := by simp at hm; omega
    exact ⟨1 + m, by simp [hm'], by rw [Nat.add_comm]; simp⟩
theorem toO_calls : ∀ t : Tm, t.fits → ToO t := by
  refine Tm.ind fun k n s l ih hfits => ?_
  obtain ⟨hk, hn, hs, hl, hkids⟩ := hfits
  refine acallsT Try.func10 (by kernel_rfl) Own.ac10_ok ?_
  simp -implicitDefEqProofs [Own.ac10, row_mk, kw, ew, sw, tw, a_, b_, c_, -List.set_cons_succ, -List.set_cons_zero, A.ok, A.val, d_, e_, f_, g_, h_, i_, j_, k_, l_, m_, unA, unD, n_, AOp.total, o_, p_, q_, r_, s_, t_, u_, v_, A.thaw, C.thaw, A.fits, As.fits, C.fits, evs, oks, w_, A.pure, C.pure, A.re, C.re, x_, y_, cut, A.cells, C.rows?, z_, A_, B_, C_, D_, Ob.re, Cs.fits, E_, F_, G_, H_, I_, J_, K_, L_, M_, N_, O_, C.toD, P_, Q_, R_, S_, T_, Obs.fits, U_, eqD, V_, W_, X_, Y_, Z_]
  refine call_loc (J := []) (toTermSOwn_of l hl fun t ht => ih t ht (hkids t ht)) (fun r H' h => h.handed) rfl (.cons (.c .d) .nil) List.nodup_nil rfl rfl ?_
  rintro _ _ ⟨v, rfl, rfl⟩ _
  simp -implicitDefEqProofs [putAll, kw, ew, sw, tw, a_, b_, c_, -List.set_cons_succ, -List.set_cons_zero, A.ok, A.val, d_, e_, f_, g_, h_, i_, j_, k_, l_, m_, unA, unD, n_, AOp.total, o_, p_, q_, r_, s_, t_, u_, v_, A.thaw, C.thaw, A.fits, As.fits, C.fits, evs, oks, w_, A.pure, C.pure, A.re, C.re, x_, y_, cut, A.cells, C.rows?, z_, A_, B_, C_, D_, Ob.re, Cs.fits, E_, F_, G_, H_, I_, J_, K_, L_, M_, N_, O_, C.toD, P_, Q_, R_, S_, T_, Obs.fits, U_, eqD, V_, W_, X_, Y_, Z_]
  exact finT_ret _ ⟨trivial, trivial⟩ rfl fun kv => ⟨_, _, _, .one (.agg (.cons (.leaf rfl) (.cons (.leaf rfl) (.cons (.leaf rfl) (.cons (.tree (j := 3) rfl) .nil))))), by simp, _, rfl, rfl⟩
theorem toTermSOwn_calls (l : List Tm) (hl : l.length ≤ 1048576) (h : ∀ t ∈ l, t.fits) : ACalls Try.prog 20 [.c (.d (.sl (l.map Tm.row)))] [] (HandsRows (l.map Tm.row)) :=
  toTermSOwn_of l hl fun t ht => toO_calls t (h t ht)
end Go.Proofs.Ytaegeehpajlebaa
