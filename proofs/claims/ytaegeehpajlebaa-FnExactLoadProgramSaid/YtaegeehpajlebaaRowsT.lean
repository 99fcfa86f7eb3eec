/-
  Rows whose slices are cut off and stand as trees.
  Conditions: none.
-/
import Derived.Test.YtaegeehpajlebaaMarks
open Go Go.AM Go.Proofs
namespace Go.Proofs.Ytaegeehpajlebaa
set_option linter.unusedVariables false
set_option linter.unusedSimpArgs false
/-- the slices of a row -/
def nsl : List D → Nat
  | [] => 0
  | .sl _ :: l => nsl l + 1
  | _ :: l => nsl l
/-- a row, its slices cut off -/
def cutR : List D → List Value → List D
  | .sl _ :: l, v :: vs => .v v :: cutR l vs
  | x :: l, vs => x :: cutR l vs
  | [], _ => []
/-- .. and these slices -/
def trs : List D → List Value → Heap
  | .sl d :: l, v :: vs => .tree v d :: trs l vs
  | _ :: l, vs => trs l vs
  | [], _ => []
theorem cut_sl (d : List (List D)) (l : List D) (v : Value) (vs : List Value) : cutR (.sl d :: l) (v :: vs) = .v v :: cutR l vs := rfl
theorem trs_sl (d : List (List D)) (l : List D) (v : Value) (vs : List Value) : trs (.sl d :: l) (v :: vs) = .tree v d :: trs l vs := rfl
theorem cut_ne {x : D} (h : x.isSl = false) (l : List D) (vs : List Value) : cutR (x :: l) vs = x :: cutR l vs := by cases x <;> first | rfl | cases h
theorem trs_ne {x : D} (h : x.isSl = false) (l : List D) (vs : List Value) : trs (x :: l) vs = trs l vs := by cases x <;> first | rfl | cases h
theorem nsl_ne {x : D} (h : x.isSl = false) (l : List D) : nsl (x :: l) = nsl l := by cases x <;> first | rfl | cases h
theorem cut_nil (vs : List Value) : cutR [] vs = [] := rfl
theorem trs_nil (vs : List Value) : trs [] vs = [] := rfl
theorem cut_len : ∀ (l : List D) (vs : List Value), (cutR l vs).length = l.length
  | [], _ => rfl
  | x :: l, vs => by
    by_cases hx : x.isSl = false
    · rw [cut_ne hx, List.length_cons, cut_len l vs, List.length_cons]
    · cases x with
      | sl d => cases vs with
        | nil => show (D.sl d :: cutR l []).length = _; rw [List.length_cons, cut_len l, List.length_cons]
        | cons v vs => rw [cut_sl, List.length_cons, cut_len l vs, List.length_cons]
      | _ => simp [D.isSl] at hx
theorem trs_len : ∀ (l : List D) (vs : List Value), vs.length = nsl l → (trs l vs).length = nsl l
  | [], _, _ => rfl
  | x :: l, vs, h => by
    by_cases hx : x.isSl = false
    · rw [nsl_ne hx] at h ⊢; rw [trs_ne hx]; exact trs_len l vs h
    · cases x with
      | sl d => cases vs with
        | nil => simp [nsl] at h
        | cons v vs => rw [trs_sl, List.length_cons, trs_len l vs (by simpa [nsl] using h)]; rfl
      | _ => simp [D.isSl] at hx
theorem trs_trees : ∀ (l : List D) (vs : List Value), (trs l vs).all Ob.isTreeB = true
  | [], _ => rfl
  | x :: l, vs => by
    by_cases hx : x.isSl = false
    · rw [trs_ne hx]; exact trs_trees l vs
    · cases x with
      | sl d => cases vs with
        | nil => exact trs_trees l []
        | cons v vs => rw [trs_sl, List.all_cons, trs_trees l vs]; rfl
      | _ => simp [D.isSl] at hx
theorem cut_port : ∀ (l : List D) (vs : List Value), vs.length = nsl l → ((cutR l vs).map C.d).all C.portB = true
  | [], _, _ => rfl
  | x :: l, vs, h => by
    by_cases hx : x.isSl = false
    · rw [nsl_ne hx] at h
      rw [cut_ne hx, List.map_cons, List.all_cons, cut_port l vs h]
      cases x <;> first | rfl | (simp [D.isSl] at hx)
    · cases x with
      | sl d => cases vs with
        | nil => simp [nsl] at h
        | cons v vs => rw [cut_sl, List.map_cons, List.all_cons, cut_port l vs (by simpa [nsl] using h)]; rfl
      | _ => simp [D.isSl] at hx
theorem strip_app : ∀ (l : List D) (vs : List Value) (r c : List D) (t : Heap), vs.length = nsl l → Strip r c t → Strip (l ++ r) (cutR l vs ++ c) (trs l vs ++ t)
  | [], _, r, c, t, _, h => h
  | x :: l, vs, r, c, t, h, hs => by
    by_cases hx : x.isSl = false
    · rw [nsl_ne hx] at h
      rw [List.cons_append, cut_ne hx, trs_ne hx]
      exact (strip_cons hx).2 ⟨_, rfl, strip_app l vs r c t h hs⟩
    · cases x with
      | sl d => cases vs with
        | nil => simp [nsl] at h
        | cons v vs => exact ⟨v, _, _, rfl, rfl, strip_app l vs r c t (by simpa [nsl] using h) hs⟩
      | _ => simp [D.isSl] at hx
theorem strip_unapp : ∀ (l r c : List D) (t : Heap), Strip (l ++ r) c t → ∃ vs c' t', vs.length = nsl l ∧ c = cutR l vs ++ c' ∧ t = trs l vs ++ t' ∧ Strip r c' t'
  | [], r, c, t, h => ⟨[], c, t, rfl, rfl, rfl, h⟩
  | x :: l, r, c, t, h => by
    by_cases hx : x.isSl = false
    · obtain ⟨c1, rfl, h1⟩ := (strip_cons hx).1 h
      obtain ⟨vs, c', t', h2, rfl, rfl, h3⟩ := strip_unapp l r c1 t h1
      exact ⟨vs, c', t', by rw [nsl_ne hx]; exact h2, by rw [cut_ne hx]; rfl, by rw [trs_ne hx], h3⟩
    · cases x with
      | sl d =>
        obtain ⟨v, c1, t1, rfl, rfl, h1⟩ := h
        obtain ⟨vs, c', t', h2, rfl, rfl, h3⟩ := strip_unapp l r c1 t1 h1
        exact ⟨v :: vs, c', t', by simp [nsl, h2], rfl, rfl, h3⟩
      | _ => simp [D.isSl] at hx
/-- values for the slices of rows -/
def Vals (m : Nat) (rows : List (List D)) (vss : List (List Value)) : Prop := vss.length = rows.length ∧ (∀ r ∈ rows, nsl r = m) ∧ ∀ vs ∈ vss, vs.length = m
theorem strip_rows {m : Nat} : ∀ (rows : List (List D)) (vss : List (List Value)), Vals m rows vss → Strip rows.flatten (List.zipWith cutR rows vss).flatten (List.zipWith trs rows vss).flatten
  | [], [], _ => ⟨rfl, rfl⟩
  | [], _ :: _, h => by have := h.1; simp at this
  | _ :: _, [], h => by have := h.1; simp at this
  | r :: rows, vs :: vss, h => by
    simp only [List.zipWith_cons_cons, List.flatten_cons]
    refine strip_app r vs _ _ _ ?_ (strip_rows rows vss ⟨by simpa using h.1, fun r hr => h.2.1 r (by simp [hr]), fun vs hv => h.2.2 vs (by simp [hv])⟩)
    rw [h.2.1 r (by simp), h.2.2 vs (by simp)]
theorem rows_unstrip {m : Nat} : ∀ (rows : List (List D)) (c : List D) (t : Heap), (∀ r ∈ rows, nsl r = m) → Strip rows.flatten c t → ∃ vss, Vals m rows vss ∧ c = (List.zipWith cutR rows vss).flatten ∧ t = (List.zipWith trs rows vss).flatten
  | [], c, t, _, ⟨h1, h2⟩ => ⟨[], ⟨rfl, fun r h => by simp at h, fun r h => by simp at h⟩, h1, h2⟩
  | r :: rows, c, t, hm, h => by
    rw [List.flatten_cons] at h
    obtain ⟨vs, c', t', h1, rfl, rfl, h2⟩ := strip_unapp r _ c t h
    obtain ⟨vss, h3, rfl, rfl⟩ := rows_unstrip rows c' t' (fun r hr => hm r (by simp [hr])) h2
    refine ⟨vs :: vss, ⟨by simp [h3.1], hm, fun ws hw => ?_⟩, rfl, rfl⟩
    rcases List.mem_cons.1 hw with rfl | hw
    · rw [h1]; exact hm r (by simp)
    · exact h3.2.2 ws hw
theorem cut_lens {rows : List (List D)} {vss : List (List Value)} (h : vss.length = rows.length) : (List.zipWith cutR rows vss).map List.length = rows.map List.length := by
  refine List.ext_getElem? fun i => ?_
  rcases Nat.lt_or_ge i rows.length with hi | hi
  · simp [List.getElem?_zipWith, hi, h, cut_len]
  · rw [List.getElem?_eq_none (by simp [h]; omega), List.getElem?_eq_none (by simp; omega)]
theorem fl_get {α : Type} {L : List (List α)} {m : Nat} (h : ∀ p ∈ L, p.length = m) {i j : Nat} {p : List α} (hi : L[i]? = some p) (hj : j < m) : L.flatten[i * m + j]? = p[j]? := by
  induction L generalizing i with
  | nil => simp at hi
  | cons a l ih =>
    have ha : a.length = m := h a (by simp)
    cases i with
    | zero =>
      simp at hi; subst hi
      rw [List.flatten_cons, Nat.zero_mul, Nat.zero_add, List.getElem?_append_left (by omega)]
    | succ i =>
      rw [List.flatten_cons, List.getElem?_append_right (by rw [ha, Nat.succ_mul]; omega), ← ih (fun r hr => h r (by simp [hr])) (i := i) (by simpa using hi)]
      congr 1
      rw [ha, Nat.succ_mul]; omega
theorem fl_set {α : Type} {L : List (List α)} {m : Nat} (h : ∀ p ∈ L, p.length = m) {i j : Nat} {p : List α} (hi : L[i]? = some p) (hj : j < m) (x : α) : L.flatten.set (i * m + j) x = (L.set i (p.set j x)).flatten := by
  induction L generalizing i with
  | nil => simp at hi
  | cons a l ih =>
    have ha : a.length = m := h a (by simp)
    cases i with
    | zero =>
      simp at hi; subst hi
      rw [List.flatten_cons, Nat.zero_mul, Nat.zero_add, List.set_append_left _ _ (by omega)]
      rfl
    | succ i =>
      rw [List.flatten_cons, List.set_append_right _ _ (by rw [ha, Nat.succ_mul]; omega), List.set_cons_succ, List.flatten_cons, ← ih (fun r hr => h r (by simp [hr])) (i := i) (by simpa using hi)]
      congr 2
      rw [ha, Nat.succ_mul]; omega
theorem zipt_lens {m : Nat} {rows : List (List D)} {vss : List (List Value)} (h : Vals m rows vss) : ∀ p ∈ List.zipWith trs rows vss, p.length = m := by
  intro p hp
  obtain ⟨i, hi⟩ := List.mem_iff_getElem?.1 hp
  rw [List.getElem?_zipWith] at hi
  cases h1 : rows[i]? with
  | none => rw [h1] at hi; simp at hi
  | some r =>
    cases h2 : vss[i]? with
    | none => rw [h1, h2] at hi; simp at hi
    | some vs =>
      rw [h1, h2] at hi
      simp at hi
      have e1 := h.2.1 r (List.mem_of_getElem? h1)
      have e2 := h.2.2 vs (List.mem_of_getElem? h2)
      rw [← hi, trs_len _ _ (by omega), e1]
theorem zipt_trees (rows : List (List D)) (vss : List (List Value)) : ∀ p ∈ List.zipWith trs rows vss, p.all Ob.isTreeB = true := by
  intro p hp
  obtain ⟨i, hi⟩ := List.mem_iff_getElem?.1 hp
  rw [List.getElem?_zipWith] at hi
  cases h1 : rows[i]? with
  | none => rw [h1] at hi; simp at hi
  | some r =>
    cases h2 : vss[i]? with
    | none => rw [h1, h2] at hi; simp at hi
    | some vs =>
      rw [h1, h2] at hi
      simp at hi
      rw [← hi]; exact trs_trees r vs
/-- what is handed out: a row whose slices stand in arrays of their own -/
def HandsRow (row : List D) (r : A) (H : Heap) : Prop := ∃ vs : List Value, vs.length = nsl row ∧ r = .agg ((cutR row vs).map .d) ∧ H = trs row vs
theorem HandsRow.handed {row : List D} {r : A} {H : Heap} (h : HandsRow row r H) : Handed r H := by
  obtain ⟨vs, h1, rfl, rfl⟩ := h
  exact ⟨cut_port row vs h1, trs_trees row vs⟩
/-- rows of which the first are made -/
def fillR (rows : List (List D)) (vss : List (List Value)) (z : List D) : List (List D) := List.zipWith cutR rows vss ++ List.replicate (rows.length - vss.length) z
theorem fillR_nil (rows : List (List D)) (z : List D) : fillR rows [] z = List.replicate rows.length z := by simp [fillR]
theorem fillR_all {rows : List (List D)} {vss : List (List Value)} (z : List D) (h : vss.length = rows.length) : fillR rows vss z = List.zipWith cutR rows vss := by simp [fillR, h]
theorem fillR_get {rows : List (List D)} {vss : List (List Value)} (z : List D) (h : vss.length < rows.length) : (fillR rows vss z)[vss.length]? = some z := by
  rw [fillR, List.getElem?_append_right (by simp; omega)]
  have : vss.length - (List.zipWith cutR rows vss).length = 0 := by simp; omega
  rw [this, List.getElem?_replicate, if_pos (by omega)]
theorem zipR_snoc {α β γ : Type} (f : α → β → γ) (l : List α) (vs : List β) (v : β) (h : vs.length < l.length) : List.zipWith f l (vs ++ [v]) = List.zipWith f l vs ++ [f l[vs.length] v] := by
  induction vs generalizing l with
  | nil => cases l with
    | nil => simp at h
    | cons x l => simp
  | cons w vs ih => cases l with
    | nil => simp at h
    | cons x l => simp only [List.cons_append, List.zipWith_cons_cons, List.length_cons, List.getElem_cons_succ]; rw [ih l (by simpa using h)]
theorem fillR_set {rows : List (List D)} {vss : List (List Value)} (z : List D) (vs : List Value) (h : vss.length < rows.length) : (fillR rows vss z).set vss.length (cutR rows[vss.length] vs) = fillR rows (vss ++ [vs]) z := by
  have e : rows.length - vss.length = (rows.length - (vss ++ [vs]).length) + 1 := by simp; omega
  rw [fillR, fillR, List.set_append_right _ _ (by simp; omega), zipR_snoc _ _ _ _ h, e, List.replicate_succ]
  have : vss.length - (List.zipWith cutR rows vss).length = 0 := by simp; omega
  rw [this]
  simp
theorem trees_map_re {H : Heap} (h : H.all Ob.isTreeB = true) (n : Nat) : H.map (Ob.re n) = H := trees_re h n
theorem flat_trees {L : List Heap} (h : ∀ p ∈ L, p.all Ob.isTreeB = true) : L.flatten.all Ob.isTreeB = true := by
  rw [List.all_eq_true]
  intro o ho
  obtain ⟨p, h1, h2⟩ := List.mem_flatten.1 ho
  exact List.all_eq_true.1 (h p h1) o h2
theorem trees_fits {n : Nat} : ∀ {l : Heap}, l.all Ob.isTreeB = true → Obs.fits n 0 l
  | [], _ => trivial
  | o :: l, h => by
    simp only [List.all_cons, Bool.and_eq_true] at h
    refine ⟨?_, trees_fits h.2⟩
    cases o <;> first | trivial | cases h.1
/-- so many things, each with what is below it -/
def wsum {α : Type} (f : α → Nat) : List α → Nat
  | [] => 0
  | x :: l => 1 + f x + wsum f l
theorem wsum_append {α : Type} (f : α → Nat) (l r : List α) : wsum f (l ++ r) = wsum f l + wsum f r := by
  induction l with
  | nil => simp [wsum]
  | cons t l ih => simp only [List.cons_append, wsum, ih]; omega
theorem wsum_take_succ {α : Type} (f : α → Nat) (l : List α) {i : Nat} (h : i < l.length) : wsum f (l.take (i + 1)) = wsum f (l.take i) + 1 + f l[i] := by
  rw [List.take_succ_eq_append_getElem h, wsum_append]; simp only [wsum]; omega
theorem wsum_take_sub {α : Type} (f : α → Nat) (l : List α) {i : Nat} (h : i < l.length) : wsum f (l.take i) + 1 + f l[i] ≤ wsum f l := by
  rw [← wsum_take_succ f l h]
  have := wsum_append f (l.take (i + 1)) (l.drop (i + 1))
  rw [List.take_append_drop] at this
  omega
theorem wsum_le {α : Type} {f g : α → Nat} (h : ∀ x, f x ≤ g x) (l : List α) : wsum f l ≤ wsum g l := by
  induction l with
  | nil => simp [wsum]
  | cons t l ih => simp only [wsum]; have := h t; omega
theorem sum_len {α : Type} {L : List (List α)} {m : Nat} (h : ∀ p ∈ L, p.length = m) : (L.map List.length).sum = L.length * m := by
  induction L with
  | nil => simp
  | cons a l ih =>
    rw [List.map_cons, List.sum_cons, ih (fun p hp => h p (by simp [hp])), h a (by simp), List.length_cons, Nat.succ_mul]
    omega
end Go.Proofs.Ytaegeehpajlebaa
