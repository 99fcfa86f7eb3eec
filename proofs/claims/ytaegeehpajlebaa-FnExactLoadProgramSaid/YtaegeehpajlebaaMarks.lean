/-
  Rows that are marked one after the other.
  Conditions: none.
-/
import Derived.Test.YtaegeehpajlebaaBase
import Derived.Test.YtaegeehpajlebaaAbsN
open Go Go.AM Go.Proofs
namespace Go.Proofs.Ytaegeehpajlebaa
set_option linter.unusedVariables false
set_option linter.unusedSimpArgs false
/-- the first i rows are new ones -/
def mixed {α : Type} (f : Nat → α) (rows : List α) (i : Nat) : List α := (List.range i).map f ++ rows.drop i
theorem mixed_zero {α : Type} (f : Nat → α) (rows : List α) : mixed f rows 0 = rows := by simp [mixed]
theorem mixed_all {α : Type} (f : Nat → α) (rows : List α) : mixed f rows rows.length = (List.range rows.length).map f := by simp [mixed]
theorem mixed_len {α : Type} (f : Nat → α) (rows : List α) {i : Nat} (h : i ≤ rows.length) : (mixed f rows i).length = rows.length := by simp [mixed]; omega
theorem mixed_get {α : Type} (f : Nat → α) (rows : List α) {i : Nat} (h : i < rows.length) : (mixed f rows i)[i]? = some rows[i] := by
  rw [mixed, List.getElem?_append_right (by simp)]
  simp [h]
theorem mixed_set {α : Type} (f : Nat → α) (rows : List α) {i : Nat} (h : i < rows.length) : (mixed f rows i).set i (f i) = mixed f rows (i + 1) := by
  rw [mixed, mixed, List.set_append_right _ _ (by simp), List.drop_eq_getElem_cons h, List.range_succ]
  simp only [List.length_map, List.length_range, Nat.sub_self, List.set_cons_zero, List.map_append, List.map_cons, List.map_nil, List.append_assoc, List.cons_append, List.nil_append]
theorem mixed_get' {α : Type} (f : Nat → α) (rows : List α) {i j : Nat} (h : i ≤ rows.length) : (mixed f rows i)[j]? = if j < i then some (f j) else rows[j]? := by
  rw [mixed]
  by_cases hj : j < i
  · rw [List.getElem?_append_left (by simpa using hj), if_pos hj]; simp [hj]
  · rw [List.getElem?_append_right (by simp; omega), if_neg hj, List.getElem?_drop]
    congr 1
    simp; omega
theorem range_row {f : Nat → List D} {n i : Nat} (h : i < n) : ((List.range n).map f)[i]? = some (f i) := by simp [h]
end Go.Proofs.Ytaegeehpajlebaa
