/-
  Terms that are well-formed, whatever their depth.
  Conditions: none.
-/
import Derived.Test.YtaegeehpajlebaaGoal
open Go Go.AM Go.Proofs
namespace Go.Proofs.Ytaegeehpajlebaa
open Go.ChangeShapes Go.WideShapes Go.ChangeAt Go.RowKit
set_option linter.unusedVariables false
set_option linter.unusedSimpArgs false
set_option maxRecDepth 100000
/-- well-formed, whatever the depth -/
inductive Tm.good : Tm → Prop
  | mk {k n : Int} {s : List UInt8} {l : List Tm} : (Tm.mk k n s l).ownB = true → (∀ t ∈ l, t.good) → (Tm.mk k n s l).good
theorem shape_good : ∀ t : Tm, ∀ d, t.shape d = true → t.good := by
  refine Tm.ind fun k n s l ih d h => ?_
  simp only [Tm.shape, Bool.and_eq_true] at h
  have h2 := h.2.2
  rw [shapes_all, List.all_eq_true] at h2
  exact .mk h.2.1 fun t ht => ih t ht _ (h2 t ht)
theorem valid_good {t : Tm} (h : t.valid = true) : t.good := by
  simp only [Tm.valid, Bool.and_eq_true] at h
  exact shape_good t _ h.1
theorem name_len {s : List UInt8} (h : nameB s = true) : 1 ≤ s.length ∧ s.length ≤ 6 := by
  simp only [nameB, Bool.or_eq_true] at h
  rcases h with h | h
  · simp only [lettersB, Bool.and_eq_true, decide_eq_true_eq] at h
    omega
  · simp [signs] at h
    rcases h with rfl | rfl | rfl | rfl | rfl | rfl | rfl | rfl | rfl | rfl | rfl | rfl | rfl | rfl | rfl <;> decide
/-- the three kinds of nodes -/
theorem own_cases {k n : Int} {s : List UInt8} {l : List Tm} (h : (Tm.mk k n s l).ownB = true) :
    (k = 1 ∧ 0 ≤ n ∧ n ≤ 25 ∧ s = [] ∧ l = []) ∨ (k = 2 ∧ -999 ≤ n ∧ n ≤ 999 ∧ s = [] ∧ l = []) ∨ (k = 3 ∧ n = 0 ∧ nameB s = true ∧ l.length ≤ 4) := by
  simp only [Tm.ownB] at h
  split at h
  · rename_i hk
    simp at h
    exact .inl ⟨hk, h.1.1.1, h.1.1.2, h.1.2, h.2⟩
  · split at h
    · rename_i hk
      simp at h
      exact .inr (.inl ⟨hk, h.1.1.1, h.1.1.2, h.1.2, h.2⟩)
    · split at h
      · rename_i hk
        simp at h
        exact .inr (.inr ⟨hk, h.1.1, h.1.2, h.2⟩)
      · cases h
end Go.Proofs.Ytaegeehpajlebaa
