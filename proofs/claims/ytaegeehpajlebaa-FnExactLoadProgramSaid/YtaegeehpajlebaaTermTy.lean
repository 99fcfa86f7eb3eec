/-
  Terms that are handed to a law.
  Conditions: none.
-/
import Derived.Test.YtaegeehpajlebaaTerm
open Go Go.AM Go.Proofs
namespace Go.Proofs.Ytaegeehpajlebaa
open Go.ChangeShapes Go.WideShapes Go.ChangeAt Go.RowKit
set_option linter.unusedVariables false
set_option linter.unusedSimpArgs false
set_option maxRecDepth 100000
theorem tm_tys {ty : TypeId} {row : List D} (h : HasTy Try.prog ty row) : (ty = 24 → ∃ t : Tm, row = t.row ∧ t.fine) ∧
    (ty = 22 → ∃ l : List Tm, row = [.sl (l.map Tm.row)] ∧ l.length ≤ reachBytes ∧ ∀ t ∈ l, t.fine) := by
  induction h with
  | bool b hu => exact ⟨(by rintro rfl; rw [Try.underlying24] at hu; cases hu), (by rintro rfl; rw [Try.underlying22] at hu; cases hu)⟩
  | int n hu hn => exact ⟨(by rintro rfl; rw [Try.underlying24] at hu; cases hu), (by rintro rfl; rw [Try.underlying22] at hu; cases hu)⟩
  | str s hu hn => exact ⟨(by rintro rfl; rw [Try.underlying24] at hu; cases hu), (by rintro rfl; rw [Try.underlying22] at hu; cases hu)⟩
  | sl rows hu hb hc ht ih =>
    refine ⟨(by rintro rfl; rw [Try.underlying24] at hu; cases hu), ?_⟩
    rintro rfl
    rw [Try.underlying22] at hu
    cases hu
    obtain ⟨l, rfl, hl⟩ := list_of_ty (f := Tm.row) (p := Tm.fine) (fun r hr => (ih r hr).1 rfl)
    rw [show Try.prog.bytesOf 24 = 56 from by kernel_rfl] at hb
    exact ⟨l, rfl, by simp at hb; omega, hl⟩
  | st row hu hl hf ih =>
    refine ⟨?_, (by rintro rfl; rw [Try.underlying22] at hu; cases hu)⟩
    rintro rfl
    rw [Try.underlying24] at hu
    cases hu
    rw [show Try.prog.cellsOf 24 = 4 from by kernel_rfl] at hl
    match row, hl with
    | [a, b, c, d], _ =>
      simp [show Try.prog.cellsOf 3 = 1 from by kernel_rfl, show Try.prog.cellsOf 9 = 1 from by kernel_rfl, show Try.prog.cellsOf 22 = 1 from by kernel_rfl] at hf ih
      obtain ⟨h0, h1, h2, h3⟩ := hf
      obtain ⟨p, e0, i0⟩ := h0.int_inv Try.underlying3
      obtain ⟨q, e1, i1⟩ := h1.int_inv Try.underlying3
      obtain ⟨s, e2, i2⟩ := h2.str_inv Try.underlying9
      obtain ⟨l, rfl, hl1, hl2⟩ := ih
      cases e0; cases e1; cases e2
      exact ⟨.mk p q s l, by rw [row_mk], .mk i0 i1 i2 hl1 hl2⟩
theorem tms_ty {row : List D} (h : HasTy Try.prog 22 row) : ∃ l : List Tm, row = [.sl (l.map Tm.row)] ∧ l.length ≤ reachBytes ∧ ∀ t ∈ l, t.fine := (tm_tys h).2 rfl
theorem tm_ty {row : List D} (h : HasTy Try.prog 24 row) : ∃ t : Tm, row = t.row ∧ t.fine := (tm_tys h).1 rfl
end Go.Proofs.Ytaegeehpajlebaa
