/-
  Small facts that the proofs of this seat share.
  Conditions: none.
-/
import Derived.Test.YtaegeehpajlebaaRows
import Derived.KernelRfl
import Derived.Test.YtaegeehpajlebaaAbsN
open Go Go.AM Go.Proofs
namespace Go.Proofs.Ytaegeehpajlebaa
set_option linter.unusedVariables false
set_option linter.unusedSimpArgs false
theorem small_i64 {n : Int} (h : -1000000000000000 ≤ n) (h' : n ≤ 1000000000000000) : inR .i64 n := by
  unfold inR
  simp [IntKind.min, IntKind.max, IntKind.signed, IntKind.bits]
  omega
theorem reach_i64 {n : Nat} (h : n ≤ reachBytes) : inR .i64 (n : Int) := by simp only [inR, IntKind.min, IntKind.max, IntKind.signed, IntKind.bits, reachBytes] at *; omega
theorem reach_small {n : Nat} (h : n ≤ reachBytes) : (n : Int) ≤ 140737488355328 := by simp only [reachBytes] at *; omega
theorem i64_def {n : Int} : inR .i64 n ↔ -9223372036854775808 ≤ n ∧ n ≤ 9223372036854775807 := by
  unfold inR
  simp [IntKind.min, IntKind.max, IntKind.signed, IntKind.bits]
/-- the result of a call of a size: how much is left; where something is left, P holds -/
def Left (m : Int) (P : Prop) (r : A) : Prop := ∃ n : Int, r = .c (.d (.int .i64 n)) ∧ -1 ≤ n ∧ n ≤ m ∧ (0 ≤ n → P)
theorem Left.re {m : Int} {P : Prop} {r : A} {n : Nat} (h : Left m P r) : A.re n r = r := by
  obtain ⟨k, rfl, _⟩ := h
  rfl
/-- rows that are laid one by one -/
def fill {α : Type} (f : α → List D) (z : List D) (l : List α) (i : Nat) : List (List D) := (l.take i).map f ++ List.replicate (l.length - i) z
theorem fill_zero {α : Type} (f : α → List D) (z : List D) (l : List α) : fill f z l 0 = List.replicate l.length z := by simp [fill]
theorem fill_all {α : Type} (f : α → List D) (z : List D) (l : List α) : fill f z l l.length = l.map f := by simp [fill]
theorem fill_get {α : Type} (f : α → List D) (z : List D) (l : List α) {i : Nat} (h : i < l.length) : (fill f z l i)[i]? = some z := by
  unfold fill
  rw [List.getElem?_append_right (by simp; omega), List.getElem?_replicate, if_pos (by simp; omega)]
theorem fill_set {α : Type} (f : α → List D) (z : List D) (l : List α) {i : Nat} (h : i < l.length) : (fill f z l i).set i (f l[i]) = fill f z l (i + 1) := by
  unfold fill
  obtain ⟨k, hk⟩ : ∃ k, l.length - i = k + 1 := ⟨l.length - i - 1, by omega⟩
  rw [List.set_append_right _ _ (by simp; omega), hk, List.replicate_succ, List.take_succ_eq_append_getElem h]
  simp only [List.length_map, List.length_take, Nat.min_eq_left (Nat.le_of_lt h), Nat.sub_self, List.set_cons_zero, List.map_append, List.map_cons, List.map_nil, List.append_assoc, List.cons_append, List.nil_append]
  rw [show l.length - (i + 1) = k by omega]
theorem list_of_ty {α : Type} {f : α → List D} {p : α → Prop} : ∀ {rows : List (List D)}, (∀ r ∈ rows, ∃ x : α, r = f x ∧ p x) → ∃ l : List α, rows = l.map f ∧ ∀ x ∈ l, p x
  | [], _ => ⟨[], rfl, fun x h => by cases h⟩
  | r :: rs, h => by
    obtain ⟨x, rfl, hx⟩ := h r (by simp)
    obtain ⟨l, rfl, hl⟩ := list_of_ty (rows := rs) (f := f) (p := p) (fun r hr => h r (by simp [hr]))
    refine ⟨x :: l, rfl, fun y hy => ?_⟩
    rcases List.mem_cons.1 hy with rfl | hy
    · exact hx
    · exact hl y hy
/-- a row of a list of things, whatever guards it -/
theorem row_g {α : Type} {G : Bool} {g : α → List D} {l : List α} {i sz : Nat} {K : A → St → Prop} {st : St} (h : i < l.length) (hl : (g l[i]).length = sz) (hk : K (.c (.el (g l[i]) 0)) st) : RowK G (l.map g) (i : Int) sz K st :=
  ⟨fun _ => by omega, g l[i], fun _ => ⟨by simp [h], hl⟩, hk⟩
/-- the strings of a list of strings -/
def strsOf : List (List D) → List (List UInt8)
  | [.str s] :: l => s :: strsOf l
  | _ => []
theorem row_strs {rows : List (List D)} {k : Int} {K : A → St → Prop} {st : St} (p : List UInt8 → Prop) (h0 : 0 ≤ k) (h1 : k < rows.length) (h : rows = (strsOf rows).map fun s => [.str s]) (hp : ∀ s ∈ strsOf rows, p s)
    (hk : ∀ s, p s → K (.c (.el [.str s] 0)) st) : RowK true rows k 1 K st := by
  have hl : k.toNat < (strsOf rows).length := by
    have := congrArg List.length h
    simp at this
    omega
  refine row_int [.str (strsOf rows)[k.toNat]] h0 ?_ rfl (hk _ (hp _ (List.getElem_mem hl)))
  generalize strsOf rows = l at h hl
  subst h
  simp [hl]
theorem isEmpty_len {α : Type} (l : List α) : ((l.length : Int) == 0) = l.isEmpty := by cases l <;> simp; omega
def intRows (l : List Int) : List (List D) := l.map fun n => [.int .i64 n]
theorem intRows_len (l : List Int) : (intRows l).length = l.length := by simp [intRows]
theorem allLen_ints (l : List Int) : allLen 1 (intRows l) := allLen_map fun _ => rfl
end Go.Proofs.Ytaegeehpajlebaa
