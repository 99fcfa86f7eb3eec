/-
  Terms as they are written: the plain text, its length, its first byte.
  Conditions: none.
-/
import Derived.Test.YtikgpomnibbioaaGreatDoorGoal
import Derived.Lib.ItoaNum
import Derived.Lib.ItoaMem
open Go Go.AM Go.Proofs
namespace Go.Proofs.YtikgpomnibbioaaGreatDoor
open Go.ChangeShapes Go.WideShapes Go.ChangeAt Go.RowKit
set_option linter.unusedVariables false
set_option linter.unusedSimpArgs false
set_option maxRecDepth 100000
/-- texts, with a byte between them -/
def joinS (c : UInt8) : List (List UInt8) → List UInt8
  | [] => []
  | [a] => a
  | a :: b :: l => a ++ c :: joinS c (b :: l)
def Tm.atomB (t : Tm) : Bool := decide (t.k = 3) && t.kids.isEmpty
def Tm.lv (t : Tm) : Int := if t.kids.length = 2 then levelN t.s else 0
def plainC (b : UInt8) : Bool := decide (97 ≤ b.toNat ∧ b.toNat ≤ 122) || decide (65 ≤ b.toNat ∧ b.toNat ≤ 90) || decide (48 ≤ b.toNat ∧ b.toNat ≤ 57) || b == 91 || b == 40
def opnd (t : Tm) (w : List UInt8) (most : Int) (right : Bool) : List UInt8 :=
  if decide (most < t.lv) || (t.atomB && decide (0 < levelN t.s)) || (right && !plainC (w.headD 0)) then 40 :: w ++ [41] else w
def opSp (s : List UInt8) : List UInt8 := if lettersB s then 32 :: s ++ [32] else s
def leftMost (s : List UInt8) : Int := if leftB s then levelN s else levelN s - 1
def leafT : Tm := .mk 3 0 [91, 93] []
def wrNode (k n : Int) (s : List UInt8) (l : List Tm) (ws ts : List (List UInt8)) : List UInt8 :=
  if k = 1 then [UInt8.ofNat (65 + n.toNat)]
  else if k = 2 then Lib.itoa n
  else if s = [46] ∧ l.length = 2 then 91 :: ws.headD [] ++ ts.getD 1 [] ++ [93]
  else if l.length = 2 ∧ 0 < levelN s then opnd (l.getD 0 leafT) (ws.getD 0 []) (leftMost s) false ++ opSp s ++ opnd (l.getD 1 leafT) (ws.getD 1 []) (levelN s - 1) true
  else if l = [] then s else s ++ 40 :: joinS 44 ws ++ [41]
mutual
def Tm.wr : Tm → List UInt8
  | .mk k n s l => wrNode k n s l (wrs l) (wrts l)
/-- the rest of a list -/
def Tm.wrt : Tm → List UInt8
  | .mk k n s l => if k = 3 ∧ s = [46] ∧ l.length = 2 then 44 :: (wrs l).headD [] ++ (wrts l).getD 1 []
    else if k = 3 ∧ s = [91, 93] ∧ l = [] then [] else 124 :: wrNode k n s l (wrs l) (wrts l)
def wrs : List Tm → List (List UInt8)
  | [] => []
  | t :: l => t.wr :: wrs l
def wrts : List Tm → List (List UInt8)
  | [] => []
  | t :: l => t.wrt :: wrts l
end
theorem wrs_map : ∀ l : List Tm, wrs l = l.map Tm.wr
  | [] => by rw [wrs]; rfl
  | t :: l => by rw [wrs, wrs_map l]; rfl
theorem wrts_map : ∀ l : List Tm, wrts l = l.map Tm.wrt
  | [] => by rw [wrts]; rfl
  | t :: l => by rw [wrts, wrts_map l]; rfl
/-- well-formed, whatever the depth -/
inductive Tm.good : Tm → Prop
  | mk {k n : Int} {s : List UInt8} {l : List Tm} : (Tm.mk k n s l).ownB = true → (∀ t ∈ l, t.good) → (Tm.mk k n s l).good
theorem shape_good : ∀ t : Tm, ∀ d, t.shape d = true → t.good := by
  refine Tm.ind fun k n s l ih d h => ?_
  simp only [Tm.shape, Bool.and_eq_true] at h
  have h2 := h.2.2
  rw [shapes_all, List.all_eq_true] at h2
  exact .mk h.2.1 fun t ht => ih t ht _ (h2 t ht)
theorem valid_good {t : Tm} (h : t.valid = true) : t.good := by
  simp only [Tm.valid, Bool.and_eq_true] at h
  exact shape_good t _ h.1
theorem name_len {s : List UInt8} (h : nameB s = true) : 1 ≤ s.length ∧ s.length ≤ 6 := by
  simp only [nameB, Bool.or_eq_true] at h
  rcases h with h | h
  · simp only [lettersB, Bool.and_eq_true, decide_eq_true_eq] at h
    omega
  · simp [signs] at h
    rcases h with rfl | rfl | rfl | rfl | rfl | rfl | rfl | rfl | rfl | rfl | rfl | rfl | rfl | rfl | rfl <;> decide
/-- the three kinds of nodes -/
theorem own_cases {k n : Int} {s : List UInt8} {l : List Tm} (h : (Tm.mk k n s l).ownB = true) :
    (k = 1 ∧ 0 ≤ n ∧ n ≤ 25 ∧ s = [] ∧ l = []) ∨ (k = 2 ∧ -999 ≤ n ∧ n ≤ 999 ∧ s = [] ∧ l = []) ∨ (k = 3 ∧ n = 0 ∧ nameB s = true ∧ l.length ≤ 4) := by
  simp only [Tm.ownB] at h
  split at h
  · rename_i hk
    simp at h
    exact .inl ⟨hk, h.1.1.1, h.1.1.2, h.1.2, h.2⟩
  · split at h
    · rename_i hk
      simp at h
      exact .inr (.inl ⟨hk, h.1.1.1, h.1.1.2, h.1.2, h.2⟩)
    · split at h
      · rename_i hk
        simp at h
        exact .inr (.inr ⟨hk, h.1.1, h.1.2, h.2⟩)
      · cases h
theorem joinS_snoc (c : UInt8) : ∀ (l : List (List UInt8)) (x : List UInt8), joinS c (l ++ [x]) = if l = [] then x else joinS c l ++ c :: x
  | [], x => rfl
  | [a], x => rfl
  | a :: b :: l, x => by
    have ih := joinS_snoc c (b :: l) x
    simp at ih
    simp [joinS, ih]
theorem joinS_len (c : UInt8) : ∀ (l : List (List UInt8)), (joinS c l).length ≤ (l.map fun x => x.length + 1).sum
  | [] => by simp [joinS]
  | [a] => by simp [joinS]
  | a :: b :: l => by
    have ih := joinS_len c (b :: l)
    simp [joinS] at ih ⊢
    omega
theorem itoa_short {n : Int} (h0 : -999 ≤ n) (h1 : n ≤ 999) : 1 ≤ (Lib.itoa n).length ∧ (Lib.itoa n).length ≤ 5 := by
  have key : ∀ u : Nat, u ≤ 999 → 1 ≤ (Lib.decDigits u).length ∧ (Lib.decDigits u).length ≤ 4 := by
    intro u hu
    rw [Lib.decDigits]
    split
    · simp
    · rw [Lib.decDigits]
      split
      · simp
      · rw [Lib.decDigits]
        split
        · simp
        · rw [Lib.decDigits, dif_pos (by omega)]
          simp
  unfold Lib.itoa
  split
  · have := key n.natAbs (by omega)
    simp
    omega
  · have := key n.toNat (by omega)
    omega
theorem opnd_len (t : Tm) (w : List UInt8) (m : Int) (r : Bool) : (opnd t w m r).length ≤ w.length + 2 := by
  unfold opnd
  split <;> simp
theorem opnd_ne {t : Tm} {w : List UInt8} {m : Int} {r : Bool} (h : w ≠ []) : opnd t w m r ≠ [] := by
  unfold opnd
  split
  · simp
  · exact h
theorem opSp_len (s : List UInt8) : (opSp s).length ≤ s.length + 2 := by
  unfold opSp
  split <;> simp
theorem sizes_mem {t : Tm} : ∀ {l : List Tm}, t ∈ l → t.size ≤ sizes l
  | a :: l, h => by
    simp only [sizes]
    rcases List.mem_cons.1 h with rfl | h
    · omega
    · have := sizes_mem h; omega
theorem sum_wr : ∀ l : List Tm, (∀ t ∈ l, t.wr.length ≤ 20 * t.size) → ((l.map Tm.wr).map fun x => x.length + 1).sum ≤ 20 * sizes l + l.length
  | [], _ => by simp [sizes]
  | a :: l, h => by
    have ha := h a (by simp)
    have := sum_wr l fun t ht => h t (by simp [ht])
    simp [sizes] at this ⊢
    omega
/-- how long a text is -/
theorem wr_len : ∀ t : Tm, t.good → (t.wr.length ≤ 20 * t.size ∧ t.wrt.length ≤ 20 * t.size + 1) ∧ t.wr ≠ [] := by
  refine Tm.ind fun k n s l ih hg => ?_
  obtain ⟨ho, hk⟩ := hg
  have ih2 := fun t ht => ih t ht (hk t ht)
  have hnode : (wrNode k n s l (wrs l) (wrts l)).length ≤ 20 * (Tm.mk k n s l).size ∧ wrNode k n s l (wrs l) (wrts l) ≠ [] := by
    unfold wrNode
    rw [wrs_map, wrts_map, Tm.size]
    rcases own_cases ho with ⟨rfl, _, _, rfl, rfl⟩ | ⟨rfl, n0, n1, rfl, rfl⟩ | ⟨rfl, rfl, hs, hl⟩
    · simp; omega
    · have := itoa_short n0 n1
      simp
      refine ⟨by omega, fun h => ?_⟩
      rw [h] at this
      simp at this
    · obtain ⟨s1, s6⟩ := name_len hs
      have hsne : s ≠ [] := by intro h; subst h; simp at s1
      simp only [show ¬ (3 : Int) = 1 by decide, show ¬ (3 : Int) = 2 by decide, if_false]
      split
      · rename_i hp
        match l, hp.2, ih2 with
        | [a, b], _, ih2 =>
          have ha := ih2 a (by simp)
          have hb := ih2 b (by simp)
          simp [sizes]
          omega
      · split
        · rename_i hp hq
          match l, hq.1, ih2 with
          | [a, b], _, ih2 =>
            have ha := ih2 a (by simp)
            have hb := ih2 b (by simp)
            have h1 := opnd_len a a.wr (leftMost s) false
            have h2 := opnd_len b b.wr (levelN s - 1) true
            have h3 := opSp_len s
            simp [sizes, opnd_ne ha.2]
            omega
        · split
          · simp [hsne]; omega
          · refine ⟨?_, by simp⟩
            have hj := joinS_len 44 (l.map Tm.wr)
            have hsum := sum_wr l (fun t ht => (ih2 t ht).1.1)
            simp
            omega
  refine ⟨⟨by rw [Tm.wr]; exact hnode.1, ?_⟩, by rw [Tm.wr]; exact hnode.2⟩
  rw [Tm.wrt]
  split
  · rename_i hp
    rw [wrs_map, wrts_map, Tm.size]
    match l, hp.2.2, ih2 with
    | [a, b], _, ih2 =>
      have ha := ih2 a (by simp)
      have hb := ih2 b (by simp)
      simp [sizes]
      omega
  · split
    · simp
    · simp
      exact hnode.1
end Go.Proofs.YtikgpomnibbioaaGreatDoor
