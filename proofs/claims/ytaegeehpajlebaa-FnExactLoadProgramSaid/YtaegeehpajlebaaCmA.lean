/-
  Code as it is made: the plain law.
  Conditions: none.
-/
import Derived.Test.YtaegeehpajlebaaInsD
import Derived.Test.YtaegeehpajlebaaGoals
import Derived.Test.YtaegeehpajlebaaGood
open Go Go.AM Go.Proofs
namespace Go.Proofs.Ytaegeehpajlebaa
open Go.ChangeShapes Go.WideShapes Go.ChangeAt Go.RowKit
set_option linter.unusedVariables false
set_option linter.unusedSimpArgs false
set_option maxRecDepth 100000
/-- what is known while code is made: the slots of variables, the next slot, the rows of the code -/
structure Mk where
  sl : List (Int × Nat)
  next : Nat
  code : List (List D)
def slotO (m : List (Int × Nat)) (n : Int) : Option Nat := (m.find? fun p => p.1 == n).map (·.2)
def insR (op a b : Int) (s : List UInt8) : List D := [.int .i64 op, .int .i64 a, .int .i64 b, .str s]
def Mk.emit (M : Mk) (op a b : Int) (s : List UInt8) : Mk := ⟨M.sl, M.next, M.code ++ [insR op a b s]⟩
def Mk.give (M : Mk) (n : Int) (v : Nat) : Mk := ⟨M.sl ++ [(n, v)], M.next, M.code⟩
def Mk.bump (M : Mk) : Mk := ⟨M.sl, M.next + 1, M.code⟩
/-- an argument of a structure that is no structure -/
def Mk.desc (M : Mk) (t : Tm) : Mk := if t.k = 2 then M.emit 6 t.n 0 [] else match slotO M.sl t.n with
  | some v => M.emit 5 v 0 []
  | none => ((M.give t.n M.next).emit 4 M.next 0 []).bump
def argsT : List Tm → Mk → Mk × List (Tm × Nat)
  | [], M => (M, [])
  | t :: l, M => if t.k = 3 then ((argsT l (M.emit 4 M.next 0 []).bump).1, (t, M.next) :: (argsT l (M.emit 4 M.next 0 []).bump).2) else argsT l (M.desc t)
/-- the structures that are left -/
def headQ : Nat → List (Tm × Nat) → Mk → Mk
  | _, [], M => M
  | 0, _ :: _, M => M
  | f + 1, p :: q, M => headQ f (q ++ (argsT p.1.kids (M.emit 3 p.1.kids.length p.2 p.1.s)).2) (argsT p.1.kids (M.emit 3 p.1.kids.length p.2 p.1.s)).1
def qsize (q : List (Tm × Nat)) : Nat := (q.map fun p => p.1.size).sum
/-- the arguments of a head, from the i-th on -/
def headA : List Tm → Nat → Mk → Mk × List (Tm × Nat)
  | [], _, M => (M, [])
  | t :: l, i, M => if t.k = 2 then headA l (i + 1) (M.emit 2 t.n i [])
    else if t.k = 1 then headA l (i + 1) (match slotO M.sl t.n with | some v => M.emit 1 v i [] | none => M.give t.n i)
    else ((headA l (i + 1) M).1, (t, i) :: (headA l (i + 1) M).2)
def headT (l : List Tm) (M : Mk) : Mk := headQ (qsize (headA l 0 M).2) (headA l 0 M).2 (headA l 0 M).1
/-- what stands behind the instruction of a structure that is built -/
def partsT : List Tm → List Int → Mk → Mk
  | t :: l, b :: bs, M => partsT l bs (if t.k = 3 then M.emit 5 b 0 [] else M.desc t)
  | _, _, M => M
mutual
def buildT : Tm → Mk → Mk × Nat
  | .mk k n s l, M => (partsT l (buildL l M).2 ((buildL l M).1.bump.emit 7 l.length (buildL l M).1.next s), (buildL l M).1.next)
def buildL : List Tm → Mk → Mk × List Int
  | [], M => (M, [])
  | t :: l, M => if t.k = 3 then ((buildL l (buildT t M).1).1, ((buildT t M).2 : Int) :: (buildL l (buildT t M).1).2) else ((buildL l M).1, (-1) :: (buildL l M).2)
end
def putT (M : Mk) (t : Tm) (i : Nat) : Mk := if t.k = 2 then M.emit 10 t.n i []
  else if t.k = 1 then (match slotO M.sl t.n with | some v => M.emit 9 v i [] | none => ((M.give t.n M.next).bump).emit 8 M.next i [])
  else (buildT t M).1.emit 9 (buildT t M).2 i []
def putsT : List Tm → Nat → Mk → Mk
  | [], _, M => M
  | t :: l, i, M => putsT l (i + 1) (putT M t i)
/-- everything is small -/
structure Mk.fit (M : Mk) (B : Nat) : Prop where
  next : M.next ≤ B
  code : M.code.length ≤ B
  vals : ∀ p ∈ M.sl, p.2 ≤ B
  rows : ∀ r ∈ M.code, ∃ x : Ins, r = x.row
theorem Mk.fit.all {M : Mk} {B : Nat} (h : M.fit B) : allLen 4 M.code := fun r hr => by obtain ⟨x, rfl⟩ := h.rows r hr; rfl
theorem Mk.fit.mono {M : Mk} {B C : Nat} (h : M.fit B) (hb : B ≤ C) : M.fit C :=
  ⟨by have := h.next; omega, by have := h.code; omega, fun p hp => by have := h.vals p hp; omega, h.rows⟩
theorem Mk.fit.emit {M : Mk} {B : Nat} (h : M.fit B) (op a b : Int) (s : List UInt8) : (M.emit op a b s).fit (B + 1) := by
  refine ⟨by have := h.next; show M.next ≤ _; omega, by have := h.code; simp [Mk.emit]; omega, fun p hp => by have := h.vals p hp; omega, fun r hr => ?_⟩
  rcases List.mem_append.1 hr with hr | hr
  · exact h.rows r hr
  · simp at hr; exact ⟨⟨op, a, b, s⟩, hr⟩
theorem Mk.fit.give {M : Mk} {B : Nat} (h : M.fit B) (n : Int) (v : Nat) (hv : v ≤ B) : (M.give n v).fit B := by
  refine ⟨h.next, h.code, fun p hp => ?_, h.rows⟩
  rcases List.mem_append.1 hp with hp | hp
  · exact h.vals p hp
  · simp at hp; subst hp; exact hv
theorem Mk.fit.bump {M : Mk} {B : Nat} (h : M.fit B) : M.bump.fit (B + 1) :=
  ⟨by have := h.next; show M.next + 1 ≤ _; omega, by have := h.code; show M.code.length ≤ _; omega, fun p hp => by have := h.vals p hp; omega, h.rows⟩
theorem slotO_mem {m : List (Int × Nat)} {n : Int} {v : Nat} (h : slotO m n = some v) : (n, v) ∈ m := by
  simp only [slotO, Option.map_eq_some_iff] at h
  obtain ⟨p, h1, rfl⟩ := h
  have h2 := List.find?_some h1
  have h3 := List.mem_of_find?_eq_some h1
  simp at h2
  rw [← h2]; exact h3
theorem Mk.fit.desc {M : Mk} {B : Nat} (h : M.fit B) (t : Tm) : (M.desc t).fit (B + 2) := by
  unfold Mk.desc
  split
  · exact (h.emit ..).mono (by omega)
  · split
    · exact (h.emit ..).mono (by omega)
    · exact ((h.give _ _ h.next).emit ..).bump
theorem args_fit : ∀ (l : List Tm) (M : Mk) (B : Nat), M.fit B → (argsT l M).1.fit (B + 2 * l.length) ∧ ∀ p ∈ (argsT l M).2, p.1 ∈ l ∧ p.1.k = 3 ∧ p.2 ≤ B + 2 * l.length
  | [], M, B, h => ⟨by simpa [argsT] using h, by simp [argsT]⟩
  | t :: l, M, B, h => by
    unfold argsT
    split
    · rename_i hk
      have ih := args_fit l _ _ (h.emit 4 M.next 0 []).bump
      refine ⟨ih.1.mono (by simp; omega), fun p hp => ?_⟩
      rcases List.mem_cons.1 hp with rfl | hp
      · exact ⟨by simp, hk, by have := h.next; simp; omega⟩
      · obtain ⟨h1, h2, h3⟩ := ih.2 p hp
        exact ⟨by simp [h1], h2, by simp; omega⟩
    · have ih := args_fit l _ _ (h.desc t)
      refine ⟨ih.1.mono (by simp; omega), fun p hp => ?_⟩
      obtain ⟨h1, h2, h3⟩ := ih.2 p hp
      exact ⟨by simp [h1], h2, by simp; omega⟩
theorem parts_fit : ∀ (l : List Tm) (bs : List Int) (M : Mk) (B : Nat), M.fit B → (partsT l bs M).fit (B + 2 * l.length)
  | [], _, M, B, h => by simpa [partsT] using h
  | t :: l, [], M, B, h => by simpa [partsT] using h.mono (by omega)
  | t :: l, b :: bs, M, B, h => by
    unfold partsT
    refine (parts_fit l bs _ (B + 2) ?_).mono (by simp; omega)
    split
    · exact (h.emit ..).mono (by omega)
    · exact h.desc t
theorem buildL_len : ∀ (l : List Tm) (M : Mk), (buildL l M).2.length = l.length
  | [], M => by simp [buildL]
  | t :: l, M => by
    unfold buildL
    split <;> simp [buildL_len l]
/-- how much a structure that is built adds -/
theorem build_fit4 : ∀ (t : Tm) (M : Mk) (B : Nat), M.fit B → ∃ C, (buildT t M).1.fit C ∧ (buildT t M).2 ≤ C ∧ C + 4 ≤ B + 6 * t.size := by
  refine Tm.ind fun k n s l ih M B h => ?_
  have key : ∀ (l : List Tm), (∀ t ∈ l, ∀ (M : Mk) (B : Nat), M.fit B → ∃ C, (buildT t M).1.fit C ∧ (buildT t M).2 ≤ C ∧ C + 4 ≤ B + 6 * t.size) → ∀ (M : Mk) (B : Nat), M.fit B → ∃ C, (buildL l M).1.fit C ∧ C + 4 * l.length ≤ B + 6 * sizes l := by
    intro l
    induction l with
    | nil => intro _ M B h; exact ⟨B, by simpa [buildL] using h, by simp [sizes]⟩
    | cons t l ih2 =>
      intro hh M B h
      have hs := size_pos t
      unfold buildL
      split
      · obtain ⟨C, h1, _, h2⟩ := hh t (by simp) M B h
        obtain ⟨C2, h3, h4⟩ := ih2 (fun u hu => hh u (by simp [hu])) _ _ h1
        exact ⟨C2, h3, by simp [sizes]; omega⟩
      · obtain ⟨C2, h3, h4⟩ := ih2 (fun u hu => hh u (by simp [hu])) _ _ h
        exact ⟨C2, h3, by simp [sizes]; omega⟩
  obtain ⟨C, h1, hC⟩ := key l ih M B h
  have h2 := (h1.bump.emit 7 l.length (buildL l M).1.next s)
  have h3 := parts_fit l (buildL l M).2 _ _ h2
  have h5 := h1.next
  unfold buildT
  exact ⟨_, h3, by simp only; omega, by simp [Tm.size]; omega⟩
theorem build_fit (t : Tm) (M : Mk) (B : Nat) (h : M.fit B) : (buildT t M).1.fit (B + 6 * t.size) ∧ (buildT t M).2 ≤ B + 6 * t.size := by
  obtain ⟨C, h1, h2, h3⟩ := build_fit4 t M B h
  exact ⟨h1.mono (by omega), by omega⟩
theorem put_fit {M : Mk} {B : Nat} (h : M.fit B) (t : Tm) (i : Nat) : (putT M t i).fit (B + 6 * t.size + 2) := by
  unfold putT
  split
  · exact (h.emit ..).mono (by omega)
  · split
    · split
      · exact (h.emit ..).mono (by omega)
      · exact ((h.give _ _ h.next).bump.emit ..).mono (by omega)
    · exact ((build_fit t M B h).1.emit ..).mono (by omega)
theorem args_size : ∀ (l : List Tm) (M : Mk), 2 * l.length + 6 * qsize (argsT l M).2 ≤ 6 * sizes l + 4 * (argsT l M).2.length ∧ qsize (argsT l M).2 ≤ sizes l
  | [], M => by simp [argsT, qsize, sizes]
  | t :: l, M => by
    have hp := size_pos t
    unfold argsT
    split
    · have ih := args_size l (M.emit 4 M.next 0 []).bump
      simp only [qsize, List.map_cons, List.sum_cons, List.length_cons, sizes] at ih ⊢
      omega
    · have ih := args_size l (M.desc t)
      simp only [List.length_cons, sizes] at ih ⊢
      omega
theorem qsize_pos (q : List (Tm × Nat)) : q.length ≤ qsize q := by
  induction q with
  | nil => simp [qsize]
  | cons p q ih =>
    have := size_pos p.1
    simp only [qsize, List.map_cons, List.sum_cons, List.length_cons] at ih ⊢
    omega
theorem headA_fit : ∀ (l : List Tm) (i : Nat) (M : Mk) (B : Nat), M.fit B → i + l.length ≤ B → (headA l i M).1.fit (B + l.length) ∧ (∀ p ∈ (headA l i M).2, p.1 ∈ l ∧ p.1.k ≠ 2 ∧ p.1.k ≠ 1) ∧ qsize (headA l i M).2 ≤ sizes l ∧ (headA l i M).2.length ≤ l.length
  | [], _, M, B, h, _ => by simpa [headA, qsize, sizes] using h
  | t :: l, i, M, B, h, hi => by
    simp only [List.length_cons] at hi ⊢
    unfold headA
    split
    · obtain ⟨h1, h2, h3, h4⟩ := headA_fit l (i + 1) _ (B + 1) (h.emit 2 t.n i []) (by omega)
      exact ⟨h1.mono (by omega), fun p hp => ⟨by simp [(h2 p hp).1], (h2 p hp).2⟩, by simp only [sizes]; omega, by omega⟩
    · split
      · have hf : Mk.fit (match slotO M.sl t.n with | some v => M.emit 1 v i [] | none => M.give t.n i) (B + 1) := by
          split
          · exact h.emit ..
          · exact (h.give _ _ (by omega)).mono (by omega)
        obtain ⟨h1, h2, h3, h4⟩ := headA_fit l (i + 1) _ (B + 1) hf (by omega)
        exact ⟨h1.mono (by omega), fun p hp => ⟨by simp [(h2 p hp).1], (h2 p hp).2⟩, by simp only [sizes]; omega, by omega⟩
      · rename_i k2 k1
        obtain ⟨h1, h2, h3, h4⟩ := headA_fit l (i + 1) M (B + 1) (h.mono (by omega)) (by omega)
        refine ⟨h1.mono (by omega), fun p hp => ?_, by simp only [qsize, List.map_cons, List.sum_cons, sizes] at h3 ⊢; omega, by simp; omega⟩
        rcases List.mem_cons.1 hp with rfl | hp
        · exact ⟨by simp, k2, k1⟩
        · exact ⟨by simp [(h2 p hp).1], (h2 p hp).2⟩
/-- the slots as the reference keeps them -/
def slotsR (m : List (Int × Nat)) : List (List D) := (List.range 26).map fun i : Nat => [.int .i64 (match slotO m i with | some v => (v : Int) | none => -1)]
theorem slotsR_len (m : List (Int × Nat)) : (slotsR m).length = 26 := by simp [slotsR]
theorem slotsR_all (m : List (Int × Nat)) : allLen 1 (slotsR m) := allLen_map fun _ => rfl
theorem slotsR_get (m : List (Int × Nat)) {i : Nat} (h : i < 26) : (slotsR m)[i]? = some [.int .i64 (match slotO m i with | some v => (v : Int) | none => -1)] := by
  simp [slotsR, h]
theorem slotO_snoc (m : List (Int × Nat)) (n k : Int) (v : Nat) (h : slotO m n = none) : slotO (m ++ [(n, v)]) k = if k = n then some v else slotO m k := by
  unfold slotO at h ⊢
  rw [List.find?_append]
  by_cases hk : k = n
  · subst hk
    simp only [Option.map_eq_none_iff] at h
    simp [h]
  · have hk' : ¬ n = k := fun e => hk e.symm
    simp [hk, hk']
theorem slotsR_set (m : List (Int × Nat)) (n v : Nat) (hn : n < 26) (h : slotO m n = none) : (slotsR m).set n [.int .i64 v] = slotsR (m ++ [((n : Int), v)]) := by
  refine List.ext_getElem? fun i => ?_
  rcases Nat.lt_or_ge i 26 with hi | hi
  · rw [slotsR_get _ hi, slotO_snoc m n i v h, List.getElem?_set]
    by_cases he : n = i
    · subst he
      simp [slotsR_len, hn]
    · have : ¬ ((i : Int) = n) := by omega
      rw [if_neg he, slotsR_get _ hi, if_neg this]
  · rw [List.getElem?_eq_none (by simp [slotsR_len]; omega), List.getElem?_eq_none (by simp [slotsR_len]; omega)]
/-- the slots as the program keeps them -/
def slotsM (m : List (Int × Nat)) : List (Int × List D) := m.map fun p => (p.1, [.int .i64 p.2])
theorem slotsM_row (n : Int) : ∀ m : List (Int × Nat), V_ (slotsM m) n = (slotO m n).map fun v => [.int .i64 (v : Int)]
  | [] => rfl
  | (k, v) :: m => by
    have ih := slotsM_row n m
    unfold slotsM slotO at ih ⊢
    simp only [List.map_cons, V_, List.find?_cons]
    by_cases h : k = n
    · simp [h]
    · have : (k == n) = false := by simpa using h
      rw [if_neg h, this]
      exact ih
theorem slotsM_put (n : Int) (v : Nat) : ∀ m : List (Int × Nat), slotO m n = none → W_ (slotsM m) n [.int .i64 (v : Int)] = slotsM (m ++ [(n, v)])
  | [], _ => rfl
  | (k, w) :: m, h => by
    unfold slotO at h
    simp only [List.find?_cons] at h
    by_cases hk : k = n
    · simp [hk] at h
    · have : (k == n) = false := by simpa using hk
      rw [this] at h
      have ih := slotsM_put n v m h
      unfold slotsM at ih ⊢
      simp only [List.map_cons, W_, List.cons_append]
      rw [if_neg hk, ih]
end Go.Proofs.Ytaegeehpajlebaa
