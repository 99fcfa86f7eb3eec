/-
  Regions whose order the compiler may choose: a check under which one order tells all orders.
  Conditions: the check 'drawOk'.
-/
import Derived.Test.YtcapnainldlnjaaGreatAbsJ
namespace Go.AM
set_option linter.unusedVariables false
set_option linter.unusedSimpArgs false

def aft (ops : Array Oper) (i : Nat) : List Nat :=
  match ops[i]? with
  | some o => (o.after.toList.filter (Region.binds .any)).map (·.on)
  | none => []

/-- the steps behind which a step stands, told by their places in the order 'ord' -/
def afP (ops : Array Oper) (ord : List Nat) (p : Nat) : List Nat := (aft ops (ord.getD p 0)).map fun i => ord.idxOf i

inductive Anc (af : Nat → List Nat) : Nat → Nat → Prop
  | base {i j : Nat} : i ∈ af j → Anc af i j
  | step {i k j : Nat} : Anc af i k → k ∈ af j → Anc af i j

def ancs (af : Nat → List Nat) : Nat → List (List Nat)
  | 0 => []
  | n + 1 => let l := ancs af n; l ++ [af n ++ (af n).flatMap fun j => l.getD j []]

theorem ancs_len {af : Nat → List Nat} : ∀ n, (ancs af n).length = n
  | 0 => rfl
  | n + 1 => by simp [ancs, ancs_len n]

theorem ancs_sound {af : Nat → List Nat} : ∀ (n : Nat) (i j : Nat), i ∈ (ancs af n).getD j [] → Anc af i j
  | 0, i, j, h => by simp [ancs, List.getD] at h
  | n + 1, i, j, h => by
    simp only [ancs, List.getD] at h
    rcases Nat.lt_trichotomy j n with hlt | rfl | hgt
    · rw [List.getElem?_append_left (by rw [ancs_len]; exact hlt)] at h
      exact ancs_sound n i j h
    · rw [List.getElem?_append_right (by rw [ancs_len]; exact Nat.le_refl _), ancs_len, Nat.sub_self] at h
      simp only [List.getElem?_cons_zero, Option.getD_some, List.mem_append, List.mem_flatMap] at h
      rcases h with h | ⟨k, h1, h2⟩
      · exact .base h
      · exact .step (ancs_sound j i k h2) h1
    · rw [List.getElem?_eq_none (by simp [ancs_len]; omega)] at h
      simp at h

def Step.looks (s : Step) : List Nat := (s.op.opds.filterMap fun | .t i => some i | _ => none) ++ (s.guard.map (·.1)).toList

def isPure (steps : List Step) (i : Nat) : Bool := match steps[i]? with | some s => s.op.pure | none => false
def isRobust (steps : List Step) (i : Nat) : Bool := match steps[i]? with | some s => s.op.robust | none => false
def isAlloc (steps : List Step) (i : Nat) : Bool := match steps[i]? with | some s => s.op.grows && s.guard.isNone | none => false
def isLoadL (steps : List Step) (i : Nat) : Bool := match steps[i]? with | some s => s.op.isLoadL | none => false
def isHead (steps : List Step) (i : Nat) : Bool := match steps[i]? with | some s => s.op.isHead | none => false
def isCallL (steps : List Step) (i : Nat) : Bool := match steps[i]? with | some s => s.op.isCallL && s.guard.isNone | none => false
def dstOf (steps : List Step) (i : Nat) : Option Nat := match steps[i]? with | some s => s.dst | none => none
def looksOf (steps : List Step) (i : Nat) : List Nat := match steps[i]? with | some s => s.looks | none => []

/-- the check; 'steps' stand in the order 'ord' -/
def drawOk (ops : Array Oper) (ord : List Nat) (steps : List Step) : Bool :=
  let n := steps.length
  let A := ancs (afP ops ord) n
  let r := List.range n
  ord.length == n && ops.size == n && (r.all fun p => ord.contains p && decide (ord.getD p 0 < n) && ord.idxOf (ord.getD p 0) == p) &&
  r.all fun i => (afP ops ord i).all (· < i) &&
    (r.all fun j => j == i || ((match dstOf steps j with | some t => !(looksOf steps i).contains t || (A.getD i []).contains j || (A.getD j []).contains i | none => true) &&
        (match dstOf steps i with | some t => dstOf steps j != some t | none => true))) &&
    (isPure steps i || r.all fun k => k == i || (if i < k then (afP ops ord k).any (i ≤ ·) else isRobust steps k || (isAlloc steps i && isPure steps k) || (isCallL steps i && isLoadL steps k && (isHead steps i || !isHead steps k)) || (A.getD i []).contains k))

structure DrawOk (ops : Array Oper) (ord : List Nat) (steps : List Step) : Prop where
  len : ord.length = steps.length
  size : ops.size = steps.length
  all : ∀ i, i < steps.length → i ∈ ord
  perm : ∀ p, p < steps.length → ord.getD p 0 < steps.length ∧ ord.idxOf (ord.getD p 0) = p
  low : ∀ i j, i < steps.length → j ∈ afP ops ord i → j < i
  looks : ∀ i j t, i < steps.length → j < steps.length → j ≠ i → dstOf steps j = some t → t ∈ looksOf steps i → Anc (afP ops ord) j i ∨ Anc (afP ops ord) i j
  dst : ∀ i j t, i < steps.length → j < steps.length → j ≠ i → dstOf steps i = some t → dstOf steps j ≠ some t
  behind : ∀ i k, i < k → k < steps.length → isPure steps i = false → ∃ j ∈ afP ops ord k, i ≤ j
  ahead : ∀ i k, k < i → i < steps.length → isPure steps i = false → isRobust steps k = true ∨ (isAlloc steps i = true ∧ isPure steps k = true) ∨ ((isCallL steps i = true ∧ isLoadL steps k = true) ∧ (isHead steps k = true → isHead steps i = true)) ∨ Anc (afP ops ord) k i

theorem drawOk_spec {ops : Array Oper} {ord : List Nat} {steps : List Step} (h : drawOk ops ord steps = true) : DrawOk ops ord steps := by
  simp only [drawOk, List.all_eq_true, List.mem_range, Bool.and_eq_true, decide_eq_true_eq, beq_iff_eq] at h
  obtain ⟨⟨⟨h1, h2⟩, h3⟩, h⟩ := h
  refine ⟨h1, h2, fun i hi => by simpa using (h3 i hi).1.1, fun p hp => ⟨(h3 p hp).1.2, (h3 p hp).2⟩, fun i j hi hj => (h i hi).1.1 j hj, ?_, ?_, ?_, ?_⟩
  · intro i j t hi hj hne hd ht
    have h2 := (h i hi).1.2 j hj
    simp only [Bool.or_eq_true, beq_iff_eq, hne, false_or, Bool.and_eq_true, hd] at h2
    rcases h2.1 with (h3 | h3) | h3
    · simp [ht] at h3
    · exact .inl (ancs_sound _ _ _ (by simpa using h3))
    · exact .inr (ancs_sound _ _ _ (by simpa using h3))
  · intro i j t hi hj hne hd
    have h2 := (h i hi).1.2 j hj
    simp only [Bool.or_eq_true, beq_iff_eq, hne, false_or, Bool.and_eq_true, hd] at h2
    simpa using h2.2
  · intro i k hik hk pi
    have h1 := (h i (by omega)).2
    simp only [pi, Bool.false_eq_true, Bool.or_eq_true, false_or, List.all_eq_true, List.mem_range] at h1
    have h2 := h1 k hk
    rw [if_pos hik] at h2
    simp only [Bool.or_eq_true, beq_iff_eq, List.any_eq_true, decide_eq_true_eq] at h2
    rcases h2 with h2 | h2
    · omega
    · exact h2
  · intro i k hik hk pi
    have h1 := (h i hk).2
    simp only [pi, Bool.false_eq_true, Bool.or_eq_true, false_or, List.all_eq_true, List.mem_range] at h1
    have h2 := h1 k (by omega)
    rw [if_neg (by omega)] at h2
    simp only [Bool.or_eq_true, beq_iff_eq] at h2
    rcases h2 with h2 | ((h2 | h2) | h2) | h2
    · omega
    · exact .inl h2
    · exact .inr (.inl (by simpa using h2))
    · simp only [Bool.and_eq_true, Bool.or_eq_true, Bool.not_eq_true'] at h2
      exact .inr (.inr (.inl ⟨h2.1, fun e => h2.2.resolve_right (by rw [e]; simp)⟩))
    · exact .inr (.inr (.inr (ancs_sound _ _ _ (by simpa using h2))))

theorem Anc.lt {ops : Array Oper} {ord : List Nat} {steps : List Step} (hd : DrawOk ops ord steps) {i j : Nat} (h : Anc (afP ops ord) i j) : j < steps.length → i < j := by
  induction h with
  | base h => exact fun hj => hd.low _ _ hj h
  | step h1 h2 ih => exact fun hj => by have := hd.low _ _ hj h2; have := ih (by omega); omega

def Closed (af : Nat → List Nat) (n : Nat) (L : Nat → Prop) : Prop := ∀ j, j < n → L j → ∀ i ∈ af j, L i
theorem Anc.closed {ops : Array Oper} {ord : List Nat} {steps : List Step} (hd : DrawOk ops ord steps) {L : Nat → Prop} (hc : Closed (afP ops ord) steps.length L) {i j : Nat} (h : Anc (afP ops ord) i j) : j < steps.length → L j → L i := by
  induction h with
  | base h => exact fun hj hl => hc _ hj hl _ h
  | step h1 h2 ih => exact fun hj hl => ih (by have := hd.low _ _ hj h2; omega) (hc _ hj hl _ h2)
theorem Anc.ready {ops : Array Oper} {ord : List Nat} {steps : List Step} (hd : DrawOk ops ord steps) {L : Nat → Prop} (hc : Closed (afP ops ord) steps.length L) {i j : Nat} (hj : j < steps.length) (h : Anc (afP ops ord) i j)
    (hr : ∀ k ∈ afP ops ord j, L k) : L i := by
  cases h with
  | base h => exact hr _ h
  | step h1 h2 => exact h1.closed hd hc (by have := hd.low _ _ hj h2; omega) (hr _ h2)

/-- slots in which the steps of L have been taken -/
def Mix (steps : List Step) (e : Nat) (V : Nat → A) (σ : List A) (L : Nat → Prop) (sl : List A) : Prop :=
  sl.length = σ.length ∧ ∀ t, (∀ i, i < e → L i → dstOf steps i = some t → t < σ.length → sl[t]? = some (V i)) ∧ ((∀ i, i < e → L i → dstOf steps i ≠ some t) → sl[t]? = σ[t]?)

theorem Mix.agree {steps : List Step} {e : Nat} {V : Nat → A} {σ sl sl' : List A} {L L' : Nat → Prop} (h : Mix steps e V σ L sl) (h' : Mix steps e V σ L' sl') {t : Nat}
    (hl : ∀ j, j < e → dstOf steps j = some t → (L j ↔ L' j)) : sl[t]? = sl'[t]? := by
  rcases Nat.lt_or_ge t σ.length with ht | ht
  · by_cases hx : ∃ j, j < e ∧ L j ∧ dstOf steps j = some t
    · obtain ⟨j, h2, h3, h4⟩ := hx
      rw [(h.2 t).1 j h2 h3 h4 ht, (h'.2 t).1 j h2 ((hl j h2 h4).1 h3) h4 ht]
    · rw [(h.2 t).2 fun i h2 h3 h4 => hx ⟨i, h2, h3, h4⟩, (h'.2 t).2 fun i h2 h3 h4 => hx ⟨i, h2, (hl i h2 h4).2 h3, h4⟩]
  · rw [List.getElem?_eq_none (by rw [h.1]; exact ht), List.getElem?_eq_none (by rw [h'.1]; exact ht)]

theorem setSl_len {sl : List A} {d : Option Nat} {a : A} : (d_ sl d a).length = sl.length := by cases d <;> simp [d_]
theorem setSl_get {sl : List A} {d : Option Nat} {a : A} {t : Nat} : (d_ sl d a)[t]? = if d = some t ∧ t < sl.length then some a else sl[t]? := by
  cases d with
  | none => simp [d_]
  | some d =>
    simp only [d_, List.getElem?_set, Option.some.injEq]
    by_cases h : d = t
    · subst h
      by_cases h2 : d < sl.length
      · simp [h2]
      · simp [h2, List.getElem?_eq_none (Nat.le_of_not_lt h2)]
    · simp [h]

theorem Mix.add {ops : Array Oper} {ord : List Nat} {steps : List Step} (hd : DrawOk ops ord steps) {e : Nat} {V : Nat → A} {σ sl : List A} {L : Nat → Prop} (he : e ≤ steps.length)
    (h : Mix steps e V σ L sl) {i : Nat} (h2 : i < e) : Mix steps e V σ (fun j => L j ∨ j = i) (d_ sl (dstOf steps i) (V i)) := by
  refine ⟨by rw [setSl_len]; exact h.1, fun t => ⟨fun j hj2 hL hdt ht => ?_, fun hn => ?_⟩⟩
  · rw [setSl_get]
    by_cases hji : j = i
    · subst hji
      rw [if_pos ⟨hdt, by rw [h.1]; exact ht⟩]
    · rw [if_neg fun hc => hd.dst i j t (by omega) (by omega) hji hc.1 hdt]
      exact (h.2 t).1 j hj2 (hL.resolve_right hji) hdt ht
  · rw [setSl_get, if_neg fun hc => hn i h2 (.inr rfl) hc.1]
    exact (h.2 t).2 fun j hj2 hL => hn j hj2 (.inl hL)

/-- more steps, none of which has been taken -/
theorem Mix.more {steps : List Step} {e e' : Nat} {V V' : Nat → A} {σ sl : List A} {L : Nat → Prop} (h : Mix steps e V σ L sl) (he : e ≤ e') (hV : ∀ i, i < e → V' i = V i) (hL : ∀ i, e ≤ i → ¬ L i) : Mix steps e' V' σ L sl := by
  refine ⟨h.1, fun t => ⟨fun i h1 h2 h3 h4 => ?_, fun hn => (h.2 t).2 fun i h1 h2 => hn i (by omega) h2⟩⟩
  rcases Nat.lt_or_ge i e with h5 | h5
  · rw [hV i h5]; exact (h.2 t).1 i h5 h2 h3 h4
  · exact absurd h2 (hL i h5)

theorem Mix.cong {steps : List Step} {e : Nat} {V : Nat → A} {σ sl : List A} {L L' : Nat → Prop} (h : Mix steps e V σ L sl) (hL : ∀ i, i < e → (L i ↔ L' i)) : Mix steps e V σ L' sl :=
  ⟨h.1, fun t => ⟨fun i h1 h2 h3 h4 => (h.2 t).1 i h1 ((hL i h1).2 h2) h3 h4, fun hn => (h.2 t).2 fun i h1 h2 => hn i h1 ((hL i h1).1 h2)⟩⟩

end Go.AM
