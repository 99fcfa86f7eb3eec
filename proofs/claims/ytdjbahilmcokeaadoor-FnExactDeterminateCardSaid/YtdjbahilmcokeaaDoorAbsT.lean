/-
  Functions that write into an array below which there is no memory.
  Conditions: none.
-/
import Derived.Test.YtdjbahilmcokeaaDoorAbsS
namespace Go.AM
set_option linter.unusedVariables false
set_option linter.unusedSimpArgs false

theorem RT.leafs_rd {w : World} {x : D} {v : Value} {B : Nat → Prop} (h : RT w x v B) (hx : x.leaf = true) (S : Nat → Nat → Prop) : RD w S x v := by
  cases h with
  | leaf a b => exact b.of_leaf a
  | sl rs _ _ _ _ _ _ _ e1 => cases rs with
    | nil => exact absurd rfl e1
    | cons _ _ => simp [D.leaf] at hx

/-- a function that writes into an array without memory below it -/
theorem acalls_leafs {P : Program} {f : FuncId} {pre post : List A} {rows : List (List D)} {Q : A → List (List D) → Prop} (sz : Nat) (hsz : ∀ r ∈ rows, r.length = sz) (hlf : ∀ x ∈ rows.flatten, x.leaf = true) (hpre : pre.all A.portT = true) (hpost : post.all A.portT = true) (hne : rows ≠ [])
    (h : ACalls P f (pre ++ .c (.fsl (.e 0) rows.length sz) :: post) [.rows rows] (fun r H' => ∃ rows', (∀ x ∈ rows'.flatten, x.leaf = true) ∧ rows'.length = rows.length ∧ (∀ r ∈ rows', r.length = sz) ∧ H' = [.rows rows'] ∧ r.portT = true ∧ Q r rows')) (kv : Value) :
    ACalls P f (pre ++ .c (.d (.v kv)) :: post) [.tree kv rows] (fun r H' => ∃ rows', H' = [.tree kv rows'] ∧ r.portT = true ∧ Q r rows') := by
  refine ⟨h.1, fun w ι cargs hsim hl ha => ?_⟩
  obtain ⟨k, hk, ho⟩ := hsim.get (j := 0) rfl
  obtain ⟨B, B₀, rfl, hB, hT⟩ := ho.tree_inv
  have hι : ι = [.tree B] := by
    have := hsim.len
    cases ι with
    | nil => simp at this
    | cons a l =>
      cases l with
      | nil => simp at hk; rw [hk]
      | cons _ _ => simp at this
  subst hι
  have hlow : ∀ c, B c → c < w.heap.size := fun c hc => hsim.low (.tree B) c (by simp) hc
  cases hT with
  | leaf hx _ => cases rows with
    | nil => exact absurd rfl hne
    | cons _ _ => simp [D.leaf] at hx
  | sl _ b cap sz' vs el vf Bs g1 g2 g3 g4 g5 g6 g7 g8 g9 g10 =>
    have hsz' : sz' = sz := by
      cases rows with
      | nil => exact absurd rfl hne
      | cons r l => rw [← g4 r (by simp), hsz r (by simp)]
    subst hsz'
    have hb : B b := hB _ (.inl rfl)
    have hsim0 : Sim w [.rows b sz' rows.length] [Ob.rows rows].length [.rows rows] := by
      refine ⟨rfl, fun i o k ho hk => ?_, fun i j k k' c hi hj hk hk' => ?_, fun k c hk hc => ?_⟩
      · cases i with
        | zero =>
          simp at ho hk
          subst ho; subst hk
          refine ⟨vs, el, g5, by rw [← flatten_len g4]; exact g6, ⟨g3, rfl⟩, fun i r hi => ⟨g4 r (List.mem_of_getElem? hi), fun j x hj => ?_⟩⟩
          have h1 := flatten_get g4 hi hj
          have hx := hlf x (List.mem_of_getElem? h1)
          exact ⟨_, g7 _ _ h1, (g8 _ _ h1).leafs_rd hx _⟩
        | succ i => simp at ho
      · have hi := (List.getElem?_eq_some_iff.1 hi).1
        have hj := (List.getElem?_eq_some_iff.1 hj).1
        simp at hi hj; omega
      · simp at hk; subst hk
        rw [show c = b from hc]; exact hlow b hb
    have hRA : ∀ (i : Nat) a v, (pre ++ A.c (.fsl (.e 0) rows.length sz') :: post)[i]? = some a → cargs[i]? = some v → RA w [.rows b sz' rows.length] [Ob.rows rows].length a v := fun i a v hi hv => by
      rcases Nat.lt_trichotomy i pre.length with h1 | h1 | h1
      · rw [List.getElem?_append_left h1] at hi
        exact A.port_of (List.all_eq_true.1 hpre a (List.mem_of_getElem? hi)) _ _ _ _ _ _ _ (ha i a v (by rw [List.getElem?_append_left h1]; exact hi) hv)
      · subst h1
        have h2 := ha pre.length _ v (by simp; rfl) hv
        simp at hi
        subst hi
        cases h2 with
        | c h2 =>
          cases h2 with
          | d h2 =>
            cases h2
            exact .c (.fsl rfl g2)
      · rw [List.getElem?_append_right (by omega)] at hi
        obtain ⟨m, hm⟩ : ∃ m, i - pre.length = m + 1 := ⟨i - pre.length - 1, by omega⟩
        rw [hm, List.getElem?_cons_succ] at hi
        exact A.port_of (List.all_eq_true.1 hpost a (List.mem_of_getElem? hi)) _ _ _ _ _ _ _ (ha i a v (by rw [List.getElem?_append_right (by omega), hm, List.getElem?_cons_succ]; exact hi) hv)
    refine (h.2 w _ cargs hsim0 (by simpa using hl) hRA).mono fun e w' ⟨r, H', ι', v, he, ⟨rows', q1, q2, q3, q6, q7, q8⟩, hs', hr', hx, hle⟩ => ?_
    subst q6
    have hι' : ι' = [.rows b sz' rows.length] := by
      have := hs'.len
      obtain ⟨k', h3, h4⟩ := hx.ev 0 _ rfl
      cases ι' with
      | nil => simp at this
      | cons a l =>
        cases l with
        | nil => simp at h3; subst h3; rw [← h4]
        | cons _ _ => simp at this
    subst hι'
    obtain ⟨vs', el', j1, j2, ⟨j3, j3'⟩, j4⟩ := hs'.obj 0 _ _ rfl rfl
    have hA : Arr w' (Safe w' [.rows b sz' rows.length]) rows'.flatten b := ⟨vs', el', j1, by rw [flatten_len q3]; exact j2, fun m x hm => by
      obtain ⟨i, j, r, h6', h7, rfl⟩ := flatten_inv q3 hm
      exact (j4 i r h6').2 j x h7⟩
    have hne' : rows' ≠ [] := fun e => by subst e; apply hne; simpa using q2.symm
    obtain ⟨B', hT', hB'⟩ := RT.of_leafs (cap := cap) hA q1 hne' (by omega) (by omega) q3
    have hsub' : ∀ c, B' c → B c := fun c hc => by rw [hB' c hc]; exact hb
    rw [q2] at hT'
    refine ⟨r, [.tree (.slice (some ⟨b, 0, none⟩) rows.length cap) rows'], [.tree B], v, he, ⟨rows', rfl, q7, q8⟩, ⟨rfl, fun i o k ho hk => ?_, fun i j k k' c hi hj _ _ => ?_, fun k c hk hc => ?_⟩, A.port_of q7 _ _ _ _ _ _ _ hr', ?_, Nat.le_refl _⟩
    · cases i with
      | zero => simp at ho hk; subst ho; subst hk; exact ⟨B', hsub', hT'⟩
      | succ i => simp at ho
    · have hi := (List.getElem?_eq_some_iff.1 hi).1
      have hj := (List.getElem?_eq_some_iff.1 hj).1
      simp at hi hj; omega
    · simp at hk; subst hk; exact Nat.lt_of_lt_of_le (hlow c hc) hx.size
    · have hsub : ∀ k c, k ∈ [K.rows b sz' rows.length] → k.at c → B c := fun k c hk hc => by simp at hk; subst hk; rw [show c = b from hc]; exact hb
      refine ⟨hx.os, hx.tape, hx.output, hx.size, fun c o hs => ?_, fun c hc hk => ?_, fun i k hi => ⟨k, hi, k.ev_refl⟩⟩
      · have hnB : ¬ B c := hs.2 (.tree B) (by simp)
        obtain ⟨p, q⟩ := hx.safe c o ⟨hs.1, fun k hk ho => hnB (hsub k c hk (K.at_of_owns ho))⟩
        exact ⟨⟨p.1, fun k hk ho => by simp at hk; subst hk; exact hnB ho⟩, q⟩
      · have hnB : ¬ B c := hk (.tree B) (by simp)
        refine ⟨(hx.block c hc fun k hk ho => hnB (hsub k c hk ho)).1, fun k hk ho => by simp at hk; subst hk; exact hnB ho⟩

end Go.AM
