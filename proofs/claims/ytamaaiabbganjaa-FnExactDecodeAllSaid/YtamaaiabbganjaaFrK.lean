/-
  Frames: bytes that are handed over in parts, and bytes that are frames.
  Conditions: none.
-/
import Derived.Test.YtamaaiabbganjaaFrIa
open Go Go.AM Go.Proofs
namespace Go.Proofs.Ytamaaiabbganjaa
set_option linter.unusedVariables false
set_option linter.unusedSimpArgs false
theorem byteAt_append {a t : List UInt8} {k : Nat} (h : k < a.length) : byteAt (a ++ t) k = byteAt a k := by
  simp only [byteAt, List.getD]
  rw [List.getElem?_append_left h]
theorem hd2_append {a t : List UInt8} (h : 2 ≤ a.length) : hd2 (a ++ t) = hd2 a := by
  rw [hd2, hd2, byteAt_append (by omega), byteAt_append (by omega)]
theorem frameAt_append {a t : List UInt8} (h : 2 ≤ a.length) (h2 : 2 + hd2 a ≤ a.length) (h3 : 1 ≤ hd2 a) : frameAt (a ++ t) = frameAt a := by
  rw [frameAt, frameAt, hd2_append h, byteAt_append (by omega), List.take_append_of_le_length (by omega)]
/-- more bytes do not change what the first ones are -/
theorem next_more {a : List UInt8} (t : List UInt8) (h : nextN a ≠ 0) : nextN (a ++ t) = nextN a ∧ (0 < nextN a → frameAt (a ++ t) = frameAt a ∧ (nextN a).toNat ≤ a.length) := by
  have h1 : ¬ a.length < 2 := fun h' => h (by rw [nextN, if_pos h'])
  have hh := hd2_append (t := t) (show 2 ≤ a.length by omega)
  by_cases h2 : hd2 a < 1 ∨ 2001 < hd2 a
  · have e : nextN a = -1 := by rw [nextN, if_neg h1, if_pos h2]
    refine ⟨?_, fun h' => by omega⟩
    rw [e, nextN, if_neg (by simp; omega), hh, if_pos h2]
  · have h3 : ¬ a.length < 2 + hd2 a := fun h' => h (by rw [nextN, if_neg h1, if_neg h2, if_pos h'])
    have hf := frameAt_append (t := t) (show 2 ≤ a.length by omega) (by omega) (by omega)
    have e : nextN a = if (frameAt a).ok then 2 + (hd2 a : Int) else -1 := by rw [nextN, if_neg h1, if_neg h2, if_neg h3]
    refine ⟨?_, fun h' => ⟨hf, ?_⟩⟩
    · rw [e, nextN, if_neg (by simp; omega), hh, if_neg h2, if_neg (by simp; omega), hf]
    · rw [e] at h' ⊢
      split at h' <;> rename_i h4
      · rw [if_pos h4]; omega
      · omega
theorem next_low (a : List UInt8) : -1 ≤ nextN a := by
  unfold nextN
  (repeat' split) <;> omega
theorem feed_append (a t : List UInt8) : feed (a ++ t) = if (feed a).2.2 then feed a else ((feed a).1 ++ (feed ((feed a).2.1 ++ t)).1, (feed ((feed a).2.1 ++ t)).2) := by
  induction h : a.length using Nat.strongRecOn generalizing a with
  | ind n ih =>
    by_cases h0 : nextN a = 0
    · rw [feed_stop h0]
      simp
    · obtain ⟨h1, h2⟩ := next_more t h0
      have hl := next_low a
      by_cases h3 : 0 < nextN a
      · obtain ⟨h4, h5⟩ := h2 h3
        have hd : (a ++ t).drop (nextN a).toNat = a.drop (nextN a).toNat ++ t := by rw [List.drop_append_of_le_length h5]
        rw [feed_go (by omega), h4, h1, hd, feed_go h3]
        have := ih (a.drop (nextN a).toNat).length (by simp; omega) (a.drop (nextN a).toNat) rfl
        rw [this]
        simp only
        split <;> simp_all
      · have h6 : nextN a = -1 := by omega
        rw [feed_bad (by omega), feed_bad h6]
        simp
theorem feed_rest_ok (a : List UInt8) (h : (feed a).2.2 = false) : nextN (feed a).2.1 = 0 := by
  induction hn : a.length using Nat.strongRecOn generalizing a with
  | ind n ih =>
    by_cases h0 : nextN a = 0
    · rw [feed_stop h0]; exact h0
    · have hl := next_low a
      by_cases h3 : 0 < nextN a
      · rw [feed_go h3] at h ⊢
        have hb : 0 < a.length := by
          cases a with
          | nil => simp [nextN] at h3
          | cons x l => simp
        exact ih (a.drop (nextN a).toNat).length (by simp; omega) _ h rfl
      · rw [feed_bad (by omega)] at h
        cases h
theorem feed_broken (a : List UInt8) (h : (feed a).2.2 = true) : (feed a).2.1 = [] := by
  induction hn : a.length using Nat.strongRecOn generalizing a with
  | ind n ih =>
    by_cases h0 : nextN a = 0
    · rw [feed_stop h0] at h; cases h
    · have hl := next_low a
      by_cases h3 : 0 < nextN a
      · rw [feed_go h3] at h ⊢
        have hb : 0 < a.length := by
          cases a with
          | nil => simp [nextN] at h3
          | cons x l => simp
        exact ih (a.drop (nextN a).toNat).length (by simp; omega) _ h rfl
      · rw [feed_bad (by omega)]
/-- a frame's bytes stand where the frame was found -/
theorem frameAt_take {b : List UInt8} (h : 0 < nextN b) : (frameAt b).bytes = b.take (nextN b).toNat ∧ (frameAt b).ok = true ∧ (nextN b).toNat ≤ b.length := by
  rcases next_cases b with ⟨h1, _⟩ | ⟨h1, _⟩ | ⟨h1, h2, h3, h4⟩
  · omega
  · omega
  · have hok : (frameAt b).ok = true := by
      cases h5 : (frameAt b).ok with
      | true => rfl
      | false => rw [h5] at h4; simp at h4; omega
    rw [hok] at h4
    simp only [if_true] at h4
    have e : (nextN b).toNat = hd2 b + 2 := by omega
    refine ⟨?_, hok, by omega⟩
    rw [e]
    have hlb : 3 ≤ b.length := by omega
    match b, hlb with
    | b0 :: b1 :: b2 :: t, _ =>
      have e0 : byteAt (b0 :: b1 :: b2 :: t) 0 = b0 := rfl
      have e1 : byteAt (b0 :: b1 :: b2 :: t) 1 = b1 := rfl
      have e2 : byteAt (b0 :: b1 :: b2 :: t) 2 = b2 := rfl
      have hh : hd2 (b0 :: b1 :: b2 :: t) = b0.toNat * 256 + b1.toNat := by rw [hd2, e0, e1]
      have hb1 := b1.toNat_lt
      have hb0 := b0.toNat_lt
      have hsl : (frameAt (b0 :: b1 :: b2 :: t)).s.length + 1 = b0.toNat * 256 + b1.toNat := by
        have q1 : b0.toNat * 256 + b1.toNat + 2 ≤ (b0 :: b1 :: b2 :: t).length := by rw [← hh]; omega
        have q2 : 1 ≤ b0.toNat * 256 + b1.toNat := by rw [← hh]; omega
        simp only [frameAt, List.length_drop, List.length_take, hh]
        omega
      obtain ⟨m, hm⟩ : ∃ m, hd2 (b0 :: b1 :: b2 :: t) + 2 = m + 3 := ⟨hd2 (b0 :: b1 :: b2 :: t) - 1, by omega⟩
      rw [Frame.bytes, hsl, hm]
      have d1 : (b0.toNat * 256 + b1.toNat) / 256 = b0.toNat := by omega
      have d2 : (b0.toNat * 256 + b1.toNat) % 256 = b1.toNat := by omega
      rw [d1, d2]
      have hs : (frameAt (b0 :: b1 :: b2 :: t)).s = t.take m := by simp only [frameAt, hm]; rfl
      have hk : (frameAt (b0 :: b1 :: b2 :: t)).k = (b2.toNat : Int) := by simp only [frameAt, e2]
      rw [hs, hk]
      simp
theorem feed_inv (a : List UInt8) (h : (feed a).2.2 = false) : a = cat (feed a).1 ++ (feed a).2.1 ∧ ∀ f ∈ (feed a).1, f.ok = true := by
  induction hn : a.length using Nat.strongRecOn generalizing a with
  | ind n ih =>
    by_cases h0 : nextN a = 0
    · rw [feed_stop h0]
      exact ⟨rfl, fun f hf => by cases hf⟩
    · have hl := next_low a
      by_cases h3 : 0 < nextN a
      · obtain ⟨h4, h5, h6⟩ := frameAt_take h3
        rw [feed_go h3] at h ⊢
        obtain ⟨h7, h8⟩ := ih (a.drop (nextN a).toNat).length (by simp; omega) _ h rfl
        refine ⟨?_, fun f hf => ?_⟩
        · simp only [cat, List.flatMap_cons, List.append_assoc] at h7 ⊢
          rw [h4, ← h7, List.take_append_drop]
        · rcases List.mem_cons.1 hf with rfl | hf
          · exact h5
          · exact h8 f hf
      · rw [feed_bad (by omega)] at h
        cases h
theorem decAll_true {a : List UInt8} (h : (decAll a).2 = true) : (feed a).2.2 = false ∧ (feed a).2.1 = [] ∧ (decAll a).1 = (feed a).1 := by
  unfold decAll at h ⊢
  split at h
  · cases h
  · rename_i h'
    simp only [Bool.or_eq_true, Bool.not_eq_true', not_or, Bool.not_eq_true, Bool.not_eq_false] at h'
    rw [if_neg (by simp [h'.1, h'.2])]
    exact ⟨h'.1, List.isEmpty_iff.1 h'.2, rfl⟩
theorem decAll_append {a b : List UInt8} (ha : (decAll a).2 = true) (hb : (decAll b).2 = true) : decAll (a ++ b) = ((decAll a).1 ++ (decAll b).1, true) := by
  obtain ⟨h1, h2, h3⟩ := decAll_true ha
  obtain ⟨h4, h5, h6⟩ := decAll_true hb
  have e := feed_append a b
  rw [h1, h2] at e
  simp only [Bool.false_eq_true, if_false, List.nil_append] at e
  rw [decAll, e, h3, h6]
  simp [h4, h5]
theorem encAll_decAll {a : List UInt8} (h : (decAll a).2 = true) : encAll (decAll a).1 = a := by
  obtain ⟨h1, h2, h3⟩ := decAll_true h
  obtain ⟨h4, h5⟩ := feed_inv a h1
  rw [h3, encAll, if_pos (by simpa using h5)]
  rw [h2, List.append_nil] at h4
  exact h4.symm
theorem decAll_encAll (l : List Frame) : decAll (encAll l) = (if l.all Frame.ok then l else [], true) := by
  cases h : l.all Frame.ok with
  | false =>
    rw [encAll, h]
    simp only [Bool.false_eq_true, if_false]
    rw [decAll, feed_nil]; rfl
  | true =>
    have := feed_cat l [] (by simpa using h)
    rw [List.append_nil, feed_nil] at this
    rw [encAll, if_pos h, decAll, this]
    simp
theorem feed_count (a : List UInt8) : (feed a).1.length ≤ a.length := by
  induction hn : a.length using Nat.strongRecOn generalizing a with
  | ind n ih =>
    by_cases h0 : nextN a = 0
    · rw [feed_stop h0]; simp
    · have hl := next_low a
      by_cases h3 : 0 < nextN a
      · have hb : 0 < a.length := by
          cases a with
          | nil => simp [nextN] at h3
          | cons x l => simp
        rw [feed_go h3]
        have := ih (a.drop (nextN a).toNat).length (by simp; omega) _ rfl
        simp at this ⊢
        omega
      · rw [feed_bad (by omega)]; simp
theorem decAll_count (a : List UInt8) : (decAll a).1.length ≤ a.length := by
  unfold decAll
  split
  · simp
  · exact feed_count a
end Go.Proofs.Ytamaaiabbganjaa
