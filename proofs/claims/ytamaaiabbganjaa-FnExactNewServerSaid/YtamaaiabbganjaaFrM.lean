/-
  Frames: what is taken from the bytes of frames.
  Conditions: none.
-/
import Derived.Test.YtamaaiabbganjaaFrC
open Go Go.AM Go.Proofs
namespace Go.Proofs.Ytamaaiabbganjaa
set_option linter.unusedVariables false
set_option linter.unusedSimpArgs false
theorem ok_spec {f : Frame} (h : f.ok = true) : 1 ≤ f.k ∧ f.k ≤ 7 ∧ f.s.length ≤ 2000 := by
  simp only [Frame.ok, Bool.and_eq_true, decide_eq_true_eq] at h
  exact ⟨h.1.1.1, h.1.1.2, h.2⟩
theorem bytes_len (f : Frame) : f.bytes.length = f.s.length + 3 := by simp [Frame.bytes]
theorem hd2_bytes {f : Frame} (h : f.ok = true) (t : List UInt8) : hd2 (f.bytes ++ t) = f.s.length + 1 := by
  obtain ⟨_, _, h3⟩ := ok_spec h
  have e0 : byteAt (f.bytes ++ t) 0 = UInt8.ofNat ((f.s.length + 1) / 256) := rfl
  have e1 : byteAt (f.bytes ++ t) 1 = UInt8.ofNat ((f.s.length + 1) % 256) := rfl
  rw [hd2, e0, e1, UInt8.toNat_ofNat', UInt8.toNat_ofNat']
  omega
theorem frameAt_bytes {f : Frame} (h : f.ok = true) (t : List UInt8) : frameAt (f.bytes ++ t) = f := by
  obtain ⟨h1, h2, h3⟩ := ok_spec h
  have e2 : byteAt (f.bytes ++ t) 2 = UInt8.ofNat f.k.toNat := rfl
  rw [frameAt, hd2_bytes h, e2, UInt8.toNat_ofNat']
  obtain ⟨k, s⟩ := f
  simp only [Frame.mk.injEq]
  simp only at h1 h2 h3
  refine ⟨by omega, ?_⟩
  have : ((Frame.mk k s).bytes ++ t).take (s.length + 1 + 2) = (Frame.mk k s).bytes := by
    rw [List.take_append_of_le_length (by rw [bytes_len]; exact Nat.le_refl _), List.take_of_length_le (by rw [bytes_len]; exact Nat.le_refl _)]
  rw [this]
  rfl
theorem nextN_bytes {f : Frame} (h : f.ok = true) (t : List UInt8) : nextN (f.bytes ++ t) = (f.s.length : Int) + 3 := by
  have hl : (f.bytes ++ t).length = f.s.length + 3 + t.length := by rw [List.length_append, bytes_len]
  obtain ⟨_, _, h3⟩ := ok_spec h
  rw [nextN, if_neg (by omega), hd2_bytes h, if_neg (by omega), if_neg (by omega), frameAt_bytes h, if_pos h]
  omega
theorem feed_bytes {f : Frame} (h : f.ok = true) (t : List UInt8) : feed (f.bytes ++ t) = (f :: (feed t).1, (feed t).2) := by
  have hn := nextN_bytes h t
  rw [feed_go (by omega), frameAt_bytes h, hn, show ((f.s.length : Int) + 3).toNat = f.bytes.length by rw [bytes_len]; omega, List.drop_left]
theorem feed_nil : feed [] = ([], [], false) := feed_stop rfl
theorem byteAt_take {s : List UInt8} {n k : Nat} (h : k < n) : byteAt (s.take n) k = byteAt s k := by
  simp only [byteAt, List.getD, List.getElem?_take, if_pos h]
/-- a part of a frame is no frame yet -/
theorem nextN_part {f : Frame} (h : f.ok = true) {n : Nat} (hn : n < f.bytes.length) : nextN (f.bytes.take n) = 0 := by
  have hh := hd2_bytes h []
  rw [List.append_nil] at hh
  rw [bytes_len] at hn
  obtain ⟨_, _, h3⟩ := ok_spec h
  have hl : (f.bytes.take n).length = n := by rw [List.length_take, bytes_len]; omega
  rw [next_zero, hl]
  by_cases h2 : n < 2
  · exact .inl h2
  · have : hd2 (f.bytes.take n) = f.s.length + 1 := by
      rw [← hh, hd2, hd2, byteAt_take (by omega), byteAt_take (by omega)]
    rw [this]
    exact .inr (by omega)
end Go.Proofs.Ytamaaiabbganjaa
