/-
  Slices of bytes as data.
  Conditions: none.
-/
import Derived.Test.YtddahocmlbnlfaaBase
open Go Go.AM Go.Proofs
namespace Go.Proofs.Ytddahocmlbnlfaa
open Go.ChangeShapes Go.WideShapes Go.ChangeAt Go.RowKit
set_option linter.unusedVariables false
set_option linter.unusedSimpArgs false
set_option maxRecDepth 100000
theorem bytesRows_len {s : List UInt8} : (bytesRows s).length = s.length := by simp [bytesRows]
theorem bytesRows_nil {s : List UInt8} : bytesRows s = [] ↔ s = [] := by simp [bytesRows]
theorem bytesRows_get {s : List UInt8} {i : Nat} (h : i < s.length) : (bytesRows s)[i]? = some [.int .u8 s[i].toNat] := by simp [bytesRows, h]
theorem allLen_bytes {s : List UInt8} : allLen 1 (bytesRows s) ↔ True := iff_true_intro fun r hr => by
  simp only [bytesRows, List.mem_map] at hr
  obtain ⟨b, _, rfl⟩ := hr
  rfl
theorem take_bytes {s : List UInt8} {n : Nat} : (bytesRows s).take n = bytesRows (s.take n) := by simp [bytesRows]
theorem drop_bytes {s : List UInt8} {n : Nat} : (bytesRows s).drop n = bytesRows (s.drop n) := by simp [bytesRows]
theorem append_bytes {s t : List UInt8} : bytesRows s ++ bytesRows t = bytesRows (s ++ t) := by simp [bytesRows]
theorem bytes_ty {row : List D} (h : HasTy Try.prog 22 row) : ∃ s : List UInt8, row = [.sl (bytesRows s)] ∧ s.length ≤ reachBytes := by
  obtain ⟨rows, rfl, hb, hc, ht⟩ := h.sl_inv Try.underlying22
  rw [show Try.prog.bytesOf 5 = 1 from by kernel_rfl] at hb
  obtain ⟨l, rfl, hl⟩ := list_of_ty (f := fun b : UInt8 => [.int .u8 b.toNat]) (p := fun _ => True) (rows := rows) (fun r hr => by
    obtain ⟨n, e, hn⟩ := (ht r hr).int_inv Try.underlying5
    refine ⟨UInt8.ofNat n.toNat, ?_, trivial⟩
    rw [e]
    have h1 : 0 ≤ n ∧ n ≤ 255 := by simpa [inR, IntKind.min, IntKind.max, IntKind.signed, IntKind.bits] using hn
    have : ((UInt8.ofNat n.toNat).toNat : Int) = n := by
      rw [UInt8.toNat_ofNat']
      omega
    rw [this])
  exact ⟨l, rfl, by simpa using hb⟩
theorem byteRow {s : List UInt8} {i : Int} {K : A → St → Prop} {st : St} (h0 : 0 ≤ i) (h : i < s.length) (hk : K (.c (.el [.int .u8 (s[i.toNat]'(by omega)).toNat] 0)) st) : RowK true (bytesRows s) i 1 K st :=
  row_int _ h0 (bytesRows_get (by omega)) rfl hk
theorem u8_i64 (b : UInt8) : IntKind.wrap .i64 (b.toNat : Int) = b.toNat := by
  rw [IntKind.wrap_i64]
  have := b.toNat_lt
  omega
end Go.Proofs.Ytddahocmlbnlfaa
