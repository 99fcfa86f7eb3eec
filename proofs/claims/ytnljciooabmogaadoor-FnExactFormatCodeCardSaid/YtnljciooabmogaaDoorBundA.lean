/-
  Contracts of functions that the law reaches, and plain lemmas: several texts in one.
  Conditions: none.
-/
import Derived.Test.YtnljciooabmogaaDoorRows
import Derived.KernelRfl
import Derived.Test.YtnljciooabmogaaDoorAbsN
import Derived.Lib.ItoaNum
import Derived.Shelf.Strconv.Itoa3
import Derived.MakeChecks
import Derived.LaidMore
import Derived.Shelf.LaysM
import Derived.Lib.ItoaMem
import Derived.Shelf.Strings.OnBuilder
import Derived.WalkKit
open Go Go.AM Go.Proofs
attribute [local go_sem] kw ew sw tw a_ b_ c_ A.ok A.val d_ e_ f_ g_ h_ i_ j_ k_ l_ m_ unA unD n_ AOp.total o_ p_ q_ r_ s_ t_ u_ v_ A.thaw C.thaw A.fits As.fits C.fits evs oks w_ A.pure C.pure A.re C.re x_ y_ cut A.cells C.rows? z_ A_ B_ C_ a0_ b0_ D_ Ob.re Cs.fits E_ F_ G_ H_ I_ J_ K_ L_ M_ N_ O_ C.toD P_ Q_ R_ S_ T_ Obs.fits U_ eqD V_ W_ X_ Y_ Z_
/-
  Small facts that the proofs of this seat share.
  Conditions: none.
-/
open Go Go.AM Go.Proofs
namespace Go.Proofs.YtnljciooabmogaaDoor
set_option linter.unusedVariables false
set_option linter.unusedSimpArgs false
theorem small_i64 {n : Int} (h : -1000000000000000 ≤ n) (h' : n ≤ 1000000000000000) : inR .i64 n := by
  unfold inR
  simp [IntKind.min, IntKind.max, IntKind.signed, IntKind.bits]
  omega
theorem reach_i64 {n : Nat} (h : n ≤ reachBytes) : inR .i64 (n : Int) := by simp only [inR, IntKind.min, IntKind.max, IntKind.signed, IntKind.bits, reachBytes] at *; omega
theorem reach_small {n : Nat} (h : n ≤ reachBytes) : (n : Int) ≤ 140737488355328 := by simp only [reachBytes] at *; omega
theorem i64_def {n : Int} : inR .i64 n ↔ -9223372036854775808 ≤ n ∧ n ≤ 9223372036854775807 := by
  unfold inR
  simp [IntKind.min, IntKind.max, IntKind.signed, IntKind.bits]
/-- the result of a call of a size: how much is left; where something is left, P holds -/
def Left (m : Int) (P : Prop) (r : A) : Prop := ∃ n : Int, r = .c (.d (.int .i64 n)) ∧ -1 ≤ n ∧ n ≤ m ∧ (0 ≤ n → P)
theorem Left.re {m : Int} {P : Prop} {r : A} {n : Nat} (h : Left m P r) : A.re n r = r := by
  obtain ⟨k, rfl, _⟩ := h
  rfl
/-- rows that are laid one by one -/
def fill {α : Type} (f : α → List D) (z : List D) (l : List α) (i : Nat) : List (List D) := (l.take i).map f ++ List.replicate (l.length - i) z
theorem fill_zero {α : Type} (f : α → List D) (z : List D) (l : List α) : fill f z l 0 = List.replicate l.length z := by simp [fill]
theorem fill_all {α : Type} (f : α → List D) (z : List D) (l : List α) : fill f z l l.length = l.map f := by simp [fill]
theorem fill_get {α : Type} (f : α → List D) (z : List D) (l : List α) {i : Nat} (h : i < l.length) : (fill f z l i)[i]? = some z := by
  unfold fill
  rw [List.getElem?_append_right (by simp; omega), List.getElem?_replicate, if_pos (by simp; omega)]
theorem fill_set {α : Type} (f : α → List D) (z : List D) (l : List α) {i : Nat} (h : i < l.length) : (fill f z l i).set i (f l[i]) = fill f z l (i + 1) := by
  unfold fill
  obtain ⟨k, hk⟩ : ∃ k, l.length - i = k + 1 := ⟨l.length - i - 1, by omega⟩
  rw [List.set_append_right _ _ (by simp; omega), hk, List.replicate_succ, List.take_succ_eq_append_getElem h]
  simp only [List.length_map, List.length_take, Nat.min_eq_left (Nat.le_of_lt h), Nat.sub_self, List.set_cons_zero, List.map_append, List.map_cons, List.map_nil, List.append_assoc, List.cons_append, List.nil_append]
  rw [show l.length - (i + 1) = k by omega]
theorem list_of_ty {α : Type} {f : α → List D} {p : α → Prop} : ∀ {rows : List (List D)}, (∀ r ∈ rows, ∃ x : α, r = f x ∧ p x) → ∃ l : List α, rows = l.map f ∧ ∀ x ∈ l, p x
  | [], _ => ⟨[], rfl, fun x h => by cases h⟩
  | r :: rs, h => by
    obtain ⟨x, rfl, hx⟩ := h r (by simp)
    obtain ⟨l, rfl, hl⟩ := list_of_ty (rows := rs) (f := f) (p := p) (fun r hr => h r (by simp [hr]))
    refine ⟨x :: l, rfl, fun y hy => ?_⟩
    rcases List.mem_cons.1 hy with rfl | hy
    · exact hx
    · exact hl y hy
end Go.Proofs.YtnljciooabmogaaDoor

/-
  How long a numeral is.
  Conditions: none.
-/
open Go Go.AM Go.Proofs
namespace Go.Proofs.YtnljciooabmogaaDoor
set_option linter.unusedVariables false
set_option linter.unusedSimpArgs false
set_option maxRecDepth 100000
theorem itoa_len (n : Int) (h0 : -9223372036854775808 ≤ n) (h1 : n ≤ 9223372036854775807) : (Lib.itoa n).length ≤ 1000000 := by
  have key : ∀ k u : Nat, u < 10 ^ k → 0 < k → (Lib.decDigits u).length ≤ k := by
    intro k
    induction k with
    | zero => omega
    | succ k ih =>
      intro u hu _
      rw [Lib.decDigits]
      split
      · simp
      · rename_i hge
        have hk : 0 < k := by
          rcases Nat.eq_zero_or_pos k with e | e
          · subst e; simp at hu; omega
          · exact e
        have := ih (u / 10) (by rw [Nat.pow_succ] at hu; omega) hk
        simp
        omega
  unfold Lib.itoa
  split
  · have := key 30 n.natAbs (by omega) (by omega)
    simp
    omega
  · have := key 30 n.toNat (by omega) (by omega)
    omega
end Go.Proofs.YtnljciooabmogaaDoor

/-
  Numerals of the reference.
  Conditions: none.
-/
open Go Go.AM Go.Proofs
namespace Go.Proofs.YtnljciooabmogaaDoor
open Go.ChangeShapes Go.WideShapes Go.ChangeAt Go.RowKit
set_option linter.unusedVariables false
set_option linter.unusedSimpArgs false
set_option maxRecDepth 100000
-- 75 loop.example/prologserver/spec.l18Dec params 1 ntmps 31
-- loop head live: [0,3]
def ac75 : Cd := .seq (.region [⟨(some 2),.mv (.k (.c (.d (.str [])))),none⟩] [2])
 (.seq (.seq (.region [⟨(some 4),.mv (.t 0),none⟩,
 ⟨(some 5),.bin .lss (.t 4) (.k (.c (.d (.int .i64 (-9223372036854775807))))),none⟩] [4])
 (.cond (.t 5)
 (.seq (.region [⟨(some 2),.mv (.k (.c (.d (.str [45,57,50,50,51,51,55,50,48,51,54,56,53,52,55,55,53,56,48,56])))),none⟩] [0,5])
 (.ret))
 (.skip)))
 (.seq (.seq (.region [⟨(some 6),.mv (.t 0),none⟩,
 ⟨(some 7),.bin .lss (.t 6) (.k (.c (.d (.int .i64 0)))),none⟩] [2,5,6])
 (.cond (.t 7)
 (.seq (.region [⟨(some 8),.mv (.t 0),none⟩,
 ⟨(some 9),.un .neg (.t 8),none⟩,
 ⟨(some 10),.qcall 75 [(.t 9)],none⟩,
 ⟨(some 11),.bin .add (.k (.c (.d (.str [45])))) (.t 10),none⟩,
 ⟨(some 2),.mv (.t 11),none⟩] [0,7,8,9,10,11])
 (.ret))
 (.skip)))
 (.seq (.region [⟨(some 3),.mv (.k (.c (.d (.str [])))),none⟩] [2,7])
 (.seq (.block 0 (.loop (.seq (.seq (.region [⟨(some 12),.mv (.t 0),none⟩,
 ⟨(some 13),.bin .gtr (.t 12) (.k (.c (.d (.int .i64 9)))),none⟩] [12])
 (.cond (.t 13)
 (.skip)
 (.exit 0)))
 (.block 1 (.seq (.region [⟨(some 14),.mv (.t 0),none⟩,
 ⟨(some 15),.bin .rem (.t 14) (.k (.c (.d (.int .i64 10)))),none⟩,
 ⟨(some 16),.bin .add (.k (.c (.d (.int .i64 48)))) (.t 15),none⟩,
 ⟨(some 17),.cvInt .u8 (.t 16),none⟩,
 ⟨(some 18),.buildSlice 1 1 [(.int .u8 0)] [(0,(.t 17))],none⟩,
 ⟨(some 19),.cvB2S (.t 18),none⟩,
 ⟨(some 20),.mv (.t 3),none⟩,
 ⟨(some 21),.bin .add (.t 19) (.t 20),none⟩,
 ⟨(some 3),.mv (.t 21),none⟩] [13,14,15,16,17,18,19,20,21])
 (.region [⟨(some 22),.mv (.t 0),none⟩,
 ⟨(some 23),.bin .quo (.t 22) (.k (.c (.d (.int .i64 10)))),none⟩,
 ⟨(some 0),.mv (.t 23),none⟩] [22,23]))))))
 (.seq (.region [⟨(some 24),.mv (.t 0),none⟩,
 ⟨(some 25),.bin .add (.k (.c (.d (.int .i64 48)))) (.t 24),none⟩,
 ⟨(some 26),.cvInt .u8 (.t 25),none⟩,
 ⟨(some 27),.buildSlice 1 1 [(.int .u8 0)] [(0,(.t 26))],none⟩,
 ⟨(some 28),.cvB2S (.t 27),none⟩,
 ⟨(some 29),.mv (.t 3),none⟩,
 ⟨(some 30),.bin .add (.t 28) (.t 29),none⟩,
 ⟨(some 2),.mv (.t 30),none⟩] [0,3,24,25,26,27,28,29,30])
 (.ret))))))
theorem ac75_ok : cFunc Tryd.prog [1000075] [(0,[2],[]),(1,[4],[]),(2,[0,5],[]),(3,[2,5,6],[]),(4,[0,7,8,9,10,11],[]),(5,[2,7],[]),(6,[12],[]),(7,[13,14,15,16,17,18,19,20,21],[]),(8,[22,23],[]),(9,[0,3,24,25,26,27,28,29,30],[])] Tryd.f75 = some (ac75,[.tmp 2],31) := by kernel_rfl
-- 67 loop.example/prologserver/spec.l1Dec params 1 ntmps 11
def ac67 : Cd := .seq (.region [⟨(some 2),.mv (.k (.c (.d (.str [])))),none⟩] [2])
 (.seq (.seq (.region [⟨(some 3),.mv (.t 0),none⟩,
 ⟨(some 4),.bin .lss (.t 3) (.k (.c (.d (.int .i64 0)))),none⟩] [3])
 (.cond (.t 4)
 (.seq (.region [⟨(some 5),.mv (.t 0),none⟩,
 ⟨(some 6),.un .neg (.t 5),none⟩,
 ⟨(some 7),.qcall 75 [(.t 6)],none⟩,
 ⟨(some 8),.bin .add (.k (.c (.d (.str [45])))) (.t 7),none⟩,
 ⟨(some 2),.mv (.t 8),none⟩] [0,4,5,6,7,8])
 (.ret))
 (.skip)))
 (.seq (.region [⟨(some 9),.mv (.t 0),none⟩,
 ⟨(some 10),.qcall 75 [(.t 9)],none⟩,
 ⟨(some 2),.mv (.t 10),none⟩] [0,4,9,10])
 (.ret)))
theorem ac67_ok : cFunc Tryd.prog [1000075] [(0,[2],[]),(1,[3],[]),(2,[0,4,5,6,7,8],[]),(3,[0,4,9,10],[])] Tryd.f67 = some (ac67,[.tmp 2],11) := by kernel_rfl
theorem dd_small {n : Nat} (h : n < 10) : Lib.decDigits n = [UInt8.ofNat (48 + n)] := by rw [Lib.decDigits, dif_pos h]
theorem dd_big {n : Nat} (h : 10 ≤ n) : Lib.decDigits n = Lib.decDigits (n / 10) ++ [UInt8.ofNat (48 + n % 10)] := by rw [Lib.decDigits, dif_neg (by omega)]
theorem b2s_one {m : Nat} {K : A → St → Prop} {st : St} (h : m < 10) (hk : K (.c (.d (.str [UInt8.ofNat (48 + m)]))) st) : B2SK true [[.int .u8 (IntKind.wrap .u8 (48 + (m : Int)))]] K st := by
  refine ⟨[UInt8.ofNat (48 + m)], fun _ => ?_, hk⟩
  have : m = 0 ∨ m = 1 ∨ m = 2 ∨ m = 3 ∨ m = 4 ∨ m = 5 ∨ m = 6 ∨ m = 7 ∨ m = 8 ∨ m = 9 := by omega
  rcases this with rfl | rfl | rfl | rfl | rfl | rfl | rfl | rfl | rfl | rfl <;> rfl
theorem dec_pos (n : Nat) (hn : (n : Int) ≤ 9223372036854775807) (H : Heap) : ACalls Tryd.prog 75 [.c (.d (.int .i64 n))] H (fun r H' => H' = H ∧ r = .c (.d (.str (Lib.itoa n)))) := by
  refine acalls Tryd.func75 (by kernel_rfl) ac75_ok fun hf => ?_
  have h0 : ¬ ((n : Int) < -9223372036854775807) := by omega
  have h1 : ¬ ((n : Int) < 0) := by omega
  simp -implicitDefEqProofs [ac75, h0, h1, go_sem, -List.set_cons_succ, -List.set_cons_zero]
  have hlen : (Lib.decDigits n).length ≤ 1000000 := by
    have := itoa_len n (by omega) (by omega)
    rwa [Lib.itoa_nonneg] at this
  rw [Lib.itoa_nonneg]
  refine loop_set (σ := Nat × List UInt8) (fun x => [(0, .c (.d (.int .i64 x.1))), (3, .c (.d (.str x.2)))]) (fun _ => H) (fun _ => []) (fun x => x.1 ≤ n ∧ Lib.decDigits n = Lib.decDigits x.1 ++ x.2) (fun x => x.1) (n, []) rfl ⟨Nat.le_refl _, by simp⟩ ?_
  rintro ⟨m, out⟩ ⟨hm, hd⟩
  have hm1 : inR .i64 ((m : Int)) := i64_def.2 (by simp at hm; omega)
  have hol : out.length ≤ 1000000 := by rw [hd] at hlen; simp at hlen; omega
  simp only at hm hd
  simp -implicitDefEqProofs [setAll, go_sem, -List.set_cons_succ, -List.set_cons_zero]
  have hmod : (m : Int).tmod 10 = ((m % 10 : Nat) : Int) := by rw [Int.tmod_eq_emod_of_nonneg (by omega)]; omega
  have hquo : (m : Int).tdiv 10 = ((m / 10 : Nat) : Int) := by rw [Int.tdiv_eq_ediv_of_nonneg (by omega)]; omega
  have hq : inR .i64 ((m / 10 : Nat) : Int) := i64_def.2 (by omega)
  refine ⟨fun hgt => ?_, fun hle => ?_⟩
  · rw [hmod]
    refine ⟨small_i64 (by omega) (by omega), b2s_one (by omega) ?_⟩
    simp -implicitDefEqProofs [setAll, hquo, hq, maxStr, go_sem, -List.set_cons_succ, -List.set_cons_zero]
    refine ⟨by omega, ?_⟩
    refine ⟨by simpa using hq, ?_⟩
    refine loop_back (m / 10, UInt8.ofNat (48 + m % 10) :: out) (by simp [setAll]) ⟨by simp only; omega, ?_⟩ (by show m / 10 < m; omega)
    rw [hd, dd_big (n := m) (by omega)]
    simp
  · refine ⟨small_i64 (by omega) (by omega), b2s_one (by omega) ?_⟩
    simp -implicitDefEqProofs [setAll, maxStr, go_sem, -List.set_cons_succ, -List.set_cons_zero]
    rw [hd, dd_small (n := m) (by omega)]
    simp
    omega
theorem dec_calls (n : Int) (hn : inR .i64 n) (H : Heap) : ACalls Tryd.prog 75 [.c (.d (.int .i64 n))] H (fun r H' => H' = H ∧ r = .c (.d (.str (Lib.itoa n)))) := by
  obtain ⟨hn1, hn2⟩ := i64_def.1 hn
  rcases Int.lt_or_le n 0 with hneg | hpos
  · refine acalls Tryd.func75 (by kernel_rfl) ac75_ok fun hf => ?_
    simp -implicitDefEqProofs [ac75, go_sem, -List.set_cons_succ, -List.set_cons_zero]
    refine ⟨fun h => ?_, fun h => ?_⟩
    · have : n = -9223372036854775808 := by omega
      subst this
      decide +kernel
    · refine ⟨fun _ => ?_, fun h => by omega⟩
      have hi : inR .i64 (-n) := i64_def.2 (by omega)
      have h2 := dec_pos n.natAbs (by omega)
      have e : ((n.natAbs : Nat) : Int) = -n := by omega
      have e2 : Lib.itoa n = 45 :: Lib.itoa (-n) := by
        rw [← e, Lib.itoa_nonneg]
        unfold Lib.itoa
        rw [if_pos hneg]
      rw [e] at h2
      have h3 := itoa_len (-n) (by omega) (by omega)
      refine ⟨hi, qcall_pure h2 hf rfl ?_⟩
      simp -implicitDefEqProofs [e2, maxStr, go_sem, -List.set_cons_succ, -List.set_cons_zero]
      omega
  · have := dec_pos n.toNat (by omega) H
    rwa [Int.toNat_of_nonneg hpos] at this
theorem dec1_calls (n : Int) (hn1 : -9223372036854775807 ≤ n) (hn2 : n ≤ 9223372036854775807) (H : Heap) : ACalls Tryd.prog 67 [.c (.d (.int .i64 n))] H (fun r H' => H' = H ∧ r = .c (.d (.str (Lib.itoa n)))) := by
  refine acalls Tryd.func67 (by kernel_rfl) ac67_ok fun hf => ?_
  simp -implicitDefEqProofs [ac67, go_sem, -List.set_cons_succ, -List.set_cons_zero]
  refine ⟨fun hneg => ?_, fun hpos => ?_⟩
  · have e2 : Lib.itoa n = 45 :: Lib.itoa (-n) := by
      have e : ((n.natAbs : Nat) : Int) = -n := by omega
      rw [← e, Lib.itoa_nonneg]
      unfold Lib.itoa
      rw [if_pos hneg]
    have h3 := itoa_len (-n) (by omega) (by omega)
    refine ⟨i64_def.2 (by omega), qcall_pure (dec_calls (-n) (i64_def.2 (by omega))) hf rfl ?_⟩
    simp -implicitDefEqProofs [e2, maxStr, go_sem, -List.set_cons_succ, -List.set_cons_zero]
    omega
  · refine qcall_pure (dec_calls n (i64_def.2 (by omega))) hf rfl ?_
    simp -implicitDefEqProofs [go_sem, -List.set_cons_succ, -List.set_cons_zero]
end Go.Proofs.YtnljciooabmogaaDoor

/-
  strconv.Itoa as a call of the abstract machine, where the table that it reads is told.
  Conditions: none.
-/
open Go Go.AM Go.Proofs
namespace Go.Proofs
open Go.Shelf
def Tryd.laysM171_ren : Go.Shelf.Ren := ⟨fun | 171 => 71 | 243 => 88 | 246 => 98 | 283 => 103 | 284 => 104 | 285 => 105 | 286 => 106 | 129 => 109 | 317 => 108 | 318 => 110 | 319 => 111 | 320 => 112 | 337 => 114 | 338 => 115 | n => n, fun | 3 => 3 | 9 => 9 | 2 => 2 | 4 => 4 | 171 => 119 | 0 => 0 | 53 => 120 | 37 => 73 | 5 => 5 | 173 => 123 | 212 => 127 | 51 => 128 | 20 => 20 | 213 => 129 | 46 => 130 | 232 => 133 | 233 => 134 | n => n, fun | 17 => 0 | 18 => 1 | 19 => 2 | n => n⟩
theorem Tryd.laysM171 : Go.Proofs.LaysM.n171 Tryd.prog Tryd.laysM171_ren := {
  mixed := by kernel_rfl
  f129 := Tryd.func109.trans (congrArg some (by kernel_rfl))
  f171 := Tryd.func71.trans (congrArg some (by kernel_rfl))
  f243 := Tryd.func88.trans (congrArg some (by kernel_rfl))
  f246 := Tryd.func98.trans (congrArg some (by kernel_rfl))
  f283 := Tryd.func103.trans (congrArg some (by kernel_rfl))
  f284 := Tryd.func104.trans (congrArg some (by kernel_rfl))
  f285 := Tryd.func105.trans (congrArg some (by kernel_rfl))
  f286 := Tryd.func106.trans (congrArg some (by kernel_rfl))
  f317 := Tryd.func108.trans (congrArg some (by kernel_rfl))
  f318 := Tryd.func110.trans (congrArg some (by kernel_rfl))
  f319 := Tryd.func111.trans (congrArg some (by kernel_rfl))
  f320 := Tryd.func112.trans (congrArg some (by kernel_rfl))
  f337 := Tryd.func114.trans (congrArg some (by kernel_rfl))
  f338 := Tryd.func115.trans (congrArg some (by kernel_rfl))
  t0 := Tryd.underlying0
  a0 := Tryd.isAgg0
  z0 := Tryd.sizeOf0
  v0 := Tryd.zeroValue0
  t2 := Tryd.underlying2
  a2 := Tryd.isAgg2
  z2 := Tryd.sizeOf2
  v2 := Tryd.zeroValue2
  t3 := Tryd.underlying3
  a3 := Tryd.isAgg3
  z3 := Tryd.sizeOf3
  v3 := Tryd.zeroValue3
  t4 := Tryd.underlying4
  a4 := Tryd.isAgg4
  z4 := Tryd.sizeOf4
  v4 := Tryd.zeroValue4
  t5 := Tryd.underlying5
  a5 := Tryd.isAgg5
  z5 := Tryd.sizeOf5
  v5 := Tryd.zeroValue5
  t9 := Tryd.underlying9
  a9 := Tryd.isAgg9
  z9 := Tryd.sizeOf9
  v9 := Tryd.zeroValue9
  t20 := Tryd.underlying20
  a20 := Tryd.isAgg20
  z20 := Tryd.sizeOf20
  v20 := Tryd.zeroValue20
  t37 := Tryd.underlying73
  a37 := Tryd.isAgg73
  z37 := Tryd.sizeOf73
  v37 := Tryd.zeroValue73
  t46 := Tryd.underlying130
  a46 := Tryd.isAgg130
  z46 := Tryd.sizeOf130
  v46 := Tryd.zeroValue130
  t51 := Tryd.underlying128
  a51 := Tryd.isAgg128
  z51 := Tryd.sizeOf128
  v51 := Tryd.zeroValue128
  t53 := Tryd.underlying120
  a53 := Tryd.isAgg120
  z53 := Tryd.sizeOf120
  v53 := Tryd.zeroValue120
  t171 := Tryd.underlying119
  a171 := Tryd.isAgg119
  z171 := Tryd.sizeOf119
  v171 := Tryd.zeroValue119
  t173 := Tryd.underlying123
  a173 := Tryd.isAgg123
  z173 := Tryd.sizeOf123
  v173 := Tryd.zeroValue123
  t212 := Tryd.underlying127
  a212 := Tryd.isAgg127
  z212 := Tryd.sizeOf127
  v212 := Tryd.zeroValue127
  t213 := Tryd.underlying129
  a213 := Tryd.isAgg129
  z213 := Tryd.sizeOf129
  t232 := Tryd.underlying133
  a232 := Tryd.isAgg133
  z232 := Tryd.sizeOf133
  v232 := Tryd.zeroValue133
  t233 := Tryd.underlying134
  a233 := Tryd.isAgg134
  z233 := Tryd.sizeOf134
  v233 := Tryd.zeroValue134
  g17 := by kernel_rfl
  g18 := by kernel_rfl
  g19 := by kernel_rfl
  i0 := by kernel_rfl
  i2 := by kernel_rfl
  i3 := by kernel_rfl
  i4 := by kernel_rfl
  i5 := by kernel_rfl
  i9 := by kernel_rfl
  i20 := by kernel_rfl
  i37 := by kernel_rfl
  i46 := by kernel_rfl
  i51 := by kernel_rfl
  i53 := by kernel_rfl
  i171 := by kernel_rfl
  i173 := by kernel_rfl
  i212 := by kernel_rfl
  i232 := by kernel_rfl
  i233 := by kernel_rfl
  m17 := by kernel_rfl
  m18 := by kernel_rfl
  m19 := by kernel_rfl }
end Go.Proofs
namespace Go.Proofs.YtnljciooabmogaaDoor
open Go.Lib
set_option linter.unusedVariables false
set_option linter.unusedSimpArgs false
set_option maxRecDepth 100000
/-- block g holds the table -/
def Tab (g : Nat) (o : Obj) : Prop := ∀ (w : World), w.heap[g]? = some o → ∀ n : Int, -9223372036854775808 ≤ n → n ≤ 9223372036854775807 →
  Calls Tryd.prog 71 #[.int .i64 n] w fun e w' => e = .returned (.string ⟨(Lib.itoa n).toArray⟩) ∧ ∃ k os, w' = Sort.grow (w.drewN k) os
theorem tab_mk {W : World} {name : String} (h : Lib.TabIs Tryd.prog W name .u64 Lib.pow10Tab) (hc : ∀ n : Int, -9223372036854775808 ≤ n → n ≤ 9223372036854775807 → ∀ w, Lib.TabIs Tryd.prog w name .u64 Lib.pow10Tab →
    Calls Tryd.prog 71 #[.int .i64 n] w fun e w' => e = .returned (.string ⟨(Lib.itoa n).toArray⟩) ∧ ∃ k os, w' = Sort.grow (w.drewN k) os) : ∃ (g : Nat) (o : Obj), W.heap[g]? = some o ∧ Tab g o := by
  obtain ⟨g, o, h1, h2⟩ := tab_of h
  exact ⟨g, o, h1, fun w hw n h3 h4 => hc n h3 h4 w (h2 w hw)⟩
/-- what the law's rows list -/
def laid : List (String × DataW Unit) := Rows.fnExactCandidatesRow.laid
theorem tab_laid {W : World} (h : laidMetH Tryd.prog laid W) : ∃ (g : Nat) (o : Obj), W.heap[g]? = some o ∧ Tab g o := by
  rw [MakeChecks.laidMetH_plain _ _ _ (by kernel_rfl)] at h
  obtain ⟨ps, ⟨_, _, _, _, _, _, _, _, _, _, ⟨_, _, _, _, _, _, _, _, _, _, ⟨g2, t2, cs2, f2, p2, q2, hg2, ht2, hv2, hd2, _, _⟩, _⟩, _⟩, _, _⟩ := h
  have e1 : g2 = 0 := by
    have hg : Tryd.prog.globalNamed (laid[2]).1 = some 0 := by kernel_rfl
    exact (Option.some.inj (hg.symm.trans hg2)).symm
  subst e1
  have e2 : t2 = 127 := by
    have ht : (Tryd.prog.globals[0]?).map (·.type) = some 127 := by kernel_rfl
    exact (Option.some.inj (ht.symm.trans ht2)).symm
  subst e2
  have e3 := cells_of_tab (k := .u64) (zs := Lib.pow10Tab) Tryd.underlying127 Tryd.underlying120 (by kernel_rfl) (by kernel_rfl) hd2
  have e4 : cs2 = (Lib.pow10Tab.map fun z => Value.int .u64 z).toArray := by
    rw [← e3]
  exact tab_mk (hv2.trans (congrArg some e4)) fun n h0 h1 w hw => Any.strconv_Itoa Tryd.laysM171 n h0 h1 w hw
theorem itoa_call {g : Nat} {o : Obj} (hT : Tab g o) (n : Int) (hn : inR .i64 n) (H : Heap) (hH : H[0]? = some (.tab g o)) : ACalls Tryd.prog 71 [.c (.d (.int .i64 n))] H (fun r H' => H' = H ∧ r = .c (.d (.str (Lib.itoa n)))) := by
  have hb := i64_def.1 hn
  refine acalls_tab_str hH ⟨_, Tryd.func71, by kernel_rfl, by decide⟩ (by have := itoa_len n hb.1 hb.2; unfold maxStr; omega) ?_
  intro w ι k cargs hw hl ha
  obtain ⟨v, rfl⟩ : ∃ v, cargs = [v] := by
    match cargs, hl with
    | [v], _ => exact ⟨v, rfl⟩
  have h1 := ha 0 _ _ rfl rfl
  cases h1 with
  | c h => cases h with
    | d h => cases h with
      | int => exact hT w hw n hb.1 hb.2
end Go.Proofs.YtnljciooabmogaaDoor

/-
  Terms as data: what the laws' sizes, copies and comparisons of terms answer, and TermSame.
  Conditions: none.
-/
open Go Go.AM Go.Proofs
namespace Go.Proofs.YtnljciooabmogaaDoor
open Go.ChangeShapes Go.WideShapes Go.ChangeAt Go.RowKit
set_option linter.unusedVariables false
set_option linter.unusedSimpArgs false
set_option maxRecDepth 100000
/-- a term -/
inductive Tm where
  | mk (k n : Int) (s : List UInt8) (kids : List Tm)
  deriving Inhabited
def Tm.k : Tm → Int | .mk k _ _ _ => k
def Tm.n : Tm → Int | .mk _ n _ _ => n
def Tm.s : Tm → List UInt8 | .mk _ _ s _ => s
def Tm.kids : Tm → List Tm | .mk _ _ _ l => l
noncomputable instance : DecidableEq Tm := fun a b => Classical.propDecidable (a = b)
mutual
def Tm.row : Tm → List D
  | .mk k n s l => [.int .i64 k, .int .i64 n, .str s, .sl (Tm.rows l)]
def Tm.rows : List Tm → List (List D)
  | [] => []
  | t :: l => t.row :: Tm.rows l
end
theorem Tm.ind {p : Tm → Prop} (h : ∀ k n s l, (∀ t ∈ l, p t) → p (.mk k n s l)) : ∀ t, p t := by
  intro t
  induction hs : SizeOf.sizeOf t using Nat.strongRecOn generalizing t with
  | ind m ih =>
    obtain ⟨k, n, s, l⟩ := t
    refine h k n s l fun t ht => ih (SizeOf.sizeOf t) ?_ t rfl
    have := List.sizeOf_lt_of_mem ht
    simp at hs
    omega
/-- a term that a law looks at -/
inductive Tm.fits : Tm → Prop
  | mk {k n : Int} {s : List UInt8} {l : List Tm} : inR .i64 k → inR .i64 n → s.length ≤ 1048576 → l.length ≤ 1048576 → (∀ t ∈ l, t.fits) → (Tm.mk k n s l).fits
end Go.Proofs.YtnljciooabmogaaDoor

/-
  A number in a range.
  Conditions: none.
-/
open Go Go.AM Go.Proofs
namespace Go.Proofs.YtnljciooabmogaaDoor
open Go.ChangeShapes Go.WideShapes Go.ChangeAt Go.RowKit
set_option linter.unusedVariables false
set_option linter.unusedSimpArgs false
set_option maxRecDepth 100000
-- 69 loop.example/prologserver/impl.within params 3 ntmps 15
def ac69 : Cd := .seq (.region [⟨(some 6),.mv (.k (.c (.d (.bool false)))),none⟩] [6])
 (.seq (.region [⟨(some 7),.mv (.t 1),none⟩,
 ⟨(some 8),.mv (.t 0),none⟩,
 ⟨(some 9),.bin .leq (.t 7) (.t 8),none⟩,
 ⟨(some 10),.mv (.t 9),none⟩,
 ⟨(some 11),.mv (.t 0),some (10,true)⟩,
 ⟨(some 12),.mv (.t 2),some (10,true)⟩,
 ⟨(some 13),.bin .leq (.t 11) (.t 12),some (10,true)⟩,
 ⟨(some 14),.pick (.t 10) (.t 13) (.k (.c (.d (.bool false)))),none⟩,
 ⟨(some 6),.mv (.t 14),none⟩] [0,1,2,7,8,9,10,11,12,13,14])
 (.ret))
theorem ac69_ok : cFunc Tryd.prog [] [(0,[6],[]),(1,[0,1,2,7,8,9,10,11,12,13,14],[])] Tryd.f69 = some (ac69,[.tmp 6],15) := by kernel_rfl
theorem within_calls (x lo hi : Int) (H : Heap) : ACalls Tryd.prog 69 [.c (.d (.int .i64 x)), .c (.d (.int .i64 lo)), .c (.d (.int .i64 hi))] H (fun r H' => H' = H ∧ r = .c (.d (.bool (decide (lo ≤ x) && decide (x ≤ hi))))) := by
  refine acalls Tryd.func69 (by kernel_rfl) ac69_ok fun hf => ?_
  simp -implicitDefEqProofs [ac69, go_sem, -List.set_cons_succ, -List.set_cons_zero]
end Go.Proofs.YtnljciooabmogaaDoor

/-
  Names: letters and signs.
  Conditions: none.
-/
open Go Go.AM Go.Proofs
namespace Go.Proofs.YtnljciooabmogaaDoor
open Go.ChangeShapes Go.WideShapes Go.ChangeAt Go.RowKit
set_option linter.unusedVariables false
set_option linter.unusedSimpArgs false
set_option maxRecDepth 100000
-- 81 loop.example/prologserver/impl.isLetters params 1 ntmps 23
-- loop head live: [0,5,6]
def ac81 : Cd := .seq (.region [⟨(some 2),.mv (.k (.c (.d (.bool false)))),none⟩] [2])
 (.seq (.seq (.region [⟨(some 4),.mv (.t 0),none⟩,
 ⟨(some 5),.len 0 (.t 4),none⟩,
 ⟨(some 6),.mv (.k (.c (.d (.int .i64 0)))),none⟩] [4])
 (.block 0 (.loop (.seq (.region [⟨(some 7),.bin .lss (.t 6) (.t 5),none⟩] [])
 (.seq (.cond (.t 7)
 (.skip)
 (.exit 0))
 (.seq (.block 1 (.seq (.region [⟨(some 8),.mv (.t 6),none⟩,
 ⟨(some 3),.mv (.t 8),none⟩] [7,8])
 (.seq (.region [⟨(some 9),.mv (.t 0),none⟩,
 ⟨(some 10),.mv (.t 3),none⟩,
 ⟨(some 11),.index (.t 9) (.t 10),none⟩,
 ⟨(some 12),.bin .lss (.t 11) (.k (.c (.d (.int .u8 97)))),none⟩,
 ⟨(some 13),.mv (.t 12),none⟩,
 ⟨(some 14),.mv (.t 0),some (13,false)⟩,
 ⟨(some 15),.mv (.t 3),some (13,false)⟩,
 ⟨(some 16),.index (.t 14) (.t 15),some (13,false)⟩,
 ⟨(some 17),.bin .gtr (.t 16) (.k (.c (.d (.int .u8 122)))),some (13,false)⟩,
 ⟨(some 18),.pick (.t 13) (.k (.c (.d (.bool true)))) (.t 17),none⟩] [3,9,10,11,12,13,14,15,16,17])
 (.cond (.t 18)
 (.seq (.region [⟨(some 2),.mv (.k (.c (.d (.bool false)))),none⟩] [0,5,6,18])
 (.ret))
 (.skip)))))
 (.region [⟨(some 19),.bin .add (.t 6) (.k (.c (.d (.int .i64 1)))),none⟩,
 ⟨(some 6),.mv (.t 19),none⟩] [2,18,19])))))))
 (.seq (.region [⟨(some 20),.mv (.t 0),none⟩,
 ⟨(some 21),.len 0 (.t 20),none⟩,
 ⟨(some 22),.qcall 69 [(.t 21),(.k (.c (.d (.int .i64 1)))),(.k (.c (.d (.int .i64 6))))],none⟩,
 ⟨(some 2),.mv (.t 22),none⟩] [0,20,21,22])
 (.ret)))
theorem ac81_ok : cFunc Tryd.prog [1000069] [(0,[2],[]),(1,[4],[]),(2,[],[]),(3,[7,8],[]),(4,[3,9,10,11,12,13,14,15,16,17],[]),(5,[0,5,6,18],[]),(6,[2,18,19],[]),(7,[0,20,21,22],[])] Tryd.f81 = some (ac81,[.tmp 2],23) := by kernel_rfl
-- 48 loop.example/prologserver/spec.l1Word params 1 ntmps 28
-- loop head live: [0,3]
def ac48 : Cd := .seq (.region [⟨(some 2),.mv (.k (.c (.d (.bool false)))),none⟩] [2])
 (.seq (.seq (.region [⟨(some 3),.mv (.k (.c (.d (.int .i64 0)))),none⟩] [])
 (.block 0 (.loop (.seq (.seq (.region [⟨(some 4),.mv (.t 3),none⟩,
 ⟨(some 5),.mv (.t 0),none⟩,
 ⟨(some 6),.len 0 (.t 5),none⟩,
 ⟨(some 7),.bin .lss (.t 4) (.t 6),none⟩] [4,5,6])
 (.cond (.t 7)
 (.skip)
 (.exit 0)))
 (.seq (.block 1 (.seq (.region [⟨(some 10),.mv (.t 0),none⟩,
 ⟨(some 11),.mv (.t 3),none⟩,
 ⟨(some 12),.index (.t 10) (.t 11),none⟩,
 ⟨(some 13),.bin .lss (.t 12) (.k (.c (.d (.int .u8 97)))),none⟩,
 ⟨(some 14),.mv (.t 13),none⟩,
 ⟨(some 15),.mv (.t 0),some (14,false)⟩,
 ⟨(some 16),.mv (.t 3),some (14,false)⟩,
 ⟨(some 17),.index (.t 15) (.t 16),some (14,false)⟩,
 ⟨(some 18),.bin .gtr (.t 17) (.k (.c (.d (.int .u8 122)))),some (14,false)⟩,
 ⟨(some 19),.pick (.t 14) (.k (.c (.d (.bool true)))) (.t 18),none⟩] [7,10,11,12,13,14,15,16,17,18])
 (.cond (.t 19)
 (.seq (.region [⟨(some 2),.mv (.k (.c (.d (.bool false)))),none⟩] [0,3,19])
 (.ret))
 (.skip))))
 (.region [⟨(some 8),.mv (.t 3),none⟩,
 ⟨(some 9),.bin .add (.t 8) (.k (.c (.d (.int .i64 1)))),none⟩,
 ⟨(some 3),.mv (.t 9),none⟩] [2,8,9,19]))))))
 (.seq (.region [⟨(some 20),.mv (.t 0),none⟩,
 ⟨(some 21),.len 0 (.t 20),none⟩,
 ⟨(some 22),.bin .geq (.t 21) (.k (.c (.d (.int .i64 1)))),none⟩,
 ⟨(some 23),.mv (.t 22),none⟩,
 ⟨(some 24),.mv (.t 0),some (23,true)⟩,
 ⟨(some 25),.len 0 (.t 24),some (23,true)⟩,
 ⟨(some 26),.bin .leq (.t 25) (.k (.c (.d (.int .i64 6)))),some (23,true)⟩,
 ⟨(some 27),.pick (.t 23) (.t 26) (.k (.c (.d (.bool false)))),none⟩,
 ⟨(some 2),.mv (.t 27),none⟩] [0,20,21,22,23,24,25,26,27])
 (.ret)))
theorem ac48_ok : cFunc Tryd.prog [] [(0,[2],[]),(1,[],[]),(2,[4,5,6],[]),(4,[7,10,11,12,13,14,15,16,17,18],[]),(5,[0,3,19],[]),(3,[2,8,9,19],[]),(6,[0,20,21,22,23,24,25,26,27],[])] Tryd.f48 = some (ac48,[.tmp 2],28) := by kernel_rfl
-- 87 loop.example/prologserver/impl.symbols params 0 ntmps 2
def ac87 : Cd := .seq (.region [⟨(some 0),.mv (.k (.c (.full []))),none⟩] [0])
 (.seq (.region [⟨(some 1),.buildSlice 1 15 [(.str [])] [(0,(.k (.c (.d (.str [43]))))),(1,(.k (.c (.d (.str [45]))))),(2,(.k (.c (.d (.str [42]))))),(3,(.k (.c (.d (.str [47,47]))))),(4,(.k (.c (.d (.str [61]))))),(5,(.k (.c (.d (.str [92,61]))))),(6,(.k (.c (.d (.str [61,61]))))),(7,(.k (.c (.d (.str [60]))))),(8,(.k (.c (.d (.str [62]))))),(9,(.k (.c (.d (.str [61,60]))))),(10,(.k (.c (.d (.str [62,61]))))),(11,(.k (.c (.d (.str [61,58,61]))))),(12,(.k (.c (.d (.str [46]))))),(13,(.k (.c (.d (.str [91,93]))))),(14,(.k (.c (.d (.str [33])))))],none⟩,
 ⟨(some 0),.mv (.t 1),none⟩] [1])
 (.ret))
theorem ac87_ok : cFunc Tryd.prog [] [(0,[0],[]),(1,[1],[])] Tryd.f87 = some (ac87,[.tmp 0],2) := by kernel_rfl
-- 85 loop.example/prologserver/spec.l1Signs params 0 ntmps 2
def ac85 : Cd := .seq (.region [⟨(some 0),.mv (.k (.c (.full []))),none⟩] [0])
 (.seq (.region [⟨(some 1),.buildSlice 1 15 [(.str [])] [(0,(.k (.c (.d (.str [43]))))),(1,(.k (.c (.d (.str [45]))))),(2,(.k (.c (.d (.str [42]))))),(3,(.k (.c (.d (.str [47,47]))))),(4,(.k (.c (.d (.str [61]))))),(5,(.k (.c (.d (.str [92,61]))))),(6,(.k (.c (.d (.str [61,61]))))),(7,(.k (.c (.d (.str [60]))))),(8,(.k (.c (.d (.str [62]))))),(9,(.k (.c (.d (.str [61,60]))))),(10,(.k (.c (.d (.str [62,61]))))),(11,(.k (.c (.d (.str [61,58,61]))))),(12,(.k (.c (.d (.str [46]))))),(13,(.k (.c (.d (.str [91,93]))))),(14,(.k (.c (.d (.str [33])))))],none⟩,
 ⟨(some 0),.mv (.t 1),none⟩] [1])
 (.ret))
theorem ac85_ok : cFunc Tryd.prog [] [(0,[0],[]),(1,[1],[])] Tryd.f85 = some (ac85,[.tmp 0],2) := by kernel_rfl
-- 97 slices.Index[[]string,string] params 2 ntmps 19
-- loop head live: [0,1,7,8]
def ac97 : Cd := .seq (.region [⟨(some 4),.mv (.k (.c (.d (.int .i64 0)))),none⟩] [4])
 (.seq (.seq (.region [⟨(some 6),.mv (.t 0),none⟩,
 ⟨(some 7),.len 1 (.t 6),none⟩,
 ⟨(some 8),.mv (.k (.c (.d (.int .i64 0)))),none⟩] [6])
 (.block 0 (.loop (.seq (.region [⟨(some 9),.bin .lss (.t 8) (.t 7),none⟩] [])
 (.seq (.cond (.t 9)
 (.skip)
 (.exit 0))
 (.seq (.block 1 (.seq (.region [⟨(some 10),.mv (.t 8),none⟩,
 ⟨(some 5),.mv (.t 10),none⟩] [9,10])
 (.seq (.region [⟨(some 11),.mv (.t 1),none⟩,
 ⟨(some 12),.mv (.t 0),none⟩,
 ⟨(some 13),.mv (.t 5),none⟩,
 ⟨(some 14),.indexAddr 1 (.t 12) (.t 13),none⟩,
 ⟨(some 15),.load none (.t 14),none⟩,
 ⟨(some 16),.bin .eql (.t 11) (.t 15),none⟩] [11,12,13,14,15])
 (.cond (.t 16)
 (.seq (.region [⟨(some 17),.mv (.t 5),none⟩,
 ⟨(some 4),.mv (.t 17),none⟩] [0,1,5,7,8,16,17])
 (.ret))
 (.skip)))))
 (.region [⟨(some 18),.bin .add (.t 8) (.k (.c (.d (.int .i64 1)))),none⟩,
 ⟨(some 8),.mv (.t 18),none⟩] [4,5,16,18])))))))
 (.seq (.region [⟨(some 4),.mv (.k (.c (.d (.int .i64 (-1))))),none⟩] [])
 (.ret)))
theorem ac97_ok : cFunc Tryd.prog [] [(0,[4],[]),(1,[6],[]),(2,[],[]),(3,[9,10],[]),(4,[11,12,13,14,15],[]),(5,[0,1,5,7,8,16,17],[]),(6,[4,5,16,18],[]),(7,[],[])] Tryd.f97 = some (ac97,[.tmp 4],19) := by kernel_rfl
-- 86 slices.Contains[[]string,string] params 2 ntmps 9
def ac86 : Cd := .seq (.region [⟨(some 4),.mv (.k (.c (.d (.bool false)))),none⟩] [4])
 (.seq (.region [⟨(some 5),.mv (.t 0),none⟩,
 ⟨(some 6),.mv (.t 1),none⟩,
 ⟨(some 7),.call false 97 [(.t 5),(.t 6)],none⟩,
 ⟨(some 8),.bin .geq (.t 7) (.k (.c (.d (.int .i64 0)))),none⟩,
 ⟨(some 4),.mv (.t 8),none⟩] [0,1,5,6,7,8])
 (.ret))
theorem ac86_ok : cFunc Tryd.prog [] [(0,[4],[]),(1,[0,1,5,6,7,8],[])] Tryd.f86 = some (ac86,[.tmp 4],9) := by kernel_rfl
-- 84 loop.example/prologserver/spec.l1Has params 2 ntmps 18
-- loop head live: [0,1,5]
def ac84 : Cd := .seq (.region [⟨(some 4),.mv (.k (.c (.d (.bool false)))),none⟩] [4])
 (.seq (.seq (.region [⟨(some 5),.mv (.k (.c (.d (.int .i64 0)))),none⟩] [])
 (.block 0 (.loop (.seq (.seq (.region [⟨(some 6),.mv (.t 5),none⟩,
 ⟨(some 7),.mv (.t 0),none⟩,
 ⟨(some 8),.len 1 (.t 7),none⟩,
 ⟨(some 9),.bin .lss (.t 6) (.t 8),none⟩] [6,7,8])
 (.cond (.t 9)
 (.skip)
 (.exit 0)))
 (.seq (.block 1 (.seq (.region [⟨(some 12),.mv (.t 0),none⟩,
 ⟨(some 13),.mv (.t 5),none⟩,
 ⟨(some 14),.indexAddr 1 (.t 12) (.t 13),none⟩,
 ⟨(some 15),.load none (.t 14),none⟩,
 ⟨(some 16),.mv (.t 1),none⟩,
 ⟨(some 17),.bin .eql (.t 15) (.t 16),none⟩] [9,12,13,14,15,16])
 (.cond (.t 17)
 (.seq (.region [⟨(some 4),.mv (.k (.c (.d (.bool true)))),none⟩] [0,1,5,17])
 (.ret))
 (.skip))))
 (.region [⟨(some 10),.mv (.t 5),none⟩,
 ⟨(some 11),.bin .add (.t 10) (.k (.c (.d (.int .i64 1)))),none⟩,
 ⟨(some 5),.mv (.t 11),none⟩] [4,10,11,17]))))))
 (.seq (.region [⟨(some 4),.mv (.k (.c (.d (.bool false)))),none⟩] [])
 (.ret)))
theorem ac84_ok : cFunc Tryd.prog [] [(0,[4],[]),(1,[],[]),(2,[6,7,8],[]),(4,[9,12,13,14,15,16],[]),(5,[0,1,5,17],[]),(3,[4,10,11,17],[]),(6,[],[])] Tryd.f84 = some (ac84,[.tmp 4],18) := by kernel_rfl
-- 70 loop.example/prologserver/impl.NameValid params 1 ntmps 10
def ac70 : Cd := .seq (.region [⟨(some 2),.mv (.k (.c (.d (.bool false)))),none⟩] [2])
 (.seq (.region [⟨(some 3),.mv (.t 0),none⟩,
 ⟨(some 4),.qcall 81 [(.t 3)],none⟩,
 ⟨(some 5),.mv (.t 4),none⟩,
 ⟨(some 6),.qcall 87 [],some (5,false)⟩,
 ⟨(some 7),.mv (.t 0),some (5,false)⟩,
 ⟨(some 8),.qcall 86 [(.t 6),(.t 7)],some (5,false)⟩,
 ⟨(some 9),.pick (.t 5) (.k (.c (.d (.bool true)))) (.t 8),none⟩,
 ⟨(some 2),.mv (.t 9),none⟩] [0,3,4,5,6,7,8,9])
 (.ret))
theorem ac70_ok : cFunc Tryd.prog [1000081,1000086,1000087] [(0,[2],[]),(1,[0,3,4,5,6,7,8,9],[])] Tryd.f70 = some (ac70,[.tmp 2],10) := by kernel_rfl
-- 65 loop.example/prologserver/spec.NameValid params 1 ntmps 10
def ac65 : Cd := .seq (.region [⟨(some 2),.mv (.k (.c (.d (.bool false)))),none⟩] [2])
 (.seq (.region [⟨(some 3),.mv (.t 0),none⟩,
 ⟨(some 4),.qcall 48 [(.t 3)],none⟩,
 ⟨(some 5),.mv (.t 4),none⟩,
 ⟨(some 6),.qcall 85 [],some (5,false)⟩,
 ⟨(some 7),.mv (.t 0),some (5,false)⟩,
 ⟨(some 8),.qcall 84 [(.t 6),(.t 7)],some (5,false)⟩,
 ⟨(some 9),.pick (.t 5) (.k (.c (.d (.bool true)))) (.t 8),none⟩,
 ⟨(some 2),.mv (.t 9),none⟩] [0,3,4,5,6,7,8,9])
 (.ret))
theorem ac65_ok : cFunc Tryd.prog [1000048,1000084,1000085] [(0,[2],[]),(1,[0,3,4,5,6,7,8,9],[])] Tryd.f65 = some (ac65,[.tmp 2],10) := by kernel_rfl
def lowB (b : UInt8) : Bool := decide ((97 : Int) ≤ b.toNat) && decide ((b.toNat : Int) ≤ 122)
/-- a name of letters -/
def lettersB (s : List UInt8) : Bool := s.all lowB && (decide ((1 : Int) ≤ s.length) && decide ((s.length : Int) ≤ 6))
def signs : List (List UInt8) := [[43], [45], [42], [47, 47], [61], [92, 61], [61, 61], [60], [62], [61, 60], [62, 61], [61, 58, 61], [46], [91, 93], [33]]
def strRow (s : List UInt8) : List D := [.str s]
theorem low_take_succ {p : UInt8 → Bool} {s : List UInt8} {i : Nat} (h : i < s.length) (ha : ∀ b ∈ s.take i, p b = true) (hb : p s[i] = true) : ∀ b ∈ s.take (i + 1), p b = true := by
  intro b h'
  rw [List.take_add_one, List.mem_append] at h'
  rcases h' with h' | h'
  · exact ha b h'
  · rw [List.getElem?_eq_getElem h] at h'
    simp at h'; subst h'; exact hb
set_option maxHeartbeats 3200000 in
theorem isLetters_calls (s : List UInt8) (hs : s.length ≤ 1000000000000) (H : Heap) : ACalls Tryd.prog 81 [.c (.d (.str s))] H (fun r H' => H' = H ∧ r = .c (.d (.bool (lettersB s)))) := by
  refine acalls Tryd.func81 (by kernel_rfl) ac81_ok fun hf => ?_
  have hlen : inR .i64 (s.length : Int) := small_i64 (by omega) (by omega)
  simp -implicitDefEqProofs [ac81, hlen, go_sem, -List.set_cons_succ, -List.set_cons_zero]
  refine loop_set (σ := Nat) (fun i => [(6, .c (.d (.int .i64 i)))]) (fun _ => H) (fun _ => []) (fun i => i ≤ s.length ∧ ∀ b ∈ s.take i, lowB b = true) (fun i => s.length - i) 0 rfl ⟨Nat.zero_le _, by simp⟩ ?_
  rintro i ⟨hi, hall⟩
  simp -implicitDefEqProofs [setAll, hlen, go_sem, -List.set_cons_succ, -List.set_cons_zero]
  refine ⟨fun hlt => byte_nat hlt ?_, fun hge => ?_⟩
  · have hadd : inR .i64 ((i : Int) + 1) := small_i64 (by omega) (by omega)
    have bad : lowB s[i] = false → lettersB s = false := fun h => by
      have : s.all lowB = false := by
        rw [List.all_eq_false]
        exact ⟨s[i], List.getElem_mem hlt, by simp [h]⟩
      simp [lettersB, this]
    by_cases h97 : (s[i].toNat : Int) < 97
    · simp -implicitDefEqProofs [h97, go_sem, -List.set_cons_succ, -List.set_cons_zero]
      refine byte_off 0 ?_
      simp -implicitDefEqProofs [go_sem, -List.set_cons_succ, -List.set_cons_zero]
      rw [bad (by simp [lowB]; omega)]
    · simp -implicitDefEqProofs [h97, go_sem, -List.set_cons_succ, -List.set_cons_zero]
      refine byte_nat hlt ?_
      simp -implicitDefEqProofs [hadd, go_sem, -List.set_cons_succ, -List.set_cons_zero]
      refine ⟨fun h => by rw [bad (by simp [lowB]; omega)], fun h => ?_⟩
      exact loop_back (i + 1) (by simp [setAll]) ⟨hlt, low_take_succ hlt hall (by simp [lowB]; omega)⟩ (by show s.length - (i + 1) < s.length - i; omega)
  · have hil : i = s.length := by omega
    subst hil
    rw [List.take_length] at hall
    have hok : s.all lowB = true := List.all_eq_true.2 hall
    refine qcall_pure (within_calls s.length 1 6) hf rfl ?_
    simp -implicitDefEqProofs [lettersB, hok, go_sem, -List.set_cons_succ, -List.set_cons_zero]
set_option maxHeartbeats 3200000 in
theorem l1Word_calls (s : List UInt8) (hs : s.length ≤ 1000000000000) (H : Heap) : ACalls Tryd.prog 48 [.c (.d (.str s))] H (fun r H' => H' = H ∧ r = .c (.d (.bool (lettersB s)))) := by
  refine acalls Tryd.func48 (by kernel_rfl) ac48_ok fun hf => ?_
  have hlen : inR .i64 (s.length : Int) := small_i64 (by omega) (by omega)
  simp -implicitDefEqProofs [ac48, hlen, go_sem, -List.set_cons_succ, -List.set_cons_zero]
  refine loop_set (σ := Nat) (fun i => [(3, .c (.d (.int .i64 i)))]) (fun _ => H) (fun _ => []) (fun i => i ≤ s.length ∧ ∀ b ∈ s.take i, lowB b = true) (fun i => s.length - i) 0 rfl ⟨Nat.zero_le _, by simp⟩ ?_
  rintro i ⟨hi, hall⟩
  simp -implicitDefEqProofs [setAll, hlen, go_sem, -List.set_cons_succ, -List.set_cons_zero]
  refine ⟨fun hlt => byte_nat hlt ?_, fun hge => ?_⟩
  · have hadd : inR .i64 ((i : Int) + 1) := small_i64 (by omega) (by omega)
    have bad : lowB s[i] = false → lettersB s = false := fun h => by
      have : s.all lowB = false := by
        rw [List.all_eq_false]
        exact ⟨s[i], List.getElem_mem hlt, by simp [h]⟩
      simp [lettersB, this]
    by_cases h97 : (s[i].toNat : Int) < 97
    · simp -implicitDefEqProofs [h97, go_sem, -List.set_cons_succ, -List.set_cons_zero]
      refine byte_off 0 ?_
      simp -implicitDefEqProofs [go_sem, -List.set_cons_succ, -List.set_cons_zero]
      rw [bad (by simp [lowB]; omega)]
    · simp -implicitDefEqProofs [h97, go_sem, -List.set_cons_succ, -List.set_cons_zero]
      refine byte_nat hlt ?_
      simp -implicitDefEqProofs [hadd, go_sem, -List.set_cons_succ, -List.set_cons_zero]
      refine ⟨fun h => by rw [bad (by simp [lowB]; omega)], fun h => ?_⟩
      exact loop_back (i + 1) (by simp [setAll]) ⟨hlt, low_take_succ hlt hall (by simp [lowB]; omega)⟩ (by show s.length - (i + 1) < s.length - i; omega)
  · have hil : i = s.length := by omega
    subst hil
    rw [List.take_length] at hall
    have hok : s.all lowB = true := List.all_eq_true.2 hall
    simp [lettersB, hok]
set_option maxHeartbeats 3200000 in
theorem symbols_calls (H : Heap) : ACalls Tryd.prog 87 [] H (fun r H' => H' = H ∧ r = .c (.d (.sl (signs.map strRow)))) := by
  refine acalls Tryd.func87 (by kernel_rfl) ac87_ok fun hf => ?_
  simp -implicitDefEqProofs [ac87, signs, strRow, go_sem, -List.set_cons_succ, -List.set_cons_zero]
set_option maxHeartbeats 3200000 in
theorem l1Signs_calls (H : Heap) : ACalls Tryd.prog 85 [] H (fun r H' => H' = H ∧ r = .c (.d (.sl (signs.map strRow)))) := by
  refine acalls Tryd.func85 (by kernel_rfl) ac85_ok fun hf => ?_
  simp -implicitDefEqProofs [ac85, signs, strRow, go_sem, -List.set_cons_succ, -List.set_cons_zero]
set_option maxHeartbeats 3200000 in
theorem index_calls (l : List (List UInt8)) (hl : l.length ≤ 1048576) (s : List UInt8) (H : Heap) : ACalls Tryd.prog 97 [.c (.d (.sl (l.map strRow))), .c (.d (.str s))] H (fun r H' => H' = H ∧ ∃ k : Int, r = .c (.d (.int .i64 k)) ∧ decide (0 ≤ k) = l.contains s) := by
  refine acalls Tryd.func97 (by kernel_rfl) ac97_ok fun hf => ?_
  have hli : inR .i64 (l.length : Int) := small_i64 (by omega) (by omega)
  simp -implicitDefEqProofs [ac97, hli, go_sem, -List.set_cons_succ, -List.set_cons_zero]
  refine loop_set (σ := Nat) (fun i => [(8, .c (.d (.int .i64 i)))]) (fun _ => H) (fun _ => []) (fun i => i ≤ l.length ∧ s ∉ l.take i) (fun i => l.length - i) 0 rfl ⟨Nat.zero_le _, by simp⟩ ?_
  rintro i ⟨hi, hno⟩
  simp -implicitDefEqProofs [setAll, hli, go_sem, -List.set_cons_succ, -List.set_cons_zero]
  refine ⟨fun hlt => ?_, fun hge => ?_⟩
  · refine row_of hlt rfl ?_
    have hadd : inR .i64 ((i : Int) + 1) := small_i64 (by omega) (by omega)
    simp -implicitDefEqProofs [strRow, hadd, go_sem, -List.set_cons_succ, -List.set_cons_zero]
    refine ⟨fun h => ?_, fun h => ?_⟩
    · subst h; exact List.getElem_mem hlt
    · refine loop_back (i + 1) (by simp [setAll]) ⟨hlt, ?_⟩ (by show l.length - (i + 1) < l.length - i; omega)
      rw [List.take_succ_eq_append_getElem hlt, List.mem_append]
      rintro (h' | h')
      · exact hno h'
      · simp at h'; exact h h'
  · rw [List.take_of_length_le hge] at hno
    simp [hno]
set_option maxHeartbeats 3200000 in
theorem contains_calls (l : List (List UInt8)) (hl : l.length ≤ 1048576) (s : List UInt8) (H : Heap) : ACalls Tryd.prog 86 [.c (.d (.sl (l.map strRow))), .c (.d (.str s))] H (fun r H' => H' = H ∧ r = .c (.d (.bool (l.contains s)))) := by
  refine acalls Tryd.func86 (by kernel_rfl) ac86_ok fun hf => ?_
  simp -implicitDefEqProofs [ac86, go_sem, -List.set_cons_succ, -List.set_cons_zero]
  refine call_some (index_calls l hl s _) (by simp) (fun r ⟨k, hk, _⟩ => by subst hk; rfl) hf ?_
  rintro _ ⟨k, rfl, hk⟩
  simp -implicitDefEqProofs [go_sem, -List.set_cons_succ, -List.set_cons_zero]
  simpa using hk
set_option maxHeartbeats 3200000 in
theorem l1Has_calls (l : List (List UInt8)) (hl : l.length ≤ 1048576) (s : List UInt8) (H : Heap) : ACalls Tryd.prog 84 [.c (.d (.sl (l.map strRow))), .c (.d (.str s))] H (fun r H' => H' = H ∧ r = .c (.d (.bool (l.contains s)))) := by
  refine acalls Tryd.func84 (by kernel_rfl) ac84_ok fun hf => ?_
  have hli : inR .i64 (l.length : Int) := small_i64 (by omega) (by omega)
  simp -implicitDefEqProofs [ac84, hli, go_sem, -List.set_cons_succ, -List.set_cons_zero]
  refine loop_set (σ := Nat) (fun i => [(5, .c (.d (.int .i64 i)))]) (fun _ => H) (fun _ => []) (fun i => i ≤ l.length ∧ s ∉ l.take i) (fun i => l.length - i) 0 rfl ⟨Nat.zero_le _, by simp⟩ ?_
  rintro i ⟨hi, hno⟩
  simp -implicitDefEqProofs [setAll, hli, go_sem, -List.set_cons_succ, -List.set_cons_zero]
  refine ⟨fun hlt => ?_, fun hge => ?_⟩
  · refine row_of hlt rfl ?_
    have hadd : inR .i64 ((i : Int) + 1) := small_i64 (by omega) (by omega)
    simp -implicitDefEqProofs [strRow, hadd, go_sem, -List.set_cons_succ, -List.set_cons_zero]
    refine ⟨fun h => ?_, fun h => ?_⟩
    · subst h; exact List.getElem_mem hlt
    · refine loop_back (i + 1) (by simp [setAll]) ⟨hlt, ?_⟩ (by show l.length - (i + 1) < l.length - i; omega)
      rw [List.take_succ_eq_append_getElem hlt, List.mem_append]
      rintro (h' | h')
      · exact hno h'
      · simp at h'; exact h h'.symm
  · rw [List.take_of_length_le hge] at hno
    simpa using hno
/-- a name -/
def nameB (s : List UInt8) : Bool := lettersB s || signs.contains s
set_option maxHeartbeats 3200000 in
theorem nvImpl_calls (s : List UInt8) (hs : s.length ≤ 1000000000000) (H : Heap) : ACalls Tryd.prog 70 [.c (.d (.str s))] H (fun r H' => H' = H ∧ r = .c (.d (.bool (nameB s)))) := by
  refine acalls Tryd.func70 (by kernel_rfl) ac70_ok fun hf => ?_
  simp -implicitDefEqProofs [ac70, go_sem, -List.set_cons_succ, -List.set_cons_zero]
  refine qcall_pure (isLetters_calls s hs) hf rfl ?_
  cases h : lettersB s with
  | true => simp -implicitDefEqProofs [h, nameB, go_sem, -List.set_cons_succ, -List.set_cons_zero]
  | false =>
    simp -implicitDefEqProofs [h, go_sem, -List.set_cons_succ, -List.set_cons_zero]
    refine qcall_pure symbols_calls hf rfl ?_
    simp -implicitDefEqProofs [go_sem, -List.set_cons_succ, -List.set_cons_zero]
    refine qcall_pure (contains_calls signs (by decide) s) hf rfl ?_
    simp -implicitDefEqProofs [h, nameB, go_sem, -List.set_cons_succ, -List.set_cons_zero]
set_option maxHeartbeats 3200000 in
theorem nvSpec_calls (s : List UInt8) (hs : s.length ≤ 1000000000000) (H : Heap) : ACalls Tryd.prog 65 [.c (.d (.str s))] H (fun r H' => H' = H ∧ r = .c (.d (.bool (nameB s)))) := by
  refine acalls Tryd.func65 (by kernel_rfl) ac65_ok fun hf => ?_
  simp -implicitDefEqProofs [ac65, go_sem, -List.set_cons_succ, -List.set_cons_zero]
  refine qcall_pure (l1Word_calls s hs) hf rfl ?_
  cases h : lettersB s with
  | true => simp -implicitDefEqProofs [h, nameB, go_sem, -List.set_cons_succ, -List.set_cons_zero]
  | false =>
    simp -implicitDefEqProofs [h, go_sem, -List.set_cons_succ, -List.set_cons_zero]
    refine qcall_pure l1Signs_calls hf rfl ?_
    simp -implicitDefEqProofs [go_sem, -List.set_cons_succ, -List.set_cons_zero]
    refine qcall_pure (l1Has_calls signs (by decide) s) hf rfl ?_
    simp -implicitDefEqProofs [h, nameB, go_sem, -List.set_cons_succ, -List.set_cons_zero]
end Go.Proofs.YtnljciooabmogaaDoor

/-
  Valid terms: TermValid of the program and of the reference.
  Conditions: none.
-/
open Go Go.AM Go.Proofs
namespace Go.Proofs.YtnljciooabmogaaDoor
open Go.ChangeShapes Go.WideShapes Go.ChangeAt Go.RowKit
set_option linter.unusedVariables false
set_option linter.unusedSimpArgs false
set_option maxRecDepth 100000
-- 102 slices.IndexFunc[[]loop.example/prologserver/impl.Term,loop.example/prologserver/impl.Term] params 2 ntmps 19
-- loop head live: [0,1,7,8]
/-- a node's own fields -/
def Tm.ownB : Tm → Bool
  | .mk k n s l => if k = 1 then ((decide (0 ≤ n) && decide (n ≤ 25)) && s == []) && l.isEmpty
    else if k = 2 then ((decide (-999 ≤ n) && decide (n ≤ 999)) && s == []) && l.isEmpty
    else if k = 3 then (decide (n = 0) && nameB s) && decide (l.length ≤ 4)
    else false
mutual
/-- well-formed, down to a depth -/
def Tm.shape : Nat → Tm → Bool
  | d, .mk k n s l => decide (1 ≤ d) && ((Tm.mk k n s l).ownB && shapes (d - 1) l)
def shapes : Nat → List Tm → Bool
  | _, [] => true
  | d, t :: l => t.shape d && shapes d l
end
mutual
/-- the number of nodes -/
def Tm.size : Tm → Nat
  | .mk _ _ _ l => 1 + sizes l
def sizes : List Tm → Nat
  | [] => 0
  | t :: l => t.size + sizes l
end
def Tm.valid (t : Tm) : Bool := t.shape 30 && decide (t.size ≤ 120)
end Go.Proofs.YtnljciooabmogaaDoor

/-
  TermValid: the functions of the program and of the reference.
  Conditions: none.
-/
open Go Go.AM Go.Proofs
namespace Go.Proofs.YtnljciooabmogaaDoor
open Go.ChangeShapes Go.WideShapes Go.ChangeAt Go.RowKit
set_option linter.unusedVariables false
set_option linter.unusedSimpArgs false
set_option maxRecDepth 100000
-- 80 loop.example/prologserver/impl.scan params 3 ntmps 76
end Go.Proofs.YtnljciooabmogaaDoor

/-
  First keys, of the program and of the reference.
  Conditions: none.
-/
open Go Go.AM Go.Proofs
namespace Go.Proofs.YtnljciooabmogaaDoor
open Go.ChangeShapes Go.WideShapes Go.ChangeAt Go.RowKit
set_option linter.unusedVariables false
set_option linter.unusedSimpArgs false
set_option maxRecDepth 100000
/-- the key of a term -/
def Tm.key (t : Tm) : List UInt8 :=
  match t.kids with
  | [] => []
  | x :: _ => if x.k = 1 then [] else if x.k = 2 then Lib.itoa x.n else x.s ++ 47 :: Lib.itoa x.kids.length
-- 53 loop.example/prologserver/spec.l7Key params 1 ntmps 29
end Go.Proofs.YtnljciooabmogaaDoor

/-
  Instructions as data.
  Conditions: none.
-/
open Go Go.AM Go.Proofs
namespace Go.Proofs.YtnljciooabmogaaDoor
open Go.ChangeShapes Go.WideShapes Go.ChangeAt Go.RowKit
set_option linter.unusedVariables false
set_option linter.unusedSimpArgs false
set_option maxRecDepth 100000
/-- an instruction -/
structure Ins where
  op : Int
  a : Int
  b : Int
  text : List UInt8
def Ins.row (x : Ins) : List D := [.int .i64 x.op, .int .i64 x.a, .int .i64 x.b, .str x.text]
structure Ins.ok (x : Ins) : Prop where
  op : inR .i64 x.op
  a : inR .i64 x.a
  b : inR .i64 x.b
  text : x.text.length ≤ reachBytes
end Go.Proofs.YtnljciooabmogaaDoor

/-
  Instructions: comparisons.
  Conditions: none.
-/
open Go Go.AM Go.Proofs
namespace Go.Proofs.YtnljciooabmogaaDoor
open Go.ChangeShapes Go.WideShapes Go.ChangeAt Go.RowKit
set_option linter.unusedVariables false
set_option linter.unusedSimpArgs false
set_option maxRecDepth 100000
-- 22 loop.example/prologserver/laws.eqInstrS params 2 ntmps 27
-- loop head live: [0,1,5]
def ac22 : Cd := .seq (.region [⟨(some 4),.mv (.k (.c (.d (.bool false)))),none⟩] [4])
 (.seq (.seq (.region [⟨(some 6),.mv (.t 0),none⟩,
 ⟨(some 7),.len 1 (.t 6),none⟩,
 ⟨(some 8),.mv (.t 1),none⟩,
 ⟨(some 9),.len 1 (.t 8),none⟩,
 ⟨(some 10),.bin .neq (.t 7) (.t 9),none⟩] [6,7,8,9])
 (.cond (.t 10)
 (.seq (.region [⟨(some 4),.mv (.k (.c (.d (.bool false)))),none⟩] [0,1,10])
 (.ret))
 (.skip)))
 (.seq (.seq (.region [⟨(some 5),.mv (.k (.c (.d (.int .i64 0)))),none⟩] [4,10])
 (.block 0 (.loop (.seq (.seq (.region [⟨(some 11),.mv (.t 5),none⟩,
 ⟨(some 12),.mv (.t 0),none⟩,
 ⟨(some 13),.len 1 (.t 12),none⟩,
 ⟨(some 14),.bin .lss (.t 11) (.t 13),none⟩] [11,12,13])
 (.cond (.t 14)
 (.skip)
 (.exit 0)))
 (.seq (.block 1 (.seq (.region [⟨(some 17),.mv (.t 0),none⟩,
 ⟨(some 18),.mv (.t 5),none⟩,
 ⟨(some 19),.indexAddr 4 (.t 17) (.t 18),none⟩,
 ⟨(some 21),.mv (.t 1),none⟩,
 ⟨(some 22),.mv (.t 5),none⟩,
 ⟨(some 23),.indexAddr 4 (.t 21) (.t 22),none⟩,
 ⟨(some 20),.load (some 4) (.t 19),none⟩,
 ⟨(some 24),.load (some 4) (.t 23),none⟩,
 ⟨(some 25),.qcall 44 [(.t 20),(.t 24)],none⟩,
 ⟨(some 26),.un .not (.t 25),none⟩] [14,17,18,19,20,21,22,23,24,25])
 (.cond (.t 26)
 (.seq (.region [⟨(some 4),.mv (.k (.c (.d (.bool false)))),none⟩] [0,1,5,26])
 (.ret))
 (.skip))))
 (.region [⟨(some 15),.mv (.t 5),none⟩,
 ⟨(some 16),.bin .add (.t 15) (.k (.c (.d (.int .i64 1)))),none⟩,
 ⟨(some 5),.mv (.t 16),none⟩] [4,15,16,26]))))))
 (.seq (.region [⟨(some 4),.mv (.k (.c (.d (.bool true)))),none⟩] [])
 (.ret))))
theorem ac22_ok : cFunc Tryd.prog [1000044] [(0,[4],[]),(1,[6,7,8,9],[]),(2,[0,1,10],[]),(3,[4,10],[]),(4,[11,12,13],[]),(6,[14,17,18,19,20,21,22,23,24,25],[0,1,2,4,5,6,3,7,8,9]),(7,[0,1,5,26],[]),(5,[4,15,16,26],[]),(8,[],[])] Tryd.f22 = some (ac22,[.tmp 4],27) := by kernel_rfl
-- 44 loop.example/prologserver/laws.eqInstr params 2 ntmps 25
def ac44 : Cd := .seq (.region [⟨(some 2),.box (.t 0),none⟩,
 ⟨(some 3),.box (.t 1),none⟩,
 ⟨(some 4),.mv (.k (.c (.d (.bool false)))),none⟩] [0,1,4])
 (.seq (.seq (.region [⟨(some 5),.fieldAddr 0 (.t 2),none⟩,
 ⟨(some 6),.load none (.t 5),none⟩,
 ⟨(some 7),.fieldAddr 0 (.t 3),none⟩,
 ⟨(some 8),.load none (.t 7),none⟩,
 ⟨(some 9),.bin .neq (.t 6) (.t 8),none⟩] [5,6,7,8])
 (.cond (.t 9)
 (.seq (.region [⟨(some 4),.mv (.k (.c (.d (.bool false)))),none⟩] [2,3,9])
 (.ret))
 (.skip)))
 (.seq (.seq (.region [⟨(some 10),.fieldAddr 1 (.t 2),none⟩,
 ⟨(some 11),.load none (.t 10),none⟩,
 ⟨(some 12),.fieldAddr 1 (.t 3),none⟩,
 ⟨(some 13),.load none (.t 12),none⟩,
 ⟨(some 14),.bin .neq (.t 11) (.t 13),none⟩] [4,9,10,11,12,13])
 (.cond (.t 14)
 (.seq (.region [⟨(some 4),.mv (.k (.c (.d (.bool false)))),none⟩] [2,3,14])
 (.ret))
 (.skip)))
 (.seq (.seq (.region [⟨(some 15),.fieldAddr 2 (.t 2),none⟩,
 ⟨(some 16),.load none (.t 15),none⟩,
 ⟨(some 17),.fieldAddr 2 (.t 3),none⟩,
 ⟨(some 18),.load none (.t 17),none⟩,
 ⟨(some 19),.bin .neq (.t 16) (.t 18),none⟩] [4,14,15,16,17,18])
 (.cond (.t 19)
 (.seq (.region [⟨(some 4),.mv (.k (.c (.d (.bool false)))),none⟩] [2,3,19])
 (.ret))
 (.skip)))
 (.seq (.seq (.region [⟨(some 20),.fieldAddr 3 (.t 2),none⟩,
 ⟨(some 21),.load none (.t 20),none⟩,
 ⟨(some 22),.fieldAddr 3 (.t 3),none⟩,
 ⟨(some 23),.load none (.t 22),none⟩,
 ⟨(some 24),.bin .neq (.t 21) (.t 23),none⟩] [2,3,4,19,20,21,22,23])
 (.cond (.t 24)
 (.seq (.region [⟨(some 4),.mv (.k (.c (.d (.bool false)))),none⟩] [24])
 (.ret))
 (.skip)))
 (.seq (.region [⟨(some 4),.mv (.k (.c (.d (.bool true)))),none⟩] [24])
 (.ret))))))
theorem ac44_ok : cFunc Tryd.prog [] [(0,[0,1,4],[]),(1,[5,6,7,8],[]),(2,[2,3,9],[]),(3,[4,9,10,11,12,13],[]),(4,[2,3,14],[]),(5,[4,14,15,16,17,18],[]),(6,[2,3,19],[]),(7,[2,3,4,19,20,21,22,23],[]),(8,[24],[]),(9,[24],[])] Tryd.f44 = some (ac44,[.tmp 4],25) := by kernel_rfl
set_option maxHeartbeats 3200000 in
theorem eqInstr_calls (x : Ins) (H : Heap) : ACalls Tryd.prog 44 [.agg (x.row.map .d), .agg (x.row.map .d)] H (fun r H' => H' = H ∧ r = .c (.d (.bool true))) := by
  refine acalls Tryd.func44 (by kernel_rfl) ac44_ok fun hf => ?_
  simp -implicitDefEqProofs [ac44, Ins.row, go_sem, -List.set_cons_succ, -List.set_cons_zero]
set_option maxHeartbeats 3200000 in
theorem eqInstrS_calls (l : List Ins) (hl : l.length ≤ reachBytes) (H : Heap) : ACalls Tryd.prog 22 [.c (.d (.sl (l.map Ins.row))), .c (.d (.sl (l.map Ins.row)))] H (fun r H' => H' = H ∧ r = .c (.d (.bool true))) := by
  refine acalls Tryd.func22 (by kernel_rfl) ac22_ok fun hf => ?_
  have hlen := reach_i64 hl
  have hsm := reach_small hl
  simp -implicitDefEqProofs [ac22, hlen, go_sem, -List.set_cons_succ, -List.set_cons_zero]
  refine loop_set (σ := Nat) (fun i => [(5, .c (.d (.int .i64 i)))]) (fun _ => H) (fun _ => []) (fun i => i ≤ l.length) (fun i => l.length - i) 0 rfl (Nat.zero_le _) ?_
  intro i hi
  simp -implicitDefEqProofs [setAll, hlen, go_sem, -List.set_cons_succ, -List.set_cons_zero]
  intro hlt
  have hadd : inR .i64 ((i : Int) + 1) := small_i64 (by omega) (by omega)
  refine row_of hlt rfl ?_
  simp -implicitDefEqProofs [Ins.row, go_sem, -List.set_cons_succ, -List.set_cons_zero]
  refine row_of hlt rfl ?_
  simp -implicitDefEqProofs [Ins.row, go_sem, -List.set_cons_succ, -List.set_cons_zero]
  refine qcall_pure (eqInstr_calls l[i]) hf rfl ?_
  simp -implicitDefEqProofs [hadd, go_sem, -List.set_cons_succ, -List.set_cons_zero]
  exact loop_back (i + 1) (by simp [setAll]) hlt (by show l.length - (i + 1) < l.length - i; omega)
end Go.Proofs.YtnljciooabmogaaDoor

/-
  Instructions: sizes, copies, comparisons.
  Conditions: none.
-/
open Go Go.AM Go.Proofs
namespace Go.Proofs.YtnljciooabmogaaDoor
open Go.ChangeShapes Go.WideShapes Go.ChangeAt Go.RowKit
set_option linter.unusedVariables false
set_option linter.unusedSimpArgs false
set_option maxRecDepth 100000
-- 18 loop.example/prologserver/laws.szInstrS params 2 ntmps 27
-- loop head live: [0,1,5]
def ac18 : Cd := .seq (.region [⟨(some 4),.mv (.k (.c (.d (.int .i64 0)))),none⟩] [4])
 (.seq (.region [⟨(some 6),.mv (.t 1),none⟩,
 ⟨(some 7),.mv (.t 0),none⟩,
 ⟨(some 8),.len 1 (.t 7),none⟩,
 ⟨(some 9),.bin .sub (.t 6) (.t 8),none⟩,
 ⟨(some 1),.mv (.t 9),none⟩] [6,7,8,9])
 (.seq (.seq (.region [⟨(some 10),.mv (.t 1),none⟩,
 ⟨(some 11),.bin .lss (.t 10) (.k (.c (.d (.int .i64 0)))),none⟩] [10])
 (.cond (.t 11)
 (.seq (.region [⟨(some 4),.mv (.k (.c (.d (.int .i64 (-1))))),none⟩] [0,1,11])
 (.ret))
 (.skip)))
 (.seq (.seq (.region [⟨(some 5),.mv (.k (.c (.d (.int .i64 0)))),none⟩] [4,11])
 (.block 0 (.loop (.seq (.seq (.region [⟨(some 12),.mv (.t 5),none⟩,
 ⟨(some 13),.mv (.t 0),none⟩,
 ⟨(some 14),.len 1 (.t 13),none⟩,
 ⟨(some 15),.bin .lss (.t 12) (.t 14),none⟩] [12,13,14])
 (.cond (.t 15)
 (.skip)
 (.exit 0)))
 (.seq (.block 1 (.seq (.region [⟨(some 18),.mv (.t 0),none⟩,
 ⟨(some 19),.mv (.t 5),none⟩,
 ⟨(some 20),.indexAddr 4 (.t 18) (.t 19),none⟩,
 ⟨(some 21),.load (some 4) (.t 20),none⟩,
 ⟨(some 22),.mv (.t 1),none⟩,
 ⟨(some 23),.call false 37 [(.t 21),(.t 22)],none⟩,
 ⟨(some 1),.mv (.t 23),none⟩] [15,18,19,20,21,22,23])
 (.seq (.region [⟨(some 24),.mv (.t 1),none⟩,
 ⟨(some 25),.bin .lss (.t 24) (.k (.c (.d (.int .i64 0)))),none⟩] [24])
 (.cond (.t 25)
 (.seq (.region [⟨(some 4),.mv (.k (.c (.d (.int .i64 (-1))))),none⟩] [0,1,5,25])
 (.ret))
 (.skip)))))
 (.region [⟨(some 16),.mv (.t 5),none⟩,
 ⟨(some 17),.bin .add (.t 16) (.k (.c (.d (.int .i64 1)))),none⟩,
 ⟨(some 5),.mv (.t 17),none⟩] [4,16,17,25]))))))
 (.seq (.region [⟨(some 26),.mv (.t 1),none⟩,
 ⟨(some 4),.mv (.t 26),none⟩] [1,26])
 (.ret)))))
theorem ac18_ok : cFunc Tryd.prog [] [(0,[4],[]),(1,[6,7,8,9],[]),(2,[10],[]),(3,[0,1,11],[]),(4,[4,11],[]),(5,[12,13,14],[]),(7,[15,18,19,20,21,22,23],[]),(8,[24],[]),(9,[0,1,5,25],[]),(6,[4,16,17,25],[]),(10,[1,26],[])] Tryd.f18 = some (ac18,[.tmp 4],27) := by kernel_rfl
-- 20 loop.example/prologserver/laws.toInstrS params 1 ntmps 23
-- loop head live: [0,3,4]
def ac20 : Cd := .seq (.region [⟨(some 2),.mv (.k (.c (.full []))),none⟩] [2])
 (.seq (.region [⟨(some 5),.mv (.t 0),none⟩,
 ⟨(some 6),.len 1 (.t 5),none⟩,
 ⟨(some 7),.mkSlice [(.int .i64 0),(.int .i64 0),(.int .i64 0),(.str [])] (.t 6),none⟩,
 ⟨(some 3),.mv (.t 7),none⟩] [5,6,7])
 (.seq (.seq (.region [⟨(some 4),.mv (.k (.c (.d (.int .i64 0)))),none⟩] [])
 (.block 0 (.loop (.seq (.seq (.region [⟨(some 8),.mv (.t 4),none⟩,
 ⟨(some 9),.mv (.t 0),none⟩,
 ⟨(some 10),.len 1 (.t 9),none⟩,
 ⟨(some 11),.bin .lss (.t 8) (.t 10),none⟩] [8,9,10])
 (.cond (.t 11)
 (.skip)
 (.exit 0)))
 (.seq (.block 1 (.region [⟨(some 14),.mv (.t 3),none⟩,
 ⟨(some 15),.mv (.t 4),none⟩,
 ⟨(some 16),.mv (.t 0),none⟩,
 ⟨(some 17),.mv (.t 4),none⟩,
 ⟨(some 18),.indexAddr 4 (.t 16) (.t 17),none⟩,
 ⟨(some 19),.load (some 4) (.t 18),none⟩,
 ⟨(some 20),.qcall 40 [(.t 19)],none⟩,
 ⟨(some 21),.indexAddr 4 (.t 14) (.t 15),none⟩,
 ⟨none,.store 4 (.t 21) (.t 20),none⟩] [11,14,15,16,17,18,19,20,21]))
 (.region [⟨(some 12),.mv (.t 4),none⟩,
 ⟨(some 13),.bin .add (.t 12) (.k (.c (.d (.int .i64 1)))),none⟩,
 ⟨(some 4),.mv (.t 13),none⟩] [12,13]))))))
 (.seq (.region [⟨(some 22),.mv (.t 3),none⟩,
 ⟨(some 2),.mv (.t 22),none⟩] [3,22])
 (.ret))))
theorem ac20_ok : cFunc Tryd.prog [1000040] [(0,[2],[]),(1,[5,6,7],[]),(2,[],[]),(3,[8,9,10],[]),(5,[11,14,15,16,17,18,19,20,21],[]),(4,[12,13],[]),(6,[3,22],[])] Tryd.f20 = some (ac20,[.tmp 2],23) := by kernel_rfl
-- 37 loop.example/prologserver/laws.szInstr params 2 ntmps 13
def ac37 : Cd := .seq (.region [⟨(some 2),.box (.t 0),none⟩,
 ⟨(some 4),.mv (.k (.c (.d (.int .i64 0)))),none⟩] [0,4])
 (.seq (.region [⟨(some 5),.mv (.t 1),none⟩,
 ⟨(some 6),.fieldAddr 3 (.t 2),none⟩,
 ⟨(some 7),.load none (.t 6),none⟩,
 ⟨(some 8),.len 0 (.t 7),none⟩,
 ⟨(some 9),.bin .sub (.t 5) (.t 8),none⟩,
 ⟨(some 1),.mv (.t 9),none⟩] [2,5,6,7,8,9])
 (.seq (.seq (.region [⟨(some 10),.mv (.t 1),none⟩,
 ⟨(some 11),.bin .lss (.t 10) (.k (.c (.d (.int .i64 0)))),none⟩] [10])
 (.cond (.t 11)
 (.seq (.region [⟨(some 4),.mv (.k (.c (.d (.int .i64 (-1))))),none⟩] [1,11])
 (.ret))
 (.skip)))
 (.seq (.region [⟨(some 12),.mv (.t 1),none⟩,
 ⟨(some 4),.mv (.t 12),none⟩] [1,11,12])
 (.ret))))
theorem ac37_ok : cFunc Tryd.prog [] [(0,[0,4],[]),(1,[2,5,6,7,8,9],[]),(2,[10],[]),(3,[1,11],[]),(4,[1,11,12],[])] Tryd.f37 = some (ac37,[.tmp 4],13) := by kernel_rfl
-- 40 loop.example/prologserver/laws.toInstr params 1 ntmps 17
def ac40 : Cd := .seq (.region [⟨(some 1),.box (.t 0),none⟩,
 ⟨(some 2),.alloc [(.d (.int .i64 0)),(.d (.int .i64 0)),(.d (.int .i64 0)),(.d (.str []))],none⟩] [0])
 (.seq (.region [⟨(some 3),.alloc [(.d (.int .i64 0)),(.d (.int .i64 0)),(.d (.int .i64 0)),(.d (.str []))],none⟩] [])
 (.seq (.region [⟨(some 4),.fieldAddr 0 (.t 1),none⟩,
 ⟨(some 5),.load none (.t 4),none⟩,
 ⟨(some 6),.fieldAddr 0 (.t 3),none⟩,
 ⟨none,.store 1 (.t 6) (.t 5),none⟩] [4,5,6])
 (.seq (.region [⟨(some 7),.fieldAddr 1 (.t 1),none⟩,
 ⟨(some 8),.load none (.t 7),none⟩,
 ⟨(some 9),.fieldAddr 1 (.t 3),none⟩,
 ⟨none,.store 1 (.t 9) (.t 8),none⟩] [7,8,9])
 (.seq (.region [⟨(some 10),.fieldAddr 2 (.t 1),none⟩,
 ⟨(some 11),.load none (.t 10),none⟩,
 ⟨(some 12),.fieldAddr 2 (.t 3),none⟩,
 ⟨none,.store 1 (.t 12) (.t 11),none⟩] [10,11,12])
 (.seq (.region [⟨(some 13),.fieldAddr 3 (.t 1),none⟩,
 ⟨(some 14),.load none (.t 13),none⟩,
 ⟨(some 15),.fieldAddr 3 (.t 3),none⟩,
 ⟨none,.store 1 (.t 15) (.t 14),none⟩] [1,13,14,15])
 (.seq (.region [⟨(some 16),.load (some 4) (.t 3),none⟩,
 ⟨none,.store 4 (.t 2) (.t 16),none⟩] [3,16])
 (.ret)))))))
theorem ac40_ok : cFunc Tryd.prog [] [(0,[0],[]),(1,[],[]),(2,[4,5,6],[]),(3,[7,8,9],[]),(4,[10,11,12],[]),(5,[1,13,14,15],[]),(6,[3,16],[])] Tryd.f40 = some (ac40,[.cell 2 (some 4)],17) := by kernel_rfl
theorem toInstr_calls (x : Ins) (H : Heap) : ACalls Tryd.prog 40 [.agg (x.row.map .d)] H (fun r H' => H' = H ∧ r = .agg (x.row.map .d)) := by
  refine acalls Tryd.func40 (by kernel_rfl) ac40_ok fun hf => ?_
  simp -implicitDefEqProofs [ac40, Ins.row, go_sem, -List.set_cons_succ, -List.set_cons_zero]
  exact hf
theorem toInstrS_calls (l : List Ins) (hl : l.length ≤ reachBytes) (hm : l.length ≤ 1048576) (H : Heap) : ACalls Tryd.prog 20 [.c (.d (.sl (l.map Ins.row)))] H (fun r H' => H' = H ∧ r = .c (.d (.sl (l.map Ins.row)))) := by
  refine acalls Tryd.func20 (by kernel_rfl) ac20_ok fun hf => ?_
  have hlen := reach_i64 hl
  simp -implicitDefEqProofs [ac20, hlen, go_sem, -List.set_cons_succ, -List.set_cons_zero]
  refine ⟨by unfold maxApp; omega, ?_⟩
  refine loop_set (σ := Nat) (fun i => [(4, .c (.d (.int .i64 i)))]) (fun _ => H) (fun i => [.rows (fill Ins.row [.int .i64 0, .int .i64 0, .int .i64 0, .str []] l i)]) (fun i => i ≤ l.length) (fun i => l.length - i) 0 (by simp [setAll, fill_zero]) (Nat.zero_le _) ?_
  intro i hi
  simp -implicitDefEqProofs [setAll, hlen, go_sem, -List.set_cons_succ, -List.set_cons_zero]
  refine ⟨fun hlt => ?_, fun hge => by rw [show i = l.length by omega, fill_all]⟩
  · have hadd : inR .i64 ((i : Int) + 1) := small_i64 (by omega) (by omega)
    refine row_of hlt rfl ?_
    simp -implicitDefEqProofs [Ins.row, go_sem, -List.set_cons_succ, -List.set_cons_zero]
    refine qcall_pure (toInstr_calls l[i]) hf rfl ?_
    simp -implicitDefEqProofs [hadd, hlt, fill_get _ _ _ hlt, Ins.row, go_sem, -List.set_cons_succ, -List.set_cons_zero]
    have hset := fill_set Ins.row [.int .i64 0, .int .i64 0, .int .i64 0, .str []] l hlt
    simp only [Ins.row] at hset
    exact ⟨hf, loop_back (i + 1) (by simp [setAll]; exact hset) hlt (by show l.length - (i + 1) < l.length - i; omega)⟩
theorem instr_ty {row : List D} (h : HasTy Tryd.prog 67 row) : ∃ x : Ins, row = x.row ∧ x.ok := by
  obtain ⟨hl, hf⟩ := h.st_inv Tryd.underlying67
  rw [show Tryd.prog.cellsOf 67 = 4 from by kernel_rfl] at hl
  match row, hl with
  | [a, b, c, d], _ =>
    simp [show Tryd.prog.cellsOf 3 = 1 from by kernel_rfl, show Tryd.prog.cellsOf 9 = 1 from by kernel_rfl] at hf
    obtain ⟨h0, h1, h2, h3⟩ := hf
    obtain ⟨p, e0, i0⟩ := h0.int_inv Tryd.underlying3
    obtain ⟨q, e1, i1⟩ := h1.int_inv Tryd.underlying3
    obtain ⟨r, e2, i2⟩ := h2.int_inv Tryd.underlying3
    obtain ⟨s, e3, i3⟩ := h3.str_inv Tryd.underlying9
    cases e0; cases e1; cases e2; cases e3
    exact ⟨⟨p, q, r, s⟩, rfl, i0, i1, i2, i3⟩
end Go.Proofs.YtnljciooabmogaaDoor

/-
  Texts of instructions, of the program and of the reference.
  Conditions: none.
-/
open Go Go.AM Go.Proofs
namespace Go.Proofs.YtnljciooabmogaaDoor
open Go.ChangeShapes Go.WideShapes Go.ChangeAt Go.RowKit
set_option linter.unusedVariables false
set_option linter.unusedSimpArgs false
set_option maxRecDepth 100000
-- 68 loop.example/prologserver/impl.formOf params 1 ntmps 48
def ac68 : Cd := .seq (.region [⟨(some 2),.alloc [(.d (.str [])),(.d (.bool false)),(.d (.bool false)),(.d (.bool false))],none⟩,
 ⟨(some 3),.mv (.k (.c (.d (.bool false)))),none⟩] [3])
 (.seq (.seq (.region [⟨(some 4),.mv (.t 0),none⟩] [0])
 (.block 0 (.seq (.region [⟨(some 6),.bin .eql (.t 4) (.k (.c (.d (.int .i64 1)))),none⟩,
 ⟨(some 5),.mv (.t 6),none⟩] [6])
 (.cond (.t 5)
 (.seq (.region [⟨(some 7),.build [(.d (.str [])),(.d (.bool false)),(.d (.bool false)),(.d (.bool false))] [(0,1,(.k (.c (.d (.str [103,101,116,118,97,108]))))),(1,1,(.k (.c (.d (.bool true))))),(2,1,(.k (.c (.d (.bool true))))),(3,1,(.k (.c (.d (.bool false)))))],none⟩,
 ⟨none,.store 4 (.t 2) (.t 7),none⟩,
 ⟨(some 3),.mv (.k (.c (.d (.bool true)))),none⟩] [4,5,7])
 (.ret))
 (.seq (.region [⟨(some 9),.bin .eql (.t 4) (.k (.c (.d (.int .i64 2)))),none⟩,
 ⟨(some 8),.mv (.t 9),none⟩] [5,9])
 (.cond (.t 8)
 (.seq (.region [⟨(some 10),.build [(.d (.str [])),(.d (.bool false)),(.d (.bool false)),(.d (.bool false))] [(0,1,(.k (.c (.d (.str [103,101,116,105,110,116]))))),(1,1,(.k (.c (.d (.bool true))))),(2,1,(.k (.c (.d (.bool true))))),(3,1,(.k (.c (.d (.bool false)))))],none⟩,
 ⟨none,.store 4 (.t 2) (.t 10),none⟩,
 ⟨(some 3),.mv (.k (.c (.d (.bool true)))),none⟩] [4,8,10])
 (.ret))
 (.seq (.region [⟨(some 12),.bin .eql (.t 4) (.k (.c (.d (.int .i64 3)))),none⟩,
 ⟨(some 11),.mv (.t 12),none⟩] [8,12])
 (.cond (.t 11)
 (.seq (.region [⟨(some 13),.build [(.d (.str [])),(.d (.bool false)),(.d (.bool false)),(.d (.bool false))] [(0,1,(.k (.c (.d (.str [103,101,116,115,116,114]))))),(1,1,(.k (.c (.d (.bool true))))),(2,1,(.k (.c (.d (.bool true))))),(3,1,(.k (.c (.d (.bool true)))))],none⟩,
 ⟨none,.store 4 (.t 2) (.t 13),none⟩,
 ⟨(some 3),.mv (.k (.c (.d (.bool true)))),none⟩] [4,11,13])
 (.ret))
 (.seq (.region [⟨(some 15),.bin .eql (.t 4) (.k (.c (.d (.int .i64 4)))),none⟩,
 ⟨(some 14),.mv (.t 15),none⟩] [11,15])
 (.cond (.t 14)
 (.seq (.region [⟨(some 16),.build [(.d (.str [])),(.d (.bool false)),(.d (.bool false)),(.d (.bool false))] [(0,1,(.k (.c (.d (.str [117,110,105,118,97,114]))))),(1,1,(.k (.c (.d (.bool true))))),(2,1,(.k (.c (.d (.bool false))))),(3,1,(.k (.c (.d (.bool false)))))],none⟩,
 ⟨none,.store 4 (.t 2) (.t 16),none⟩,
 ⟨(some 3),.mv (.k (.c (.d (.bool true)))),none⟩] [4,14,16])
 (.ret))
 (.seq (.region [⟨(some 18),.bin .eql (.t 4) (.k (.c (.d (.int .i64 5)))),none⟩,
 ⟨(some 17),.mv (.t 18),none⟩] [14,18])
 (.cond (.t 17)
 (.seq (.region [⟨(some 19),.build [(.d (.str [])),(.d (.bool false)),(.d (.bool false)),(.d (.bool false))] [(0,1,(.k (.c (.d (.str [117,110,105,118,97,108]))))),(1,1,(.k (.c (.d (.bool true))))),(2,1,(.k (.c (.d (.bool false))))),(3,1,(.k (.c (.d (.bool false)))))],none⟩,
 ⟨none,.store 4 (.t 2) (.t 19),none⟩,
 ⟨(some 3),.mv (.k (.c (.d (.bool true)))),none⟩] [4,17,19])
 (.ret))
 (.seq (.region [⟨(some 21),.bin .eql (.t 4) (.k (.c (.d (.int .i64 6)))),none⟩,
 ⟨(some 20),.mv (.t 21),none⟩] [17,21])
 (.cond (.t 20)
 (.seq (.region [⟨(some 22),.build [(.d (.str [])),(.d (.bool false)),(.d (.bool false)),(.d (.bool false))] [(0,1,(.k (.c (.d (.str [117,110,105,105,110,116]))))),(1,1,(.k (.c (.d (.bool true))))),(2,1,(.k (.c (.d (.bool false))))),(3,1,(.k (.c (.d (.bool false)))))],none⟩,
 ⟨none,.store 4 (.t 2) (.t 22),none⟩,
 ⟨(some 3),.mv (.k (.c (.d (.bool true)))),none⟩] [4,20,22])
 (.ret))
 (.seq (.region [⟨(some 24),.bin .eql (.t 4) (.k (.c (.d (.int .i64 7)))),none⟩,
 ⟨(some 23),.mv (.t 24),none⟩] [20,24])
 (.cond (.t 23)
 (.seq (.region [⟨(some 25),.build [(.d (.str [])),(.d (.bool false)),(.d (.bool false)),(.d (.bool false))] [(0,1,(.k (.c (.d (.str [115,101,116,115,116,114]))))),(1,1,(.k (.c (.d (.bool true))))),(2,1,(.k (.c (.d (.bool true))))),(3,1,(.k (.c (.d (.bool true)))))],none⟩,
 ⟨none,.store 4 (.t 2) (.t 25),none⟩,
 ⟨(some 3),.mv (.k (.c (.d (.bool true)))),none⟩] [4,23,25])
 (.ret))
 (.seq (.region [⟨(some 27),.bin .eql (.t 4) (.k (.c (.d (.int .i64 8)))),none⟩,
 ⟨(some 26),.mv (.t 27),none⟩] [23,27])
 (.cond (.t 26)
 (.seq (.region [⟨(some 28),.build [(.d (.str [])),(.d (.bool false)),(.d (.bool false)),(.d (.bool false))] [(0,1,(.k (.c (.d (.str [112,117,116,118,97,114]))))),(1,1,(.k (.c (.d (.bool true))))),(2,1,(.k (.c (.d (.bool true))))),(3,1,(.k (.c (.d (.bool false)))))],none⟩,
 ⟨none,.store 4 (.t 2) (.t 28),none⟩,
 ⟨(some 3),.mv (.k (.c (.d (.bool true)))),none⟩] [4,26,28])
 (.ret))
 (.seq (.region [⟨(some 30),.bin .eql (.t 4) (.k (.c (.d (.int .i64 9)))),none⟩,
 ⟨(some 29),.mv (.t 30),none⟩] [26,30])
 (.cond (.t 29)
 (.seq (.region [⟨(some 31),.build [(.d (.str [])),(.d (.bool false)),(.d (.bool false)),(.d (.bool false))] [(0,1,(.k (.c (.d (.str [112,117,116,118,97,108]))))),(1,1,(.k (.c (.d (.bool true))))),(2,1,(.k (.c (.d (.bool true))))),(3,1,(.k (.c (.d (.bool false)))))],none⟩,
 ⟨none,.store 4 (.t 2) (.t 31),none⟩,
 ⟨(some 3),.mv (.k (.c (.d (.bool true)))),none⟩] [4,29,31])
 (.ret))
 (.seq (.region [⟨(some 33),.bin .eql (.t 4) (.k (.c (.d (.int .i64 10)))),none⟩,
 ⟨(some 32),.mv (.t 33),none⟩] [29,33])
 (.cond (.t 32)
 (.seq (.region [⟨(some 34),.build [(.d (.str [])),(.d (.bool false)),(.d (.bool false)),(.d (.bool false))] [(0,1,(.k (.c (.d (.str [112,117,116,105,110,116]))))),(1,1,(.k (.c (.d (.bool true))))),(2,1,(.k (.c (.d (.bool true))))),(3,1,(.k (.c (.d (.bool false)))))],none⟩,
 ⟨none,.store 4 (.t 2) (.t 34),none⟩,
 ⟨(some 3),.mv (.k (.c (.d (.bool true)))),none⟩] [4,32,34])
 (.ret))
 (.seq (.region [⟨(some 36),.bin .eql (.t 4) (.k (.c (.d (.int .i64 11)))),none⟩,
 ⟨(some 35),.mv (.t 36),none⟩] [32,36])
 (.cond (.t 35)
 (.seq (.region [⟨(some 37),.build [(.d (.str [])),(.d (.bool false)),(.d (.bool false)),(.d (.bool false))] [(0,1,(.k (.c (.d (.str [99,97,108,108]))))),(1,1,(.k (.c (.d (.bool true))))),(2,1,(.k (.c (.d (.bool false))))),(3,1,(.k (.c (.d (.bool true)))))],none⟩,
 ⟨none,.store 4 (.t 2) (.t 37),none⟩,
 ⟨(some 3),.mv (.k (.c (.d (.bool true)))),none⟩] [4,35,37])
 (.ret))
 (.seq (.region [⟨(some 39),.bin .eql (.t 4) (.k (.c (.d (.int .i64 12)))),none⟩,
 ⟨(some 38),.mv (.t 39),none⟩] [35,39])
 (.cond (.t 38)
 (.seq (.region [⟨(some 40),.build [(.d (.str [])),(.d (.bool false)),(.d (.bool false)),(.d (.bool false))] [(0,1,(.k (.c (.d (.str [98,117,105,108,116]))))),(1,1,(.k (.c (.d (.bool true))))),(2,1,(.k (.c (.d (.bool false))))),(3,1,(.k (.c (.d (.bool true)))))],none⟩,
 ⟨none,.store 4 (.t 2) (.t 40),none⟩,
 ⟨(some 3),.mv (.k (.c (.d (.bool true)))),none⟩] [4,38,40])
 (.ret))
 (.seq (.region [⟨(some 42),.bin .eql (.t 4) (.k (.c (.d (.int .i64 13)))),none⟩,
 ⟨(some 41),.mv (.t 42),none⟩] [38,42])
 (.cond (.t 41)
 (.seq (.region [⟨(some 43),.build [(.d (.str [])),(.d (.bool false)),(.d (.bool false)),(.d (.bool false))] [(0,1,(.k (.c (.d (.str [99,117,116]))))),(1,1,(.k (.c (.d (.bool false))))),(2,1,(.k (.c (.d (.bool false))))),(3,1,(.k (.c (.d (.bool false)))))],none⟩,
 ⟨none,.store 4 (.t 2) (.t 43),none⟩,
 ⟨(some 3),.mv (.k (.c (.d (.bool true)))),none⟩] [4,41,43])
 (.ret))
 (.seq (.region [⟨(some 45),.bin .eql (.t 4) (.k (.c (.d (.int .i64 14)))),none⟩,
 ⟨(some 44),.mv (.t 45),none⟩] [4,41,45])
 (.cond (.t 44)
 (.seq (.region [⟨(some 46),.build [(.d (.str [])),(.d (.bool false)),(.d (.bool false)),(.d (.bool false))] [(0,1,(.k (.c (.d (.str [101,110,100]))))),(1,1,(.k (.c (.d (.bool false))))),(2,1,(.k (.c (.d (.bool false))))),(3,1,(.k (.c (.d (.bool false)))))],none⟩,
 ⟨none,.store 4 (.t 2) (.t 46),none⟩,
 ⟨(some 3),.mv (.k (.c (.d (.bool true)))),none⟩] [44,46])
 (.ret))
 (.skip)))))))))))))))))))))))))))))))
 (.seq (.region [⟨(some 47),.build [(.d (.str [])),(.d (.bool false)),(.d (.bool false)),(.d (.bool false))] [],none⟩,
 ⟨none,.store 4 (.t 2) (.t 47),none⟩,
 ⟨(some 3),.mv (.k (.c (.d (.bool false)))),none⟩] [44,47])
 (.ret)))
theorem ac68_ok : cFunc Tryd.prog [] [(0,[3],[]),(1,[0],[]),(2,[6],[]),(3,[4,5,7],[]),(4,[5,9],[]),(5,[4,8,10],[]),(6,[8,12],[]),(7,[4,11,13],[]),(8,[11,15],[]),(9,[4,14,16],[]),(10,[14,18],[]),(11,[4,17,19],[]),(12,[17,21],[]),(13,[4,20,22],[]),(14,[20,24],[]),(15,[4,23,25],[]),(16,[23,27],[]),(17,[4,26,28],[]),(18,[26,30],[]),(19,[4,29,31],[]),(20,[29,33],[]),(21,[4,32,34],[]),(22,[32,36],[]),(23,[4,35,37],[]),(24,[35,39],[]),(25,[4,38,40],[]),(26,[38,42],[]),(27,[4,41,43],[]),(28,[4,41,45],[]),(29,[44,46],[]),(30,[44,47],[])] Tryd.f68 = some (ac68,[.cell 2 (some 4),.tmp 3],48) := by kernel_rfl
-- 64 loop.example/prologserver/spec.l8Shape params 1 ntmps 23
def ac64 : Cd := .seq (.region [⟨(some 2),.mv (.k (.c (.d (.str [])))),none⟩] [2])
 (.seq (.seq (.region [⟨(some 3),.mv (.t 0),none⟩] [0])
 (.block 0 (.seq (.seq (.region [⟨(some 5),.bin .eql (.t 3) (.k (.c (.d (.int .i64 1)))),none⟩,
 ⟨(some 4),.mv (.t 5),none⟩] [5])
 (.cond (.t 4)
 (.skip)
 (.seq (.region [⟨(some 6),.bin .eql (.t 3) (.k (.c (.d (.int .i64 2)))),none⟩,
 ⟨(some 4),.mv (.t 6),none⟩] [6])
 (.cond (.t 4)
 (.skip)
 (.seq (.region [⟨(some 7),.bin .eql (.t 3) (.k (.c (.d (.int .i64 8)))),none⟩,
 ⟨(some 4),.mv (.t 7),none⟩] [7])
 (.cond (.t 4)
 (.skip)
 (.seq (.region [⟨(some 8),.bin .eql (.t 3) (.k (.c (.d (.int .i64 9)))),none⟩,
 ⟨(some 4),.mv (.t 8),none⟩] [8])
 (.cond (.t 4)
 (.skip)
 (.region [⟨(some 9),.bin .eql (.t 3) (.k (.c (.d (.int .i64 10)))),none⟩,
 ⟨(some 4),.mv (.t 9),none⟩] [9])))))))))
 (.cond (.t 4)
 (.seq (.region [⟨(some 2),.mv (.k (.c (.d (.str [97,98])))),none⟩] [3,4])
 (.ret))
 (.seq (.seq (.region [⟨(some 11),.bin .eql (.t 3) (.k (.c (.d (.int .i64 3)))),none⟩,
 ⟨(some 10),.mv (.t 11),none⟩] [4,11])
 (.cond (.t 10)
 (.skip)
 (.region [⟨(some 12),.bin .eql (.t 3) (.k (.c (.d (.int .i64 7)))),none⟩,
 ⟨(some 10),.mv (.t 12),none⟩] [12])))
 (.cond (.t 10)
 (.seq (.region [⟨(some 2),.mv (.k (.c (.d (.str [97,98,110])))),none⟩] [3,10])
 (.ret))
 (.seq (.seq (.region [⟨(some 14),.bin .eql (.t 3) (.k (.c (.d (.int .i64 4)))),none⟩,
 ⟨(some 13),.mv (.t 14),none⟩] [10,14])
 (.cond (.t 13)
 (.skip)
 (.seq (.region [⟨(some 15),.bin .eql (.t 3) (.k (.c (.d (.int .i64 5)))),none⟩,
 ⟨(some 13),.mv (.t 15),none⟩] [15])
 (.cond (.t 13)
 (.skip)
 (.region [⟨(some 16),.bin .eql (.t 3) (.k (.c (.d (.int .i64 6)))),none⟩,
 ⟨(some 13),.mv (.t 16),none⟩] [16])))))
 (.cond (.t 13)
 (.seq (.region [⟨(some 2),.mv (.k (.c (.d (.str [97])))),none⟩] [3,13])
 (.ret))
 (.seq (.seq (.region [⟨(some 18),.bin .eql (.t 3) (.k (.c (.d (.int .i64 11)))),none⟩,
 ⟨(some 17),.mv (.t 18),none⟩] [13,18])
 (.cond (.t 17)
 (.skip)
 (.region [⟨(some 19),.bin .eql (.t 3) (.k (.c (.d (.int .i64 12)))),none⟩,
 ⟨(some 17),.mv (.t 19),none⟩] [19])))
 (.cond (.t 17)
 (.seq (.region [⟨(some 2),.mv (.k (.c (.d (.str [97,110])))),none⟩] [3,17])
 (.ret))
 (.seq (.seq (.region [⟨(some 21),.bin .eql (.t 3) (.k (.c (.d (.int .i64 13)))),none⟩,
 ⟨(some 20),.mv (.t 21),none⟩] [17,21])
 (.cond (.t 20)
 (.skip)
 (.region [⟨(some 22),.bin .eql (.t 3) (.k (.c (.d (.int .i64 14)))),none⟩,
 ⟨(some 20),.mv (.t 22),none⟩] [3,22])))
 (.cond (.t 20)
 (.seq (.region [⟨(some 2),.mv (.k (.c (.d (.str [])))),none⟩] [3,20])
 (.ret))
 (.skip)))))))))))))
 (.seq (.region [⟨(some 2),.mv (.k (.c (.d (.str [63])))),none⟩] [3,20])
 (.ret)))
theorem ac64_ok : cFunc Tryd.prog [] [(0,[2],[]),(1,[0],[]),(2,[5],[]),(3,[6],[]),(4,[7],[]),(5,[8],[]),(6,[9],[]),(7,[3,4],[]),(8,[4,11],[]),(9,[12],[]),(10,[3,10],[]),(11,[10,14],[]),(12,[15],[]),(13,[16],[]),(14,[3,13],[]),(15,[13,18],[]),(16,[19],[]),(17,[3,17],[]),(18,[17,21],[]),(19,[3,22],[]),(20,[3,20],[]),(21,[3,20],[])] Tryd.f64 = some (ac64,[.tmp 2],23) := by kernel_rfl
-- 66 loop.example/prologserver/spec.l8Names params 0 ntmps 2
def ac66 : Cd := .seq (.region [⟨(some 0),.mv (.k (.c (.full []))),none⟩] [0])
 (.seq (.region [⟨(some 1),.buildSlice 1 15 [(.str [])] [(0,(.k (.c (.d (.str []))))),(1,(.k (.c (.d (.str [103,101,116,118,97,108]))))),(2,(.k (.c (.d (.str [103,101,116,105,110,116]))))),(3,(.k (.c (.d (.str [103,101,116,115,116,114]))))),(4,(.k (.c (.d (.str [117,110,105,118,97,114]))))),(5,(.k (.c (.d (.str [117,110,105,118,97,108]))))),(6,(.k (.c (.d (.str [117,110,105,105,110,116]))))),(7,(.k (.c (.d (.str [115,101,116,115,116,114]))))),(8,(.k (.c (.d (.str [112,117,116,118,97,114]))))),(9,(.k (.c (.d (.str [112,117,116,118,97,108]))))),(10,(.k (.c (.d (.str [112,117,116,105,110,116]))))),(11,(.k (.c (.d (.str [99,97,108,108]))))),(12,(.k (.c (.d (.str [98,117,105,108,116]))))),(13,(.k (.c (.d (.str [99,117,116]))))),(14,(.k (.c (.d (.str [101,110,100])))))],none⟩,
 ⟨(some 0),.mv (.t 1),none⟩] [1])
 (.ret))
theorem ac66_ok : cFunc Tryd.prog [] [(0,[0],[]),(1,[1],[])] Tryd.f66 = some (ac66,[.tmp 0],2) := by kernel_rfl
-- 38 loop.example/prologserver/spec.l8Instr params 1 ntmps 81
def ac38 : Cd := .seq (.region [⟨(some 1),.box (.t 0),none⟩,
 ⟨(some 2),.mv (.k (.c (.d (.bool false)))),none⟩] [0,2])
 (.seq (.region [⟨(some 6),.fieldAddr 0 (.t 1),none⟩,
 ⟨(some 7),.load none (.t 6),none⟩,
 ⟨(some 8),.qcall 64 [(.t 7)],none⟩,
 ⟨(some 3),.mv (.t 8),none⟩] [6,7,8])
 (.seq (.seq (.region [⟨(some 9),.mv (.t 3),none⟩,
 ⟨(some 10),.bin .eql (.t 9) (.k (.c (.d (.str [63])))),none⟩,
 ⟨(some 11),.mv (.t 10),none⟩,
 ⟨(some 12),.fieldAddr 1 (.t 1),some (11,false)⟩,
 ⟨(some 13),.load none (.t 12),some (11,false)⟩,
 ⟨(some 14),.bin .lss (.t 13) (.k (.c (.d (.int .i64 (-999))))),some (11,false)⟩,
 ⟨(some 15),.pick (.t 11) (.k (.c (.d (.bool true)))) (.t 14),none⟩,
 ⟨(some 16),.mv (.t 15),none⟩,
 ⟨(some 17),.fieldAddr 1 (.t 1),some (16,false)⟩,
 ⟨(some 18),.load none (.t 17),some (16,false)⟩,
 ⟨(some 19),.bin .gtr (.t 18) (.k (.c (.d (.int .i64 999)))),some (16,false)⟩,
 ⟨(some 20),.pick (.t 16) (.k (.c (.d (.bool true)))) (.t 19),none⟩,
 ⟨(some 21),.mv (.t 20),none⟩,
 ⟨(some 22),.fieldAddr 2 (.t 1),some (21,false)⟩,
 ⟨(some 23),.load none (.t 22),some (21,false)⟩,
 ⟨(some 24),.bin .lss (.t 23) (.k (.c (.d (.int .i64 0)))),some (21,false)⟩,
 ⟨(some 25),.pick (.t 21) (.k (.c (.d (.bool true)))) (.t 24),none⟩,
 ⟨(some 26),.mv (.t 25),none⟩,
 ⟨(some 27),.fieldAddr 2 (.t 1),some (26,false)⟩,
 ⟨(some 28),.load none (.t 27),some (26,false)⟩,
 ⟨(some 29),.bin .gtr (.t 28) (.k (.c (.d (.int .i64 999)))),some (26,false)⟩,
 ⟨(some 30),.pick (.t 26) (.k (.c (.d (.bool true)))) (.t 29),none⟩] [9,10,11,12,13,14,15,16,17,18,19,20,21,22,23,24,25,26,27,28,29])
 (.cond (.t 30)
 (.seq (.region [⟨(some 2),.mv (.k (.c (.d (.bool false)))),none⟩] [1,3,30])
 (.ret))
 (.skip)))
 (.seq (.seq (.region [⟨(some 31),.mv (.t 3),none⟩,
 ⟨(some 32),.bin .eql (.t 31) (.k (.c (.d (.str [])))),none⟩] [2,30,31])
 (.cond (.t 32)
 (.seq (.region [⟨(some 33),.fieldAddr 1 (.t 1),none⟩,
 ⟨(some 34),.load none (.t 33),none⟩,
 ⟨(some 35),.bin .eql (.t 34) (.k (.c (.d (.int .i64 0)))),none⟩,
 ⟨(some 36),.mv (.t 35),none⟩,
 ⟨(some 37),.fieldAddr 2 (.t 1),some (36,true)⟩,
 ⟨(some 38),.load none (.t 37),some (36,true)⟩,
 ⟨(some 39),.bin .eql (.t 38) (.k (.c (.d (.int .i64 0)))),some (36,true)⟩,
 ⟨(some 40),.pick (.t 36) (.t 39) (.k (.c (.d (.bool false)))),none⟩,
 ⟨(some 41),.mv (.t 40),none⟩,
 ⟨(some 42),.fieldAddr 3 (.t 1),some (41,true)⟩,
 ⟨(some 43),.load none (.t 42),some (41,true)⟩,
 ⟨(some 44),.bin .eql (.t 43) (.k (.c (.d (.str [])))),some (41,true)⟩,
 ⟨(some 45),.pick (.t 41) (.t 44) (.k (.c (.d (.bool false)))),none⟩,
 ⟨(some 2),.mv (.t 45),none⟩] [1,3,32,33,34,35,36,37,38,39,40,41,42,43,44,45])
 (.ret))
 (.skip)))
 (.seq (.region [⟨(some 46),.mv (.t 3),none⟩,
 ⟨(some 47),.bin .eql (.t 46) (.k (.c (.d (.str [97,98])))),none⟩,
 ⟨(some 48),.mv (.t 47),none⟩,
 ⟨(some 49),.mv (.t 3),some (48,false)⟩,
 ⟨(some 50),.bin .eql (.t 49) (.k (.c (.d (.str [97,98,110])))),some (48,false)⟩,
 ⟨(some 51),.pick (.t 48) (.k (.c (.d (.bool true)))) (.t 50),none⟩,
 ⟨(some 4),.mv (.t 51),none⟩] [2,32,46,47,48,49,50,51])
 (.seq (.region [⟨(some 52),.mv (.t 3),none⟩,
 ⟨(some 53),.bin .eql (.t 52) (.k (.c (.d (.str [97,98,110])))),none⟩,
 ⟨(some 54),.mv (.t 53),none⟩,
 ⟨(some 55),.mv (.t 3),some (54,false)⟩,
 ⟨(some 56),.bin .eql (.t 55) (.k (.c (.d (.str [97,110])))),some (54,false)⟩,
 ⟨(some 57),.pick (.t 54) (.k (.c (.d (.bool true)))) (.t 56),none⟩,
 ⟨(some 5),.mv (.t 57),none⟩] [3,52,53,54,55,56,57])
 (.seq (.region [⟨(some 58),.mv (.t 4),none⟩,
 ⟨(some 59),.mv (.t 58),none⟩,
 ⟨(some 60),.fieldAddr 2 (.t 1),some (59,false)⟩,
 ⟨(some 61),.load none (.t 60),some (59,false)⟩,
 ⟨(some 62),.bin .eql (.t 61) (.k (.c (.d (.int .i64 0)))),some (59,false)⟩,
 ⟨(some 63),.pick (.t 59) (.k (.c (.d (.bool true)))) (.t 62),none⟩,
 ⟨(some 64),.mv (.t 63),none⟩,
 ⟨(some 65),.mv (.t 5),some (64,true)⟩,
 ⟨(some 66),.mv (.t 65),some (64,true)⟩,
 ⟨(some 67),.fieldAddr 3 (.t 1),some (66,true)⟩,
 ⟨(some 68),.load none (.t 67),some (66,true)⟩,
 ⟨(some 69),.qcall 65 [(.t 68)],some (66,true)⟩,
 ⟨(some 70),.pick (.t 66) (.t 69) (.k (.c (.d (.bool false)))),some (64,true)⟩,
 ⟨(some 71),.mv (.t 70),some (64,true)⟩,
 ⟨(some 72),.mv (.t 5),some (71,false)⟩,
 ⟨(some 73),.un .not (.t 72),some (71,false)⟩,
 ⟨(some 74),.mv (.t 73),some (71,false)⟩,
 ⟨(some 75),.fieldAddr 3 (.t 1),some (74,true)⟩,
 ⟨(some 76),.load none (.t 75),some (74,true)⟩,
 ⟨(some 77),.bin .eql (.t 76) (.k (.c (.d (.str [])))),some (74,true)⟩,
 ⟨(some 78),.pick (.t 74) (.t 77) (.k (.c (.d (.bool false)))),some (71,false)⟩,
 ⟨(some 79),.pick (.t 71) (.k (.c (.d (.bool true)))) (.t 78),some (64,true)⟩,
 ⟨(some 80),.pick (.t 64) (.t 79) (.k (.c (.d (.bool false)))),none⟩,
 ⟨(some 2),.mv (.t 80),none⟩] [1,4,5,58,59,60,61,62,63,64,65,66,67,68,69,70,71,72,73,74,75,76,77,78,79,80])
 (.ret)))))))
theorem ac38_ok : cFunc Tryd.prog [1000064,1000065] [(0,[0,2],[]),(1,[6,7,8],[]),(2,[9,10,11,12,13,14,15,16,17,18,19,20,21,22,23,24,25,26,27,28,29],[]),(3,[1,3,30],[]),(4,[2,30,31],[]),(5,[1,3,32,33,34,35,36,37,38,39,40,41,42,43,44,45],[]),(6,[2,32,46,47,48,49,50,51],[]),(7,[3,52,53,54,55,56,57],[]),(8,[1,4,5,58,59,60,61,62,63,64,65,66,67,68,69,70,71,72,73,74,75,76,77,78,79,80],[])] Tryd.f38 = some (ac38,[.tmp 2],81) := by kernel_rfl
-- 39 loop.example/prologserver/spec.FormatInstr params 1 ntmps 48
def ac39 : Cd := .seq (.region [⟨(some 1),.box (.t 0),none⟩,
 ⟨(some 2),.mv (.k (.c (.d (.str [])))),none⟩] [0,2])
 (.seq (.seq (.region [⟨(some 5),.load (some 4) (.t 1),none⟩,
 ⟨(some 6),.qcall 38 [(.t 5)],none⟩,
 ⟨(some 7),.un .not (.t 6),none⟩] [5,6])
 (.cond (.t 7)
 (.seq (.region [⟨(some 2),.mv (.k (.c (.d (.str [])))),none⟩] [1,7])
 (.ret))
 (.skip)))
 (.seq (.region [⟨(some 9),.fieldAddr 0 (.t 1),none⟩,
 ⟨(some 8),.qcall 66 [],none⟩,
 ⟨(some 10),.load none (.t 9),none⟩,
 ⟨(some 11),.indexAddr 1 (.t 8) (.t 10),none⟩,
 ⟨(some 12),.load none (.t 11),none⟩,
 ⟨(some 3),.mv (.t 12),none⟩] [2,7,8,9,10,11,12])
 (.seq (.region [⟨(some 13),.fieldAddr 0 (.t 1),none⟩,
 ⟨(some 14),.load none (.t 13),none⟩,
 ⟨(some 15),.qcall 64 [(.t 14)],none⟩,
 ⟨(some 4),.mv (.t 15),none⟩] [13,14,15])
 (.seq (.seq (.region [⟨(some 16),.mv (.t 4),none⟩,
 ⟨(some 17),.bin .neq (.t 16) (.k (.c (.d (.str [])))),none⟩] [16])
 (.cond (.t 17)
 (.region [⟨(some 18),.mv (.t 3),none⟩,
 ⟨(some 19),.bin .add (.t 18) (.k (.c (.d (.str [32])))),none⟩,
 ⟨(some 20),.fieldAddr 1 (.t 1),none⟩,
 ⟨(some 21),.load none (.t 20),none⟩,
 ⟨(some 22),.qcall 67 [(.t 21)],none⟩,
 ⟨(some 23),.bin .add (.t 19) (.t 22),none⟩,
 ⟨(some 3),.mv (.t 23),none⟩] [17,18,19,20,21,22,23])
 (.skip)))
 (.seq (.seq (.region [⟨(some 24),.mv (.t 4),none⟩,
 ⟨(some 25),.bin .eql (.t 24) (.k (.c (.d (.str [97,98])))),none⟩,
 ⟨(some 26),.mv (.t 25),none⟩,
 ⟨(some 27),.mv (.t 4),some (26,false)⟩,
 ⟨(some 28),.bin .eql (.t 27) (.k (.c (.d (.str [97,98,110])))),some (26,false)⟩,
 ⟨(some 29),.pick (.t 26) (.k (.c (.d (.bool true)))) (.t 28),none⟩] [17,24,25,26,27,28])
 (.cond (.t 29)
 (.region [⟨(some 30),.mv (.t 3),none⟩,
 ⟨(some 31),.bin .add (.t 30) (.k (.c (.d (.str [32])))),none⟩,
 ⟨(some 32),.fieldAddr 2 (.t 1),none⟩,
 ⟨(some 33),.load none (.t 32),none⟩,
 ⟨(some 34),.qcall 67 [(.t 33)],none⟩,
 ⟨(some 35),.bin .add (.t 31) (.t 34),none⟩,
 ⟨(some 3),.mv (.t 35),none⟩] [29,30,31,32,33,34,35])
 (.skip)))
 (.seq (.seq (.region [⟨(some 36),.mv (.t 4),none⟩,
 ⟨(some 37),.bin .eql (.t 36) (.k (.c (.d (.str [97,110])))),none⟩,
 ⟨(some 38),.mv (.t 37),none⟩,
 ⟨(some 39),.mv (.t 4),some (38,false)⟩,
 ⟨(some 40),.bin .eql (.t 39) (.k (.c (.d (.str [97,98,110])))),some (38,false)⟩,
 ⟨(some 41),.pick (.t 38) (.k (.c (.d (.bool true)))) (.t 40),none⟩] [4,29,36,37,38,39,40])
 (.cond (.t 41)
 (.region [⟨(some 42),.mv (.t 3),none⟩,
 ⟨(some 43),.bin .add (.t 42) (.k (.c (.d (.str [32])))),none⟩,
 ⟨(some 44),.fieldAddr 3 (.t 1),none⟩,
 ⟨(some 45),.load none (.t 44),none⟩,
 ⟨(some 46),.bin .add (.t 43) (.t 45),none⟩,
 ⟨(some 3),.mv (.t 46),none⟩] [1,41,42,43,44,45,46])
 (.skip)))
 (.seq (.region [⟨(some 47),.mv (.t 3),none⟩,
 ⟨(some 2),.mv (.t 47),none⟩] [1,3,41,47])
 (.ret))))))))
theorem ac39_ok : cFunc Tryd.prog [1000038,1000064,1000066,1000067] [(0,[0,2],[]),(1,[5,6],[]),(2,[1,7],[]),(3,[2,7,8,9,10,11,12],[1,0,2,3,4,5]),(4,[13,14,15],[]),(5,[16],[]),(6,[17,18,19,20,21,22,23],[]),(7,[17,24,25,26,27,28],[]),(8,[29,30,31,32,33,34,35],[]),(9,[4,29,36,37,38,39,40],[]),(10,[1,41,42,43,44,45,46],[]),(11,[1,3,41,47],[])] Tryd.f39 = some (ac39,[.tmp 2],48) := by kernel_rfl
-- 41 loop.example/prologserver/impl.FormatInstr params 1 ntmps 92
def ac41 : Cd := .seq (.region [⟨(some 1),.box (.t 0),none⟩,
 ⟨(some 2),.mv (.k (.c (.d (.str [])))),none⟩] [0,2])
 (.seq (.region [⟨(some 7),.fieldAddr 0 (.t 1),none⟩,
 ⟨(some 8),.load none (.t 7),none⟩,
 ⟨(some 9),.qcall 68 [(.t 8)],none⟩,
 ⟨(some 6),.mv (.t 9),none⟩,
 ⟨(some 10),.extract 0 (.t 6),none⟩,
 ⟨(some 11),.extract 1 (.t 6),none⟩,
 ⟨(some 3),.alloc [(.d (.str [])),(.d (.bool false)),(.d (.bool false)),(.d (.bool false))],none⟩,
 ⟨none,.store 4 (.t 3) (.t 10),none⟩,
 ⟨(some 4),.mv (.t 11),none⟩] [6,7,8,9,10,11])
 (.seq (.seq (.region [⟨(some 12),.mv (.t 4),none⟩,
 ⟨(some 13),.un .not (.t 12),none⟩,
 ⟨(some 14),.mv (.t 13),none⟩,
 ⟨(some 15),.fieldAddr 1 (.t 1),some (14,false)⟩,
 ⟨(some 16),.load none (.t 15),some (14,false)⟩,
 ⟨(some 17),.qcall 69 [(.t 16),(.k (.c (.d (.int .i64 (-999))))),(.k (.c (.d (.int .i64 999))))],some (14,false)⟩,
 ⟨(some 18),.un .not (.t 17),some (14,false)⟩,
 ⟨(some 19),.pick (.t 14) (.k (.c (.d (.bool true)))) (.t 18),none⟩,
 ⟨(some 20),.mv (.t 19),none⟩,
 ⟨(some 21),.fieldAddr 2 (.t 1),some (20,false)⟩,
 ⟨(some 22),.load none (.t 21),some (20,false)⟩,
 ⟨(some 23),.qcall 69 [(.t 22),(.k (.c (.d (.int .i64 0)))),(.k (.c (.d (.int .i64 999))))],some (20,false)⟩,
 ⟨(some 24),.un .not (.t 23),some (20,false)⟩,
 ⟨(some 25),.pick (.t 20) (.k (.c (.d (.bool true)))) (.t 24),none⟩,
 ⟨(some 26),.mv (.t 25),none⟩,
 ⟨(some 27),.fieldAddr 1 (.t 3),some (26,false)⟩,
 ⟨(some 28),.load none (.t 27),some (26,false)⟩,
 ⟨(some 29),.un .not (.t 28),some (26,false)⟩,
 ⟨(some 30),.mv (.t 29),some (26,false)⟩,
 ⟨(some 31),.fieldAddr 1 (.t 1),some (30,true)⟩,
 ⟨(some 32),.load none (.t 31),some (30,true)⟩,
 ⟨(some 33),.bin .neq (.t 32) (.k (.c (.d (.int .i64 0)))),some (30,true)⟩,
 ⟨(some 34),.pick (.t 30) (.t 33) (.k (.c (.d (.bool false)))),some (26,false)⟩,
 ⟨(some 35),.pick (.t 26) (.k (.c (.d (.bool true)))) (.t 34),none⟩,
 ⟨(some 36),.mv (.t 35),none⟩,
 ⟨(some 37),.fieldAddr 2 (.t 3),some (36,false)⟩,
 ⟨(some 38),.load none (.t 37),some (36,false)⟩,
 ⟨(some 39),.un .not (.t 38),some (36,false)⟩,
 ⟨(some 40),.mv (.t 39),some (36,false)⟩,
 ⟨(some 41),.fieldAddr 2 (.t 1),some (40,true)⟩,
 ⟨(some 42),.load none (.t 41),some (40,true)⟩,
 ⟨(some 43),.bin .neq (.t 42) (.k (.c (.d (.int .i64 0)))),some (40,true)⟩,
 ⟨(some 44),.pick (.t 40) (.t 43) (.k (.c (.d (.bool false)))),some (36,false)⟩,
 ⟨(some 45),.pick (.t 36) (.k (.c (.d (.bool true)))) (.t 44),none⟩,
 ⟨(some 46),.mv (.t 45),none⟩,
 ⟨(some 47),.fieldAddr 3 (.t 3),some (46,false)⟩,
 ⟨(some 48),.load none (.t 47),some (46,false)⟩,
 ⟨(some 49),.un .not (.t 48),some (46,false)⟩,
 ⟨(some 50),.mv (.t 49),some (46,false)⟩,
 ⟨(some 51),.fieldAddr 3 (.t 1),some (50,true)⟩,
 ⟨(some 52),.load none (.t 51),some (50,true)⟩,
 ⟨(some 53),.bin .neq (.t 52) (.k (.c (.d (.str [])))),some (50,true)⟩,
 ⟨(some 54),.pick (.t 50) (.t 53) (.k (.c (.d (.bool false)))),some (46,false)⟩,
 ⟨(some 55),.pick (.t 46) (.k (.c (.d (.bool true)))) (.t 54),none⟩,
 ⟨(some 56),.mv (.t 55),none⟩,
 ⟨(some 57),.fieldAddr 3 (.t 3),some (56,false)⟩,
 ⟨(some 58),.load none (.t 57),some (56,false)⟩,
 ⟨(some 59),.mv (.t 58),some (56,false)⟩,
 ⟨(some 60),.fieldAddr 3 (.t 1),some (59,true)⟩,
 ⟨(some 61),.load none (.t 60),some (59,true)⟩,
 ⟨(some 62),.qcall 70 [(.t 61)],some (59,true)⟩,
 ⟨(some 63),.un .not (.t 62),some (59,true)⟩,
 ⟨(some 64),.pick (.t 59) (.t 63) (.k (.c (.d (.bool false)))),some (56,false)⟩,
 ⟨(some 65),.pick (.t 56) (.k (.c (.d (.bool true)))) (.t 64),none⟩] [4,12,13,14,15,16,17,18,19,20,21,22,23,24,25,26,27,28,29,30,31,32,33,34,35,36,37,38,39,40,41,42,43,44,45,46,47,48,49,50,51,52,53,54,55,56,57,58,59,60,61,62,63,64])
 (.cond (.t 65)
 (.seq (.region [⟨(some 2),.mv (.k (.c (.d (.str [])))),none⟩] [1,3,65])
 (.ret))
 (.skip)))
 (.seq (.region [⟨(some 66),.fieldAddr 0 (.t 3),none⟩,
 ⟨(some 67),.load none (.t 66),none⟩,
 ⟨(some 5),.mv (.t 67),none⟩] [2,65,66,67])
 (.seq (.seq (.region [⟨(some 68),.fieldAddr 1 (.t 3),none⟩,
 ⟨(some 69),.load none (.t 68),none⟩] [68])
 (.cond (.t 69)
 (.region [⟨(some 70),.mv (.t 5),none⟩,
 ⟨(some 71),.fieldAddr 1 (.t 1),none⟩,
 ⟨(some 72),.load none (.t 71),none⟩,
 ⟨(some 73),.qcall 71 [(.t 72)],none⟩,
 ⟨(some 74),.bin .add (.k (.c (.d (.str [32])))) (.t 73),none⟩,
 ⟨(some 75),.bin .add (.t 70) (.t 74),none⟩,
 ⟨(some 5),.mv (.t 75),none⟩] [69,70,71,72,73,74,75])
 (.skip)))
 (.seq (.seq (.region [⟨(some 76),.fieldAddr 2 (.t 3),none⟩,
 ⟨(some 77),.load none (.t 76),none⟩] [69,76])
 (.cond (.t 77)
 (.region [⟨(some 78),.mv (.t 5),none⟩,
 ⟨(some 79),.fieldAddr 2 (.t 1),none⟩,
 ⟨(some 80),.load none (.t 79),none⟩,
 ⟨(some 81),.qcall 71 [(.t 80)],none⟩,
 ⟨(some 82),.bin .add (.k (.c (.d (.str [32])))) (.t 81),none⟩,
 ⟨(some 83),.bin .add (.t 78) (.t 82),none⟩,
 ⟨(some 5),.mv (.t 83),none⟩] [77,78,79,80,81,82,83])
 (.skip)))
 (.seq (.seq (.region [⟨(some 84),.fieldAddr 3 (.t 3),none⟩,
 ⟨(some 85),.load none (.t 84),none⟩] [3,77,84])
 (.cond (.t 85)
 (.region [⟨(some 86),.mv (.t 5),none⟩,
 ⟨(some 87),.fieldAddr 3 (.t 1),none⟩,
 ⟨(some 88),.load none (.t 87),none⟩,
 ⟨(some 89),.bin .add (.k (.c (.d (.str [32])))) (.t 88),none⟩,
 ⟨(some 90),.bin .add (.t 86) (.t 89),none⟩,
 ⟨(some 5),.mv (.t 90),none⟩] [1,85,86,87,88,89,90])
 (.skip)))
 (.seq (.region [⟨(some 91),.mv (.t 5),none⟩,
 ⟨(some 2),.mv (.t 91),none⟩] [1,5,85,91])
 (.ret))))))))
theorem ac41_ok : cFunc Tryd.prog [1000068,1000069,1000070,1000071] [(0,[0,2],[]),(1,[6,7,8,9,10,11],[]),(2,[4,12,13,14,15,16,17,18,19,20,21,22,23,24,25,26,27,28,29,30,31,32,33,34,35,36,37,38,39,40,41,42,43,44,45,46,47,48,49,50,51,52,53,54,55,56,57,58,59,60,61,62,63,64],[]),(3,[1,3,65],[]),(4,[2,65,66,67],[]),(5,[68],[]),(6,[69,70,71,72,73,74,75],[]),(7,[69,76],[]),(8,[77,78,79,80,81,82,83],[]),(9,[3,77,84],[]),(10,[1,85,86,87,88,89,90],[]),(11,[1,5,85,91],[])] Tryd.f41 = some (ac41,[.tmp 2],92) := by kernel_rfl
/-- the words of the operations -/
def opWord (op : Int) : List UInt8 :=
  if op = 1 then [103, 101, 116, 118, 97, 108] else if op = 2 then [103, 101, 116, 105, 110, 116] else if op = 3 then [103, 101, 116, 115, 116, 114] else if op = 4 then [117, 110, 105, 118, 97, 114]
  else if op = 5 then [117, 110, 105, 118, 97, 108] else if op = 6 then [117, 110, 105, 105, 110, 116] else if op = 7 then [115, 101, 116, 115, 116, 114] else if op = 8 then [112, 117, 116, 118, 97, 114]
  else if op = 9 then [112, 117, 116, 118, 97, 108] else if op = 10 then [112, 117, 116, 105, 110, 116] else if op = 11 then [99, 97, 108, 108] else if op = 12 then [98, 117, 105, 108, 116]
  else if op = 13 then [99, 117, 116] else if op = 14 then [101, 110, 100] else []
/-- an operation, and whether it has A, B, and a name -/
def opOk (op : Int) : Bool := decide (1 ≤ op) && decide (op ≤ 14)
def opIA (op : Int) : Bool := decide (1 ≤ op) && decide (op ≤ 12)
def opB (op : Int) : Bool := op == 1 || op == 2 || op == 3 || op == 7 || op == 8 || op == 9 || op == 10
def opN (op : Int) : Bool := op == 3 || op == 7 || op == 11 || op == 12
theorem op_cases (op : Int) : op = 1 ∨ op = 2 ∨ op = 3 ∨ op = 4 ∨ op = 5 ∨ op = 6 ∨ op = 7 ∨ op = 8 ∨ op = 9 ∨ op = 10 ∨ op = 11 ∨ op = 12 ∨ op = 13 ∨ op = 14 ∨ (op < 1 ∨ 14 < op) := by omega
set_option maxHeartbeats 3200000 in
theorem formOf_calls (op : Int) (H : Heap) : ACalls Tryd.prog 68 [.c (.d (.int .i64 op))] H (fun r H' => H' = H ∧ r = .tup [.agg [.d (.str (opWord op)), .d (.bool (opIA op)), .d (.bool (opB op)), .d (.bool (opN op))], .c (.d (.bool (opOk op)))]) := by
  refine acalls Tryd.func68 (by kernel_rfl) ac68_ok fun hf => ?_
  rcases op_cases op with rfl | rfl | rfl | rfl | rfl | rfl | rfl | rfl | rfl | rfl | rfl | rfl | rfl | rfl | h
  all_goals try (simp -implicitDefEqProofs [ac68, opWord, opIA, opB, opN, opOk, hf, go_sem, -List.set_cons_succ, -List.set_cons_zero]; done)
  have h1 : op ≠ 1 ∧ op ≠ 2 ∧ op ≠ 3 ∧ op ≠ 4 ∧ op ≠ 5 ∧ op ≠ 6 ∧ op ≠ 7 ∧ op ≠ 8 ∧ op ≠ 9 ∧ op ≠ 10 ∧ op ≠ 11 ∧ op ≠ 12 ∧ op ≠ 13 ∧ op ≠ 14 := by omega
  have h2 : opOk op = false := by simp [opOk]; omega
  have h3 : opIA op = false := by simp [opIA]; omega
  simp -implicitDefEqProofs [ac68, opWord, opB, opN, h1, h2, h3, hf, go_sem, -List.set_cons_succ, -List.set_cons_zero]
/-- the shape of an operation, as the reference names it -/
def opShape (op : Int) : List UInt8 :=
  if opOk op then (if opIA op then [97] else []) ++ (if opB op then [98] else []) ++ (if opN op then [110] else []) else [63]
set_option maxHeartbeats 3200000 in
theorem shapeOf_calls (op : Int) (H : Heap) : ACalls Tryd.prog 64 [.c (.d (.int .i64 op))] H (fun r H' => H' = H ∧ r = .c (.d (.str (opShape op)))) := by
  refine acalls Tryd.func64 (by kernel_rfl) ac64_ok fun hf => ?_
  rcases op_cases op with rfl | rfl | rfl | rfl | rfl | rfl | rfl | rfl | rfl | rfl | rfl | rfl | rfl | rfl | h
  all_goals try (simp -implicitDefEqProofs [ac64, opShape, opIA, opB, opN, opOk, go_sem, -List.set_cons_succ, -List.set_cons_zero]; done)
  have h1 : op ≠ 1 ∧ op ≠ 2 ∧ op ≠ 3 ∧ op ≠ 4 ∧ op ≠ 5 ∧ op ≠ 6 ∧ op ≠ 7 ∧ op ≠ 8 ∧ op ≠ 9 ∧ op ≠ 10 ∧ op ≠ 11 ∧ op ≠ 12 ∧ op ≠ 13 ∧ op ≠ 14 := by omega
  have h2 : opOk op = false := by simp [opOk]; omega
  simp -implicitDefEqProofs [ac64, opShape, h1, h2, go_sem, -List.set_cons_succ, -List.set_cons_zero]
/-- whether an instruction is within the limits -/
def Ins.okB (x : Ins) : Bool :=
  opOk x.op && (decide (-999 ≤ x.a) && decide (x.a ≤ 999)) && (decide (0 ≤ x.b) && decide (x.b ≤ 999)) && (opIA x.op || x.a == 0) && (opB x.op || x.b == 0) && (if opN x.op then nameB x.text else x.text == [])
/-- the text of an instruction -/
def Ins.fmt (x : Ins) : List UInt8 :=
  if x.okB then opWord x.op ++ (if opIA x.op then 32 :: Lib.itoa x.a else []) ++ (if opB x.op then 32 :: Lib.itoa x.b else []) ++ (if opN x.op then 32 :: x.text else []) else []
def namesL : List (List D) := (List.range 15).map fun i : Nat => [.str (opWord (i : Int))]
theorem namesL_len : namesL.length = 15 := rfl
theorem names_at {op : Int} (h1 : 0 ≤ op) (h2 : op ≤ 14) : namesL[op.toNat]? = some [.str (opWord op)] := by
  unfold namesL
  rw [List.getElem?_map, List.getElem?_range (by omega)]
  simp [Int.toNat_of_nonneg h1]
set_option maxHeartbeats 3200000 in
theorem names_calls (H : Heap) : ACalls Tryd.prog 66 [] H (fun r H' => H' = H ∧ r = .c (.d (.sl namesL))) := by
  refine acalls Tryd.func66 (by kernel_rfl) ac66_ok fun hf => ?_
  simp -implicitDefEqProofs [ac66, namesL, List.range, List.range.loop, opWord, go_sem, -List.set_cons_succ, -List.set_cons_zero]
theorem op_bits (op : Int) : (opOk op = false ∧ opIA op = false ∧ opB op = false ∧ opN op = false) ∨ (opOk op = true ∧ opIA op = true ∧ opB op = true ∧ opN op = false) ∨ (opOk op = true ∧ opIA op = true ∧ opB op = true ∧ opN op = true) ∨
    (opOk op = true ∧ opIA op = true ∧ opB op = false ∧ opN op = false) ∨ (opOk op = true ∧ opIA op = true ∧ opB op = false ∧ opN op = true) ∨ (opOk op = true ∧ opIA op = false ∧ opB op = false ∧ opN op = false) := by
  rcases op_cases op with rfl | rfl | rfl | rfl | rfl | rfl | rfl | rfl | rfl | rfl | rfl | rfl | rfl | rfl | h
  all_goals try (simp [opOk, opIA, opB, opN]; done)
  refine .inl ⟨by simp [opOk]; omega, by simp [opIA]; omega, ?_, ?_⟩
  · have : op ≠ 1 ∧ op ≠ 2 ∧ op ≠ 3 ∧ op ≠ 7 ∧ op ≠ 8 ∧ op ≠ 9 ∧ op ≠ 10 := by omega
    simp [opB, this]
  · have : op ≠ 3 ∧ op ≠ 7 ∧ op ≠ 11 ∧ op ≠ 12 := by omega
    simp [opN, this]
theorem opWord_len (op : Int) : (opWord op).length ≤ 6 := by
  rcases op_cases op with rfl | rfl | rfl | rfl | rfl | rfl | rfl | rfl | rfl | rfl | rfl | rfl | rfl | rfl | h
  all_goals try (simp [opWord]; done)
  have h1 : op ≠ 1 ∧ op ≠ 2 ∧ op ≠ 3 ∧ op ≠ 4 ∧ op ≠ 5 ∧ op ≠ 6 ∧ op ≠ 7 ∧ op ≠ 8 ∧ op ≠ 9 ∧ op ≠ 10 ∧ op ≠ 11 ∧ op ≠ 12 ∧ op ≠ 13 ∧ op ≠ 14 := by omega
  simp [opWord, h1]
/-- the program's text of an instruction -/
def FmtI (g : Nat) (o : Obj) (x : Ins) : Prop := ∀ H : Heap, H[0]? = some (.tab g o) → ACalls Tryd.prog 41 [.agg (x.row.map .d)] H (fun r H' => H' = H ∧ r = .c (.d (.str x.fmt)))
theorem fmt_lens {a b : Int} (h2 : inR .i64 a) (h3 : inR .i64 b) : (Lib.itoa a).length ≤ 1000000 ∧ (Lib.itoa b).length ≤ 1000000 :=
  ⟨itoa_len a (i64_def.1 h2).1 (i64_def.1 h2).2, itoa_len b (i64_def.1 h3).1 (i64_def.1 h3).2⟩
set_option maxHeartbeats 3200000 in
theorem fmtImpl_0 {g : Nat} {o : Obj} (hT : Tab g o) (op a b : Int) (s : List UInt8) (h1 : inR .i64 op) (h2 : inR .i64 a) (h3 : inR .i64 b) (hs : s.length ≤ 1048576) (e1 : opOk op = false) (e2 : opIA op = false) (e3 : opB op = false) (e4 : opN op = false) : FmtI g o ⟨op, a, b, s⟩ := by
  intro H hH
  refine acalls Tryd.func41 (by kernel_rfl) ac41_ok fun hf => ?_
  simp -implicitDefEqProofs [ac41, Ins.row, go_sem, -List.set_cons_succ, -List.set_cons_zero]
  refine qcall_pure (formOf_calls op) hf rfl ?_
  have hw := opWord_len op
  obtain ⟨la, lb⟩ := fmt_lens h2 h3
  simp -implicitDefEqProofs [e1, e2, e3, e4, hf, Ins.fmt, Ins.okB, go_sem, -List.set_cons_succ, -List.set_cons_zero]
set_option maxHeartbeats 3200000 in
theorem fmtImpl_1 {g : Nat} {o : Obj} (hT : Tab g o) (op a b : Int) (s : List UInt8) (h1 : inR .i64 op) (h2 : inR .i64 a) (h3 : inR .i64 b) (hs : s.length ≤ 1048576) (e1 : opOk op = true) (e2 : opIA op = true) (e3 : opB op = true) (e4 : opN op = false) : FmtI g o ⟨op, a, b, s⟩ := by
  intro H hH
  refine acalls Tryd.func41 (by kernel_rfl) ac41_ok fun hf => ?_
  simp -implicitDefEqProofs [ac41, Ins.row, go_sem, -List.set_cons_succ, -List.set_cons_zero]
  refine qcall_pure (formOf_calls op) hf rfl ?_
  have hw := opWord_len op
  obtain ⟨la, lb⟩ := fmt_lens h2 h3
  simp -implicitDefEqProofs [e1, e2, e3, e4, go_sem, -List.set_cons_succ, -List.set_cons_zero]
  refine ⟨hf, qcall_pure (within_calls _ _ _) hf rfl ?_⟩
  cases hA : (decide (-999 ≤ a) && decide (a ≤ 999)) with
  | false => simp -implicitDefEqProofs [e1, hA, Ins.fmt, Ins.okB, go_sem, -List.set_cons_succ, -List.set_cons_zero]
  | true =>
    simp -implicitDefEqProofs [hA, go_sem, -List.set_cons_succ, -List.set_cons_zero]
    refine qcall_pure (within_calls _ _ _) hf rfl ?_
    cases hB : (decide (0 ≤ b) && decide (b ≤ 999)) with
    | false => simp -implicitDefEqProofs [e1, hA, hB, Ins.fmt, Ins.okB, go_sem, -List.set_cons_succ, -List.set_cons_zero]
    | true =>
      obtain ⟨a1, a2⟩ : -999 ≤ a ∧ a ≤ 999 := by simpa using hA
      obtain ⟨b1, b2⟩ : 0 ≤ b ∧ b ≤ 999 := by simpa using hB
      simp -implicitDefEqProofs [hB, go_sem, -List.set_cons_succ, -List.set_cons_zero]
      refine ⟨fun h0 => by first | (simp [e1, e2, e3, e4, a1, a2, b1, b2, Ins.fmt, Ins.okB, h0]; done) | (simp [e1, e2, e3, e4, a1, a2, b1, b2, Ins.fmt, Ins.okB]; intros; simp_all), ?_⟩
      intro hc; subst hc
      refine qcall_tab (itoa_call hT a h2) hf hH rfl ?_
      simp -implicitDefEqProofs [maxStr, go_sem, -List.set_cons_succ, -List.set_cons_zero]
      refine ⟨by omega, by omega, qcall_tab (itoa_call hT b h3) hf hH rfl ?_⟩
      simp -implicitDefEqProofs [e1, e2, e3, e4, a1, a2, b1, b2, Ins.fmt, Ins.okB, maxStr, go_sem, -List.set_cons_succ, -List.set_cons_zero]
      omega
set_option maxHeartbeats 3200000 in
theorem fmtImpl_2 {g : Nat} {o : Obj} (hT : Tab g o) (op a b : Int) (s : List UInt8) (h1 : inR .i64 op) (h2 : inR .i64 a) (h3 : inR .i64 b) (hs : s.length ≤ 1048576) (e1 : opOk op = true) (e2 : opIA op = true) (e3 : opB op = true) (e4 : opN op = true) : FmtI g o ⟨op, a, b, s⟩ := by
  intro H hH
  refine acalls Tryd.func41 (by kernel_rfl) ac41_ok fun hf => ?_
  simp -implicitDefEqProofs [ac41, Ins.row, go_sem, -List.set_cons_succ, -List.set_cons_zero]
  refine qcall_pure (formOf_calls op) hf rfl ?_
  have hw := opWord_len op
  obtain ⟨la, lb⟩ := fmt_lens h2 h3
  simp -implicitDefEqProofs [e1, e2, e3, e4, go_sem, -List.set_cons_succ, -List.set_cons_zero]
  refine ⟨hf, qcall_pure (within_calls _ _ _) hf rfl ?_⟩
  cases hA : (decide (-999 ≤ a) && decide (a ≤ 999)) with
  | false => simp -implicitDefEqProofs [e1, hA, Ins.fmt, Ins.okB, go_sem, -List.set_cons_succ, -List.set_cons_zero]
  | true =>
    simp -implicitDefEqProofs [hA, go_sem, -List.set_cons_succ, -List.set_cons_zero]
    refine qcall_pure (within_calls _ _ _) hf rfl ?_
    cases hB : (decide (0 ≤ b) && decide (b ≤ 999)) with
    | false => simp -implicitDefEqProofs [e1, hA, hB, Ins.fmt, Ins.okB, go_sem, -List.set_cons_succ, -List.set_cons_zero]
    | true =>
      obtain ⟨a1, a2⟩ : -999 ≤ a ∧ a ≤ 999 := by simpa using hA
      obtain ⟨b1, b2⟩ : 0 ≤ b ∧ b ≤ 999 := by simpa using hB
      simp -implicitDefEqProofs [hB, go_sem, -List.set_cons_succ, -List.set_cons_zero]
      refine qcall_pure (nvImpl_calls s (by omega)) hf rfl ?_
      cases hn : nameB s with
      | false => simp -implicitDefEqProofs [hn, e1, e2, e3, e4, a1, a2, b1, b2, Ins.fmt, Ins.okB, go_sem, -List.set_cons_succ, -List.set_cons_zero]
      | true =>
        simp -implicitDefEqProofs [hn, go_sem, -List.set_cons_succ, -List.set_cons_zero]
        refine qcall_tab (itoa_call hT a h2) hf hH rfl ?_
        simp -implicitDefEqProofs [maxStr, go_sem, -List.set_cons_succ, -List.set_cons_zero]
        refine ⟨by omega, by omega, qcall_tab (itoa_call hT b h3) hf hH rfl ?_⟩
        simp -implicitDefEqProofs [hn, e1, e2, e3, e4, a1, a2, b1, b2, Ins.fmt, Ins.okB, maxStr, go_sem, -List.set_cons_succ, -List.set_cons_zero]
        omega
set_option maxHeartbeats 3200000 in
theorem fmtImpl_3 {g : Nat} {o : Obj} (hT : Tab g o) (op a b : Int) (s : List UInt8) (h1 : inR .i64 op) (h2 : inR .i64 a) (h3 : inR .i64 b) (hs : s.length ≤ 1048576) (e1 : opOk op = true) (e2 : opIA op = true) (e3 : opB op = false) (e4 : opN op = false) : FmtI g o ⟨op, a, b, s⟩ := by
  intro H hH
  refine acalls Tryd.func41 (by kernel_rfl) ac41_ok fun hf => ?_
  simp -implicitDefEqProofs [ac41, Ins.row, go_sem, -List.set_cons_succ, -List.set_cons_zero]
  refine qcall_pure (formOf_calls op) hf rfl ?_
  have hw := opWord_len op
  obtain ⟨la, lb⟩ := fmt_lens h2 h3
  simp -implicitDefEqProofs [e1, e2, e3, e4, go_sem, -List.set_cons_succ, -List.set_cons_zero]
  refine ⟨hf, qcall_pure (within_calls _ _ _) hf rfl ?_⟩
  cases hA : (decide (-999 ≤ a) && decide (a ≤ 999)) with
  | false => simp -implicitDefEqProofs [e1, hA, Ins.fmt, Ins.okB, go_sem, -List.set_cons_succ, -List.set_cons_zero]
  | true =>
    simp -implicitDefEqProofs [hA, go_sem, -List.set_cons_succ, -List.set_cons_zero]
    refine qcall_pure (within_calls _ _ _) hf rfl ?_
    cases hB : (decide (0 ≤ b) && decide (b ≤ 999)) with
    | false => simp -implicitDefEqProofs [e1, hA, hB, Ins.fmt, Ins.okB, go_sem, -List.set_cons_succ, -List.set_cons_zero]
    | true =>
      obtain ⟨a1, a2⟩ : -999 ≤ a ∧ a ≤ 999 := by simpa using hA
      obtain ⟨b1, b2⟩ : 0 ≤ b ∧ b ≤ 999 := by simpa using hB
      simp -implicitDefEqProofs [hB, go_sem, -List.set_cons_succ, -List.set_cons_zero]
      refine ⟨fun h0 => by first | (simp [e1, e2, e3, e4, a1, a2, b1, b2, Ins.fmt, Ins.okB, h0]; done) | (simp [e1, e2, e3, e4, a1, a2, b1, b2, Ins.fmt, Ins.okB]; intros; simp_all), ?_⟩
      intro hc; subst hc
      intro hc; subst hc
      refine qcall_tab (itoa_call hT a h2) hf hH rfl ?_
      simp -implicitDefEqProofs [maxStr, go_sem, -List.set_cons_succ, -List.set_cons_zero]
      simp -implicitDefEqProofs [e1, e2, e3, e4, a1, a2, b1, b2, Ins.fmt, Ins.okB, go_sem, -List.set_cons_succ, -List.set_cons_zero]
      omega
set_option maxHeartbeats 3200000 in
theorem fmtImpl_4 {g : Nat} {o : Obj} (hT : Tab g o) (op a b : Int) (s : List UInt8) (h1 : inR .i64 op) (h2 : inR .i64 a) (h3 : inR .i64 b) (hs : s.length ≤ 1048576) (e1 : opOk op = true) (e2 : opIA op = true) (e3 : opB op = false) (e4 : opN op = true) : FmtI g o ⟨op, a, b, s⟩ := by
  intro H hH
  refine acalls Tryd.func41 (by kernel_rfl) ac41_ok fun hf => ?_
  simp -implicitDefEqProofs [ac41, Ins.row, go_sem, -List.set_cons_succ, -List.set_cons_zero]
  refine qcall_pure (formOf_calls op) hf rfl ?_
  have hw := opWord_len op
  obtain ⟨la, lb⟩ := fmt_lens h2 h3
  simp -implicitDefEqProofs [e1, e2, e3, e4, go_sem, -List.set_cons_succ, -List.set_cons_zero]
  refine ⟨hf, qcall_pure (within_calls _ _ _) hf rfl ?_⟩
  cases hA : (decide (-999 ≤ a) && decide (a ≤ 999)) with
  | false => simp -implicitDefEqProofs [e1, hA, Ins.fmt, Ins.okB, go_sem, -List.set_cons_succ, -List.set_cons_zero]
  | true =>
    simp -implicitDefEqProofs [hA, go_sem, -List.set_cons_succ, -List.set_cons_zero]
    refine qcall_pure (within_calls _ _ _) hf rfl ?_
    cases hB : (decide (0 ≤ b) && decide (b ≤ 999)) with
    | false => simp -implicitDefEqProofs [e1, hA, hB, Ins.fmt, Ins.okB, go_sem, -List.set_cons_succ, -List.set_cons_zero]
    | true =>
      obtain ⟨a1, a2⟩ : -999 ≤ a ∧ a ≤ 999 := by simpa using hA
      obtain ⟨b1, b2⟩ : 0 ≤ b ∧ b ≤ 999 := by simpa using hB
      by_cases hb0 : b = 0
      case neg =>
        have hb1 : (b != 0) = true := by simpa using hb0
        simp -implicitDefEqProofs [hb0, hb1, e1, e2, e3, e4, a1, a2, b1, b2, Ins.fmt, Ins.okB, go_sem, -List.set_cons_succ, -List.set_cons_zero]
      subst hb0
      simp -implicitDefEqProofs [hB, go_sem, -List.set_cons_succ, -List.set_cons_zero]
      refine qcall_pure (nvImpl_calls s (by omega)) hf rfl ?_
      cases hn : nameB s with
      | false => simp -implicitDefEqProofs [hn, e1, e2, e3, e4, a1, a2, b1, b2, Ins.fmt, Ins.okB, go_sem, -List.set_cons_succ, -List.set_cons_zero]
      | true =>
        simp -implicitDefEqProofs [hn, go_sem, -List.set_cons_succ, -List.set_cons_zero]
        refine qcall_tab (itoa_call hT a h2) hf hH rfl ?_
        simp -implicitDefEqProofs [maxStr, go_sem, -List.set_cons_succ, -List.set_cons_zero]
        simp -implicitDefEqProofs [hn, e1, e2, e3, e4, a1, a2, b1, b2, Ins.fmt, Ins.okB, go_sem, -List.set_cons_succ, -List.set_cons_zero]
        omega
set_option maxHeartbeats 3200000 in
theorem fmtImpl_5 {g : Nat} {o : Obj} (hT : Tab g o) (op a b : Int) (s : List UInt8) (h1 : inR .i64 op) (h2 : inR .i64 a) (h3 : inR .i64 b) (hs : s.length ≤ 1048576) (e1 : opOk op = true) (e2 : opIA op = false) (e3 : opB op = false) (e4 : opN op = false) : FmtI g o ⟨op, a, b, s⟩ := by
  intro H hH
  refine acalls Tryd.func41 (by kernel_rfl) ac41_ok fun hf => ?_
  simp -implicitDefEqProofs [ac41, Ins.row, go_sem, -List.set_cons_succ, -List.set_cons_zero]
  refine qcall_pure (formOf_calls op) hf rfl ?_
  have hw := opWord_len op
  obtain ⟨la, lb⟩ := fmt_lens h2 h3
  simp -implicitDefEqProofs [e1, e2, e3, e4, go_sem, -List.set_cons_succ, -List.set_cons_zero]
  refine ⟨hf, qcall_pure (within_calls _ _ _) hf rfl ?_⟩
  cases hA : (decide (-999 ≤ a) && decide (a ≤ 999)) with
  | false => simp -implicitDefEqProofs [e1, hA, Ins.fmt, Ins.okB, go_sem, -List.set_cons_succ, -List.set_cons_zero]
  | true =>
    simp -implicitDefEqProofs [hA, go_sem, -List.set_cons_succ, -List.set_cons_zero]
    refine qcall_pure (within_calls _ _ _) hf rfl ?_
    cases hB : (decide (0 ≤ b) && decide (b ≤ 999)) with
    | false => simp -implicitDefEqProofs [e1, hA, hB, Ins.fmt, Ins.okB, go_sem, -List.set_cons_succ, -List.set_cons_zero]
    | true =>
      obtain ⟨a1, a2⟩ : -999 ≤ a ∧ a ≤ 999 := by simpa using hA
      obtain ⟨b1, b2⟩ : 0 ≤ b ∧ b ≤ 999 := by simpa using hB
      simp -implicitDefEqProofs [hB, go_sem, -List.set_cons_succ, -List.set_cons_zero]
      refine ⟨fun h0 => by first | (simp [e1, e2, e3, e4, a1, a2, b1, b2, Ins.fmt, Ins.okB, h0]; done) | (simp [e1, e2, e3, e4, a1, a2, b1, b2, Ins.fmt, Ins.okB]; intros; simp_all), ?_⟩
      intro hc; subst hc
      intro hc; subst hc
      intro hc; subst hc
      simp [e1, e2, e3, e4, a1, a2, b1, b2, Ins.fmt, Ins.okB]
set_option maxHeartbeats 3200000 in
theorem fmtImpl_calls {g : Nat} {o : Obj} (hT : Tab g o) (x : Ins) (hx : x.ok) (hs : x.text.length ≤ 1048576) : FmtI g o x := by
  obtain ⟨op, a, b, s⟩ := x
  obtain ⟨h1, h2, h3, h4⟩ := hx
  rcases op_bits op with ⟨e1, e2, e3, e4⟩ | ⟨e1, e2, e3, e4⟩ | ⟨e1, e2, e3, e4⟩ | ⟨e1, e2, e3, e4⟩ | ⟨e1, e2, e3, e4⟩ | ⟨e1, e2, e3, e4⟩
  · exact fmtImpl_0 hT op a b s h1 h2 h3 hs e1 e2 e3 e4
  · exact fmtImpl_1 hT op a b s h1 h2 h3 hs e1 e2 e3 e4
  · exact fmtImpl_2 hT op a b s h1 h2 h3 hs e1 e2 e3 e4
  · exact fmtImpl_3 hT op a b s h1 h2 h3 hs e1 e2 e3 e4
  · exact fmtImpl_4 hT op a b s h1 h2 h3 hs e1 e2 e3 e4
  · exact fmtImpl_5 hT op a b s h1 h2 h3 hs e1 e2 e3 e4
end Go.Proofs.YtnljciooabmogaaDoor

/-
  Atoms.
  Conditions: none.
-/
open Go Go.AM Go.Proofs
namespace Go.Proofs.YtnljciooabmogaaDoor
open Go.ChangeShapes Go.WideShapes Go.ChangeAt Go.RowKit
set_option linter.unusedVariables false
set_option linter.unusedSimpArgs false
set_option maxRecDepth 100000
-- 113 loop.example/prologserver/impl.isAtom params 1 ntmps 12
end Go.Proofs.YtnljciooabmogaaDoor

/-
  Goals: which terms are goals, for the program and for the reference.
  Conditions: none.
-/
open Go Go.AM Go.Proofs
namespace Go.Proofs.YtnljciooabmogaaDoor
open Go.ChangeShapes Go.WideShapes Go.ChangeAt Go.RowKit
set_option linter.unusedVariables false
set_option linter.unusedSimpArgs false
set_option maxRecDepth 100000
-- 95 loop.example/prologserver/impl.OpLevel params 1 ntmps 22
def ops3 : List (List UInt8) := [[61], [92, 61], [61, 61], [60], [62], [61, 60], [62, 61], [61, 58, 61], [105, 115]]
def levelN (s : List UInt8) : Int := if ops3.contains s then 3 else if [[43], [45]].contains s then 2 else if [[42], [47, 47], [109, 111, 100]].contains s then 1 else 0
def leftB (s : List UInt8) : Bool := decide (levelN s = 1) || decide (levelN s = 2)
def builtB (s : List UInt8) (a : Int) : Bool :=
  if ops3.contains s then (a == 2) else if [[116, 114, 117, 101], [102, 97, 105, 108]].contains s then (a == 0)
  else if [[118, 97, 114], [110, 111, 110, 118, 97, 114], [97, 116, 111, 109], [105, 110, 116]].contains s then (a == 1) else if s = [97, 114, 103] then (a == 3) else false
/-- a goal that is built in -/
def Tm.built (t : Tm) : Bool := decide (t.k = 3) && builtB t.s t.kids.length
/-- a goal for clauses -/
def Tm.plain (t : Tm) : Bool := decide (t.k = 3) && (lettersB t.s && ((levelN t.s == 0) && !builtB t.s t.kids.length))
def Tm.cutB (t : Tm) : Bool := decide (t.k = 3) && (t.kids.isEmpty && t.s == [33])
def Tm.goal (t : Tm) : Bool := t.valid && (t.plain || t.built || t.cutB)
end Go.Proofs.YtnljciooabmogaaDoor

/-
  Terms that are well-formed, whatever their depth.
  Conditions: none.
-/
open Go Go.AM Go.Proofs
namespace Go.Proofs.YtnljciooabmogaaDoor
open Go.ChangeShapes Go.WideShapes Go.ChangeAt Go.RowKit
set_option linter.unusedVariables false
set_option linter.unusedSimpArgs false
set_option maxRecDepth 100000
theorem name_len {s : List UInt8} (h : nameB s = true) : 1 ≤ s.length ∧ s.length ≤ 6 := by
  simp only [nameB, Bool.or_eq_true] at h
  rcases h with h | h
  · simp only [lettersB, Bool.and_eq_true, decide_eq_true_eq] at h
    omega
  · simp [signs] at h
    rcases h with rfl | rfl | rfl | rfl | rfl | rfl | rfl | rfl | rfl | rfl | rfl | rfl | rfl | rfl | rfl <;> decide
end Go.Proofs.YtnljciooabmogaaDoor

/-
  Terms as they are written: the plain text, its length, its first byte.
  Conditions: none.
-/
open Go Go.AM Go.Proofs
namespace Go.Proofs.YtnljciooabmogaaDoor
open Go.ChangeShapes Go.WideShapes Go.ChangeAt Go.RowKit
set_option linter.unusedVariables false
set_option linter.unusedSimpArgs false
set_option maxRecDepth 100000
/-- texts, with a byte between them -/
def joinS (c : UInt8) : List (List UInt8) → List UInt8
  | [] => []
  | [a] => a
  | a :: b :: l => a ++ c :: joinS c (b :: l)
def Tm.atomB (t : Tm) : Bool := decide (t.k = 3) && t.kids.isEmpty
def Tm.lv (t : Tm) : Int := if t.kids.length = 2 then levelN t.s else 0
def plainC (b : UInt8) : Bool := decide (97 ≤ b.toNat ∧ b.toNat ≤ 122) || decide (65 ≤ b.toNat ∧ b.toNat ≤ 90) || decide (48 ≤ b.toNat ∧ b.toNat ≤ 57) || b == 91 || b == 40
def opnd (t : Tm) (w : List UInt8) (most : Int) (right : Bool) : List UInt8 :=
  if decide (most < t.lv) || (t.atomB && decide (0 < levelN t.s)) || (right && !plainC (w.headD 0)) then 40 :: w ++ [41] else w
def opSp (s : List UInt8) : List UInt8 := if lettersB s then 32 :: s ++ [32] else s
def leftMost (s : List UInt8) : Int := if leftB s then levelN s else levelN s - 1
def leafT : Tm := .mk 3 0 [91, 93] []
def wrNode (k n : Int) (s : List UInt8) (l : List Tm) (ws ts : List (List UInt8)) : List UInt8 :=
  if k = 1 then [UInt8.ofNat (65 + n.toNat)]
  else if k = 2 then Lib.itoa n
  else if s = [46] ∧ l.length = 2 then 91 :: ws.headD [] ++ ts.getD 1 [] ++ [93]
  else if l.length = 2 ∧ 0 < levelN s then opnd (l.getD 0 leafT) (ws.getD 0 []) (leftMost s) false ++ opSp s ++ opnd (l.getD 1 leafT) (ws.getD 1 []) (levelN s - 1) true
  else if l = [] then s else s ++ 40 :: joinS 44 ws ++ [41]
mutual
def Tm.wr : Tm → List UInt8
  | .mk k n s l => wrNode k n s l (wrs l) (wrts l)
/-- the rest of a list -/
def Tm.wrt : Tm → List UInt8
  | .mk k n s l => if k = 3 ∧ s = [46] ∧ l.length = 2 then 44 :: (wrs l).headD [] ++ (wrts l).getD 1 []
    else if k = 3 ∧ s = [91, 93] ∧ l = [] then [] else 124 :: wrNode k n s l (wrs l) (wrts l)
def wrs : List Tm → List (List UInt8)
  | [] => []
  | t :: l => t.wr :: wrs l
def wrts : List Tm → List (List UInt8)
  | [] => []
  | t :: l => t.wrt :: wrts l
end
theorem itoa_short {n : Int} (h0 : -999 ≤ n) (h1 : n ≤ 999) : 1 ≤ (Lib.itoa n).length ∧ (Lib.itoa n).length ≤ 5 := by
  have key : ∀ u : Nat, u ≤ 999 → 1 ≤ (Lib.decDigits u).length ∧ (Lib.decDigits u).length ≤ 4 := by
    intro u hu
    rw [Lib.decDigits]
    split
    · simp
    · rw [Lib.decDigits]
      split
      · simp
      · rw [Lib.decDigits]
        split
        · simp
        · rw [Lib.decDigits, dif_pos (by omega)]
          simp
  unfold Lib.itoa
  split
  · have := key n.natAbs (by omega)
    simp
    omega
  · have := key n.toNat (by omega)
    omega
end Go.Proofs.YtnljciooabmogaaDoor

/-
  Texts of instructions are short.
  Conditions: none.
-/
open Go Go.AM Go.Proofs
namespace Go.Proofs.YtnljciooabmogaaDoor
set_option linter.unusedVariables false
set_option linter.unusedSimpArgs false
set_option maxRecDepth 100000
theorem fmtL (x : Ins) : x.fmt.length ≤ 60 := by
  obtain ⟨op, a, b, t⟩ := x
  unfold Ins.fmt
  split
  · rename_i h
    simp only [Ins.okB, Bool.and_eq_true, Bool.or_eq_true, decide_eq_true_eq, beq_iff_eq] at h
    obtain ⟨⟨⟨⟨⟨h1, h2⟩, h3⟩, h4⟩, h5⟩, h6⟩ := h
    have w := opWord_len op
    have ia := (itoa_short h2.1 h2.2).2
    have ib := (itoa_short (n := b) (by omega) h3.2).2
    cases hA : opIA op <;> cases hB : opB op <;> cases hN : opN op
    all_goals first
      | (rw [hN] at h6; have t := (name_len (by simpa using h6)).2; simp; omega)
      | (simp; omega)
  · simp
theorem fmtL_ne {x : Ins} (h : x.okB = true) : x.fmt ≠ [] := by
  obtain ⟨op, a, b, t⟩ := x
  have h1 : opOk op = true := by
    simp only [Ins.okB, Bool.and_eq_true] at h
    exact h.1.1.1.1.1
  have : opWord op ≠ [] := by
    simp only [opOk, Bool.and_eq_true, decide_eq_true_eq] at h1
    rcases op_cases op with h | h | h | h | h | h | h | h | h | h | h | h | h | h | h
    all_goals first
      | (rw [h]; decide)
      | omega
  unfold Ins.fmt
  rw [if_pos h]
  simp [this]
/-- the text of code -/
def fcS (L : List Ins) : List UInt8 := if 2000 < L.length ∨ (L.any fun x => !x.okB) = true then [] else L.flatMap fun x => x.fmt ++ [10]
def fcO (L : List Ins) : List UInt8 := L.flatMap fun x => x.fmt ++ [10]
theorem fcO_len : ∀ L : List Ins, (fcO L).length ≤ 61 * L.length
  | [] => by simp [fcO]
  | x :: L => by
    have h1 := fmtL x
    have h2 := fcO_len L
    unfold fcO at h2 ⊢
    simp only [List.flatMap_cons, List.length_append, List.length_cons, List.length_nil]
    omega
theorem fcO_succ {L : List Ins} {i : Nat} (h : i < L.length) : fcO (L.take (i + 1)) = fcO (L.take i) ++ L[i].fmt ++ [10] := by
  unfold fcO
  rw [List.take_succ_eq_append_getElem h, List.flatMap_append]
  simp
theorem fcS_all {L : List Ins} (h : L.length ≤ 2000) (ha : ∀ x ∈ L, x.okB = true) : fcS L = fcO L := by
  unfold fcS
  rw [if_neg]
  · rfl
  · rintro (h1 | h1)
    · omega
    · obtain ⟨x, hx, hb⟩ := List.any_eq_true.1 h1
      rw [ha x hx] at hb
      cases hb
theorem fcS_big {L : List Ins} (h : 2000 < L.length) : fcS L = [] := by unfold fcS; rw [if_pos (.inl h)]
theorem fcS_no {L : List Ins} {x : Ins} (h : x ∈ L) (hb : x.okB = false) : fcS L = [] := by
  unfold fcS
  rw [if_pos (.inr (List.any_eq_true.2 ⟨x, h, by rw [hb]; rfl⟩))]
end Go.Proofs.YtnljciooabmogaaDoor

/-
  The text of code: the program, which builds it in a strings.Builder.
  Conditions: none.
-/
open Go Go.AM Go.Proofs
namespace Go.Proofs
open Go.Shelf
def Tryd.lays169_ren : Go.Shelf.Ren := ⟨fun | 169 => 43 | n => n, fun | 70 => 72 | 9 => 9 | 0 => 0 | 72 => 75 | 37 => 73 | 127 => 103 | 3 => 3 | 5 => 5 | n => n, fun | n => n⟩
theorem Tryd.lays169 : Go.Proofs.Lays.n169 Tryd.prog Tryd.lays169_ren := {
  mixed := by kernel_rfl
  f169 := Tryd.func43.trans (congrArg some (by kernel_rfl))
  t0 := Tryd.underlying0
  a0 := Tryd.isAgg0
  z0 := Tryd.sizeOf0
  v0 := Tryd.zeroValue0
  t3 := Tryd.underlying3
  a3 := Tryd.isAgg3
  z3 := Tryd.sizeOf3
  v3 := Tryd.zeroValue3
  t9 := Tryd.underlying9
  a9 := Tryd.isAgg9
  z9 := Tryd.sizeOf9
  v9 := Tryd.zeroValue9
  t37 := Tryd.underlying73
  a37 := Tryd.isAgg73
  z37 := Tryd.sizeOf73
  v37 := Tryd.zeroValue73
  t70 := Tryd.underlying72
  a70 := Tryd.isAgg72
  z70 := Tryd.sizeOf72
  v70 := Tryd.zeroValue72
  t72 := Tryd.underlying75
  a72 := Tryd.isAgg75
  z72 := Tryd.sizeOf75
  v72 := Tryd.zeroValue75
  t127 := Tryd.underlying103
  a127 := Tryd.isAgg103
  z127 := Tryd.sizeOf103
  v127 := Tryd.zeroValue103 }
theorem Tryd.Builder_Extra_169 : Builder.Extra Tryd.prog Tryd.lays169_ren := {
  sizeBuilder := by kernel_rfl
  liesBuilder := by kernel_rfl
  t5 := Tryd.underlying5
  a5 := Tryd.isAgg5
  z5 := Tryd.sizeOf5
  v5 := Tryd.zeroValue5
  infoByte := by kernel_rfl
  cellsByte := by kernel_rfl
  sizeByte := by kernel_rfl
  neB5 := by decide }
def Tryd.lays166_ren : Go.Shelf.Ren := ⟨fun | 166 => 42 | 240 => 72 | 276 => 89 | n => n, fun | 70 => 72 | 9 => 9 | 3 => 3 | 75 => 77 | 0 => 0 | 72 => 75 | 37 => 73 | 4 => 4 | 164 => 109 | 80 => 80 | 5 => 5 | 20 => 20 | n => n, fun | n => n⟩
theorem Tryd.lays166 : Go.Proofs.Lays.n166 Tryd.prog Tryd.lays166_ren := {
  mixed := by kernel_rfl
  f166 := Tryd.func42.trans (congrArg some (by kernel_rfl))
  f240 := Tryd.func72.trans (congrArg some (by kernel_rfl))
  f276 := Tryd.func89.trans (congrArg some (by kernel_rfl))
  t0 := Tryd.underlying0
  a0 := Tryd.isAgg0
  z0 := Tryd.sizeOf0
  v0 := Tryd.zeroValue0
  t3 := Tryd.underlying3
  a3 := Tryd.isAgg3
  z3 := Tryd.sizeOf3
  v3 := Tryd.zeroValue3
  t4 := Tryd.underlying4
  a4 := Tryd.isAgg4
  z4 := Tryd.sizeOf4
  v4 := Tryd.zeroValue4
  t9 := Tryd.underlying9
  a9 := Tryd.isAgg9
  z9 := Tryd.sizeOf9
  v9 := Tryd.zeroValue9
  t20 := Tryd.underlying20
  a20 := Tryd.isAgg20
  z20 := Tryd.sizeOf20
  v20 := Tryd.zeroValue20
  t37 := Tryd.underlying73
  a37 := Tryd.isAgg73
  z37 := Tryd.sizeOf73
  v37 := Tryd.zeroValue73
  t70 := Tryd.underlying72
  a70 := Tryd.isAgg72
  z70 := Tryd.sizeOf72
  v70 := Tryd.zeroValue72
  t72 := Tryd.underlying75
  a72 := Tryd.isAgg75
  z72 := Tryd.sizeOf75
  v72 := Tryd.zeroValue75
  t75 := Tryd.underlying77
  a75 := Tryd.isAgg77
  z75 := Tryd.sizeOf77
  v75 := Tryd.zeroValue77
  t164 := Tryd.underlying109
  a164 := Tryd.isAgg109
  z164 := Tryd.sizeOf109
  v164 := Tryd.zeroValue109 }
theorem Tryd.Builder_Extra_166 : Builder.Extra Tryd.prog Tryd.lays166_ren := {
  sizeBuilder := by kernel_rfl
  liesBuilder := by kernel_rfl
  t5 := Tryd.underlying5
  a5 := Tryd.isAgg5
  z5 := Tryd.sizeOf5
  v5 := Tryd.zeroValue5
  infoByte := by kernel_rfl
  cellsByte := by kernel_rfl
  sizeByte := by kernel_rfl
  neB5 := by decide }
end Go.Proofs
namespace Go.Proofs.YtnljciooabmogaaDoor
open Go.Lib Go.RowKit
set_option linter.unusedVariables false
set_option linter.unusedSimpArgs false
set_option maxRecDepth 100000
def insV (x : Ins) : Value := .agg #[.int .i64 x.op, .int .i64 x.a, .int .i64 x.b, .string ⟨x.text.toArray⟩]
/-- one instruction's text, at a world of which the table alone is known -/
theorem fmt_below {g : Nat} {o : Obj} (hT : Tab g o) (x : Ins) (hx : x.ok) (hs : x.text.length ≤ 1048576) (w : World) (hw : w.heap[g]? = some o) : Calls Tryd.prog 41 #[insV x] w fun e w' => e = .returned (.string ⟨x.fmt.toArray⟩) ∧ Below w.heap.size w w' := by
  have hc := (fmtImpl_calls hT x hx hs [.tab g o] rfl).2 w [K.tab g] [insV x] (sim_tab hw) rfl (fun i a u h1 h2 => by
    match i with
    | 0 =>
      cases h1; cases h2
      refine .agg ⟨rfl, fun j c v h3 h4 => ?_⟩
      match j with
      | 0 => cases h3; cases h4; exact .d (.int _ _ hx.op)
      | 1 => cases h3; cases h4; exact .d (.int _ _ hx.a)
      | 2 => cases h3; cases h4; exact .d (.int _ _ hx.b)
      | 3 =>
        cases h3; cases h4
        have := RD.str (w := w) (S := AM.Safe w [K.tab g]) ⟨x.text.toArray⟩ (by simp [maxStr]; omega)
        exact .d (by simpa using this))
  refine hc.mono fun e w' ⟨r, H', ι', u, he, ⟨hH, hr⟩, hsim, hra, hx2, _⟩ => ?_
  subst hH; subst hr
  have hu : u = .string ⟨x.fmt.toArray⟩ := by
    cases hra with
    | c h => cases h with
      | d h =>
        generalize hcl : x.fmt = l at h
        cases h with
        | str s _ => rfl
  refine ⟨by rw [he, hu], hx2.os, hx2.tape, hx2.output, hx2.size, fun b hb => ?_⟩
  by_cases hbg : b = g
  · subst hbg
    rw [hsim.tab_get rfl, hw]
  · exact (hx2.block b hb (fun k hk => by
      rw [List.mem_singleton.1 hk]
      exact fun h => hbg h)).1
theorem lt_some {w : World} {b : Nat} {o : Obj} (h : w.heap[b]? = some o) : b < w.heap.size := (Array.getElem?_eq_some_iff.1 h).1
theorem isB_below {T e : TypeId} {B b : Nat} {bs : List Value} {w w' : World} (h : Lib.IsBuilder T e B b bs w) (hb : Below w.heap.size w w') : Lib.IsBuilder T e B b bs w' := by
  have key : ∀ p, Lib.BuilderAt T e B b p bs w → Lib.BuilderAt T e B b p bs w' := fun p ⟨h1, v, h2, h3, h4⟩ => by
    refine ⟨h1, v, (hb.block b (lt_some h2)).trans h2, ?_, h4⟩
    obtain ⟨h5, h6⟩ := h3
    refine ⟨h5, ?_⟩
    rcases h6 with h6 | ⟨g, cap, cur, e1, e2, e3, r⟩
    · exact .inl h6
    · exact .inr ⟨g, cap, cur, e1, e2, (hb.block g (lt_some e3)).trans e3, r⟩
  exact h.imp (key _) (key _)
set_option maxHeartbeats 6400000 in
theorem fc_core {g : Nat} {o : Obj} (hT : Tab g o) (L : List Ins) (hL : L.length ≤ 1048576) (hx : ∀ x ∈ L, x.ok ∧ x.text.length ≤ 1048576) (bk off c : Nat) (w : World)
    (hcells : ∀ (k : Nat) x, L[k]? = some x → w.cell? ⟨bk, off + k * 4, none⟩ = some (.int .i64 x.op) ∧ w.cell? ⟨bk, off + k * 4 + 1, none⟩ = some (.int .i64 x.a) ∧ w.cell? ⟨bk, off + k * 4 + 2, none⟩ = some (.int .i64 x.b) ∧ w.cell? ⟨bk, off + k * 4 + 3, none⟩ = some (.string ⟨x.text.toArray⟩))
    (hbk : bk < w.heap.size) (hcap : L.length ≤ c) (hg : w.heap[g]? = some o) :
    Calls Tryd.prog 21 #[.slice (some ⟨bk, off, none⟩) L.length c] w fun e w' => e = .returned (.string ⟨(fcS L).toArray⟩) ∧ Below w.heap.size w w' := by
  have HC := Any.hidJ hcells
  have HX := Any.hidJ hx
  have HG := Any.hidJ hg
  clear hcells hx hg
  go_enter Tryd.func21, Tryd.ntmps21
  go_wp2_with fail
  · go_ret
    exact ⟨by rw [fcS_big (by omega)]; rfl, Below.refl _ _⟩
  · go_loopw [12] (fun i wr => ∃ k : Nat, k ≤ L.length ∧ i = .int .i64 k ∧ (∀ x ∈ L.take k, x.okB = true) ∧ Hid (Lib.IsBuilder 75 5 w.heap.size w.heap.size (Lib.byteCells (fcO (L.take k))) wr) ∧ Hid (Below w.heap.size w wr)) (fun i _ => L.length - (RowKit.intOf i).toNat)
    case atStart => exact ⟨0, Nat.zero_le _, rfl, by simp, Any.hidJ (by simpa [fcO, Lib.byteCells] using Lib.fresh_isBuilder _ _ w), Any.hidJ ((Below.refl _ _).alloc (Nat.le_refl _) _)⟩
    case round =>
      obtain ⟨k, hk, rfl, hall, HB, HW⟩ := hrel
      by_cases hkn : k < L.length
      · obtain ⟨x, hx⟩ : ∃ x, L[k]? = some x := ⟨L[k], List.getElem?_eq_getElem hkn⟩
        obtain ⟨c0, c1, c2, c3⟩ := HC.out k x hx
        have hbk2 := fun j => HW.out.cell (p := ⟨bk, j, none⟩) hbk
        rw [← hbk2] at c0 c1 c2 c3
        go_wp2_with fail
        have hmem : x ∈ L := List.mem_of_getElem? hx
        obtain ⟨hxo, hxt⟩ := HX.out x hmem
        have hBw : w.heap.size ≤ wr.heap.size := HW.out.size
        have hgw : wr.heap[g]? = some o := (HW.out.block g (lt_some HG.out)).trans HG.out
        refine (fmt_below hT x hxo hxt _ ((Below.heap_alloc wr _ g (lt_some hgw)).trans hgw)).mono ?_
        rintro e w1 ⟨rfl, hb1⟩
        have ha : Below wr.heap.size wr w1 := ((Below.refl wr.heap.size wr).alloc (Nat.le_refl _) _).trans (hb1.mono (by simp only [World.alloc, Array.size_push]; omega))
        have Hw1 := Any.hidJ (HW.out.trans (ha.mono hBw))
        have HB1 := Any.hidJ (isB_below HB.out ha)
        clear hb1 ha
        cases hb : x.okB with
        | false =>
          have hf0 : x.fmt = [] := by unfold Ins.fmt; rw [hb]; rfl
          rw [hf0]
          go_wp2
          go_ret
          exact ⟨by rw [fcS_no hmem hb]; rfl, Hw1.out⟩
        | true =>
          have hne := fmtL_ne hb
          have hfl := fmtL x
          have hxk : x = L[k] := by rw [List.getElem?_eq_getElem hkn] at hx; cases hx; rfl
          have hcat : Lib.byteCells (fcO (L.take k)) ++ Lib.strCells (⟨x.fmt.toArray⟩ ++ ⟨#[10]⟩) = Lib.byteCells (fcO (L.take (k + 1))) := by
            rw [fcO_succ hkn, Lib.strCells_eq, ← Lib.byteCells_append, hxk]
            simp
          have hall2 : ∀ y ∈ L.take (k + 1), y.okB = true := fun y hy => by
            rw [List.take_succ_eq_append_getElem hkn] at hy
            rcases List.mem_append.1 hy with h | h
            · exact hall y h
            · rw [List.mem_singleton.1 h, ← hxk]; exact hb
          have hsz : (⟨x.fmt.toArray⟩ ++ ⟨#[10]⟩ : ByteArray).size = x.fmt.length + 1 := by
            show (⟨x.fmt.toArray⟩ ++ ⟨#[10]⟩ : ByteArray).data.size = _
            simp
          have hol := fcO_len (L.take k)
          have htl : (L.take k).length ≤ k := by simp; omega
          generalize x.fmt = F at hne hfl hcat hsz
          have hne2 : ¬ F.isEmpty = true := by simpa using hne
          have Hcat := Any.hidJ hcat
          have Hsz := Any.hidJ hsz
          clear hcat hsz
          go_wp2_with fail
          refine (Any.Builder_WriteString Tryd.lays166 Tryd.Builder_Extra_166 w.heap.size w.heap.size _ _ w1 HB1.out (by rw [Lib.byteCells_length, Hsz.out]; omega) Hw1.out.size).mono ?_
          rintro e w3 ⟨rfl, h3, hb3⟩
          rw [Hcat.out] at h3
          have H3 := Any.hidJ (Or.inr h3 : Lib.IsBuilder 75 5 w.heap.size w.heap.size _ w3)
          have Hb3 := Any.hidJ (Hw1.out.trans hb3)
          clear h3 hb3
          go_wp2
          exact ⟨⟨k + 1, by omega, by go_num, hall2, H3, Hb3⟩, by simp [RowKit.intOf]; omega⟩
      · have hke : k = L.length := by omega
        subst hke
        rw [List.take_length] at HB hall
        have hBw : w.heap.size ≤ wr.heap.size := HW.out.size
        go_wp2_with fail
        refine (Any.Builder_String_any Tryd.lays169 Tryd.Builder_Extra_169 w.heap.size w.heap.size _ wr HB.out hBw).mono ?_
        rintro e w5 ⟨rfl, hb5⟩
        have Hb5 := Any.hidJ (HW.out.trans hb5)
        clear hb5
        go_wp2
        go_ret
        exact ⟨by rw [fcS_all (by omega) hall]; rfl, Hb5.out⟩
set_option maxHeartbeats 6400000 in
theorem fc_none (a : Option Addr) (c : Nat) (w : World) : Calls Tryd.prog 21 #[.slice a 0 c] w fun e w' => e = .returned (.string ⟨#[]⟩) ∧ Below w.heap.size w w' := by
  go_enter Tryd.func21, Tryd.ntmps21
  go_wp2_with fail
  go_loopw [12] (fun i wr => i = .int .i64 0 ∧ Hid (Lib.IsBuilder 75 5 w.heap.size w.heap.size (Lib.byteCells []) wr) ∧ Hid (Below w.heap.size w wr)) (fun i _ => 0)
  case atStart => exact ⟨rfl, Any.hidJ (by simpa [Lib.byteCells] using Lib.fresh_isBuilder _ _ w), Any.hidJ ((Below.refl _ _).alloc (Nat.le_refl _) _)⟩
  case round =>
    obtain ⟨rfl, HB, HW⟩ := hrel
    have hBw : w.heap.size ≤ wr.heap.size := HW.out.size
    go_wp2_with fail
    refine (Any.Builder_String_any Tryd.lays169 Tryd.Builder_Extra_169 w.heap.size w.heap.size _ wr HB.out hBw).mono ?_
    rintro e w5 ⟨rfl, hb5⟩
    have Hb5 := Any.hidJ (HW.out.trans hb5)
    clear hb5
    go_wp2
    go_ret
    exact ⟨rfl, Hb5.out⟩
theorem rd_int {w : World} {S : Nat → Nat → Prop} {n : Int} {v : Value} (h : RD w S (.int .i64 n) v) : v = .int .i64 n := by cases h; rfl
theorem rd_str {w : World} {S : Nat → Nat → Prop} {s : List UInt8} {v : Value} (h : RD w S (.str s) v) : v = .string ⟨s.toArray⟩ := by
  generalize hl : s = l at h
  cases h with
  | str s _ => rfl
/-- the program's text of code -/
theorem fcImpl_calls {g : Nat} {o : Obj} (hT : Tab g o) (L : List Ins) (hL : L.length ≤ 1048576) (hx : ∀ x ∈ L, x.ok ∧ x.text.length ≤ 1048576) (H : Heap) (hH : H[0]? = some (.tab g o)) :
    ACalls Tryd.prog 21 [.c (.d (.sl (L.map Ins.row)))] H (fun r H' => H' = H ∧ r = .c (.d (.str (fcS L)))) := by
  refine ⟨⟨_, Tryd.func21, by kernel_rfl, by decide⟩, fun w ι cargs hsim hl ha => ?_⟩
  obtain ⟨v0, rfl⟩ : ∃ v0, cargs = [v0] := by
    match cargs, hl with
    | [a], _ => exact ⟨a, rfl⟩
  have h0 := ha 0 _ _ rfl rfl
  have hfl : (fcS L).length ≤ 61 * 2000 := by
    unfold fcS
    split
    · simp
    · rename_i h
      have := fcO_len L
      show (fcO L).length ≤ _
      omega
  have key : ∀ (e : Ending) (w' : World), (e = .returned (.string ⟨(fcS L).toArray⟩) ∧ Below w.heap.size w w') →
      ∃ r H' ι' v, e = .returned v ∧ (H' = H ∧ r = .c (.d (.str (fcS L)))) ∧ Sim w' ι' H'.length H' ∧ RA w' ι' H'.length r v ∧ Ext w ι w' ι' ∧ H.length ≤ H'.length := by
    rintro e w' ⟨rfl, hb⟩
    have hx : Ext w ι w' ι := Ext.of_blocks hb.os hb.tape hb.output hb.size hb.block
    refine ⟨_, _, ι, _, rfl, ⟨rfl, rfl⟩, hsim.of_blocks hx hb.block, .c (.d ?_), hx, Nat.le_refl _⟩
    have := RD.str (w := w') (S := AM.Safe w' ι) ⟨(fcS L).toArray⟩ (by simp [maxStr]; omega)
    simpa using this
  have hd : RD w (AM.Safe w ι) (.sl (L.map Ins.row)) v0 := by
    cases h0 with
    | c h => cases h with
      | d h => exact h
  have hg := hsim.tab_get hH
  by_cases hL0 : L = []
  · subst hL0
    have hv : ∃ a c, v0 = .slice a 0 c := by
      generalize hrows : (List.map Ins.row []) = rows at hd
      simp at hrows
      subst hrows
      generalize hr2 : ([] : List (List D)) = rows at hd
      cases hd with
      | nil a => exact ⟨a, 0, rfl⟩
      | sl rows b off cap sz vs g1 g2 g3 g4 g5 => subst hr2; exact ⟨_, _, rfl⟩
    obtain ⟨a, c, rfl⟩ := hv
    exact (fc_none a c w).mono fun e w' h => key e w' h
  · generalize hrows : L.map Ins.row = rows at hd
    have hrl : rows.length = L.length := by rw [← hrows]; simp
    cases hd with
    | nil a => simp at hrows; exact absurd hrows hL0
    | sl rows b off cap sz vs g1 g2 g3 g4 g5 =>
      have hsz : sz = 4 := by
        cases L with
        | nil => exact absurd rfl hL0
        | cons x l => exact (g3 0 x.row (by rw [← hrows]; rfl)).symm
      subst hsz
      have hrow : ∀ (k : Nat) x, L[k]? = some x → rows[k]? = some x.row := fun k x h => by rw [← hrows]; simp [h]
      have hcell : ∀ (k : Nat) x (j : Nat) d, L[k]? = some x → x.row[j]? = some d → w.cell? ⟨b, off + (k * 4 + j), none⟩ = some (vs (k * 4 + j)) ∧ b < w.heap.size ∧ RD w (AM.Safe w ι) d (vs (k * 4 + j)) := fun k x j d h h2 =>
        ⟨(g4 k _ j d (hrow k x h) h2).1, (g4 k _ j d (hrow k x h) h2).2.1, g5 k _ j d (hrow k x h) h2⟩
      have hbk : b < w.heap.size := by
        cases L with
        | nil => exact absurd rfl hL0
        | cons x l => exact (hcell 0 x 0 _ rfl rfl).2.1
      have hc := fc_core hT L hL hx b off cap w (fun k x hk => by
        obtain ⟨a0, _, a1⟩ := hcell k x 0 _ hk rfl
        obtain ⟨b0, _, b1⟩ := hcell k x 1 _ hk rfl
        obtain ⟨c0, _, c1⟩ := hcell k x 2 _ hk rfl
        obtain ⟨d0, _, d1⟩ := hcell k x 3 _ hk rfl
        rw [rd_int a1] at a0
        rw [rd_int b1] at b0
        rw [rd_int c1] at c0
        rw [rd_str d1] at d0
        exact ⟨by simpa using a0, by simpa [Nat.add_assoc] using b0, by simpa [Nat.add_assoc] using c0, by simpa [Nat.add_assoc] using d0⟩) hbk (by omega) hg
      rw [← hrl] at hc
      exact hc.mono fun e w' h => key e w' h
end Go.Proofs.YtnljciooabmogaaDoor

/-
  Texts of instructions: the reference.
  Conditions: none.
-/
open Go Go.AM Go.Proofs
namespace Go.Proofs.YtnljciooabmogaaDoor
open Go.ChangeShapes Go.WideShapes Go.ChangeAt Go.RowKit
set_option linter.unusedVariables false
set_option linter.unusedSimpArgs false
set_option maxRecDepth 100000
theorem okB_out {op a b : Int} {s : List UInt8} (h : ((a < -999 ∨ 999 < a) ∨ b < 0) ∨ 999 < b) : (⟨op, a, b, s⟩ : Ins).okB = false := by
  cases h1 : (⟨op, a, b, s⟩ : Ins).okB with
  | false => rfl
  | true =>
    simp [Ins.okB] at h1
    omega
theorem okB_in {op a b : Int} {s : List UInt8} (h : (⟨op, a, b, s⟩ : Ins).okB = true) : -999 ≤ a ∧ a ≤ 999 ∧ 0 ≤ b ∧ b ≤ 999 := by
  simp [Ins.okB] at h
  omega
theorem emp_eq (s : List UInt8) : (s == []) = s.isEmpty := by cases s <;> rfl
set_option maxHeartbeats 3200000 in
theorem l8Instr_0 (op a b : Int) (s : List UInt8) (hs : s.length ≤ 1048576) (e1 : opOk op = false) (e2 : opIA op = false) (e3 : opB op = false) (e4 : opN op = false) (H : Heap) : ACalls Tryd.prog 38 [.agg ((⟨op, a, b, s⟩ : Ins).row.map .d)] H (fun r H' => H' = H ∧ r = .c (.d (.bool (⟨op, a, b, s⟩ : Ins).okB))) := by
  refine acalls Tryd.func38 (by kernel_rfl) ac38_ok fun hf => ?_
  simp -implicitDefEqProofs [ac38, Ins.row, go_sem, -List.set_cons_succ, -List.set_cons_zero]
  refine qcall_pure (shapeOf_calls op) hf rfl ?_
  simp -implicitDefEqProofs [opShape, e1, e2, e3, e4, Ins.okB, go_sem, -List.set_cons_succ, -List.set_cons_zero]
set_option maxHeartbeats 3200000 in
theorem l8Instr_1 (op a b : Int) (s : List UInt8) (hs : s.length ≤ 1048576) (e1 : opOk op = true) (e2 : opIA op = true) (e3 : opB op = true) (e4 : opN op = false) (H : Heap) : ACalls Tryd.prog 38 [.agg ((⟨op, a, b, s⟩ : Ins).row.map .d)] H (fun r H' => H' = H ∧ r = .c (.d (.bool (⟨op, a, b, s⟩ : Ins).okB))) := by
  refine acalls Tryd.func38 (by kernel_rfl) ac38_ok fun hf => ?_
  simp -implicitDefEqProofs [ac38, Ins.row, go_sem, -List.set_cons_succ, -List.set_cons_zero]
  refine qcall_pure (shapeOf_calls op) hf rfl ?_
  simp -implicitDefEqProofs [opShape, e1, e2, e3, e4, go_sem, -List.set_cons_succ, -List.set_cons_zero]
  refine ⟨okB_out, fun a1 a2 b1 b2 => ?_⟩
  simp [a1, a2, b1, b2, e1, e2, e3, e4, Ins.okB, emp_eq, Bool.and_assoc]
set_option maxHeartbeats 3200000 in
theorem l8Instr_2 (op a b : Int) (s : List UInt8) (hs : s.length ≤ 1048576) (e1 : opOk op = true) (e2 : opIA op = true) (e3 : opB op = true) (e4 : opN op = true) (H : Heap) : ACalls Tryd.prog 38 [.agg ((⟨op, a, b, s⟩ : Ins).row.map .d)] H (fun r H' => H' = H ∧ r = .c (.d (.bool (⟨op, a, b, s⟩ : Ins).okB))) := by
  refine acalls Tryd.func38 (by kernel_rfl) ac38_ok fun hf => ?_
  simp -implicitDefEqProofs [ac38, Ins.row, go_sem, -List.set_cons_succ, -List.set_cons_zero]
  refine qcall_pure (shapeOf_calls op) hf rfl ?_
  simp -implicitDefEqProofs [opShape, e1, e2, e3, e4, go_sem, -List.set_cons_succ, -List.set_cons_zero]
  refine ⟨okB_out, fun a1 a2 b1 b2 => ?_⟩
  refine qcall_pure (nvSpec_calls s (by omega)) hf rfl ?_
  simp -implicitDefEqProofs [e3, go_sem, -List.set_cons_succ, -List.set_cons_zero]
  simp [a1, a2, b1, b2, e1, e2, e3, e4, Ins.okB]
set_option maxHeartbeats 3200000 in
theorem l8Instr_3 (op a b : Int) (s : List UInt8) (hs : s.length ≤ 1048576) (e1 : opOk op = true) (e2 : opIA op = true) (e3 : opB op = false) (e4 : opN op = false) (H : Heap) : ACalls Tryd.prog 38 [.agg ((⟨op, a, b, s⟩ : Ins).row.map .d)] H (fun r H' => H' = H ∧ r = .c (.d (.bool (⟨op, a, b, s⟩ : Ins).okB))) := by
  refine acalls Tryd.func38 (by kernel_rfl) ac38_ok fun hf => ?_
  simp -implicitDefEqProofs [ac38, Ins.row, go_sem, -List.set_cons_succ, -List.set_cons_zero]
  refine qcall_pure (shapeOf_calls op) hf rfl ?_
  simp -implicitDefEqProofs [opShape, e1, e2, e3, e4, go_sem, -List.set_cons_succ, -List.set_cons_zero]
  refine ⟨okB_out, fun a1 a2 b1 b2 => ?_⟩
  simp [a1, a2, b1, b2, e1, e2, e3, e4, Ins.okB, emp_eq, Bool.and_assoc]
set_option maxHeartbeats 3200000 in
theorem l8Instr_4 (op a b : Int) (s : List UInt8) (hs : s.length ≤ 1048576) (e1 : opOk op = true) (e2 : opIA op = true) (e3 : opB op = false) (e4 : opN op = true) (H : Heap) : ACalls Tryd.prog 38 [.agg ((⟨op, a, b, s⟩ : Ins).row.map .d)] H (fun r H' => H' = H ∧ r = .c (.d (.bool (⟨op, a, b, s⟩ : Ins).okB))) := by
  refine acalls Tryd.func38 (by kernel_rfl) ac38_ok fun hf => ?_
  simp -implicitDefEqProofs [ac38, Ins.row, go_sem, -List.set_cons_succ, -List.set_cons_zero]
  refine qcall_pure (shapeOf_calls op) hf rfl ?_
  by_cases hb0 : b = 0
  case neg =>
    have hb1 : (b == 0) = false := by simpa using hb0
    have hk : (⟨op, a, b, s⟩ : Ins).okB = false := by simp [Ins.okB, e3, hb1]
    simp -implicitDefEqProofs [opShape, e1, e2, e3, e4, hb0, hb1, hk, go_sem, -List.set_cons_succ, -List.set_cons_zero]
  subst hb0
  simp -implicitDefEqProofs [opShape, e1, e2, e3, e4, go_sem, -List.set_cons_succ, -List.set_cons_zero]
  refine ⟨fun h => okB_out (by omega), fun a1 a2 => ?_⟩
  refine qcall_pure (nvSpec_calls s (by omega)) hf rfl ?_
  simp -implicitDefEqProofs [e3, go_sem, -List.set_cons_succ, -List.set_cons_zero]
  simp [a1, a2, e1, e2, e3, e4, Ins.okB]
set_option maxHeartbeats 3200000 in
theorem l8Instr_5 (op a b : Int) (s : List UInt8) (hs : s.length ≤ 1048576) (e1 : opOk op = true) (e2 : opIA op = false) (e3 : opB op = false) (e4 : opN op = false) (H : Heap) : ACalls Tryd.prog 38 [.agg ((⟨op, a, b, s⟩ : Ins).row.map .d)] H (fun r H' => H' = H ∧ r = .c (.d (.bool (⟨op, a, b, s⟩ : Ins).okB))) := by
  refine acalls Tryd.func38 (by kernel_rfl) ac38_ok fun hf => ?_
  simp -implicitDefEqProofs [ac38, Ins.row, go_sem, -List.set_cons_succ, -List.set_cons_zero]
  refine qcall_pure (shapeOf_calls op) hf rfl ?_
  simp -implicitDefEqProofs [opShape, e1, e2, e3, e4, go_sem, -List.set_cons_succ, -List.set_cons_zero]
  refine ⟨okB_out, fun a1 a2 b1 b2 => ?_⟩
  simp [a1, a2, b1, b2, e1, e2, e3, e4, Ins.okB, emp_eq, Bool.and_assoc]
set_option maxHeartbeats 3200000 in
theorem fmtSpec_0 (op a b : Int) (s : List UInt8) (h1 : inR .i64 op) (h2 : inR .i64 a) (h3 : inR .i64 b) (hs : s.length ≤ 1048576) (e1 : opOk op = false) (e2 : opIA op = false) (e3 : opB op = false) (e4 : opN op = false) (H : Heap) : ACalls Tryd.prog 39 [.agg ((⟨op, a, b, s⟩ : Ins).row.map .d)] H (fun r H' => H' = H ∧ r = .c (.d (.str (⟨op, a, b, s⟩ : Ins).fmt))) := by
  have hi := l8Instr_0 op a b s hs e1 e2 e3 e4
  have hw := opWord_len op
  obtain ⟨la, lb⟩ := fmt_lens h2 h3
  refine acalls Tryd.func39 (by kernel_rfl) ac39_ok fun hf => ?_
  simp -implicitDefEqProofs [ac39, Ins.row, go_sem, -List.set_cons_succ, -List.set_cons_zero]
  simp [Ins.row] at hi
  refine qcall_pure hi hf rfl ?_
  cases hk : (⟨op, a, b, s⟩ : Ins).okB with
  | false => simp -implicitDefEqProofs [hk, Ins.fmt, go_sem, -List.set_cons_succ, -List.set_cons_zero]
  | true =>
    obtain ⟨a1, a2, b1, b2⟩ := okB_in hk
    simp [Ins.okB, e1] at hk
set_option maxHeartbeats 3200000 in
theorem fmtSpec_1 (op a b : Int) (s : List UInt8) (h1 : inR .i64 op) (h2 : inR .i64 a) (h3 : inR .i64 b) (hs : s.length ≤ 1048576) (e1 : opOk op = true) (e2 : opIA op = true) (e3 : opB op = true) (e4 : opN op = false) (H : Heap) : ACalls Tryd.prog 39 [.agg ((⟨op, a, b, s⟩ : Ins).row.map .d)] H (fun r H' => H' = H ∧ r = .c (.d (.str (⟨op, a, b, s⟩ : Ins).fmt))) := by
  have hi := l8Instr_1 op a b s hs e1 e2 e3 e4
  have hw := opWord_len op
  obtain ⟨la, lb⟩ := fmt_lens h2 h3
  refine acalls Tryd.func39 (by kernel_rfl) ac39_ok fun hf => ?_
  simp -implicitDefEqProofs [ac39, Ins.row, go_sem, -List.set_cons_succ, -List.set_cons_zero]
  simp [Ins.row] at hi
  refine qcall_pure hi hf rfl ?_
  cases hk : (⟨op, a, b, s⟩ : Ins).okB with
  | false => simp -implicitDefEqProofs [hk, Ins.fmt, go_sem, -List.set_cons_succ, -List.set_cons_zero]
  | true =>
    obtain ⟨a1, a2, b1, b2⟩ := okB_in hk
    obtain ⟨o1, o2⟩ : 1 ≤ op ∧ op ≤ 14 := by simpa [opOk] using e1
    simp -implicitDefEqProofs [hk, go_sem, -List.set_cons_succ, -List.set_cons_zero]
    refine qcall_pure names_calls hf rfl ?_
    simp -implicitDefEqProofs [namesL_len, go_sem, -List.set_cons_succ, -List.set_cons_zero]
    refine row_int [.str (opWord op)] (by omega) ?_ rfl ?_
    · exact names_at (by omega) (by omega)
    simp -implicitDefEqProofs [go_sem, -List.set_cons_succ, -List.set_cons_zero]
    refine qcall_pure (shapeOf_calls op) hf rfl ?_
    simp -implicitDefEqProofs [opShape, e1, e2, e3, e4, maxStr, go_sem, -List.set_cons_succ, -List.set_cons_zero]
    refine ⟨by omega, qcall_pure (dec1_calls a (by omega) (by omega)) hf rfl ?_⟩
    simp -implicitDefEqProofs [maxStr, go_sem, -List.set_cons_succ, -List.set_cons_zero]
    refine ⟨by omega, by omega, qcall_pure (dec1_calls b (by omega) (by omega)) hf rfl ?_⟩
    simp -implicitDefEqProofs [hk, e1, e2, e3, e4, Ins.fmt, maxStr, go_sem, -List.set_cons_succ, -List.set_cons_zero]
    omega
set_option maxHeartbeats 3200000 in
theorem fmtSpec_2 (op a b : Int) (s : List UInt8) (h1 : inR .i64 op) (h2 : inR .i64 a) (h3 : inR .i64 b) (hs : s.length ≤ 1048576) (e1 : opOk op = true) (e2 : opIA op = true) (e3 : opB op = true) (e4 : opN op = true) (H : Heap) : ACalls Tryd.prog 39 [.agg ((⟨op, a, b, s⟩ : Ins).row.map .d)] H (fun r H' => H' = H ∧ r = .c (.d (.str (⟨op, a, b, s⟩ : Ins).fmt))) := by
  have hi := l8Instr_2 op a b s hs e1 e2 e3 e4
  have hw := opWord_len op
  obtain ⟨la, lb⟩ := fmt_lens h2 h3
  refine acalls Tryd.func39 (by kernel_rfl) ac39_ok fun hf => ?_
  simp -implicitDefEqProofs [ac39, Ins.row, go_sem, -List.set_cons_succ, -List.set_cons_zero]
  simp [Ins.row] at hi
  refine qcall_pure hi hf rfl ?_
  cases hk : (⟨op, a, b, s⟩ : Ins).okB with
  | false => simp -implicitDefEqProofs [hk, Ins.fmt, go_sem, -List.set_cons_succ, -List.set_cons_zero]
  | true =>
    obtain ⟨a1, a2, b1, b2⟩ := okB_in hk
    obtain ⟨o1, o2⟩ : 1 ≤ op ∧ op ≤ 14 := by simpa [opOk] using e1
    simp -implicitDefEqProofs [hk, go_sem, -List.set_cons_succ, -List.set_cons_zero]
    refine qcall_pure names_calls hf rfl ?_
    simp -implicitDefEqProofs [namesL_len, go_sem, -List.set_cons_succ, -List.set_cons_zero]
    refine row_int [.str (opWord op)] (by omega) ?_ rfl ?_
    · exact names_at (by omega) (by omega)
    simp -implicitDefEqProofs [go_sem, -List.set_cons_succ, -List.set_cons_zero]
    refine qcall_pure (shapeOf_calls op) hf rfl ?_
    simp -implicitDefEqProofs [opShape, e1, e2, e3, e4, maxStr, go_sem, -List.set_cons_succ, -List.set_cons_zero]
    refine ⟨by omega, qcall_pure (dec1_calls a (by omega) (by omega)) hf rfl ?_⟩
    simp -implicitDefEqProofs [maxStr, go_sem, -List.set_cons_succ, -List.set_cons_zero]
    refine ⟨by omega, by omega, qcall_pure (dec1_calls b (by omega) (by omega)) hf rfl ?_⟩
    simp -implicitDefEqProofs [hk, e1, e2, e3, e4, Ins.fmt, maxStr, go_sem, -List.set_cons_succ, -List.set_cons_zero]
    omega
set_option maxHeartbeats 3200000 in
theorem fmtSpec_3 (op a b : Int) (s : List UInt8) (h1 : inR .i64 op) (h2 : inR .i64 a) (h3 : inR .i64 b) (hs : s.length ≤ 1048576) (e1 : opOk op = true) (e2 : opIA op = true) (e3 : opB op = false) (e4 : opN op = false) (H : Heap) : ACalls Tryd.prog 39 [.agg ((⟨op, a, b, s⟩ : Ins).row.map .d)] H (fun r H' => H' = H ∧ r = .c (.d (.str (⟨op, a, b, s⟩ : Ins).fmt))) := by
  have hi := l8Instr_3 op a b s hs e1 e2 e3 e4
  have hw := opWord_len op
  obtain ⟨la, lb⟩ := fmt_lens h2 h3
  refine acalls Tryd.func39 (by kernel_rfl) ac39_ok fun hf => ?_
  simp -implicitDefEqProofs [ac39, Ins.row, go_sem, -List.set_cons_succ, -List.set_cons_zero]
  simp [Ins.row] at hi
  refine qcall_pure hi hf rfl ?_
  cases hk : (⟨op, a, b, s⟩ : Ins).okB with
  | false => simp -implicitDefEqProofs [hk, Ins.fmt, go_sem, -List.set_cons_succ, -List.set_cons_zero]
  | true =>
    obtain ⟨a1, a2, b1, b2⟩ := okB_in hk
    obtain ⟨o1, o2⟩ : 1 ≤ op ∧ op ≤ 14 := by simpa [opOk] using e1
    simp -implicitDefEqProofs [hk, go_sem, -List.set_cons_succ, -List.set_cons_zero]
    refine qcall_pure names_calls hf rfl ?_
    simp -implicitDefEqProofs [namesL_len, go_sem, -List.set_cons_succ, -List.set_cons_zero]
    refine row_int [.str (opWord op)] (by omega) ?_ rfl ?_
    · exact names_at (by omega) (by omega)
    simp -implicitDefEqProofs [go_sem, -List.set_cons_succ, -List.set_cons_zero]
    refine qcall_pure (shapeOf_calls op) hf rfl ?_
    simp -implicitDefEqProofs [opShape, e1, e2, e3, e4, maxStr, go_sem, -List.set_cons_succ, -List.set_cons_zero]
    refine ⟨by omega, qcall_pure (dec1_calls a (by omega) (by omega)) hf rfl ?_⟩
    simp -implicitDefEqProofs [hk, e1, e2, e3, e4, Ins.fmt, maxStr, go_sem, -List.set_cons_succ, -List.set_cons_zero]
    omega
set_option maxHeartbeats 3200000 in
theorem fmtSpec_4 (op a b : Int) (s : List UInt8) (h1 : inR .i64 op) (h2 : inR .i64 a) (h3 : inR .i64 b) (hs : s.length ≤ 1048576) (e1 : opOk op = true) (e2 : opIA op = true) (e3 : opB op = false) (e4 : opN op = true) (H : Heap) : ACalls Tryd.prog 39 [.agg ((⟨op, a, b, s⟩ : Ins).row.map .d)] H (fun r H' => H' = H ∧ r = .c (.d (.str (⟨op, a, b, s⟩ : Ins).fmt))) := by
  have hi := l8Instr_4 op a b s hs e1 e2 e3 e4
  have hw := opWord_len op
  obtain ⟨la, lb⟩ := fmt_lens h2 h3
  refine acalls Tryd.func39 (by kernel_rfl) ac39_ok fun hf => ?_
  simp -implicitDefEqProofs [ac39, Ins.row, go_sem, -List.set_cons_succ, -List.set_cons_zero]
  simp [Ins.row] at hi
  refine qcall_pure hi hf rfl ?_
  cases hk : (⟨op, a, b, s⟩ : Ins).okB with
  | false => simp -implicitDefEqProofs [hk, Ins.fmt, go_sem, -List.set_cons_succ, -List.set_cons_zero]
  | true =>
    obtain ⟨a1, a2, b1, b2⟩ := okB_in hk
    obtain ⟨o1, o2⟩ : 1 ≤ op ∧ op ≤ 14 := by simpa [opOk] using e1
    simp -implicitDefEqProofs [hk, go_sem, -List.set_cons_succ, -List.set_cons_zero]
    refine qcall_pure names_calls hf rfl ?_
    simp -implicitDefEqProofs [namesL_len, go_sem, -List.set_cons_succ, -List.set_cons_zero]
    refine row_int [.str (opWord op)] (by omega) ?_ rfl ?_
    · exact names_at (by omega) (by omega)
    simp -implicitDefEqProofs [go_sem, -List.set_cons_succ, -List.set_cons_zero]
    refine qcall_pure (shapeOf_calls op) hf rfl ?_
    simp -implicitDefEqProofs [opShape, e1, e2, e3, e4, maxStr, go_sem, -List.set_cons_succ, -List.set_cons_zero]
    refine ⟨by omega, qcall_pure (dec1_calls a (by omega) (by omega)) hf rfl ?_⟩
    simp -implicitDefEqProofs [hk, e1, e2, e3, e4, Ins.fmt, maxStr, go_sem, -List.set_cons_succ, -List.set_cons_zero]
    omega
set_option maxHeartbeats 3200000 in
theorem fmtSpec_5 (op a b : Int) (s : List UInt8) (h1 : inR .i64 op) (h2 : inR .i64 a) (h3 : inR .i64 b) (hs : s.length ≤ 1048576) (e1 : opOk op = true) (e2 : opIA op = false) (e3 : opB op = false) (e4 : opN op = false) (H : Heap) : ACalls Tryd.prog 39 [.agg ((⟨op, a, b, s⟩ : Ins).row.map .d)] H (fun r H' => H' = H ∧ r = .c (.d (.str (⟨op, a, b, s⟩ : Ins).fmt))) := by
  have hi := l8Instr_5 op a b s hs e1 e2 e3 e4
  have hw := opWord_len op
  obtain ⟨la, lb⟩ := fmt_lens h2 h3
  refine acalls Tryd.func39 (by kernel_rfl) ac39_ok fun hf => ?_
  simp -implicitDefEqProofs [ac39, Ins.row, go_sem, -List.set_cons_succ, -List.set_cons_zero]
  simp [Ins.row] at hi
  refine qcall_pure hi hf rfl ?_
  cases hk : (⟨op, a, b, s⟩ : Ins).okB with
  | false => simp -implicitDefEqProofs [hk, Ins.fmt, go_sem, -List.set_cons_succ, -List.set_cons_zero]
  | true =>
    obtain ⟨a1, a2, b1, b2⟩ := okB_in hk
    obtain ⟨o1, o2⟩ : 1 ≤ op ∧ op ≤ 14 := by simpa [opOk] using e1
    simp -implicitDefEqProofs [hk, go_sem, -List.set_cons_succ, -List.set_cons_zero]
    refine qcall_pure names_calls hf rfl ?_
    simp -implicitDefEqProofs [namesL_len, go_sem, -List.set_cons_succ, -List.set_cons_zero]
    refine row_int [.str (opWord op)] (by omega) ?_ rfl ?_
    · exact names_at (by omega) (by omega)
    simp -implicitDefEqProofs [go_sem, -List.set_cons_succ, -List.set_cons_zero]
    refine qcall_pure (shapeOf_calls op) hf rfl ?_
    simp -implicitDefEqProofs [opShape, e1, e2, e3, e4, maxStr, go_sem, -List.set_cons_succ, -List.set_cons_zero]
    simp [hk, e1, e2, e3, e4, Ins.fmt]
set_option maxHeartbeats 3200000 in
theorem fmtSpec_calls (x : Ins) (hx : x.ok) (hs : x.text.length ≤ 1048576) (H : Heap) : ACalls Tryd.prog 39 [.agg (x.row.map .d)] H (fun r H' => H' = H ∧ r = .c (.d (.str x.fmt))) := by
  obtain ⟨op, a, b, s⟩ := x
  obtain ⟨h1, h2, h3, h4⟩ := hx
  rcases op_bits op with ⟨e1, e2, e3, e4⟩ | ⟨e1, e2, e3, e4⟩ | ⟨e1, e2, e3, e4⟩ | ⟨e1, e2, e3, e4⟩ | ⟨e1, e2, e3, e4⟩ | ⟨e1, e2, e3, e4⟩
  · exact fmtSpec_0 op a b s h1 h2 h3 hs e1 e2 e3 e4 H
  · exact fmtSpec_1 op a b s h1 h2 h3 hs e1 e2 e3 e4 H
  · exact fmtSpec_2 op a b s h1 h2 h3 hs e1 e2 e3 e4 H
  · exact fmtSpec_3 op a b s h1 h2 h3 hs e1 e2 e3 e4 H
  · exact fmtSpec_4 op a b s h1 h2 h3 hs e1 e2 e3 e4 H
  · exact fmtSpec_5 op a b s h1 h2 h3 hs e1 e2 e3 e4 H
end Go.Proofs.YtnljciooabmogaaDoor

/-
  The text of code: the reference.
  Conditions: none.
-/
open Go Go.AM Go.Proofs
namespace Go.Proofs.YtnljciooabmogaaDoor
open Go.ChangeShapes Go.WideShapes Go.ChangeAt Go.RowKit
set_option linter.unusedVariables false
set_option linter.unusedSimpArgs false
set_option maxRecDepth 100000
-- 19 loop.example/prologserver/spec.FormatCode params 1 ntmps 30
-- loop head live: [0,3,4]
def ac19 : Cd := .seq (.region [⟨(some 2),.mv (.k (.c (.d (.str [])))),none⟩] [2])
 (.seq (.region [⟨(some 3),.mv (.k (.c (.d (.str [])))),none⟩] [])
 (.seq (.seq (.region [⟨(some 4),.mv (.k (.c (.d (.int .i64 0)))),none⟩] [])
 (.block 0 (.loop (.seq (.seq (.region [⟨(some 5),.mv (.t 4),none⟩,
 ⟨(some 6),.mv (.t 0),none⟩,
 ⟨(some 7),.len 1 (.t 6),none⟩,
 ⟨(some 8),.bin .lss (.t 5) (.t 7),none⟩] [5,6,7])
 (.cond (.t 8)
 (.skip)
 (.exit 0)))
 (.seq (.block 1 (.seq (.seq (.region [⟨(some 11),.mv (.t 4),none⟩,
 ⟨(some 12),.bin .geq (.t 11) (.k (.c (.d (.int .i64 2000)))),none⟩,
 ⟨(some 13),.mv (.t 12),none⟩,
 ⟨(some 14),.mv (.t 0),some (13,false)⟩,
 ⟨(some 15),.mv (.t 4),some (13,false)⟩,
 ⟨(some 16),.indexAddr 4 (.t 14) (.t 15),some (13,false)⟩,
 ⟨(some 17),.load (some 4) (.t 16),some (13,false)⟩,
 ⟨(some 18),.qcall 38 [(.t 17)],some (13,false)⟩,
 ⟨(some 19),.un .not (.t 18),some (13,false)⟩,
 ⟨(some 20),.pick (.t 13) (.k (.c (.d (.bool true)))) (.t 19),none⟩] [8,11,12,13,14,15,16,17,18,19])
 (.cond (.t 20)
 (.seq (.region [⟨(some 2),.mv (.k (.c (.d (.str [])))),none⟩] [0,3,4,20])
 (.ret))
 (.skip)))
 (.region [⟨(some 21),.mv (.t 3),none⟩,
 ⟨(some 22),.mv (.t 0),none⟩,
 ⟨(some 23),.mv (.t 4),none⟩,
 ⟨(some 24),.indexAddr 4 (.t 22) (.t 23),none⟩,
 ⟨(some 25),.load (some 4) (.t 24),none⟩,
 ⟨(some 26),.qcall 39 [(.t 25)],none⟩,
 ⟨(some 27),.bin .add (.t 21) (.t 26),none⟩,
 ⟨(some 28),.bin .add (.t 27) (.k (.c (.d (.str [10])))),none⟩,
 ⟨(some 3),.mv (.t 28),none⟩] [2,20,21,22,23,24,25,26,27,28])))
 (.region [⟨(some 9),.mv (.t 4),none⟩,
 ⟨(some 10),.bin .add (.t 9) (.k (.c (.d (.int .i64 1)))),none⟩,
 ⟨(some 4),.mv (.t 10),none⟩] [9,10]))))))
 (.seq (.region [⟨(some 29),.mv (.t 3),none⟩,
 ⟨(some 2),.mv (.t 29),none⟩] [3,29])
 (.ret))))
theorem ac19_ok : cFunc Tryd.prog [1000038,1000039] [(0,[2],[]),(1,[],[]),(2,[],[]),(3,[5,6,7],[]),(5,[8,11,12,13,14,15,16,17,18,19],[]),(6,[0,3,4,20],[]),(7,[2,20,21,22,23,24,25,26,27,28],[]),(4,[9,10],[]),(8,[3,29],[])] Tryd.f19 = some (ac19,[.tmp 2],30) := by kernel_rfl
theorem l8Instr_calls (x : Ins) (hs : x.text.length ≤ 1048576) (H : Heap) : ACalls Tryd.prog 38 [.agg (x.row.map .d)] H (fun r H' => H' = H ∧ r = .c (.d (.bool x.okB))) := by
  obtain ⟨op, a, b, s⟩ := x
  rcases op_bits op with ⟨e1, e2, e3, e4⟩ | ⟨e1, e2, e3, e4⟩ | ⟨e1, e2, e3, e4⟩ | ⟨e1, e2, e3, e4⟩ | ⟨e1, e2, e3, e4⟩ | ⟨e1, e2, e3, e4⟩
  · exact l8Instr_0 op a b s hs e1 e2 e3 e4 H
  · exact l8Instr_1 op a b s hs e1 e2 e3 e4 H
  · exact l8Instr_2 op a b s hs e1 e2 e3 e4 H
  · exact l8Instr_3 op a b s hs e1 e2 e3 e4 H
  · exact l8Instr_4 op a b s hs e1 e2 e3 e4 H
  · exact l8Instr_5 op a b s hs e1 e2 e3 e4 H
set_option maxHeartbeats 3200000 in
theorem fcSpec_calls (L : List Ins) (hl : L.length ≤ 1048576) (hx : ∀ x ∈ L, x.ok ∧ x.text.length ≤ 1048576) (H : Heap) : ACalls Tryd.prog 19 [.c (.d (.sl (L.map Ins.row)))] H (fun r H' => H' = H ∧ r = .c (.d (.str (fcS L)))) := by
  refine acalls Tryd.func19 (by kernel_rfl) ac19_ok fun hf => ?_
  have hli : inR .i64 (L.length : Int) := small_i64 (by omega) (by omega)
  simp -implicitDefEqProofs [ac19, hli, hf, go_sem, -List.set_cons_succ, -List.set_cons_zero]
  refine loop_set (σ := Nat) (fun i => [(4, .c (.d (.int .i64 i))), (3, .c (.d (.str (fcO (L.take i)))))]) (fun _ => H) (fun _ => []) (fun i => i ≤ L.length ∧ i ≤ 2000 ∧ ∀ x ∈ L.take i, x.okB = true) (fun i => L.length - i) 0 (by simp [setAll, fcO]) ⟨Nat.zero_le _, Nat.zero_le _, by simp⟩ ?_
  rintro i ⟨hi, h2, hall⟩
  have hol := fcO_len (L.take i)
  have htl : (L.take i).length ≤ i := by simp; omega
  by_cases hlt : i < L.length
  · have hadd : inR .i64 ((i : Int) + 1) := small_i64 (by omega) (by omega)
    have hlt' : (i : Int) < L.length := by omega
    by_cases hbig : 2000 ≤ i
    · have hbig' : (2000 : Int) ≤ i := by omega
      rw [fcS_big (by omega)]
      simp -implicitDefEqProofs [setAll, hli, hlt, hlt', hbig, hbig', hf, go_sem, -List.set_cons_succ, -List.set_cons_zero]
      refine row_off (⟨0, 0, 0, []⟩ : Ins).row ?_
      simp -implicitDefEqProofs [Ins.row, hf, go_sem, -List.set_cons_succ, -List.set_cons_zero]
    · have hbig' : ¬ (2000 : Int) ≤ i := by omega
      obtain ⟨k1, k2⟩ := hx _ (List.getElem_mem hlt)
      have cl := l8Instr_calls L[i] k2
      have cf := fmtSpec_calls L[i] k1 k2
      have hfl := fmtL L[i]
      simp -implicitDefEqProofs [setAll, hli, hlt, hlt', hbig, hbig', hf, go_sem, -List.set_cons_succ, -List.set_cons_zero]
      refine row_of hlt rfl ?_
      simp -implicitDefEqProofs [Ins.row, hf, go_sem, -List.set_cons_succ, -List.set_cons_zero]
      refine qcall_pure cl hf rfl ?_
      cases hb : L[i].okB with
      | false =>
        rw [fcS_no (List.getElem_mem hlt) hb]
        simp -implicitDefEqProofs [hf, go_sem, -List.set_cons_succ, -List.set_cons_zero]
      | true =>
        simp -implicitDefEqProofs [hf, go_sem, -List.set_cons_succ, -List.set_cons_zero]
        refine row_of hlt rfl ?_
        simp -implicitDefEqProofs [Ins.row, hf, go_sem, -List.set_cons_succ, -List.set_cons_zero]
        refine qcall_pure cf hf rfl ?_
        simp -implicitDefEqProofs [maxStr, hadd, hf, go_sem, -List.set_cons_succ, -List.set_cons_zero]
        refine ⟨by omega, by omega, ?_⟩
        refine loop_back (i + 1) (by rw [fcO_succ hlt]; simp [setAll]) ⟨hlt, by omega, fun x hx2 => ?_⟩ (by show L.length - (i + 1) < L.length - i; omega)
        rw [List.take_succ_eq_append_getElem hlt] at hx2
        rcases List.mem_append.1 hx2 with h | h
        · exact hall x h
        · rw [List.mem_singleton.1 h]; exact hb
  · obtain rfl : i = L.length := by omega
    rw [List.take_length] at hall ⊢
    rw [fcS_all h2 hall]
    simp -implicitDefEqProofs [setAll, hli, hf, go_sem, -List.set_cons_succ, -List.set_cons_zero]
end Go.Proofs.YtnljciooabmogaaDoor
