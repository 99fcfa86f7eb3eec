/-
  Contracts of functions that the law reaches, and plain lemmas: several texts in one.
  Conditions: none.
-/
import Derived.Test.YtbblefjbgbocoaaDoorRows
import Derived.KernelRfl
import Derived.Test.YtbblefjbgbocoaaDoorAbsN
import Derived.Lib.ItoaNum
import Derived.Shelf.Strconv.Itoa3
import Derived.MakeChecks
import Derived.LaidMore
import Derived.Shelf.LaysM
import Derived.Lib.ItoaMem
import Derived.Shelf.LaysC
import Derived.Shelf.Strconv.AtoiAll
import Derived.LaidLaws
import Derived.Lib.AtoiAllCases
import Derived.Lib.Split
import Derived.Lib.SplitLaws
import Derived.Lib.IndexLaws
import Derived.Shelf.Strings.SplitShaped
import Derived.Handed
open Go Go.AM Go.Proofs
attribute [local go_sem] kw ew sw tw a_ b_ c_ A.ok A.val d_ e_ f_ g_ h_ i_ j_ k_ l_ m_ unA unD n_ AOp.total o_ p_ q_ r_ s_ t_ u_ v_ A.thaw C.thaw A.fits As.fits C.fits evs oks w_ A.pure C.pure A.re C.re x_ y_ cut A.cells C.rows? z_ A_ B_ C_ a0_ b0_ D_ Ob.re Cs.fits E_ F_ G_ H_ I_ J_ K_ L_ M_ N_ O_ C.toD P_ Q_ R_ S_ T_ Obs.fits U_ eqD V_ W_ X_ Y_ Z_
/-
  Small facts that the proofs of this seat share.
  Conditions: none.
-/
open Go Go.AM Go.Proofs
namespace Go.Proofs.YtbblefjbgbocoaaDoor
set_option linter.unusedVariables false
set_option linter.unusedSimpArgs false
theorem small_i64 {n : Int} (h : -1000000000000000 ≤ n) (h' : n ≤ 1000000000000000) : inR .i64 n := by
  unfold inR
  simp [IntKind.min, IntKind.max, IntKind.signed, IntKind.bits]
  omega
theorem reach_i64 {n : Nat} (h : n ≤ reachBytes) : inR .i64 (n : Int) := by simp only [inR, IntKind.min, IntKind.max, IntKind.signed, IntKind.bits, reachBytes] at *; omega
theorem i64_def {n : Int} : inR .i64 n ↔ -9223372036854775808 ≤ n ∧ n ≤ 9223372036854775807 := by
  unfold inR
  simp [IntKind.min, IntKind.max, IntKind.signed, IntKind.bits]
/-- the result of a call of a size: how much is left; where something is left, P holds -/
def Left (m : Int) (P : Prop) (r : A) : Prop := ∃ n : Int, r = .c (.d (.int .i64 n)) ∧ -1 ≤ n ∧ n ≤ m ∧ (0 ≤ n → P)
theorem Left.re {m : Int} {P : Prop} {r : A} {n : Nat} (h : Left m P r) : A.re n r = r := by
  obtain ⟨k, rfl, _⟩ := h
  rfl
/-- rows that are laid one by one -/
def fill {α : Type} (f : α → List D) (z : List D) (l : List α) (i : Nat) : List (List D) := (l.take i).map f ++ List.replicate (l.length - i) z
end Go.Proofs.YtbblefjbgbocoaaDoor

/-
  How long a numeral is.
  Conditions: none.
-/
open Go Go.AM Go.Proofs
namespace Go.Proofs.YtbblefjbgbocoaaDoor
set_option linter.unusedVariables false
set_option linter.unusedSimpArgs false
set_option maxRecDepth 100000
theorem itoa_len (n : Int) (h0 : -9223372036854775808 ≤ n) (h1 : n ≤ 9223372036854775807) : (Lib.itoa n).length ≤ 1000000 := by
  have key : ∀ k u : Nat, u < 10 ^ k → 0 < k → (Lib.decDigits u).length ≤ k := by
    intro k
    induction k with
    | zero => omega
    | succ k ih =>
      intro u hu _
      rw [Lib.decDigits]
      split
      · simp
      · rename_i hge
        have hk : 0 < k := by
          rcases Nat.eq_zero_or_pos k with e | e
          · subst e; simp at hu; omega
          · exact e
        have := ih (u / 10) (by rw [Nat.pow_succ] at hu; omega) hk
        simp
        omega
  unfold Lib.itoa
  split
  · have := key 30 n.natAbs (by omega) (by omega)
    simp
    omega
  · have := key 30 n.toNat (by omega) (by omega)
    omega
end Go.Proofs.YtbblefjbgbocoaaDoor

/-
  Numerals of the reference.
  Conditions: none.
-/
open Go Go.AM Go.Proofs
namespace Go.Proofs.YtbblefjbgbocoaaDoor
open Go.ChangeShapes Go.WideShapes Go.ChangeAt Go.RowKit
set_option linter.unusedVariables false
set_option linter.unusedSimpArgs false
set_option maxRecDepth 100000
-- 28 loop.example/prologserver/spec.l18Dec params 1 ntmps 31
-- loop head live: [0,3]
def ac28 : Cd := .seq (.region [⟨(some 2),.mv (.k (.c (.d (.str [])))),none⟩] [2])
 (.seq (.seq (.region [⟨(some 4),.mv (.t 0),none⟩,
 ⟨(some 5),.bin .lss (.t 4) (.k (.c (.d (.int .i64 (-9223372036854775807))))),none⟩] [4])
 (.cond (.t 5)
 (.seq (.region [⟨(some 2),.mv (.k (.c (.d (.str [45,57,50,50,51,51,55,50,48,51,54,56,53,52,55,55,53,56,48,56])))),none⟩] [0,5])
 (.ret))
 (.skip)))
 (.seq (.seq (.region [⟨(some 6),.mv (.t 0),none⟩,
 ⟨(some 7),.bin .lss (.t 6) (.k (.c (.d (.int .i64 0)))),none⟩] [2,5,6])
 (.cond (.t 7)
 (.seq (.region [⟨(some 8),.mv (.t 0),none⟩,
 ⟨(some 9),.un .neg (.t 8),none⟩,
 ⟨(some 10),.qcall 28 [(.t 9)],none⟩,
 ⟨(some 11),.bin .add (.k (.c (.d (.str [45])))) (.t 10),none⟩,
 ⟨(some 2),.mv (.t 11),none⟩] [0,7,8,9,10,11])
 (.ret))
 (.skip)))
 (.seq (.region [⟨(some 3),.mv (.k (.c (.d (.str [])))),none⟩] [2,7])
 (.seq (.block 0 (.loop (.seq (.seq (.region [⟨(some 12),.mv (.t 0),none⟩,
 ⟨(some 13),.bin .gtr (.t 12) (.k (.c (.d (.int .i64 9)))),none⟩] [12])
 (.cond (.t 13)
 (.skip)
 (.exit 0)))
 (.block 1 (.seq (.region [⟨(some 14),.mv (.t 0),none⟩,
 ⟨(some 15),.bin .rem (.t 14) (.k (.c (.d (.int .i64 10)))),none⟩,
 ⟨(some 16),.bin .add (.k (.c (.d (.int .i64 48)))) (.t 15),none⟩,
 ⟨(some 17),.cvInt .u8 (.t 16),none⟩,
 ⟨(some 18),.buildSlice 1 1 [(.int .u8 0)] [(0,(.t 17))],none⟩,
 ⟨(some 19),.cvB2S (.t 18),none⟩,
 ⟨(some 20),.mv (.t 3),none⟩,
 ⟨(some 21),.bin .add (.t 19) (.t 20),none⟩,
 ⟨(some 3),.mv (.t 21),none⟩] [13,14,15,16,17,18,19,20,21])
 (.region [⟨(some 22),.mv (.t 0),none⟩,
 ⟨(some 23),.bin .quo (.t 22) (.k (.c (.d (.int .i64 10)))),none⟩,
 ⟨(some 0),.mv (.t 23),none⟩] [22,23]))))))
 (.seq (.region [⟨(some 24),.mv (.t 0),none⟩,
 ⟨(some 25),.bin .add (.k (.c (.d (.int .i64 48)))) (.t 24),none⟩,
 ⟨(some 26),.cvInt .u8 (.t 25),none⟩,
 ⟨(some 27),.buildSlice 1 1 [(.int .u8 0)] [(0,(.t 26))],none⟩,
 ⟨(some 28),.cvB2S (.t 27),none⟩,
 ⟨(some 29),.mv (.t 3),none⟩,
 ⟨(some 30),.bin .add (.t 28) (.t 29),none⟩,
 ⟨(some 2),.mv (.t 30),none⟩] [0,3,24,25,26,27,28,29,30])
 (.ret))))))
theorem ac28_ok : cFunc Tryd.prog [1000028] [(0,[2],[]),(1,[4],[]),(2,[0,5],[]),(3,[2,5,6],[]),(4,[0,7,8,9,10,11],[]),(5,[2,7],[]),(6,[12],[]),(7,[13,14,15,16,17,18,19,20,21],[]),(8,[22,23],[]),(9,[0,3,24,25,26,27,28,29,30],[])] Tryd.f28 = some (ac28,[.tmp 2],31) := by kernel_rfl
-- 20 loop.example/prologserver/spec.l1Dec params 1 ntmps 11
def ac20 : Cd := .seq (.region [⟨(some 2),.mv (.k (.c (.d (.str [])))),none⟩] [2])
 (.seq (.seq (.region [⟨(some 3),.mv (.t 0),none⟩,
 ⟨(some 4),.bin .lss (.t 3) (.k (.c (.d (.int .i64 0)))),none⟩] [3])
 (.cond (.t 4)
 (.seq (.region [⟨(some 5),.mv (.t 0),none⟩,
 ⟨(some 6),.un .neg (.t 5),none⟩,
 ⟨(some 7),.qcall 28 [(.t 6)],none⟩,
 ⟨(some 8),.bin .add (.k (.c (.d (.str [45])))) (.t 7),none⟩,
 ⟨(some 2),.mv (.t 8),none⟩] [0,4,5,6,7,8])
 (.ret))
 (.skip)))
 (.seq (.region [⟨(some 9),.mv (.t 0),none⟩,
 ⟨(some 10),.qcall 28 [(.t 9)],none⟩,
 ⟨(some 2),.mv (.t 10),none⟩] [0,4,9,10])
 (.ret)))
theorem ac20_ok : cFunc Tryd.prog [1000028] [(0,[2],[]),(1,[3],[]),(2,[0,4,5,6,7,8],[]),(3,[0,4,9,10],[])] Tryd.f20 = some (ac20,[.tmp 2],11) := by kernel_rfl
theorem dd_small {n : Nat} (h : n < 10) : Lib.decDigits n = [UInt8.ofNat (48 + n)] := by rw [Lib.decDigits, dif_pos h]
theorem dd_big {n : Nat} (h : 10 ≤ n) : Lib.decDigits n = Lib.decDigits (n / 10) ++ [UInt8.ofNat (48 + n % 10)] := by rw [Lib.decDigits, dif_neg (by omega)]
theorem b2s_one {m : Nat} {K : A → St → Prop} {st : St} (h : m < 10) (hk : K (.c (.d (.str [UInt8.ofNat (48 + m)]))) st) : B2SK true [[.int .u8 (IntKind.wrap .u8 (48 + (m : Int)))]] K st := by
  refine ⟨[UInt8.ofNat (48 + m)], fun _ => ?_, hk⟩
  have : m = 0 ∨ m = 1 ∨ m = 2 ∨ m = 3 ∨ m = 4 ∨ m = 5 ∨ m = 6 ∨ m = 7 ∨ m = 8 ∨ m = 9 := by omega
  rcases this with rfl | rfl | rfl | rfl | rfl | rfl | rfl | rfl | rfl | rfl <;> rfl
theorem dec_pos (n : Nat) (hn : (n : Int) ≤ 9223372036854775807) (H : Heap) : ACalls Tryd.prog 28 [.c (.d (.int .i64 n))] H (fun r H' => H' = H ∧ r = .c (.d (.str (Lib.itoa n)))) := by
  refine acalls Tryd.func28 (by kernel_rfl) ac28_ok fun hf => ?_
  have h0 : ¬ ((n : Int) < -9223372036854775807) := by omega
  have h1 : ¬ ((n : Int) < 0) := by omega
  simp -implicitDefEqProofs [ac28, h0, h1, go_sem, -List.set_cons_succ, -List.set_cons_zero]
  have hlen : (Lib.decDigits n).length ≤ 1000000 := by
    have := itoa_len n (by omega) (by omega)
    rwa [Lib.itoa_nonneg] at this
  rw [Lib.itoa_nonneg]
  refine loop_set (σ := Nat × List UInt8) (fun x => [(0, .c (.d (.int .i64 x.1))), (3, .c (.d (.str x.2)))]) (fun _ => H) (fun _ => []) (fun x => x.1 ≤ n ∧ Lib.decDigits n = Lib.decDigits x.1 ++ x.2) (fun x => x.1) (n, []) rfl ⟨Nat.le_refl _, by simp⟩ ?_
  rintro ⟨m, out⟩ ⟨hm, hd⟩
  have hm1 : inR .i64 ((m : Int)) := i64_def.2 (by simp at hm; omega)
  have hol : out.length ≤ 1000000 := by rw [hd] at hlen; simp at hlen; omega
  simp only at hm hd
  simp -implicitDefEqProofs [setAll, go_sem, -List.set_cons_succ, -List.set_cons_zero]
  have hmod : (m : Int).tmod 10 = ((m % 10 : Nat) : Int) := by rw [Int.tmod_eq_emod_of_nonneg (by omega)]; omega
  have hquo : (m : Int).tdiv 10 = ((m / 10 : Nat) : Int) := by rw [Int.tdiv_eq_ediv_of_nonneg (by omega)]; omega
  have hq : inR .i64 ((m / 10 : Nat) : Int) := i64_def.2 (by omega)
  refine ⟨fun hgt => ?_, fun hle => ?_⟩
  · rw [hmod]
    refine ⟨small_i64 (by omega) (by omega), b2s_one (by omega) ?_⟩
    simp -implicitDefEqProofs [setAll, hquo, hq, maxStr, go_sem, -List.set_cons_succ, -List.set_cons_zero]
    refine ⟨by omega, ?_⟩
    refine ⟨by simpa using hq, ?_⟩
    refine loop_back (m / 10, UInt8.ofNat (48 + m % 10) :: out) (by simp [setAll]) ⟨by simp only; omega, ?_⟩ (by show m / 10 < m; omega)
    rw [hd, dd_big (n := m) (by omega)]
    simp
  · refine ⟨small_i64 (by omega) (by omega), b2s_one (by omega) ?_⟩
    simp -implicitDefEqProofs [setAll, maxStr, go_sem, -List.set_cons_succ, -List.set_cons_zero]
    rw [hd, dd_small (n := m) (by omega)]
    simp
    omega
theorem dec_calls (n : Int) (hn : inR .i64 n) (H : Heap) : ACalls Tryd.prog 28 [.c (.d (.int .i64 n))] H (fun r H' => H' = H ∧ r = .c (.d (.str (Lib.itoa n)))) := by
  obtain ⟨hn1, hn2⟩ := i64_def.1 hn
  rcases Int.lt_or_le n 0 with hneg | hpos
  · refine acalls Tryd.func28 (by kernel_rfl) ac28_ok fun hf => ?_
    simp -implicitDefEqProofs [ac28, go_sem, -List.set_cons_succ, -List.set_cons_zero]
    refine ⟨fun h => ?_, fun h => ?_⟩
    · have : n = -9223372036854775808 := by omega
      subst this
      decide +kernel
    · refine ⟨fun _ => ?_, fun h => by omega⟩
      have hi : inR .i64 (-n) := i64_def.2 (by omega)
      have h2 := dec_pos n.natAbs (by omega)
      have e : ((n.natAbs : Nat) : Int) = -n := by omega
      have e2 : Lib.itoa n = 45 :: Lib.itoa (-n) := by
        rw [← e, Lib.itoa_nonneg]
        unfold Lib.itoa
        rw [if_pos hneg]
      rw [e] at h2
      have h3 := itoa_len (-n) (by omega) (by omega)
      refine ⟨hi, qcall_pure h2 hf rfl ?_⟩
      simp -implicitDefEqProofs [e2, maxStr, go_sem, -List.set_cons_succ, -List.set_cons_zero]
      omega
  · have := dec_pos n.toNat (by omega) H
    rwa [Int.toNat_of_nonneg hpos] at this
theorem dec1_calls (n : Int) (hn1 : -9223372036854775807 ≤ n) (hn2 : n ≤ 9223372036854775807) (H : Heap) : ACalls Tryd.prog 20 [.c (.d (.int .i64 n))] H (fun r H' => H' = H ∧ r = .c (.d (.str (Lib.itoa n)))) := by
  refine acalls Tryd.func20 (by kernel_rfl) ac20_ok fun hf => ?_
  simp -implicitDefEqProofs [ac20, go_sem, -List.set_cons_succ, -List.set_cons_zero]
  refine ⟨fun hneg => ?_, fun hpos => ?_⟩
  · have e2 : Lib.itoa n = 45 :: Lib.itoa (-n) := by
      have e : ((n.natAbs : Nat) : Int) = -n := by omega
      rw [← e, Lib.itoa_nonneg]
      unfold Lib.itoa
      rw [if_pos hneg]
    have h3 := itoa_len (-n) (by omega) (by omega)
    refine ⟨i64_def.2 (by omega), qcall_pure (dec_calls (-n) (i64_def.2 (by omega))) hf rfl ?_⟩
    simp -implicitDefEqProofs [e2, maxStr, go_sem, -List.set_cons_succ, -List.set_cons_zero]
    omega
  · refine qcall_pure (dec_calls n (i64_def.2 (by omega))) hf rfl ?_
    simp -implicitDefEqProofs [go_sem, -List.set_cons_succ, -List.set_cons_zero]
end Go.Proofs.YtbblefjbgbocoaaDoor

/-
  strconv.Itoa as a call of the abstract machine, where the table that it reads is told.
  Conditions: none.
-/
open Go Go.AM Go.Proofs
namespace Go.Proofs
open Go.Shelf
def Tryd.laysM171_ren : Go.Shelf.Ren := ⟨fun | 171 => 26 | 243 => 40 | 246 => 52 | 283 => 60 | 284 => 61 | 285 => 62 | 286 => 63 | 129 => 67 | 317 => 66 | 318 => 68 | 319 => 69 | 320 => 70 | 337 => 71 | 338 => 72 | n => n, fun | 3 => 3 | 9 => 9 | 2 => 2 | 4 => 4 | 171 => 80 | 0 => 0 | 53 => 64 | 37 => 54 | 5 => 5 | 173 => 83 | 212 => 93 | 51 => 89 | 20 => 20 | 213 => 94 | 46 => 67 | 232 => 98 | 233 => 99 | n => n, fun | 17 => 5 | 18 => 6 | 19 => 7 | n => n⟩
theorem Tryd.laysM171 : Go.Proofs.LaysM.n171 Tryd.prog Tryd.laysM171_ren := {
  mixed := by kernel_rfl
  f129 := Tryd.func67.trans (congrArg some (by kernel_rfl))
  f171 := Tryd.func26.trans (congrArg some (by kernel_rfl))
  f243 := Tryd.func40.trans (congrArg some (by kernel_rfl))
  f246 := Tryd.func52.trans (congrArg some (by kernel_rfl))
  f283 := Tryd.func60.trans (congrArg some (by kernel_rfl))
  f284 := Tryd.func61.trans (congrArg some (by kernel_rfl))
  f285 := Tryd.func62.trans (congrArg some (by kernel_rfl))
  f286 := Tryd.func63.trans (congrArg some (by kernel_rfl))
  f317 := Tryd.func66.trans (congrArg some (by kernel_rfl))
  f318 := Tryd.func68.trans (congrArg some (by kernel_rfl))
  f319 := Tryd.func69.trans (congrArg some (by kernel_rfl))
  f320 := Tryd.func70.trans (congrArg some (by kernel_rfl))
  f337 := Tryd.func71.trans (congrArg some (by kernel_rfl))
  f338 := Tryd.func72.trans (congrArg some (by kernel_rfl))
  t0 := Tryd.underlying0
  a0 := Tryd.isAgg0
  z0 := Tryd.sizeOf0
  v0 := Tryd.zeroValue0
  t2 := Tryd.underlying2
  a2 := Tryd.isAgg2
  z2 := Tryd.sizeOf2
  v2 := Tryd.zeroValue2
  t3 := Tryd.underlying3
  a3 := Tryd.isAgg3
  z3 := Tryd.sizeOf3
  v3 := Tryd.zeroValue3
  t4 := Tryd.underlying4
  a4 := Tryd.isAgg4
  z4 := Tryd.sizeOf4
  v4 := Tryd.zeroValue4
  t5 := Tryd.underlying5
  a5 := Tryd.isAgg5
  z5 := Tryd.sizeOf5
  v5 := Tryd.zeroValue5
  t9 := Tryd.underlying9
  a9 := Tryd.isAgg9
  z9 := Tryd.sizeOf9
  v9 := Tryd.zeroValue9
  t20 := Tryd.underlying20
  a20 := Tryd.isAgg20
  z20 := Tryd.sizeOf20
  v20 := Tryd.zeroValue20
  t37 := Tryd.underlying54
  a37 := Tryd.isAgg54
  z37 := Tryd.sizeOf54
  v37 := Tryd.zeroValue54
  t46 := Tryd.underlying67
  a46 := Tryd.isAgg67
  z46 := Tryd.sizeOf67
  v46 := Tryd.zeroValue67
  t51 := Tryd.underlying89
  a51 := Tryd.isAgg89
  z51 := Tryd.sizeOf89
  v51 := Tryd.zeroValue89
  t53 := Tryd.underlying64
  a53 := Tryd.isAgg64
  z53 := Tryd.sizeOf64
  v53 := Tryd.zeroValue64
  t171 := Tryd.underlying80
  a171 := Tryd.isAgg80
  z171 := Tryd.sizeOf80
  v171 := Tryd.zeroValue80
  t173 := Tryd.underlying83
  a173 := Tryd.isAgg83
  z173 := Tryd.sizeOf83
  v173 := Tryd.zeroValue83
  t212 := Tryd.underlying93
  a212 := Tryd.isAgg93
  z212 := Tryd.sizeOf93
  v212 := Tryd.zeroValue93
  t213 := Tryd.underlying94
  a213 := Tryd.isAgg94
  z213 := Tryd.sizeOf94
  t232 := Tryd.underlying98
  a232 := Tryd.isAgg98
  z232 := Tryd.sizeOf98
  v232 := Tryd.zeroValue98
  t233 := Tryd.underlying99
  a233 := Tryd.isAgg99
  z233 := Tryd.sizeOf99
  v233 := Tryd.zeroValue99
  g17 := by kernel_rfl
  g18 := by kernel_rfl
  g19 := by kernel_rfl
  i0 := by kernel_rfl
  i2 := by kernel_rfl
  i3 := by kernel_rfl
  i4 := by kernel_rfl
  i5 := by kernel_rfl
  i9 := by kernel_rfl
  i20 := by kernel_rfl
  i37 := by kernel_rfl
  i46 := by kernel_rfl
  i51 := by kernel_rfl
  i53 := by kernel_rfl
  i171 := by kernel_rfl
  i173 := by kernel_rfl
  i212 := by kernel_rfl
  i232 := by kernel_rfl
  i233 := by kernel_rfl
  m17 := by kernel_rfl
  m18 := by kernel_rfl
  m19 := by kernel_rfl }
end Go.Proofs
namespace Go.Proofs.YtbblefjbgbocoaaDoor
open Go.Lib
set_option linter.unusedVariables false
set_option linter.unusedSimpArgs false
set_option maxRecDepth 100000
/-- block g holds the table -/
def Tab (g : Nat) (o : Obj) : Prop := ∀ (w : World), w.heap[g]? = some o → ∀ n : Int, -9223372036854775808 ≤ n → n ≤ 9223372036854775807 →
  Calls Tryd.prog 26 #[.int .i64 n] w fun e w' => e = .returned (.string ⟨(Lib.itoa n).toArray⟩) ∧ ∃ k os, w' = Sort.grow (w.drewN k) os
/-- what the law's rows list -/
def laid : List (String × DataW Unit) := Rows.fnExactParseInstrRow.laid
theorem itoa_call {g : Nat} {o : Obj} (hT : Tab g o) (n : Int) (hn : inR .i64 n) (H : Heap) (hH : H[0]? = some (.tab g o)) : ACalls Tryd.prog 26 [.c (.d (.int .i64 n))] H (fun r H' => H' = H ∧ r = .c (.d (.str (Lib.itoa n)))) := by
  have hb := i64_def.1 hn
  refine acalls_tab_str hH ⟨_, Tryd.func26, by kernel_rfl, by decide⟩ (by have := itoa_len n hb.1 hb.2; unfold maxStr; omega) ?_
  intro w ι k cargs hw hl ha
  obtain ⟨v, rfl⟩ : ∃ v, cargs = [v] := by
    match cargs, hl with
    | [v], _ => exact ⟨v, rfl⟩
  have h1 := ha 0 _ _ rfl rfl
  cases h1 with
  | c h => cases h with
    | d h => cases h with
      | int => exact hT w hw n hb.1 hb.2
end Go.Proofs.YtbblefjbgbocoaaDoor

/-
  Terms as data: what the laws' sizes, copies and comparisons of terms answer, and TermSame.
  Conditions: none.
-/
open Go Go.AM Go.Proofs
namespace Go.Proofs.YtbblefjbgbocoaaDoor
open Go.ChangeShapes Go.WideShapes Go.ChangeAt Go.RowKit
set_option linter.unusedVariables false
set_option linter.unusedSimpArgs false
set_option maxRecDepth 100000
/-- a term -/
inductive Tm where
  | mk (k n : Int) (s : List UInt8) (kids : List Tm)
  deriving Inhabited
def Tm.k : Tm → Int | .mk k _ _ _ => k
def Tm.n : Tm → Int | .mk _ n _ _ => n
def Tm.s : Tm → List UInt8 | .mk _ _ s _ => s
def Tm.kids : Tm → List Tm | .mk _ _ _ l => l
noncomputable instance : DecidableEq Tm := fun a b => Classical.propDecidable (a = b)
mutual
def Tm.row : Tm → List D
  | .mk k n s l => [.int .i64 k, .int .i64 n, .str s, .sl (Tm.rows l)]
def Tm.rows : List Tm → List (List D)
  | [] => []
  | t :: l => t.row :: Tm.rows l
end
theorem Tm.ind {p : Tm → Prop} (h : ∀ k n s l, (∀ t ∈ l, p t) → p (.mk k n s l)) : ∀ t, p t := by
  intro t
  induction hs : SizeOf.sizeOf t using Nat.strongRecOn generalizing t with
  | ind m ih =>
    obtain ⟨k, n, s, l⟩ := t
    refine h k n s l fun t ht => ih (SizeOf.sizeOf t) ?_ t rfl
    have := List.sizeOf_lt_of_mem ht
    simp at hs
    omega
/-- a term that a law looks at -/
inductive Tm.fits : Tm → Prop
  | mk {k n : Int} {s : List UInt8} {l : List Tm} : inR .i64 k → inR .i64 n → s.length ≤ 1048576 → l.length ≤ 1048576 → (∀ t ∈ l, t.fits) → (Tm.mk k n s l).fits
end Go.Proofs.YtbblefjbgbocoaaDoor

/-
  A number in a range.
  Conditions: none.
-/
open Go Go.AM Go.Proofs
namespace Go.Proofs.YtbblefjbgbocoaaDoor
open Go.ChangeShapes Go.WideShapes Go.ChangeAt Go.RowKit
set_option linter.unusedVariables false
set_option linter.unusedSimpArgs false
set_option maxRecDepth 100000
-- 24 loop.example/prologserver/impl.within params 3 ntmps 15
def ac24 : Cd := .seq (.region [⟨(some 6),.mv (.k (.c (.d (.bool false)))),none⟩] [6])
 (.seq (.region [⟨(some 7),.mv (.t 1),none⟩,
 ⟨(some 8),.mv (.t 0),none⟩,
 ⟨(some 9),.bin .leq (.t 7) (.t 8),none⟩,
 ⟨(some 10),.mv (.t 9),none⟩,
 ⟨(some 11),.mv (.t 0),some (10,true)⟩,
 ⟨(some 12),.mv (.t 2),some (10,true)⟩,
 ⟨(some 13),.bin .leq (.t 11) (.t 12),some (10,true)⟩,
 ⟨(some 14),.pick (.t 10) (.t 13) (.k (.c (.d (.bool false)))),none⟩,
 ⟨(some 6),.mv (.t 14),none⟩] [0,1,2,7,8,9,10,11,12,13,14])
 (.ret))
theorem ac24_ok : cFunc Tryd.prog [] [(0,[6],[]),(1,[0,1,2,7,8,9,10,11,12,13,14],[])] Tryd.f24 = some (ac24,[.tmp 6],15) := by kernel_rfl
theorem within_calls (x lo hi : Int) (H : Heap) : ACalls Tryd.prog 24 [.c (.d (.int .i64 x)), .c (.d (.int .i64 lo)), .c (.d (.int .i64 hi))] H (fun r H' => H' = H ∧ r = .c (.d (.bool (decide (lo ≤ x) && decide (x ≤ hi))))) := by
  refine acalls Tryd.func24 (by kernel_rfl) ac24_ok fun hf => ?_
  simp -implicitDefEqProofs [ac24, go_sem, -List.set_cons_succ, -List.set_cons_zero]
end Go.Proofs.YtbblefjbgbocoaaDoor

/-
  Names: letters and signs.
  Conditions: none.
-/
open Go Go.AM Go.Proofs
namespace Go.Proofs.YtbblefjbgbocoaaDoor
open Go.ChangeShapes Go.WideShapes Go.ChangeAt Go.RowKit
set_option linter.unusedVariables false
set_option linter.unusedSimpArgs false
set_option maxRecDepth 100000
-- 37 loop.example/prologserver/impl.isLetters params 1 ntmps 23
-- loop head live: [0,5,6]
def ac37 : Cd := .seq (.region [⟨(some 2),.mv (.k (.c (.d (.bool false)))),none⟩] [2])
 (.seq (.seq (.region [⟨(some 4),.mv (.t 0),none⟩,
 ⟨(some 5),.len 0 (.t 4),none⟩,
 ⟨(some 6),.mv (.k (.c (.d (.int .i64 0)))),none⟩] [4])
 (.block 0 (.loop (.seq (.region [⟨(some 7),.bin .lss (.t 6) (.t 5),none⟩] [])
 (.seq (.cond (.t 7)
 (.skip)
 (.exit 0))
 (.seq (.block 1 (.seq (.region [⟨(some 8),.mv (.t 6),none⟩,
 ⟨(some 3),.mv (.t 8),none⟩] [7,8])
 (.seq (.region [⟨(some 9),.mv (.t 0),none⟩,
 ⟨(some 10),.mv (.t 3),none⟩,
 ⟨(some 11),.index (.t 9) (.t 10),none⟩,
 ⟨(some 12),.bin .lss (.t 11) (.k (.c (.d (.int .u8 97)))),none⟩,
 ⟨(some 13),.mv (.t 12),none⟩,
 ⟨(some 14),.mv (.t 0),some (13,false)⟩,
 ⟨(some 15),.mv (.t 3),some (13,false)⟩,
 ⟨(some 16),.index (.t 14) (.t 15),some (13,false)⟩,
 ⟨(some 17),.bin .gtr (.t 16) (.k (.c (.d (.int .u8 122)))),some (13,false)⟩,
 ⟨(some 18),.pick (.t 13) (.k (.c (.d (.bool true)))) (.t 17),none⟩] [3,9,10,11,12,13,14,15,16,17])
 (.cond (.t 18)
 (.seq (.region [⟨(some 2),.mv (.k (.c (.d (.bool false)))),none⟩] [0,5,6,18])
 (.ret))
 (.skip)))))
 (.region [⟨(some 19),.bin .add (.t 6) (.k (.c (.d (.int .i64 1)))),none⟩,
 ⟨(some 6),.mv (.t 19),none⟩] [2,18,19])))))))
 (.seq (.region [⟨(some 20),.mv (.t 0),none⟩,
 ⟨(some 21),.len 0 (.t 20),none⟩,
 ⟨(some 22),.qcall 24 [(.t 21),(.k (.c (.d (.int .i64 1)))),(.k (.c (.d (.int .i64 6))))],none⟩,
 ⟨(some 2),.mv (.t 22),none⟩] [0,20,21,22])
 (.ret)))
theorem ac37_ok : cFunc Tryd.prog [1000024] [(0,[2],[]),(1,[4],[]),(2,[],[]),(3,[7,8],[]),(4,[3,9,10,11,12,13,14,15,16,17],[]),(5,[0,5,6,18],[]),(6,[2,18,19],[]),(7,[0,20,21,22],[])] Tryd.f37 = some (ac37,[.tmp 2],23) := by kernel_rfl
-- 41 loop.example/prologserver/spec.l1Word params 1 ntmps 28
-- loop head live: [0,3]
def ac41 : Cd := .seq (.region [⟨(some 2),.mv (.k (.c (.d (.bool false)))),none⟩] [2])
 (.seq (.seq (.region [⟨(some 3),.mv (.k (.c (.d (.int .i64 0)))),none⟩] [])
 (.block 0 (.loop (.seq (.seq (.region [⟨(some 4),.mv (.t 3),none⟩,
 ⟨(some 5),.mv (.t 0),none⟩,
 ⟨(some 6),.len 0 (.t 5),none⟩,
 ⟨(some 7),.bin .lss (.t 4) (.t 6),none⟩] [4,5,6])
 (.cond (.t 7)
 (.skip)
 (.exit 0)))
 (.seq (.block 1 (.seq (.region [⟨(some 10),.mv (.t 0),none⟩,
 ⟨(some 11),.mv (.t 3),none⟩,
 ⟨(some 12),.index (.t 10) (.t 11),none⟩,
 ⟨(some 13),.bin .lss (.t 12) (.k (.c (.d (.int .u8 97)))),none⟩,
 ⟨(some 14),.mv (.t 13),none⟩,
 ⟨(some 15),.mv (.t 0),some (14,false)⟩,
 ⟨(some 16),.mv (.t 3),some (14,false)⟩,
 ⟨(some 17),.index (.t 15) (.t 16),some (14,false)⟩,
 ⟨(some 18),.bin .gtr (.t 17) (.k (.c (.d (.int .u8 122)))),some (14,false)⟩,
 ⟨(some 19),.pick (.t 14) (.k (.c (.d (.bool true)))) (.t 18),none⟩] [7,10,11,12,13,14,15,16,17,18])
 (.cond (.t 19)
 (.seq (.region [⟨(some 2),.mv (.k (.c (.d (.bool false)))),none⟩] [0,3,19])
 (.ret))
 (.skip))))
 (.region [⟨(some 8),.mv (.t 3),none⟩,
 ⟨(some 9),.bin .add (.t 8) (.k (.c (.d (.int .i64 1)))),none⟩,
 ⟨(some 3),.mv (.t 9),none⟩] [2,8,9,19]))))))
 (.seq (.region [⟨(some 20),.mv (.t 0),none⟩,
 ⟨(some 21),.len 0 (.t 20),none⟩,
 ⟨(some 22),.bin .geq (.t 21) (.k (.c (.d (.int .i64 1)))),none⟩,
 ⟨(some 23),.mv (.t 22),none⟩,
 ⟨(some 24),.mv (.t 0),some (23,true)⟩,
 ⟨(some 25),.len 0 (.t 24),some (23,true)⟩,
 ⟨(some 26),.bin .leq (.t 25) (.k (.c (.d (.int .i64 6)))),some (23,true)⟩,
 ⟨(some 27),.pick (.t 23) (.t 26) (.k (.c (.d (.bool false)))),none⟩,
 ⟨(some 2),.mv (.t 27),none⟩] [0,20,21,22,23,24,25,26,27])
 (.ret)))
theorem ac41_ok : cFunc Tryd.prog [] [(0,[2],[]),(1,[],[]),(2,[4,5,6],[]),(4,[7,10,11,12,13,14,15,16,17,18],[]),(5,[0,3,19],[]),(3,[2,8,9,19],[]),(6,[0,20,21,22,23,24,25,26,27],[])] Tryd.f41 = some (ac41,[.tmp 2],28) := by kernel_rfl
-- 39 loop.example/prologserver/impl.symbols params 0 ntmps 2
def ac39 : Cd := .seq (.region [⟨(some 0),.mv (.k (.c (.full []))),none⟩] [0])
 (.seq (.region [⟨(some 1),.buildSlice 1 15 [(.str [])] [(0,(.k (.c (.d (.str [43]))))),(1,(.k (.c (.d (.str [45]))))),(2,(.k (.c (.d (.str [42]))))),(3,(.k (.c (.d (.str [47,47]))))),(4,(.k (.c (.d (.str [61]))))),(5,(.k (.c (.d (.str [92,61]))))),(6,(.k (.c (.d (.str [61,61]))))),(7,(.k (.c (.d (.str [60]))))),(8,(.k (.c (.d (.str [62]))))),(9,(.k (.c (.d (.str [61,60]))))),(10,(.k (.c (.d (.str [62,61]))))),(11,(.k (.c (.d (.str [61,58,61]))))),(12,(.k (.c (.d (.str [46]))))),(13,(.k (.c (.d (.str [91,93]))))),(14,(.k (.c (.d (.str [33])))))],none⟩,
 ⟨(some 0),.mv (.t 1),none⟩] [1])
 (.ret))
theorem ac39_ok : cFunc Tryd.prog [] [(0,[0],[]),(1,[1],[])] Tryd.f39 = some (ac39,[.tmp 0],2) := by kernel_rfl
-- 43 loop.example/prologserver/spec.l1Signs params 0 ntmps 2
def ac43 : Cd := .seq (.region [⟨(some 0),.mv (.k (.c (.full []))),none⟩] [0])
 (.seq (.region [⟨(some 1),.buildSlice 1 15 [(.str [])] [(0,(.k (.c (.d (.str [43]))))),(1,(.k (.c (.d (.str [45]))))),(2,(.k (.c (.d (.str [42]))))),(3,(.k (.c (.d (.str [47,47]))))),(4,(.k (.c (.d (.str [61]))))),(5,(.k (.c (.d (.str [92,61]))))),(6,(.k (.c (.d (.str [61,61]))))),(7,(.k (.c (.d (.str [60]))))),(8,(.k (.c (.d (.str [62]))))),(9,(.k (.c (.d (.str [61,60]))))),(10,(.k (.c (.d (.str [62,61]))))),(11,(.k (.c (.d (.str [61,58,61]))))),(12,(.k (.c (.d (.str [46]))))),(13,(.k (.c (.d (.str [91,93]))))),(14,(.k (.c (.d (.str [33])))))],none⟩,
 ⟨(some 0),.mv (.t 1),none⟩] [1])
 (.ret))
theorem ac43_ok : cFunc Tryd.prog [] [(0,[0],[]),(1,[1],[])] Tryd.f43 = some (ac43,[.tmp 0],2) := by kernel_rfl
-- 51 slices.Index[[]string,string] params 2 ntmps 19
-- loop head live: [0,1,7,8]
def ac51 : Cd := .seq (.region [⟨(some 4),.mv (.k (.c (.d (.int .i64 0)))),none⟩] [4])
 (.seq (.seq (.region [⟨(some 6),.mv (.t 0),none⟩,
 ⟨(some 7),.len 1 (.t 6),none⟩,
 ⟨(some 8),.mv (.k (.c (.d (.int .i64 0)))),none⟩] [6])
 (.block 0 (.loop (.seq (.region [⟨(some 9),.bin .lss (.t 8) (.t 7),none⟩] [])
 (.seq (.cond (.t 9)
 (.skip)
 (.exit 0))
 (.seq (.block 1 (.seq (.region [⟨(some 10),.mv (.t 8),none⟩,
 ⟨(some 5),.mv (.t 10),none⟩] [9,10])
 (.seq (.region [⟨(some 11),.mv (.t 1),none⟩,
 ⟨(some 12),.mv (.t 0),none⟩,
 ⟨(some 13),.mv (.t 5),none⟩,
 ⟨(some 14),.indexAddr 1 (.t 12) (.t 13),none⟩,
 ⟨(some 15),.load none (.t 14),none⟩,
 ⟨(some 16),.bin .eql (.t 11) (.t 15),none⟩] [11,12,13,14,15])
 (.cond (.t 16)
 (.seq (.region [⟨(some 17),.mv (.t 5),none⟩,
 ⟨(some 4),.mv (.t 17),none⟩] [0,1,5,7,8,16,17])
 (.ret))
 (.skip)))))
 (.region [⟨(some 18),.bin .add (.t 8) (.k (.c (.d (.int .i64 1)))),none⟩,
 ⟨(some 8),.mv (.t 18),none⟩] [4,5,16,18])))))))
 (.seq (.region [⟨(some 4),.mv (.k (.c (.d (.int .i64 (-1))))),none⟩] [])
 (.ret)))
theorem ac51_ok : cFunc Tryd.prog [] [(0,[4],[]),(1,[6],[]),(2,[],[]),(3,[9,10],[]),(4,[11,12,13,14,15],[]),(5,[0,1,5,7,8,16,17],[]),(6,[4,5,16,18],[]),(7,[],[])] Tryd.f51 = some (ac51,[.tmp 4],19) := by kernel_rfl
-- 38 slices.Contains[[]string,string] params 2 ntmps 9
def ac38 : Cd := .seq (.region [⟨(some 4),.mv (.k (.c (.d (.bool false)))),none⟩] [4])
 (.seq (.region [⟨(some 5),.mv (.t 0),none⟩,
 ⟨(some 6),.mv (.t 1),none⟩,
 ⟨(some 7),.call false 51 [(.t 5),(.t 6)],none⟩,
 ⟨(some 8),.bin .geq (.t 7) (.k (.c (.d (.int .i64 0)))),none⟩,
 ⟨(some 4),.mv (.t 8),none⟩] [0,1,5,6,7,8])
 (.ret))
theorem ac38_ok : cFunc Tryd.prog [] [(0,[4],[]),(1,[0,1,5,6,7,8],[])] Tryd.f38 = some (ac38,[.tmp 4],9) := by kernel_rfl
-- 42 loop.example/prologserver/spec.l1Has params 2 ntmps 18
-- loop head live: [0,1,5]
def ac42 : Cd := .seq (.region [⟨(some 4),.mv (.k (.c (.d (.bool false)))),none⟩] [4])
 (.seq (.seq (.region [⟨(some 5),.mv (.k (.c (.d (.int .i64 0)))),none⟩] [])
 (.block 0 (.loop (.seq (.seq (.region [⟨(some 6),.mv (.t 5),none⟩,
 ⟨(some 7),.mv (.t 0),none⟩,
 ⟨(some 8),.len 1 (.t 7),none⟩,
 ⟨(some 9),.bin .lss (.t 6) (.t 8),none⟩] [6,7,8])
 (.cond (.t 9)
 (.skip)
 (.exit 0)))
 (.seq (.block 1 (.seq (.region [⟨(some 12),.mv (.t 0),none⟩,
 ⟨(some 13),.mv (.t 5),none⟩,
 ⟨(some 14),.indexAddr 1 (.t 12) (.t 13),none⟩,
 ⟨(some 15),.load none (.t 14),none⟩,
 ⟨(some 16),.mv (.t 1),none⟩,
 ⟨(some 17),.bin .eql (.t 15) (.t 16),none⟩] [9,12,13,14,15,16])
 (.cond (.t 17)
 (.seq (.region [⟨(some 4),.mv (.k (.c (.d (.bool true)))),none⟩] [0,1,5,17])
 (.ret))
 (.skip))))
 (.region [⟨(some 10),.mv (.t 5),none⟩,
 ⟨(some 11),.bin .add (.t 10) (.k (.c (.d (.int .i64 1)))),none⟩,
 ⟨(some 5),.mv (.t 11),none⟩] [4,10,11,17]))))))
 (.seq (.region [⟨(some 4),.mv (.k (.c (.d (.bool false)))),none⟩] [])
 (.ret)))
theorem ac42_ok : cFunc Tryd.prog [] [(0,[4],[]),(1,[],[]),(2,[6,7,8],[]),(4,[9,12,13,14,15,16],[]),(5,[0,1,5,17],[]),(3,[4,10,11,17],[]),(6,[],[])] Tryd.f42 = some (ac42,[.tmp 4],18) := by kernel_rfl
-- 25 loop.example/prologserver/impl.NameValid params 1 ntmps 10
def ac25 : Cd := .seq (.region [⟨(some 2),.mv (.k (.c (.d (.bool false)))),none⟩] [2])
 (.seq (.region [⟨(some 3),.mv (.t 0),none⟩,
 ⟨(some 4),.qcall 37 [(.t 3)],none⟩,
 ⟨(some 5),.mv (.t 4),none⟩,
 ⟨(some 6),.qcall 39 [],some (5,false)⟩,
 ⟨(some 7),.mv (.t 0),some (5,false)⟩,
 ⟨(some 8),.qcall 38 [(.t 6),(.t 7)],some (5,false)⟩,
 ⟨(some 9),.pick (.t 5) (.k (.c (.d (.bool true)))) (.t 8),none⟩,
 ⟨(some 2),.mv (.t 9),none⟩] [0,3,4,5,6,7,8,9])
 (.ret))
theorem ac25_ok : cFunc Tryd.prog [1000037,1000038,1000039] [(0,[2],[]),(1,[0,3,4,5,6,7,8,9],[])] Tryd.f25 = some (ac25,[.tmp 2],10) := by kernel_rfl
-- 27 loop.example/prologserver/spec.NameValid params 1 ntmps 10
def ac27 : Cd := .seq (.region [⟨(some 2),.mv (.k (.c (.d (.bool false)))),none⟩] [2])
 (.seq (.region [⟨(some 3),.mv (.t 0),none⟩,
 ⟨(some 4),.qcall 41 [(.t 3)],none⟩,
 ⟨(some 5),.mv (.t 4),none⟩,
 ⟨(some 6),.qcall 43 [],some (5,false)⟩,
 ⟨(some 7),.mv (.t 0),some (5,false)⟩,
 ⟨(some 8),.qcall 42 [(.t 6),(.t 7)],some (5,false)⟩,
 ⟨(some 9),.pick (.t 5) (.k (.c (.d (.bool true)))) (.t 8),none⟩,
 ⟨(some 2),.mv (.t 9),none⟩] [0,3,4,5,6,7,8,9])
 (.ret))
theorem ac27_ok : cFunc Tryd.prog [1000041,1000042,1000043] [(0,[2],[]),(1,[0,3,4,5,6,7,8,9],[])] Tryd.f27 = some (ac27,[.tmp 2],10) := by kernel_rfl
def lowB (b : UInt8) : Bool := decide ((97 : Int) ≤ b.toNat) && decide ((b.toNat : Int) ≤ 122)
/-- a name of letters -/
def lettersB (s : List UInt8) : Bool := s.all lowB && (decide ((1 : Int) ≤ s.length) && decide ((s.length : Int) ≤ 6))
def signs : List (List UInt8) := [[43], [45], [42], [47, 47], [61], [92, 61], [61, 61], [60], [62], [61, 60], [62, 61], [61, 58, 61], [46], [91, 93], [33]]
def strRow (s : List UInt8) : List D := [.str s]
theorem low_take_succ {p : UInt8 → Bool} {s : List UInt8} {i : Nat} (h : i < s.length) (ha : ∀ b ∈ s.take i, p b = true) (hb : p s[i] = true) : ∀ b ∈ s.take (i + 1), p b = true := by
  intro b h'
  rw [List.take_add_one, List.mem_append] at h'
  rcases h' with h' | h'
  · exact ha b h'
  · rw [List.getElem?_eq_getElem h] at h'
    simp at h'; subst h'; exact hb
set_option maxHeartbeats 3200000 in
theorem isLetters_calls (s : List UInt8) (hs : s.length ≤ 1000000000000) (H : Heap) : ACalls Tryd.prog 37 [.c (.d (.str s))] H (fun r H' => H' = H ∧ r = .c (.d (.bool (lettersB s)))) := by
  refine acalls Tryd.func37 (by kernel_rfl) ac37_ok fun hf => ?_
  have hlen : inR .i64 (s.length : Int) := small_i64 (by omega) (by omega)
  simp -implicitDefEqProofs [ac37, hlen, go_sem, -List.set_cons_succ, -List.set_cons_zero]
  refine loop_set (σ := Nat) (fun i => [(6, .c (.d (.int .i64 i)))]) (fun _ => H) (fun _ => []) (fun i => i ≤ s.length ∧ ∀ b ∈ s.take i, lowB b = true) (fun i => s.length - i) 0 rfl ⟨Nat.zero_le _, by simp⟩ ?_
  rintro i ⟨hi, hall⟩
  simp -implicitDefEqProofs [setAll, hlen, go_sem, -List.set_cons_succ, -List.set_cons_zero]
  refine ⟨fun hlt => byte_nat hlt ?_, fun hge => ?_⟩
  · have hadd : inR .i64 ((i : Int) + 1) := small_i64 (by omega) (by omega)
    have bad : lowB s[i] = false → lettersB s = false := fun h => by
      have : s.all lowB = false := by
        rw [List.all_eq_false]
        exact ⟨s[i], List.getElem_mem hlt, by simp [h]⟩
      simp [lettersB, this]
    by_cases h97 : (s[i].toNat : Int) < 97
    · simp -implicitDefEqProofs [h97, go_sem, -List.set_cons_succ, -List.set_cons_zero]
      refine byte_off 0 ?_
      simp -implicitDefEqProofs [go_sem, -List.set_cons_succ, -List.set_cons_zero]
      rw [bad (by simp [lowB]; omega)]
    · simp -implicitDefEqProofs [h97, go_sem, -List.set_cons_succ, -List.set_cons_zero]
      refine byte_nat hlt ?_
      simp -implicitDefEqProofs [hadd, go_sem, -List.set_cons_succ, -List.set_cons_zero]
      refine ⟨fun h => by rw [bad (by simp [lowB]; omega)], fun h => ?_⟩
      exact loop_back (i + 1) (by simp [setAll]) ⟨hlt, low_take_succ hlt hall (by simp [lowB]; omega)⟩ (by show s.length - (i + 1) < s.length - i; omega)
  · have hil : i = s.length := by omega
    subst hil
    rw [List.take_length] at hall
    have hok : s.all lowB = true := List.all_eq_true.2 hall
    refine qcall_pure (within_calls s.length 1 6) hf rfl ?_
    simp -implicitDefEqProofs [lettersB, hok, go_sem, -List.set_cons_succ, -List.set_cons_zero]
set_option maxHeartbeats 3200000 in
theorem l1Word_calls (s : List UInt8) (hs : s.length ≤ 1000000000000) (H : Heap) : ACalls Tryd.prog 41 [.c (.d (.str s))] H (fun r H' => H' = H ∧ r = .c (.d (.bool (lettersB s)))) := by
  refine acalls Tryd.func41 (by kernel_rfl) ac41_ok fun hf => ?_
  have hlen : inR .i64 (s.length : Int) := small_i64 (by omega) (by omega)
  simp -implicitDefEqProofs [ac41, hlen, go_sem, -List.set_cons_succ, -List.set_cons_zero]
  refine loop_set (σ := Nat) (fun i => [(3, .c (.d (.int .i64 i)))]) (fun _ => H) (fun _ => []) (fun i => i ≤ s.length ∧ ∀ b ∈ s.take i, lowB b = true) (fun i => s.length - i) 0 rfl ⟨Nat.zero_le _, by simp⟩ ?_
  rintro i ⟨hi, hall⟩
  simp -implicitDefEqProofs [setAll, hlen, go_sem, -List.set_cons_succ, -List.set_cons_zero]
  refine ⟨fun hlt => byte_nat hlt ?_, fun hge => ?_⟩
  · have hadd : inR .i64 ((i : Int) + 1) := small_i64 (by omega) (by omega)
    have bad : lowB s[i] = false → lettersB s = false := fun h => by
      have : s.all lowB = false := by
        rw [List.all_eq_false]
        exact ⟨s[i], List.getElem_mem hlt, by simp [h]⟩
      simp [lettersB, this]
    by_cases h97 : (s[i].toNat : Int) < 97
    · simp -implicitDefEqProofs [h97, go_sem, -List.set_cons_succ, -List.set_cons_zero]
      refine byte_off 0 ?_
      simp -implicitDefEqProofs [go_sem, -List.set_cons_succ, -List.set_cons_zero]
      rw [bad (by simp [lowB]; omega)]
    · simp -implicitDefEqProofs [h97, go_sem, -List.set_cons_succ, -List.set_cons_zero]
      refine byte_nat hlt ?_
      simp -implicitDefEqProofs [hadd, go_sem, -List.set_cons_succ, -List.set_cons_zero]
      refine ⟨fun h => by rw [bad (by simp [lowB]; omega)], fun h => ?_⟩
      exact loop_back (i + 1) (by simp [setAll]) ⟨hlt, low_take_succ hlt hall (by simp [lowB]; omega)⟩ (by show s.length - (i + 1) < s.length - i; omega)
  · have hil : i = s.length := by omega
    subst hil
    rw [List.take_length] at hall
    have hok : s.all lowB = true := List.all_eq_true.2 hall
    simp [lettersB, hok]
set_option maxHeartbeats 3200000 in
theorem symbols_calls (H : Heap) : ACalls Tryd.prog 39 [] H (fun r H' => H' = H ∧ r = .c (.d (.sl (signs.map strRow)))) := by
  refine acalls Tryd.func39 (by kernel_rfl) ac39_ok fun hf => ?_
  simp -implicitDefEqProofs [ac39, signs, strRow, go_sem, -List.set_cons_succ, -List.set_cons_zero]
set_option maxHeartbeats 3200000 in
theorem l1Signs_calls (H : Heap) : ACalls Tryd.prog 43 [] H (fun r H' => H' = H ∧ r = .c (.d (.sl (signs.map strRow)))) := by
  refine acalls Tryd.func43 (by kernel_rfl) ac43_ok fun hf => ?_
  simp -implicitDefEqProofs [ac43, signs, strRow, go_sem, -List.set_cons_succ, -List.set_cons_zero]
set_option maxHeartbeats 3200000 in
theorem index_calls (l : List (List UInt8)) (hl : l.length ≤ 1048576) (s : List UInt8) (H : Heap) : ACalls Tryd.prog 51 [.c (.d (.sl (l.map strRow))), .c (.d (.str s))] H (fun r H' => H' = H ∧ ∃ k : Int, r = .c (.d (.int .i64 k)) ∧ decide (0 ≤ k) = l.contains s) := by
  refine acalls Tryd.func51 (by kernel_rfl) ac51_ok fun hf => ?_
  have hli : inR .i64 (l.length : Int) := small_i64 (by omega) (by omega)
  simp -implicitDefEqProofs [ac51, hli, go_sem, -List.set_cons_succ, -List.set_cons_zero]
  refine loop_set (σ := Nat) (fun i => [(8, .c (.d (.int .i64 i)))]) (fun _ => H) (fun _ => []) (fun i => i ≤ l.length ∧ s ∉ l.take i) (fun i => l.length - i) 0 rfl ⟨Nat.zero_le _, by simp⟩ ?_
  rintro i ⟨hi, hno⟩
  simp -implicitDefEqProofs [setAll, hli, go_sem, -List.set_cons_succ, -List.set_cons_zero]
  refine ⟨fun hlt => ?_, fun hge => ?_⟩
  · refine row_of hlt rfl ?_
    have hadd : inR .i64 ((i : Int) + 1) := small_i64 (by omega) (by omega)
    simp -implicitDefEqProofs [strRow, hadd, go_sem, -List.set_cons_succ, -List.set_cons_zero]
    refine ⟨fun h => ?_, fun h => ?_⟩
    · subst h; exact List.getElem_mem hlt
    · refine loop_back (i + 1) (by simp [setAll]) ⟨hlt, ?_⟩ (by show l.length - (i + 1) < l.length - i; omega)
      rw [List.take_succ_eq_append_getElem hlt, List.mem_append]
      rintro (h' | h')
      · exact hno h'
      · simp at h'; exact h h'
  · rw [List.take_of_length_le hge] at hno
    simp [hno]
set_option maxHeartbeats 3200000 in
theorem contains_calls (l : List (List UInt8)) (hl : l.length ≤ 1048576) (s : List UInt8) (H : Heap) : ACalls Tryd.prog 38 [.c (.d (.sl (l.map strRow))), .c (.d (.str s))] H (fun r H' => H' = H ∧ r = .c (.d (.bool (l.contains s)))) := by
  refine acalls Tryd.func38 (by kernel_rfl) ac38_ok fun hf => ?_
  simp -implicitDefEqProofs [ac38, go_sem, -List.set_cons_succ, -List.set_cons_zero]
  refine call_some (index_calls l hl s _) (by simp) (fun r ⟨k, hk, _⟩ => by subst hk; rfl) hf ?_
  rintro _ ⟨k, rfl, hk⟩
  simp -implicitDefEqProofs [go_sem, -List.set_cons_succ, -List.set_cons_zero]
  simpa using hk
set_option maxHeartbeats 3200000 in
theorem l1Has_calls (l : List (List UInt8)) (hl : l.length ≤ 1048576) (s : List UInt8) (H : Heap) : ACalls Tryd.prog 42 [.c (.d (.sl (l.map strRow))), .c (.d (.str s))] H (fun r H' => H' = H ∧ r = .c (.d (.bool (l.contains s)))) := by
  refine acalls Tryd.func42 (by kernel_rfl) ac42_ok fun hf => ?_
  have hli : inR .i64 (l.length : Int) := small_i64 (by omega) (by omega)
  simp -implicitDefEqProofs [ac42, hli, go_sem, -List.set_cons_succ, -List.set_cons_zero]
  refine loop_set (σ := Nat) (fun i => [(5, .c (.d (.int .i64 i)))]) (fun _ => H) (fun _ => []) (fun i => i ≤ l.length ∧ s ∉ l.take i) (fun i => l.length - i) 0 rfl ⟨Nat.zero_le _, by simp⟩ ?_
  rintro i ⟨hi, hno⟩
  simp -implicitDefEqProofs [setAll, hli, go_sem, -List.set_cons_succ, -List.set_cons_zero]
  refine ⟨fun hlt => ?_, fun hge => ?_⟩
  · refine row_of hlt rfl ?_
    have hadd : inR .i64 ((i : Int) + 1) := small_i64 (by omega) (by omega)
    simp -implicitDefEqProofs [strRow, hadd, go_sem, -List.set_cons_succ, -List.set_cons_zero]
    refine ⟨fun h => ?_, fun h => ?_⟩
    · subst h; exact List.getElem_mem hlt
    · refine loop_back (i + 1) (by simp [setAll]) ⟨hlt, ?_⟩ (by show l.length - (i + 1) < l.length - i; omega)
      rw [List.take_succ_eq_append_getElem hlt, List.mem_append]
      rintro (h' | h')
      · exact hno h'
      · simp at h'; exact h h'.symm
  · rw [List.take_of_length_le hge] at hno
    simpa using hno
/-- a name -/
def nameB (s : List UInt8) : Bool := lettersB s || signs.contains s
set_option maxHeartbeats 3200000 in
theorem nvImpl_calls (s : List UInt8) (hs : s.length ≤ 1000000000000) (H : Heap) : ACalls Tryd.prog 25 [.c (.d (.str s))] H (fun r H' => H' = H ∧ r = .c (.d (.bool (nameB s)))) := by
  refine acalls Tryd.func25 (by kernel_rfl) ac25_ok fun hf => ?_
  simp -implicitDefEqProofs [ac25, go_sem, -List.set_cons_succ, -List.set_cons_zero]
  refine qcall_pure (isLetters_calls s hs) hf rfl ?_
  cases h : lettersB s with
  | true => simp -implicitDefEqProofs [h, nameB, go_sem, -List.set_cons_succ, -List.set_cons_zero]
  | false =>
    simp -implicitDefEqProofs [h, go_sem, -List.set_cons_succ, -List.set_cons_zero]
    refine qcall_pure symbols_calls hf rfl ?_
    simp -implicitDefEqProofs [go_sem, -List.set_cons_succ, -List.set_cons_zero]
    refine qcall_pure (contains_calls signs (by decide) s) hf rfl ?_
    simp -implicitDefEqProofs [h, nameB, go_sem, -List.set_cons_succ, -List.set_cons_zero]
set_option maxHeartbeats 3200000 in
theorem nvSpec_calls (s : List UInt8) (hs : s.length ≤ 1000000000000) (H : Heap) : ACalls Tryd.prog 27 [.c (.d (.str s))] H (fun r H' => H' = H ∧ r = .c (.d (.bool (nameB s)))) := by
  refine acalls Tryd.func27 (by kernel_rfl) ac27_ok fun hf => ?_
  simp -implicitDefEqProofs [ac27, go_sem, -List.set_cons_succ, -List.set_cons_zero]
  refine qcall_pure (l1Word_calls s hs) hf rfl ?_
  cases h : lettersB s with
  | true => simp -implicitDefEqProofs [h, nameB, go_sem, -List.set_cons_succ, -List.set_cons_zero]
  | false =>
    simp -implicitDefEqProofs [h, go_sem, -List.set_cons_succ, -List.set_cons_zero]
    refine qcall_pure l1Signs_calls hf rfl ?_
    simp -implicitDefEqProofs [go_sem, -List.set_cons_succ, -List.set_cons_zero]
    refine qcall_pure (l1Has_calls signs (by decide) s) hf rfl ?_
    simp -implicitDefEqProofs [h, nameB, go_sem, -List.set_cons_succ, -List.set_cons_zero]
end Go.Proofs.YtbblefjbgbocoaaDoor

/-
  Valid terms: TermValid of the program and of the reference.
  Conditions: none.
-/
open Go Go.AM Go.Proofs
namespace Go.Proofs.YtbblefjbgbocoaaDoor
open Go.ChangeShapes Go.WideShapes Go.ChangeAt Go.RowKit
set_option linter.unusedVariables false
set_option linter.unusedSimpArgs false
set_option maxRecDepth 100000
/-- a node's own fields -/
def Tm.ownB : Tm → Bool
  | .mk k n s l => if k = 1 then ((decide (0 ≤ n) && decide (n ≤ 25)) && s == []) && l.isEmpty
    else if k = 2 then ((decide (-999 ≤ n) && decide (n ≤ 999)) && s == []) && l.isEmpty
    else if k = 3 then (decide (n = 0) && nameB s) && decide (l.length ≤ 4)
    else false
mutual
/-- well-formed, down to a depth -/
def Tm.shape : Nat → Tm → Bool
  | d, .mk k n s l => decide (1 ≤ d) && ((Tm.mk k n s l).ownB && shapes (d - 1) l)
def shapes : Nat → List Tm → Bool
  | _, [] => true
  | d, t :: l => t.shape d && shapes d l
end
mutual
/-- the number of nodes -/
def Tm.size : Tm → Nat
  | .mk _ _ _ l => 1 + sizes l
def sizes : List Tm → Nat
  | [] => 0
  | t :: l => t.size + sizes l
end
def Tm.valid (t : Tm) : Bool := t.shape 30 && decide (t.size ≤ 120)
end Go.Proofs.YtbblefjbgbocoaaDoor

/-
  TermValid: the functions of the program and of the reference.
  Conditions: none.
-/
open Go Go.AM Go.Proofs
namespace Go.Proofs.YtbblefjbgbocoaaDoor
open Go.ChangeShapes Go.WideShapes Go.ChangeAt Go.RowKit
set_option linter.unusedVariables false
set_option linter.unusedSimpArgs false
set_option maxRecDepth 100000
end Go.Proofs.YtbblefjbgbocoaaDoor

/-
  First keys, of the program and of the reference.
  Conditions: none.
-/
open Go Go.AM Go.Proofs
namespace Go.Proofs.YtbblefjbgbocoaaDoor
open Go.ChangeShapes Go.WideShapes Go.ChangeAt Go.RowKit
set_option linter.unusedVariables false
set_option linter.unusedSimpArgs false
set_option maxRecDepth 100000
/-- the key of a term -/
def Tm.key (t : Tm) : List UInt8 :=
  match t.kids with
  | [] => []
  | x :: _ => if x.k = 1 then [] else if x.k = 2 then Lib.itoa x.n else x.s ++ 47 :: Lib.itoa x.kids.length
end Go.Proofs.YtbblefjbgbocoaaDoor

/-
  Instructions as data.
  Conditions: none.
-/
open Go Go.AM Go.Proofs
namespace Go.Proofs.YtbblefjbgbocoaaDoor
open Go.ChangeShapes Go.WideShapes Go.ChangeAt Go.RowKit
set_option linter.unusedVariables false
set_option linter.unusedSimpArgs false
set_option maxRecDepth 100000
/-- an instruction -/
structure Ins where
  op : Int
  a : Int
  b : Int
  text : List UInt8
def Ins.row (x : Ins) : List D := [.int .i64 x.op, .int .i64 x.a, .int .i64 x.b, .str x.text]
structure Ins.ok (x : Ins) : Prop where
  op : inR .i64 x.op
  a : inR .i64 x.a
  b : inR .i64 x.b
  text : x.text.length ≤ reachBytes
end Go.Proofs.YtbblefjbgbocoaaDoor

/-
  Instructions: comparisons.
  Conditions: none.
-/
open Go Go.AM Go.Proofs
namespace Go.Proofs.YtbblefjbgbocoaaDoor
open Go.ChangeShapes Go.WideShapes Go.ChangeAt Go.RowKit
set_option linter.unusedVariables false
set_option linter.unusedSimpArgs false
set_option maxRecDepth 100000
-- 6 loop.example/prologserver/laws.eqInstr params 2 ntmps 25
def ac6 : Cd := .seq (.region [⟨(some 2),.box (.t 0),none⟩,
 ⟨(some 3),.box (.t 1),none⟩,
 ⟨(some 4),.mv (.k (.c (.d (.bool false)))),none⟩] [0,1,4])
 (.seq (.seq (.region [⟨(some 5),.fieldAddr 0 (.t 2),none⟩,
 ⟨(some 6),.load none (.t 5),none⟩,
 ⟨(some 7),.fieldAddr 0 (.t 3),none⟩,
 ⟨(some 8),.load none (.t 7),none⟩,
 ⟨(some 9),.bin .neq (.t 6) (.t 8),none⟩] [5,6,7,8])
 (.cond (.t 9)
 (.seq (.region [⟨(some 4),.mv (.k (.c (.d (.bool false)))),none⟩] [2,3,9])
 (.ret))
 (.skip)))
 (.seq (.seq (.region [⟨(some 10),.fieldAddr 1 (.t 2),none⟩,
 ⟨(some 11),.load none (.t 10),none⟩,
 ⟨(some 12),.fieldAddr 1 (.t 3),none⟩,
 ⟨(some 13),.load none (.t 12),none⟩,
 ⟨(some 14),.bin .neq (.t 11) (.t 13),none⟩] [4,9,10,11,12,13])
 (.cond (.t 14)
 (.seq (.region [⟨(some 4),.mv (.k (.c (.d (.bool false)))),none⟩] [2,3,14])
 (.ret))
 (.skip)))
 (.seq (.seq (.region [⟨(some 15),.fieldAddr 2 (.t 2),none⟩,
 ⟨(some 16),.load none (.t 15),none⟩,
 ⟨(some 17),.fieldAddr 2 (.t 3),none⟩,
 ⟨(some 18),.load none (.t 17),none⟩,
 ⟨(some 19),.bin .neq (.t 16) (.t 18),none⟩] [4,14,15,16,17,18])
 (.cond (.t 19)
 (.seq (.region [⟨(some 4),.mv (.k (.c (.d (.bool false)))),none⟩] [2,3,19])
 (.ret))
 (.skip)))
 (.seq (.seq (.region [⟨(some 20),.fieldAddr 3 (.t 2),none⟩,
 ⟨(some 21),.load none (.t 20),none⟩,
 ⟨(some 22),.fieldAddr 3 (.t 3),none⟩,
 ⟨(some 23),.load none (.t 22),none⟩,
 ⟨(some 24),.bin .neq (.t 21) (.t 23),none⟩] [2,3,4,19,20,21,22,23])
 (.cond (.t 24)
 (.seq (.region [⟨(some 4),.mv (.k (.c (.d (.bool false)))),none⟩] [24])
 (.ret))
 (.skip)))
 (.seq (.region [⟨(some 4),.mv (.k (.c (.d (.bool true)))),none⟩] [24])
 (.ret))))))
theorem ac6_ok : cFunc Tryd.prog [] [(0,[0,1,4],[]),(1,[5,6,7,8],[]),(2,[2,3,9],[]),(3,[4,9,10,11,12,13],[]),(4,[2,3,14],[]),(5,[4,14,15,16,17,18],[]),(6,[2,3,19],[]),(7,[2,3,4,19,20,21,22,23],[]),(8,[24],[]),(9,[24],[])] Tryd.f6 = some (ac6,[.tmp 4],25) := by kernel_rfl
set_option maxHeartbeats 3200000 in
theorem eqInstr_calls (x : Ins) (H : Heap) : ACalls Tryd.prog 6 [.agg (x.row.map .d), .agg (x.row.map .d)] H (fun r H' => H' = H ∧ r = .c (.d (.bool true))) := by
  refine acalls Tryd.func6 (by kernel_rfl) ac6_ok fun hf => ?_
  simp -implicitDefEqProofs [ac6, Ins.row, go_sem, -List.set_cons_succ, -List.set_cons_zero]
end Go.Proofs.YtbblefjbgbocoaaDoor

/-
  Instructions: sizes, copies, comparisons.
  Conditions: none.
-/
open Go Go.AM Go.Proofs
namespace Go.Proofs.YtbblefjbgbocoaaDoor
open Go.ChangeShapes Go.WideShapes Go.ChangeAt Go.RowKit
set_option linter.unusedVariables false
set_option linter.unusedSimpArgs false
set_option maxRecDepth 100000
end Go.Proofs.YtbblefjbgbocoaaDoor

/-
  Texts of instructions, of the program and of the reference.
  Conditions: none.
-/
open Go Go.AM Go.Proofs
namespace Go.Proofs.YtbblefjbgbocoaaDoor
open Go.ChangeShapes Go.WideShapes Go.ChangeAt Go.RowKit
set_option linter.unusedVariables false
set_option linter.unusedSimpArgs false
set_option maxRecDepth 100000
-- 13 loop.example/prologserver/impl.formOf params 1 ntmps 48
def ac13 : Cd := .seq (.region [⟨(some 2),.alloc [(.d (.str [])),(.d (.bool false)),(.d (.bool false)),(.d (.bool false))],none⟩,
 ⟨(some 3),.mv (.k (.c (.d (.bool false)))),none⟩] [3])
 (.seq (.seq (.region [⟨(some 4),.mv (.t 0),none⟩] [0])
 (.block 0 (.seq (.region [⟨(some 6),.bin .eql (.t 4) (.k (.c (.d (.int .i64 1)))),none⟩,
 ⟨(some 5),.mv (.t 6),none⟩] [6])
 (.cond (.t 5)
 (.seq (.region [⟨(some 7),.build [(.d (.str [])),(.d (.bool false)),(.d (.bool false)),(.d (.bool false))] [(0,1,(.k (.c (.d (.str [103,101,116,118,97,108]))))),(1,1,(.k (.c (.d (.bool true))))),(2,1,(.k (.c (.d (.bool true))))),(3,1,(.k (.c (.d (.bool false)))))],none⟩,
 ⟨none,.store 4 (.t 2) (.t 7),none⟩,
 ⟨(some 3),.mv (.k (.c (.d (.bool true)))),none⟩] [4,5,7])
 (.ret))
 (.seq (.region [⟨(some 9),.bin .eql (.t 4) (.k (.c (.d (.int .i64 2)))),none⟩,
 ⟨(some 8),.mv (.t 9),none⟩] [5,9])
 (.cond (.t 8)
 (.seq (.region [⟨(some 10),.build [(.d (.str [])),(.d (.bool false)),(.d (.bool false)),(.d (.bool false))] [(0,1,(.k (.c (.d (.str [103,101,116,105,110,116]))))),(1,1,(.k (.c (.d (.bool true))))),(2,1,(.k (.c (.d (.bool true))))),(3,1,(.k (.c (.d (.bool false)))))],none⟩,
 ⟨none,.store 4 (.t 2) (.t 10),none⟩,
 ⟨(some 3),.mv (.k (.c (.d (.bool true)))),none⟩] [4,8,10])
 (.ret))
 (.seq (.region [⟨(some 12),.bin .eql (.t 4) (.k (.c (.d (.int .i64 3)))),none⟩,
 ⟨(some 11),.mv (.t 12),none⟩] [8,12])
 (.cond (.t 11)
 (.seq (.region [⟨(some 13),.build [(.d (.str [])),(.d (.bool false)),(.d (.bool false)),(.d (.bool false))] [(0,1,(.k (.c (.d (.str [103,101,116,115,116,114]))))),(1,1,(.k (.c (.d (.bool true))))),(2,1,(.k (.c (.d (.bool true))))),(3,1,(.k (.c (.d (.bool true)))))],none⟩,
 ⟨none,.store 4 (.t 2) (.t 13),none⟩,
 ⟨(some 3),.mv (.k (.c (.d (.bool true)))),none⟩] [4,11,13])
 (.ret))
 (.seq (.region [⟨(some 15),.bin .eql (.t 4) (.k (.c (.d (.int .i64 4)))),none⟩,
 ⟨(some 14),.mv (.t 15),none⟩] [11,15])
 (.cond (.t 14)
 (.seq (.region [⟨(some 16),.build [(.d (.str [])),(.d (.bool false)),(.d (.bool false)),(.d (.bool false))] [(0,1,(.k (.c (.d (.str [117,110,105,118,97,114]))))),(1,1,(.k (.c (.d (.bool true))))),(2,1,(.k (.c (.d (.bool false))))),(3,1,(.k (.c (.d (.bool false)))))],none⟩,
 ⟨none,.store 4 (.t 2) (.t 16),none⟩,
 ⟨(some 3),.mv (.k (.c (.d (.bool true)))),none⟩] [4,14,16])
 (.ret))
 (.seq (.region [⟨(some 18),.bin .eql (.t 4) (.k (.c (.d (.int .i64 5)))),none⟩,
 ⟨(some 17),.mv (.t 18),none⟩] [14,18])
 (.cond (.t 17)
 (.seq (.region [⟨(some 19),.build [(.d (.str [])),(.d (.bool false)),(.d (.bool false)),(.d (.bool false))] [(0,1,(.k (.c (.d (.str [117,110,105,118,97,108]))))),(1,1,(.k (.c (.d (.bool true))))),(2,1,(.k (.c (.d (.bool false))))),(3,1,(.k (.c (.d (.bool false)))))],none⟩,
 ⟨none,.store 4 (.t 2) (.t 19),none⟩,
 ⟨(some 3),.mv (.k (.c (.d (.bool true)))),none⟩] [4,17,19])
 (.ret))
 (.seq (.region [⟨(some 21),.bin .eql (.t 4) (.k (.c (.d (.int .i64 6)))),none⟩,
 ⟨(some 20),.mv (.t 21),none⟩] [17,21])
 (.cond (.t 20)
 (.seq (.region [⟨(some 22),.build [(.d (.str [])),(.d (.bool false)),(.d (.bool false)),(.d (.bool false))] [(0,1,(.k (.c (.d (.str [117,110,105,105,110,116]))))),(1,1,(.k (.c (.d (.bool true))))),(2,1,(.k (.c (.d (.bool false))))),(3,1,(.k (.c (.d (.bool false)))))],none⟩,
 ⟨none,.store 4 (.t 2) (.t 22),none⟩,
 ⟨(some 3),.mv (.k (.c (.d (.bool true)))),none⟩] [4,20,22])
 (.ret))
 (.seq (.region [⟨(some 24),.bin .eql (.t 4) (.k (.c (.d (.int .i64 7)))),none⟩,
 ⟨(some 23),.mv (.t 24),none⟩] [20,24])
 (.cond (.t 23)
 (.seq (.region [⟨(some 25),.build [(.d (.str [])),(.d (.bool false)),(.d (.bool false)),(.d (.bool false))] [(0,1,(.k (.c (.d (.str [115,101,116,115,116,114]))))),(1,1,(.k (.c (.d (.bool true))))),(2,1,(.k (.c (.d (.bool true))))),(3,1,(.k (.c (.d (.bool true)))))],none⟩,
 ⟨none,.store 4 (.t 2) (.t 25),none⟩,
 ⟨(some 3),.mv (.k (.c (.d (.bool true)))),none⟩] [4,23,25])
 (.ret))
 (.seq (.region [⟨(some 27),.bin .eql (.t 4) (.k (.c (.d (.int .i64 8)))),none⟩,
 ⟨(some 26),.mv (.t 27),none⟩] [23,27])
 (.cond (.t 26)
 (.seq (.region [⟨(some 28),.build [(.d (.str [])),(.d (.bool false)),(.d (.bool false)),(.d (.bool false))] [(0,1,(.k (.c (.d (.str [112,117,116,118,97,114]))))),(1,1,(.k (.c (.d (.bool true))))),(2,1,(.k (.c (.d (.bool true))))),(3,1,(.k (.c (.d (.bool false)))))],none⟩,
 ⟨none,.store 4 (.t 2) (.t 28),none⟩,
 ⟨(some 3),.mv (.k (.c (.d (.bool true)))),none⟩] [4,26,28])
 (.ret))
 (.seq (.region [⟨(some 30),.bin .eql (.t 4) (.k (.c (.d (.int .i64 9)))),none⟩,
 ⟨(some 29),.mv (.t 30),none⟩] [26,30])
 (.cond (.t 29)
 (.seq (.region [⟨(some 31),.build [(.d (.str [])),(.d (.bool false)),(.d (.bool false)),(.d (.bool false))] [(0,1,(.k (.c (.d (.str [112,117,116,118,97,108]))))),(1,1,(.k (.c (.d (.bool true))))),(2,1,(.k (.c (.d (.bool true))))),(3,1,(.k (.c (.d (.bool false)))))],none⟩,
 ⟨none,.store 4 (.t 2) (.t 31),none⟩,
 ⟨(some 3),.mv (.k (.c (.d (.bool true)))),none⟩] [4,29,31])
 (.ret))
 (.seq (.region [⟨(some 33),.bin .eql (.t 4) (.k (.c (.d (.int .i64 10)))),none⟩,
 ⟨(some 32),.mv (.t 33),none⟩] [29,33])
 (.cond (.t 32)
 (.seq (.region [⟨(some 34),.build [(.d (.str [])),(.d (.bool false)),(.d (.bool false)),(.d (.bool false))] [(0,1,(.k (.c (.d (.str [112,117,116,105,110,116]))))),(1,1,(.k (.c (.d (.bool true))))),(2,1,(.k (.c (.d (.bool true))))),(3,1,(.k (.c (.d (.bool false)))))],none⟩,
 ⟨none,.store 4 (.t 2) (.t 34),none⟩,
 ⟨(some 3),.mv (.k (.c (.d (.bool true)))),none⟩] [4,32,34])
 (.ret))
 (.seq (.region [⟨(some 36),.bin .eql (.t 4) (.k (.c (.d (.int .i64 11)))),none⟩,
 ⟨(some 35),.mv (.t 36),none⟩] [32,36])
 (.cond (.t 35)
 (.seq (.region [⟨(some 37),.build [(.d (.str [])),(.d (.bool false)),(.d (.bool false)),(.d (.bool false))] [(0,1,(.k (.c (.d (.str [99,97,108,108]))))),(1,1,(.k (.c (.d (.bool true))))),(2,1,(.k (.c (.d (.bool false))))),(3,1,(.k (.c (.d (.bool true)))))],none⟩,
 ⟨none,.store 4 (.t 2) (.t 37),none⟩,
 ⟨(some 3),.mv (.k (.c (.d (.bool true)))),none⟩] [4,35,37])
 (.ret))
 (.seq (.region [⟨(some 39),.bin .eql (.t 4) (.k (.c (.d (.int .i64 12)))),none⟩,
 ⟨(some 38),.mv (.t 39),none⟩] [35,39])
 (.cond (.t 38)
 (.seq (.region [⟨(some 40),.build [(.d (.str [])),(.d (.bool false)),(.d (.bool false)),(.d (.bool false))] [(0,1,(.k (.c (.d (.str [98,117,105,108,116]))))),(1,1,(.k (.c (.d (.bool true))))),(2,1,(.k (.c (.d (.bool false))))),(3,1,(.k (.c (.d (.bool true)))))],none⟩,
 ⟨none,.store 4 (.t 2) (.t 40),none⟩,
 ⟨(some 3),.mv (.k (.c (.d (.bool true)))),none⟩] [4,38,40])
 (.ret))
 (.seq (.region [⟨(some 42),.bin .eql (.t 4) (.k (.c (.d (.int .i64 13)))),none⟩,
 ⟨(some 41),.mv (.t 42),none⟩] [38,42])
 (.cond (.t 41)
 (.seq (.region [⟨(some 43),.build [(.d (.str [])),(.d (.bool false)),(.d (.bool false)),(.d (.bool false))] [(0,1,(.k (.c (.d (.str [99,117,116]))))),(1,1,(.k (.c (.d (.bool false))))),(2,1,(.k (.c (.d (.bool false))))),(3,1,(.k (.c (.d (.bool false)))))],none⟩,
 ⟨none,.store 4 (.t 2) (.t 43),none⟩,
 ⟨(some 3),.mv (.k (.c (.d (.bool true)))),none⟩] [4,41,43])
 (.ret))
 (.seq (.region [⟨(some 45),.bin .eql (.t 4) (.k (.c (.d (.int .i64 14)))),none⟩,
 ⟨(some 44),.mv (.t 45),none⟩] [4,41,45])
 (.cond (.t 44)
 (.seq (.region [⟨(some 46),.build [(.d (.str [])),(.d (.bool false)),(.d (.bool false)),(.d (.bool false))] [(0,1,(.k (.c (.d (.str [101,110,100]))))),(1,1,(.k (.c (.d (.bool false))))),(2,1,(.k (.c (.d (.bool false))))),(3,1,(.k (.c (.d (.bool false)))))],none⟩,
 ⟨none,.store 4 (.t 2) (.t 46),none⟩,
 ⟨(some 3),.mv (.k (.c (.d (.bool true)))),none⟩] [44,46])
 (.ret))
 (.skip)))))))))))))))))))))))))))))))
 (.seq (.region [⟨(some 47),.build [(.d (.str [])),(.d (.bool false)),(.d (.bool false)),(.d (.bool false))] [],none⟩,
 ⟨none,.store 4 (.t 2) (.t 47),none⟩,
 ⟨(some 3),.mv (.k (.c (.d (.bool false)))),none⟩] [44,47])
 (.ret)))
theorem ac13_ok : cFunc Tryd.prog [] [(0,[3],[]),(1,[0],[]),(2,[6],[]),(3,[4,5,7],[]),(4,[5,9],[]),(5,[4,8,10],[]),(6,[8,12],[]),(7,[4,11,13],[]),(8,[11,15],[]),(9,[4,14,16],[]),(10,[14,18],[]),(11,[4,17,19],[]),(12,[17,21],[]),(13,[4,20,22],[]),(14,[20,24],[]),(15,[4,23,25],[]),(16,[23,27],[]),(17,[4,26,28],[]),(18,[26,30],[]),(19,[4,29,31],[]),(20,[29,33],[]),(21,[4,32,34],[]),(22,[32,36],[]),(23,[4,35,37],[]),(24,[35,39],[]),(25,[4,38,40],[]),(26,[38,42],[]),(27,[4,41,43],[]),(28,[4,41,45],[]),(29,[44,46],[]),(30,[44,47],[])] Tryd.f13 = some (ac13,[.cell 2 (some 4),.tmp 3],48) := by kernel_rfl
-- 9 loop.example/prologserver/spec.l8Shape params 1 ntmps 23
def ac9 : Cd := .seq (.region [⟨(some 2),.mv (.k (.c (.d (.str [])))),none⟩] [2])
 (.seq (.seq (.region [⟨(some 3),.mv (.t 0),none⟩] [0])
 (.block 0 (.seq (.seq (.region [⟨(some 5),.bin .eql (.t 3) (.k (.c (.d (.int .i64 1)))),none⟩,
 ⟨(some 4),.mv (.t 5),none⟩] [5])
 (.cond (.t 4)
 (.skip)
 (.seq (.region [⟨(some 6),.bin .eql (.t 3) (.k (.c (.d (.int .i64 2)))),none⟩,
 ⟨(some 4),.mv (.t 6),none⟩] [6])
 (.cond (.t 4)
 (.skip)
 (.seq (.region [⟨(some 7),.bin .eql (.t 3) (.k (.c (.d (.int .i64 8)))),none⟩,
 ⟨(some 4),.mv (.t 7),none⟩] [7])
 (.cond (.t 4)
 (.skip)
 (.seq (.region [⟨(some 8),.bin .eql (.t 3) (.k (.c (.d (.int .i64 9)))),none⟩,
 ⟨(some 4),.mv (.t 8),none⟩] [8])
 (.cond (.t 4)
 (.skip)
 (.region [⟨(some 9),.bin .eql (.t 3) (.k (.c (.d (.int .i64 10)))),none⟩,
 ⟨(some 4),.mv (.t 9),none⟩] [9])))))))))
 (.cond (.t 4)
 (.seq (.region [⟨(some 2),.mv (.k (.c (.d (.str [97,98])))),none⟩] [3,4])
 (.ret))
 (.seq (.seq (.region [⟨(some 11),.bin .eql (.t 3) (.k (.c (.d (.int .i64 3)))),none⟩,
 ⟨(some 10),.mv (.t 11),none⟩] [4,11])
 (.cond (.t 10)
 (.skip)
 (.region [⟨(some 12),.bin .eql (.t 3) (.k (.c (.d (.int .i64 7)))),none⟩,
 ⟨(some 10),.mv (.t 12),none⟩] [12])))
 (.cond (.t 10)
 (.seq (.region [⟨(some 2),.mv (.k (.c (.d (.str [97,98,110])))),none⟩] [3,10])
 (.ret))
 (.seq (.seq (.region [⟨(some 14),.bin .eql (.t 3) (.k (.c (.d (.int .i64 4)))),none⟩,
 ⟨(some 13),.mv (.t 14),none⟩] [10,14])
 (.cond (.t 13)
 (.skip)
 (.seq (.region [⟨(some 15),.bin .eql (.t 3) (.k (.c (.d (.int .i64 5)))),none⟩,
 ⟨(some 13),.mv (.t 15),none⟩] [15])
 (.cond (.t 13)
 (.skip)
 (.region [⟨(some 16),.bin .eql (.t 3) (.k (.c (.d (.int .i64 6)))),none⟩,
 ⟨(some 13),.mv (.t 16),none⟩] [16])))))
 (.cond (.t 13)
 (.seq (.region [⟨(some 2),.mv (.k (.c (.d (.str [97])))),none⟩] [3,13])
 (.ret))
 (.seq (.seq (.region [⟨(some 18),.bin .eql (.t 3) (.k (.c (.d (.int .i64 11)))),none⟩,
 ⟨(some 17),.mv (.t 18),none⟩] [13,18])
 (.cond (.t 17)
 (.skip)
 (.region [⟨(some 19),.bin .eql (.t 3) (.k (.c (.d (.int .i64 12)))),none⟩,
 ⟨(some 17),.mv (.t 19),none⟩] [19])))
 (.cond (.t 17)
 (.seq (.region [⟨(some 2),.mv (.k (.c (.d (.str [97,110])))),none⟩] [3,17])
 (.ret))
 (.seq (.seq (.region [⟨(some 21),.bin .eql (.t 3) (.k (.c (.d (.int .i64 13)))),none⟩,
 ⟨(some 20),.mv (.t 21),none⟩] [17,21])
 (.cond (.t 20)
 (.skip)
 (.region [⟨(some 22),.bin .eql (.t 3) (.k (.c (.d (.int .i64 14)))),none⟩,
 ⟨(some 20),.mv (.t 22),none⟩] [3,22])))
 (.cond (.t 20)
 (.seq (.region [⟨(some 2),.mv (.k (.c (.d (.str [])))),none⟩] [3,20])
 (.ret))
 (.skip)))))))))))))
 (.seq (.region [⟨(some 2),.mv (.k (.c (.d (.str [63])))),none⟩] [3,20])
 (.ret)))
theorem ac9_ok : cFunc Tryd.prog [] [(0,[2],[]),(1,[0],[]),(2,[5],[]),(3,[6],[]),(4,[7],[]),(5,[8],[]),(6,[9],[]),(7,[3,4],[]),(8,[4,11],[]),(9,[12],[]),(10,[3,10],[]),(11,[10,14],[]),(12,[15],[]),(13,[16],[]),(14,[3,13],[]),(15,[13,18],[]),(16,[19],[]),(17,[3,17],[]),(18,[17,21],[]),(19,[3,22],[]),(20,[3,20],[]),(21,[3,20],[])] Tryd.f9 = some (ac9,[.tmp 2],23) := by kernel_rfl
-- 8 loop.example/prologserver/spec.l8Names params 0 ntmps 2
def ac8 : Cd := .seq (.region [⟨(some 0),.mv (.k (.c (.full []))),none⟩] [0])
 (.seq (.region [⟨(some 1),.buildSlice 1 15 [(.str [])] [(0,(.k (.c (.d (.str []))))),(1,(.k (.c (.d (.str [103,101,116,118,97,108]))))),(2,(.k (.c (.d (.str [103,101,116,105,110,116]))))),(3,(.k (.c (.d (.str [103,101,116,115,116,114]))))),(4,(.k (.c (.d (.str [117,110,105,118,97,114]))))),(5,(.k (.c (.d (.str [117,110,105,118,97,108]))))),(6,(.k (.c (.d (.str [117,110,105,105,110,116]))))),(7,(.k (.c (.d (.str [115,101,116,115,116,114]))))),(8,(.k (.c (.d (.str [112,117,116,118,97,114]))))),(9,(.k (.c (.d (.str [112,117,116,118,97,108]))))),(10,(.k (.c (.d (.str [112,117,116,105,110,116]))))),(11,(.k (.c (.d (.str [99,97,108,108]))))),(12,(.k (.c (.d (.str [98,117,105,108,116]))))),(13,(.k (.c (.d (.str [99,117,116]))))),(14,(.k (.c (.d (.str [101,110,100])))))],none⟩,
 ⟨(some 0),.mv (.t 1),none⟩] [1])
 (.ret))
theorem ac8_ok : cFunc Tryd.prog [] [(0,[0],[]),(1,[1],[])] Tryd.f8 = some (ac8,[.tmp 0],2) := by kernel_rfl
-- 19 loop.example/prologserver/spec.l8Instr params 1 ntmps 81
def ac19 : Cd := .seq (.region [⟨(some 1),.box (.t 0),none⟩,
 ⟨(some 2),.mv (.k (.c (.d (.bool false)))),none⟩] [0,2])
 (.seq (.region [⟨(some 6),.fieldAddr 0 (.t 1),none⟩,
 ⟨(some 7),.load none (.t 6),none⟩,
 ⟨(some 8),.qcall 9 [(.t 7)],none⟩,
 ⟨(some 3),.mv (.t 8),none⟩] [6,7,8])
 (.seq (.seq (.region [⟨(some 9),.mv (.t 3),none⟩,
 ⟨(some 10),.bin .eql (.t 9) (.k (.c (.d (.str [63])))),none⟩,
 ⟨(some 11),.mv (.t 10),none⟩,
 ⟨(some 12),.fieldAddr 1 (.t 1),some (11,false)⟩,
 ⟨(some 13),.load none (.t 12),some (11,false)⟩,
 ⟨(some 14),.bin .lss (.t 13) (.k (.c (.d (.int .i64 (-999))))),some (11,false)⟩,
 ⟨(some 15),.pick (.t 11) (.k (.c (.d (.bool true)))) (.t 14),none⟩,
 ⟨(some 16),.mv (.t 15),none⟩,
 ⟨(some 17),.fieldAddr 1 (.t 1),some (16,false)⟩,
 ⟨(some 18),.load none (.t 17),some (16,false)⟩,
 ⟨(some 19),.bin .gtr (.t 18) (.k (.c (.d (.int .i64 999)))),some (16,false)⟩,
 ⟨(some 20),.pick (.t 16) (.k (.c (.d (.bool true)))) (.t 19),none⟩,
 ⟨(some 21),.mv (.t 20),none⟩,
 ⟨(some 22),.fieldAddr 2 (.t 1),some (21,false)⟩,
 ⟨(some 23),.load none (.t 22),some (21,false)⟩,
 ⟨(some 24),.bin .lss (.t 23) (.k (.c (.d (.int .i64 0)))),some (21,false)⟩,
 ⟨(some 25),.pick (.t 21) (.k (.c (.d (.bool true)))) (.t 24),none⟩,
 ⟨(some 26),.mv (.t 25),none⟩,
 ⟨(some 27),.fieldAddr 2 (.t 1),some (26,false)⟩,
 ⟨(some 28),.load none (.t 27),some (26,false)⟩,
 ⟨(some 29),.bin .gtr (.t 28) (.k (.c (.d (.int .i64 999)))),some (26,false)⟩,
 ⟨(some 30),.pick (.t 26) (.k (.c (.d (.bool true)))) (.t 29),none⟩] [9,10,11,12,13,14,15,16,17,18,19,20,21,22,23,24,25,26,27,28,29])
 (.cond (.t 30)
 (.seq (.region [⟨(some 2),.mv (.k (.c (.d (.bool false)))),none⟩] [1,3,30])
 (.ret))
 (.skip)))
 (.seq (.seq (.region [⟨(some 31),.mv (.t 3),none⟩,
 ⟨(some 32),.bin .eql (.t 31) (.k (.c (.d (.str [])))),none⟩] [2,30,31])
 (.cond (.t 32)
 (.seq (.region [⟨(some 33),.fieldAddr 1 (.t 1),none⟩,
 ⟨(some 34),.load none (.t 33),none⟩,
 ⟨(some 35),.bin .eql (.t 34) (.k (.c (.d (.int .i64 0)))),none⟩,
 ⟨(some 36),.mv (.t 35),none⟩,
 ⟨(some 37),.fieldAddr 2 (.t 1),some (36,true)⟩,
 ⟨(some 38),.load none (.t 37),some (36,true)⟩,
 ⟨(some 39),.bin .eql (.t 38) (.k (.c (.d (.int .i64 0)))),some (36,true)⟩,
 ⟨(some 40),.pick (.t 36) (.t 39) (.k (.c (.d (.bool false)))),none⟩,
 ⟨(some 41),.mv (.t 40),none⟩,
 ⟨(some 42),.fieldAddr 3 (.t 1),some (41,true)⟩,
 ⟨(some 43),.load none (.t 42),some (41,true)⟩,
 ⟨(some 44),.bin .eql (.t 43) (.k (.c (.d (.str [])))),some (41,true)⟩,
 ⟨(some 45),.pick (.t 41) (.t 44) (.k (.c (.d (.bool false)))),none⟩,
 ⟨(some 2),.mv (.t 45),none⟩] [1,3,32,33,34,35,36,37,38,39,40,41,42,43,44,45])
 (.ret))
 (.skip)))
 (.seq (.region [⟨(some 46),.mv (.t 3),none⟩,
 ⟨(some 47),.bin .eql (.t 46) (.k (.c (.d (.str [97,98])))),none⟩,
 ⟨(some 48),.mv (.t 47),none⟩,
 ⟨(some 49),.mv (.t 3),some (48,false)⟩,
 ⟨(some 50),.bin .eql (.t 49) (.k (.c (.d (.str [97,98,110])))),some (48,false)⟩,
 ⟨(some 51),.pick (.t 48) (.k (.c (.d (.bool true)))) (.t 50),none⟩,
 ⟨(some 4),.mv (.t 51),none⟩] [2,32,46,47,48,49,50,51])
 (.seq (.region [⟨(some 52),.mv (.t 3),none⟩,
 ⟨(some 53),.bin .eql (.t 52) (.k (.c (.d (.str [97,98,110])))),none⟩,
 ⟨(some 54),.mv (.t 53),none⟩,
 ⟨(some 55),.mv (.t 3),some (54,false)⟩,
 ⟨(some 56),.bin .eql (.t 55) (.k (.c (.d (.str [97,110])))),some (54,false)⟩,
 ⟨(some 57),.pick (.t 54) (.k (.c (.d (.bool true)))) (.t 56),none⟩,
 ⟨(some 5),.mv (.t 57),none⟩] [3,52,53,54,55,56,57])
 (.seq (.region [⟨(some 58),.mv (.t 4),none⟩,
 ⟨(some 59),.mv (.t 58),none⟩,
 ⟨(some 60),.fieldAddr 2 (.t 1),some (59,false)⟩,
 ⟨(some 61),.load none (.t 60),some (59,false)⟩,
 ⟨(some 62),.bin .eql (.t 61) (.k (.c (.d (.int .i64 0)))),some (59,false)⟩,
 ⟨(some 63),.pick (.t 59) (.k (.c (.d (.bool true)))) (.t 62),none⟩,
 ⟨(some 64),.mv (.t 63),none⟩,
 ⟨(some 65),.mv (.t 5),some (64,true)⟩,
 ⟨(some 66),.mv (.t 65),some (64,true)⟩,
 ⟨(some 67),.fieldAddr 3 (.t 1),some (66,true)⟩,
 ⟨(some 68),.load none (.t 67),some (66,true)⟩,
 ⟨(some 69),.qcall 27 [(.t 68)],some (66,true)⟩,
 ⟨(some 70),.pick (.t 66) (.t 69) (.k (.c (.d (.bool false)))),some (64,true)⟩,
 ⟨(some 71),.mv (.t 70),some (64,true)⟩,
 ⟨(some 72),.mv (.t 5),some (71,false)⟩,
 ⟨(some 73),.un .not (.t 72),some (71,false)⟩,
 ⟨(some 74),.mv (.t 73),some (71,false)⟩,
 ⟨(some 75),.fieldAddr 3 (.t 1),some (74,true)⟩,
 ⟨(some 76),.load none (.t 75),some (74,true)⟩,
 ⟨(some 77),.bin .eql (.t 76) (.k (.c (.d (.str [])))),some (74,true)⟩,
 ⟨(some 78),.pick (.t 74) (.t 77) (.k (.c (.d (.bool false)))),some (71,false)⟩,
 ⟨(some 79),.pick (.t 71) (.k (.c (.d (.bool true)))) (.t 78),some (64,true)⟩,
 ⟨(some 80),.pick (.t 64) (.t 79) (.k (.c (.d (.bool false)))),none⟩,
 ⟨(some 2),.mv (.t 80),none⟩] [1,4,5,58,59,60,61,62,63,64,65,66,67,68,69,70,71,72,73,74,75,76,77,78,79,80])
 (.ret)))))))
theorem ac19_ok : cFunc Tryd.prog [1000009,1000027] [(0,[0,2],[]),(1,[6,7,8],[]),(2,[9,10,11,12,13,14,15,16,17,18,19,20,21,22,23,24,25,26,27,28,29],[]),(3,[1,3,30],[]),(4,[2,30,31],[]),(5,[1,3,32,33,34,35,36,37,38,39,40,41,42,43,44,45],[]),(6,[2,32,46,47,48,49,50,51],[]),(7,[3,52,53,54,55,56,57],[]),(8,[1,4,5,58,59,60,61,62,63,64,65,66,67,68,69,70,71,72,73,74,75,76,77,78,79,80],[])] Tryd.f19 = some (ac19,[.tmp 2],81) := by kernel_rfl
-- 11 loop.example/prologserver/spec.FormatInstr params 1 ntmps 48
def ac11 : Cd := .seq (.region [⟨(some 1),.box (.t 0),none⟩,
 ⟨(some 2),.mv (.k (.c (.d (.str [])))),none⟩] [0,2])
 (.seq (.seq (.region [⟨(some 5),.load (some 4) (.t 1),none⟩,
 ⟨(some 6),.qcall 19 [(.t 5)],none⟩,
 ⟨(some 7),.un .not (.t 6),none⟩] [5,6])
 (.cond (.t 7)
 (.seq (.region [⟨(some 2),.mv (.k (.c (.d (.str [])))),none⟩] [1,7])
 (.ret))
 (.skip)))
 (.seq (.region [⟨(some 9),.fieldAddr 0 (.t 1),none⟩,
 ⟨(some 8),.qcall 8 [],none⟩,
 ⟨(some 10),.load none (.t 9),none⟩,
 ⟨(some 11),.indexAddr 1 (.t 8) (.t 10),none⟩,
 ⟨(some 12),.load none (.t 11),none⟩,
 ⟨(some 3),.mv (.t 12),none⟩] [2,7,8,9,10,11,12])
 (.seq (.region [⟨(some 13),.fieldAddr 0 (.t 1),none⟩,
 ⟨(some 14),.load none (.t 13),none⟩,
 ⟨(some 15),.qcall 9 [(.t 14)],none⟩,
 ⟨(some 4),.mv (.t 15),none⟩] [13,14,15])
 (.seq (.seq (.region [⟨(some 16),.mv (.t 4),none⟩,
 ⟨(some 17),.bin .neq (.t 16) (.k (.c (.d (.str [])))),none⟩] [16])
 (.cond (.t 17)
 (.region [⟨(some 18),.mv (.t 3),none⟩,
 ⟨(some 19),.bin .add (.t 18) (.k (.c (.d (.str [32])))),none⟩,
 ⟨(some 20),.fieldAddr 1 (.t 1),none⟩,
 ⟨(some 21),.load none (.t 20),none⟩,
 ⟨(some 22),.qcall 20 [(.t 21)],none⟩,
 ⟨(some 23),.bin .add (.t 19) (.t 22),none⟩,
 ⟨(some 3),.mv (.t 23),none⟩] [17,18,19,20,21,22,23])
 (.skip)))
 (.seq (.seq (.region [⟨(some 24),.mv (.t 4),none⟩,
 ⟨(some 25),.bin .eql (.t 24) (.k (.c (.d (.str [97,98])))),none⟩,
 ⟨(some 26),.mv (.t 25),none⟩,
 ⟨(some 27),.mv (.t 4),some (26,false)⟩,
 ⟨(some 28),.bin .eql (.t 27) (.k (.c (.d (.str [97,98,110])))),some (26,false)⟩,
 ⟨(some 29),.pick (.t 26) (.k (.c (.d (.bool true)))) (.t 28),none⟩] [17,24,25,26,27,28])
 (.cond (.t 29)
 (.region [⟨(some 30),.mv (.t 3),none⟩,
 ⟨(some 31),.bin .add (.t 30) (.k (.c (.d (.str [32])))),none⟩,
 ⟨(some 32),.fieldAddr 2 (.t 1),none⟩,
 ⟨(some 33),.load none (.t 32),none⟩,
 ⟨(some 34),.qcall 20 [(.t 33)],none⟩,
 ⟨(some 35),.bin .add (.t 31) (.t 34),none⟩,
 ⟨(some 3),.mv (.t 35),none⟩] [29,30,31,32,33,34,35])
 (.skip)))
 (.seq (.seq (.region [⟨(some 36),.mv (.t 4),none⟩,
 ⟨(some 37),.bin .eql (.t 36) (.k (.c (.d (.str [97,110])))),none⟩,
 ⟨(some 38),.mv (.t 37),none⟩,
 ⟨(some 39),.mv (.t 4),some (38,false)⟩,
 ⟨(some 40),.bin .eql (.t 39) (.k (.c (.d (.str [97,98,110])))),some (38,false)⟩,
 ⟨(some 41),.pick (.t 38) (.k (.c (.d (.bool true)))) (.t 40),none⟩] [4,29,36,37,38,39,40])
 (.cond (.t 41)
 (.region [⟨(some 42),.mv (.t 3),none⟩,
 ⟨(some 43),.bin .add (.t 42) (.k (.c (.d (.str [32])))),none⟩,
 ⟨(some 44),.fieldAddr 3 (.t 1),none⟩,
 ⟨(some 45),.load none (.t 44),none⟩,
 ⟨(some 46),.bin .add (.t 43) (.t 45),none⟩,
 ⟨(some 3),.mv (.t 46),none⟩] [1,41,42,43,44,45,46])
 (.skip)))
 (.seq (.region [⟨(some 47),.mv (.t 3),none⟩,
 ⟨(some 2),.mv (.t 47),none⟩] [1,3,41,47])
 (.ret))))))))
theorem ac11_ok : cFunc Tryd.prog [1000008,1000009,1000019,1000020] [(0,[0,2],[]),(1,[5,6],[]),(2,[1,7],[]),(3,[2,7,8,9,10,11,12],[1,0,2,3,4,5]),(4,[13,14,15],[]),(5,[16],[]),(6,[17,18,19,20,21,22,23],[]),(7,[17,24,25,26,27,28],[]),(8,[29,30,31,32,33,34,35],[]),(9,[4,29,36,37,38,39,40],[]),(10,[1,41,42,43,44,45,46],[]),(11,[1,3,41,47],[])] Tryd.f11 = some (ac11,[.tmp 2],48) := by kernel_rfl
-- 16 loop.example/prologserver/impl.FormatInstr params 1 ntmps 92
def ac16 : Cd := .seq (.region [⟨(some 1),.box (.t 0),none⟩,
 ⟨(some 2),.mv (.k (.c (.d (.str [])))),none⟩] [0,2])
 (.seq (.region [⟨(some 7),.fieldAddr 0 (.t 1),none⟩,
 ⟨(some 8),.load none (.t 7),none⟩,
 ⟨(some 9),.qcall 13 [(.t 8)],none⟩,
 ⟨(some 6),.mv (.t 9),none⟩,
 ⟨(some 10),.extract 0 (.t 6),none⟩,
 ⟨(some 11),.extract 1 (.t 6),none⟩,
 ⟨(some 3),.alloc [(.d (.str [])),(.d (.bool false)),(.d (.bool false)),(.d (.bool false))],none⟩,
 ⟨none,.store 4 (.t 3) (.t 10),none⟩,
 ⟨(some 4),.mv (.t 11),none⟩] [6,7,8,9,10,11])
 (.seq (.seq (.region [⟨(some 12),.mv (.t 4),none⟩,
 ⟨(some 13),.un .not (.t 12),none⟩,
 ⟨(some 14),.mv (.t 13),none⟩,
 ⟨(some 15),.fieldAddr 1 (.t 1),some (14,false)⟩,
 ⟨(some 16),.load none (.t 15),some (14,false)⟩,
 ⟨(some 17),.qcall 24 [(.t 16),(.k (.c (.d (.int .i64 (-999))))),(.k (.c (.d (.int .i64 999))))],some (14,false)⟩,
 ⟨(some 18),.un .not (.t 17),some (14,false)⟩,
 ⟨(some 19),.pick (.t 14) (.k (.c (.d (.bool true)))) (.t 18),none⟩,
 ⟨(some 20),.mv (.t 19),none⟩,
 ⟨(some 21),.fieldAddr 2 (.t 1),some (20,false)⟩,
 ⟨(some 22),.load none (.t 21),some (20,false)⟩,
 ⟨(some 23),.qcall 24 [(.t 22),(.k (.c (.d (.int .i64 0)))),(.k (.c (.d (.int .i64 999))))],some (20,false)⟩,
 ⟨(some 24),.un .not (.t 23),some (20,false)⟩,
 ⟨(some 25),.pick (.t 20) (.k (.c (.d (.bool true)))) (.t 24),none⟩,
 ⟨(some 26),.mv (.t 25),none⟩,
 ⟨(some 27),.fieldAddr 1 (.t 3),some (26,false)⟩,
 ⟨(some 28),.load none (.t 27),some (26,false)⟩,
 ⟨(some 29),.un .not (.t 28),some (26,false)⟩,
 ⟨(some 30),.mv (.t 29),some (26,false)⟩,
 ⟨(some 31),.fieldAddr 1 (.t 1),some (30,true)⟩,
 ⟨(some 32),.load none (.t 31),some (30,true)⟩,
 ⟨(some 33),.bin .neq (.t 32) (.k (.c (.d (.int .i64 0)))),some (30,true)⟩,
 ⟨(some 34),.pick (.t 30) (.t 33) (.k (.c (.d (.bool false)))),some (26,false)⟩,
 ⟨(some 35),.pick (.t 26) (.k (.c (.d (.bool true)))) (.t 34),none⟩,
 ⟨(some 36),.mv (.t 35),none⟩,
 ⟨(some 37),.fieldAddr 2 (.t 3),some (36,false)⟩,
 ⟨(some 38),.load none (.t 37),some (36,false)⟩,
 ⟨(some 39),.un .not (.t 38),some (36,false)⟩,
 ⟨(some 40),.mv (.t 39),some (36,false)⟩,
 ⟨(some 41),.fieldAddr 2 (.t 1),some (40,true)⟩,
 ⟨(some 42),.load none (.t 41),some (40,true)⟩,
 ⟨(some 43),.bin .neq (.t 42) (.k (.c (.d (.int .i64 0)))),some (40,true)⟩,
 ⟨(some 44),.pick (.t 40) (.t 43) (.k (.c (.d (.bool false)))),some (36,false)⟩,
 ⟨(some 45),.pick (.t 36) (.k (.c (.d (.bool true)))) (.t 44),none⟩,
 ⟨(some 46),.mv (.t 45),none⟩,
 ⟨(some 47),.fieldAddr 3 (.t 3),some (46,false)⟩,
 ⟨(some 48),.load none (.t 47),some (46,false)⟩,
 ⟨(some 49),.un .not (.t 48),some (46,false)⟩,
 ⟨(some 50),.mv (.t 49),some (46,false)⟩,
 ⟨(some 51),.fieldAddr 3 (.t 1),some (50,true)⟩,
 ⟨(some 52),.load none (.t 51),some (50,true)⟩,
 ⟨(some 53),.bin .neq (.t 52) (.k (.c (.d (.str [])))),some (50,true)⟩,
 ⟨(some 54),.pick (.t 50) (.t 53) (.k (.c (.d (.bool false)))),some (46,false)⟩,
 ⟨(some 55),.pick (.t 46) (.k (.c (.d (.bool true)))) (.t 54),none⟩,
 ⟨(some 56),.mv (.t 55),none⟩,
 ⟨(some 57),.fieldAddr 3 (.t 3),some (56,false)⟩,
 ⟨(some 58),.load none (.t 57),some (56,false)⟩,
 ⟨(some 59),.mv (.t 58),some (56,false)⟩,
 ⟨(some 60),.fieldAddr 3 (.t 1),some (59,true)⟩,
 ⟨(some 61),.load none (.t 60),some (59,true)⟩,
 ⟨(some 62),.qcall 25 [(.t 61)],some (59,true)⟩,
 ⟨(some 63),.un .not (.t 62),some (59,true)⟩,
 ⟨(some 64),.pick (.t 59) (.t 63) (.k (.c (.d (.bool false)))),some (56,false)⟩,
 ⟨(some 65),.pick (.t 56) (.k (.c (.d (.bool true)))) (.t 64),none⟩] [4,12,13,14,15,16,17,18,19,20,21,22,23,24,25,26,27,28,29,30,31,32,33,34,35,36,37,38,39,40,41,42,43,44,45,46,47,48,49,50,51,52,53,54,55,56,57,58,59,60,61,62,63,64])
 (.cond (.t 65)
 (.seq (.region [⟨(some 2),.mv (.k (.c (.d (.str [])))),none⟩] [1,3,65])
 (.ret))
 (.skip)))
 (.seq (.region [⟨(some 66),.fieldAddr 0 (.t 3),none⟩,
 ⟨(some 67),.load none (.t 66),none⟩,
 ⟨(some 5),.mv (.t 67),none⟩] [2,65,66,67])
 (.seq (.seq (.region [⟨(some 68),.fieldAddr 1 (.t 3),none⟩,
 ⟨(some 69),.load none (.t 68),none⟩] [68])
 (.cond (.t 69)
 (.region [⟨(some 70),.mv (.t 5),none⟩,
 ⟨(some 71),.fieldAddr 1 (.t 1),none⟩,
 ⟨(some 72),.load none (.t 71),none⟩,
 ⟨(some 73),.qcall 26 [(.t 72)],none⟩,
 ⟨(some 74),.bin .add (.k (.c (.d (.str [32])))) (.t 73),none⟩,
 ⟨(some 75),.bin .add (.t 70) (.t 74),none⟩,
 ⟨(some 5),.mv (.t 75),none⟩] [69,70,71,72,73,74,75])
 (.skip)))
 (.seq (.seq (.region [⟨(some 76),.fieldAddr 2 (.t 3),none⟩,
 ⟨(some 77),.load none (.t 76),none⟩] [69,76])
 (.cond (.t 77)
 (.region [⟨(some 78),.mv (.t 5),none⟩,
 ⟨(some 79),.fieldAddr 2 (.t 1),none⟩,
 ⟨(some 80),.load none (.t 79),none⟩,
 ⟨(some 81),.qcall 26 [(.t 80)],none⟩,
 ⟨(some 82),.bin .add (.k (.c (.d (.str [32])))) (.t 81),none⟩,
 ⟨(some 83),.bin .add (.t 78) (.t 82),none⟩,
 ⟨(some 5),.mv (.t 83),none⟩] [77,78,79,80,81,82,83])
 (.skip)))
 (.seq (.seq (.region [⟨(some 84),.fieldAddr 3 (.t 3),none⟩,
 ⟨(some 85),.load none (.t 84),none⟩] [3,77,84])
 (.cond (.t 85)
 (.region [⟨(some 86),.mv (.t 5),none⟩,
 ⟨(some 87),.fieldAddr 3 (.t 1),none⟩,
 ⟨(some 88),.load none (.t 87),none⟩,
 ⟨(some 89),.bin .add (.k (.c (.d (.str [32])))) (.t 88),none⟩,
 ⟨(some 90),.bin .add (.t 86) (.t 89),none⟩,
 ⟨(some 5),.mv (.t 90),none⟩] [1,85,86,87,88,89,90])
 (.skip)))
 (.seq (.region [⟨(some 91),.mv (.t 5),none⟩,
 ⟨(some 2),.mv (.t 91),none⟩] [1,5,85,91])
 (.ret))))))))
theorem ac16_ok : cFunc Tryd.prog [1000013,1000024,1000025,1000026] [(0,[0,2],[]),(1,[6,7,8,9,10,11],[]),(2,[4,12,13,14,15,16,17,18,19,20,21,22,23,24,25,26,27,28,29,30,31,32,33,34,35,36,37,38,39,40,41,42,43,44,45,46,47,48,49,50,51,52,53,54,55,56,57,58,59,60,61,62,63,64],[]),(3,[1,3,65],[]),(4,[2,65,66,67],[]),(5,[68],[]),(6,[69,70,71,72,73,74,75],[]),(7,[69,76],[]),(8,[77,78,79,80,81,82,83],[]),(9,[3,77,84],[]),(10,[1,85,86,87,88,89,90],[]),(11,[1,5,85,91],[])] Tryd.f16 = some (ac16,[.tmp 2],92) := by kernel_rfl
/-- the words of the operations -/
def opWord (op : Int) : List UInt8 :=
  if op = 1 then [103, 101, 116, 118, 97, 108] else if op = 2 then [103, 101, 116, 105, 110, 116] else if op = 3 then [103, 101, 116, 115, 116, 114] else if op = 4 then [117, 110, 105, 118, 97, 114]
  else if op = 5 then [117, 110, 105, 118, 97, 108] else if op = 6 then [117, 110, 105, 105, 110, 116] else if op = 7 then [115, 101, 116, 115, 116, 114] else if op = 8 then [112, 117, 116, 118, 97, 114]
  else if op = 9 then [112, 117, 116, 118, 97, 108] else if op = 10 then [112, 117, 116, 105, 110, 116] else if op = 11 then [99, 97, 108, 108] else if op = 12 then [98, 117, 105, 108, 116]
  else if op = 13 then [99, 117, 116] else if op = 14 then [101, 110, 100] else []
/-- an operation, and whether it has A, B, and a name -/
def opOk (op : Int) : Bool := decide (1 ≤ op) && decide (op ≤ 14)
def opIA (op : Int) : Bool := decide (1 ≤ op) && decide (op ≤ 12)
def opB (op : Int) : Bool := op == 1 || op == 2 || op == 3 || op == 7 || op == 8 || op == 9 || op == 10
def opN (op : Int) : Bool := op == 3 || op == 7 || op == 11 || op == 12
theorem op_cases (op : Int) : op = 1 ∨ op = 2 ∨ op = 3 ∨ op = 4 ∨ op = 5 ∨ op = 6 ∨ op = 7 ∨ op = 8 ∨ op = 9 ∨ op = 10 ∨ op = 11 ∨ op = 12 ∨ op = 13 ∨ op = 14 ∨ (op < 1 ∨ 14 < op) := by omega
set_option maxHeartbeats 3200000 in
theorem formOf_calls (op : Int) (H : Heap) : ACalls Tryd.prog 13 [.c (.d (.int .i64 op))] H (fun r H' => H' = H ∧ r = .tup [.agg [.d (.str (opWord op)), .d (.bool (opIA op)), .d (.bool (opB op)), .d (.bool (opN op))], .c (.d (.bool (opOk op)))]) := by
  refine acalls Tryd.func13 (by kernel_rfl) ac13_ok fun hf => ?_
  rcases op_cases op with rfl | rfl | rfl | rfl | rfl | rfl | rfl | rfl | rfl | rfl | rfl | rfl | rfl | rfl | h
  all_goals try (simp -implicitDefEqProofs [ac13, opWord, opIA, opB, opN, opOk, hf, go_sem, -List.set_cons_succ, -List.set_cons_zero]; done)
  have h1 : op ≠ 1 ∧ op ≠ 2 ∧ op ≠ 3 ∧ op ≠ 4 ∧ op ≠ 5 ∧ op ≠ 6 ∧ op ≠ 7 ∧ op ≠ 8 ∧ op ≠ 9 ∧ op ≠ 10 ∧ op ≠ 11 ∧ op ≠ 12 ∧ op ≠ 13 ∧ op ≠ 14 := by omega
  have h2 : opOk op = false := by simp [opOk]; omega
  have h3 : opIA op = false := by simp [opIA]; omega
  simp -implicitDefEqProofs [ac13, opWord, opB, opN, h1, h2, h3, hf, go_sem, -List.set_cons_succ, -List.set_cons_zero]
/-- the shape of an operation, as the reference names it -/
def opShape (op : Int) : List UInt8 :=
  if opOk op then (if opIA op then [97] else []) ++ (if opB op then [98] else []) ++ (if opN op then [110] else []) else [63]
set_option maxHeartbeats 3200000 in
theorem shapeOf_calls (op : Int) (H : Heap) : ACalls Tryd.prog 9 [.c (.d (.int .i64 op))] H (fun r H' => H' = H ∧ r = .c (.d (.str (opShape op)))) := by
  refine acalls Tryd.func9 (by kernel_rfl) ac9_ok fun hf => ?_
  rcases op_cases op with rfl | rfl | rfl | rfl | rfl | rfl | rfl | rfl | rfl | rfl | rfl | rfl | rfl | rfl | h
  all_goals try (simp -implicitDefEqProofs [ac9, opShape, opIA, opB, opN, opOk, go_sem, -List.set_cons_succ, -List.set_cons_zero]; done)
  have h1 : op ≠ 1 ∧ op ≠ 2 ∧ op ≠ 3 ∧ op ≠ 4 ∧ op ≠ 5 ∧ op ≠ 6 ∧ op ≠ 7 ∧ op ≠ 8 ∧ op ≠ 9 ∧ op ≠ 10 ∧ op ≠ 11 ∧ op ≠ 12 ∧ op ≠ 13 ∧ op ≠ 14 := by omega
  have h2 : opOk op = false := by simp [opOk]; omega
  simp -implicitDefEqProofs [ac9, opShape, h1, h2, go_sem, -List.set_cons_succ, -List.set_cons_zero]
/-- whether an instruction is within the limits -/
def Ins.okB (x : Ins) : Bool :=
  opOk x.op && (decide (-999 ≤ x.a) && decide (x.a ≤ 999)) && (decide (0 ≤ x.b) && decide (x.b ≤ 999)) && (opIA x.op || x.a == 0) && (opB x.op || x.b == 0) && (if opN x.op then nameB x.text else x.text == [])
/-- the text of an instruction -/
def Ins.fmt (x : Ins) : List UInt8 :=
  if x.okB then opWord x.op ++ (if opIA x.op then 32 :: Lib.itoa x.a else []) ++ (if opB x.op then 32 :: Lib.itoa x.b else []) ++ (if opN x.op then 32 :: x.text else []) else []
def namesL : List (List D) := (List.range 15).map fun i : Nat => [.str (opWord (i : Int))]
theorem namesL_len : namesL.length = 15 := rfl
theorem names_at {op : Int} (h1 : 0 ≤ op) (h2 : op ≤ 14) : namesL[op.toNat]? = some [.str (opWord op)] := by
  unfold namesL
  rw [List.getElem?_map, List.getElem?_range (by omega)]
  simp [Int.toNat_of_nonneg h1]
set_option maxHeartbeats 3200000 in
theorem names_calls (H : Heap) : ACalls Tryd.prog 8 [] H (fun r H' => H' = H ∧ r = .c (.d (.sl namesL))) := by
  refine acalls Tryd.func8 (by kernel_rfl) ac8_ok fun hf => ?_
  simp -implicitDefEqProofs [ac8, namesL, List.range, List.range.loop, opWord, go_sem, -List.set_cons_succ, -List.set_cons_zero]
theorem op_bits (op : Int) : (opOk op = false ∧ opIA op = false ∧ opB op = false ∧ opN op = false) ∨ (opOk op = true ∧ opIA op = true ∧ opB op = true ∧ opN op = false) ∨ (opOk op = true ∧ opIA op = true ∧ opB op = true ∧ opN op = true) ∨
    (opOk op = true ∧ opIA op = true ∧ opB op = false ∧ opN op = false) ∨ (opOk op = true ∧ opIA op = true ∧ opB op = false ∧ opN op = true) ∨ (opOk op = true ∧ opIA op = false ∧ opB op = false ∧ opN op = false) := by
  rcases op_cases op with rfl | rfl | rfl | rfl | rfl | rfl | rfl | rfl | rfl | rfl | rfl | rfl | rfl | rfl | h
  all_goals try (simp [opOk, opIA, opB, opN]; done)
  refine .inl ⟨by simp [opOk]; omega, by simp [opIA]; omega, ?_, ?_⟩
  · have : op ≠ 1 ∧ op ≠ 2 ∧ op ≠ 3 ∧ op ≠ 7 ∧ op ≠ 8 ∧ op ≠ 9 ∧ op ≠ 10 := by omega
    simp [opB, this]
  · have : op ≠ 3 ∧ op ≠ 7 ∧ op ≠ 11 ∧ op ≠ 12 := by omega
    simp [opN, this]
theorem opWord_len (op : Int) : (opWord op).length ≤ 6 := by
  rcases op_cases op with rfl | rfl | rfl | rfl | rfl | rfl | rfl | rfl | rfl | rfl | rfl | rfl | rfl | rfl | h
  all_goals try (simp [opWord]; done)
  have h1 : op ≠ 1 ∧ op ≠ 2 ∧ op ≠ 3 ∧ op ≠ 4 ∧ op ≠ 5 ∧ op ≠ 6 ∧ op ≠ 7 ∧ op ≠ 8 ∧ op ≠ 9 ∧ op ≠ 10 ∧ op ≠ 11 ∧ op ≠ 12 ∧ op ≠ 13 ∧ op ≠ 14 := by omega
  simp [opWord, h1]
/-- the program's text of an instruction -/
def FmtI (g : Nat) (o : Obj) (x : Ins) : Prop := ∀ H : Heap, H[0]? = some (.tab g o) → ACalls Tryd.prog 16 [.agg (x.row.map .d)] H (fun r H' => H' = H ∧ r = .c (.d (.str x.fmt)))
theorem fmt_lens {a b : Int} (h2 : inR .i64 a) (h3 : inR .i64 b) : (Lib.itoa a).length ≤ 1000000 ∧ (Lib.itoa b).length ≤ 1000000 :=
  ⟨itoa_len a (i64_def.1 h2).1 (i64_def.1 h2).2, itoa_len b (i64_def.1 h3).1 (i64_def.1 h3).2⟩
set_option maxHeartbeats 3200000 in
theorem fmtImpl_0 {g : Nat} {o : Obj} (hT : Tab g o) (op a b : Int) (s : List UInt8) (h1 : inR .i64 op) (h2 : inR .i64 a) (h3 : inR .i64 b) (hs : s.length ≤ 1048576) (e1 : opOk op = false) (e2 : opIA op = false) (e3 : opB op = false) (e4 : opN op = false) : FmtI g o ⟨op, a, b, s⟩ := by
  intro H hH
  refine acalls Tryd.func16 (by kernel_rfl) ac16_ok fun hf => ?_
  simp -implicitDefEqProofs [ac16, Ins.row, go_sem, -List.set_cons_succ, -List.set_cons_zero]
  refine qcall_pure (formOf_calls op) hf rfl ?_
  have hw := opWord_len op
  obtain ⟨la, lb⟩ := fmt_lens h2 h3
  simp -implicitDefEqProofs [e1, e2, e3, e4, hf, Ins.fmt, Ins.okB, go_sem, -List.set_cons_succ, -List.set_cons_zero]
set_option maxHeartbeats 3200000 in
theorem fmtImpl_1 {g : Nat} {o : Obj} (hT : Tab g o) (op a b : Int) (s : List UInt8) (h1 : inR .i64 op) (h2 : inR .i64 a) (h3 : inR .i64 b) (hs : s.length ≤ 1048576) (e1 : opOk op = true) (e2 : opIA op = true) (e3 : opB op = true) (e4 : opN op = false) : FmtI g o ⟨op, a, b, s⟩ := by
  intro H hH
  refine acalls Tryd.func16 (by kernel_rfl) ac16_ok fun hf => ?_
  simp -implicitDefEqProofs [ac16, Ins.row, go_sem, -List.set_cons_succ, -List.set_cons_zero]
  refine qcall_pure (formOf_calls op) hf rfl ?_
  have hw := opWord_len op
  obtain ⟨la, lb⟩ := fmt_lens h2 h3
  simp -implicitDefEqProofs [e1, e2, e3, e4, go_sem, -List.set_cons_succ, -List.set_cons_zero]
  refine ⟨hf, qcall_pure (within_calls _ _ _) hf rfl ?_⟩
  cases hA : (decide (-999 ≤ a) && decide (a ≤ 999)) with
  | false => simp -implicitDefEqProofs [e1, hA, Ins.fmt, Ins.okB, go_sem, -List.set_cons_succ, -List.set_cons_zero]
  | true =>
    simp -implicitDefEqProofs [hA, go_sem, -List.set_cons_succ, -List.set_cons_zero]
    refine qcall_pure (within_calls _ _ _) hf rfl ?_
    cases hB : (decide (0 ≤ b) && decide (b ≤ 999)) with
    | false => simp -implicitDefEqProofs [e1, hA, hB, Ins.fmt, Ins.okB, go_sem, -List.set_cons_succ, -List.set_cons_zero]
    | true =>
      obtain ⟨a1, a2⟩ : -999 ≤ a ∧ a ≤ 999 := by simpa using hA
      obtain ⟨b1, b2⟩ : 0 ≤ b ∧ b ≤ 999 := by simpa using hB
      simp -implicitDefEqProofs [hB, go_sem, -List.set_cons_succ, -List.set_cons_zero]
      refine ⟨fun h0 => by first | (simp [e1, e2, e3, e4, a1, a2, b1, b2, Ins.fmt, Ins.okB, h0]; done) | (simp [e1, e2, e3, e4, a1, a2, b1, b2, Ins.fmt, Ins.okB]; intros; simp_all), ?_⟩
      intro hc; subst hc
      refine qcall_tab (itoa_call hT a h2) hf hH rfl ?_
      simp -implicitDefEqProofs [maxStr, go_sem, -List.set_cons_succ, -List.set_cons_zero]
      refine ⟨by omega, by omega, qcall_tab (itoa_call hT b h3) hf hH rfl ?_⟩
      simp -implicitDefEqProofs [e1, e2, e3, e4, a1, a2, b1, b2, Ins.fmt, Ins.okB, maxStr, go_sem, -List.set_cons_succ, -List.set_cons_zero]
      omega
set_option maxHeartbeats 3200000 in
theorem fmtImpl_2 {g : Nat} {o : Obj} (hT : Tab g o) (op a b : Int) (s : List UInt8) (h1 : inR .i64 op) (h2 : inR .i64 a) (h3 : inR .i64 b) (hs : s.length ≤ 1048576) (e1 : opOk op = true) (e2 : opIA op = true) (e3 : opB op = true) (e4 : opN op = true) : FmtI g o ⟨op, a, b, s⟩ := by
  intro H hH
  refine acalls Tryd.func16 (by kernel_rfl) ac16_ok fun hf => ?_
  simp -implicitDefEqProofs [ac16, Ins.row, go_sem, -List.set_cons_succ, -List.set_cons_zero]
  refine qcall_pure (formOf_calls op) hf rfl ?_
  have hw := opWord_len op
  obtain ⟨la, lb⟩ := fmt_lens h2 h3
  simp -implicitDefEqProofs [e1, e2, e3, e4, go_sem, -List.set_cons_succ, -List.set_cons_zero]
  refine ⟨hf, qcall_pure (within_calls _ _ _) hf rfl ?_⟩
  cases hA : (decide (-999 ≤ a) && decide (a ≤ 999)) with
  | false => simp -implicitDefEqProofs [e1, hA, Ins.fmt, Ins.okB, go_sem, -List.set_cons_succ, -List.set_cons_zero]
  | true =>
    simp -implicitDefEqProofs [hA, go_sem, -List.set_cons_succ, -List.set_cons_zero]
    refine qcall_pure (within_calls _ _ _) hf rfl ?_
    cases hB : (decide (0 ≤ b) && decide (b ≤ 999)) with
    | false => simp -implicitDefEqProofs [e1, hA, hB, Ins.fmt, Ins.okB, go_sem, -List.set_cons_succ, -List.set_cons_zero]
    | true =>
      obtain ⟨a1, a2⟩ : -999 ≤ a ∧ a ≤ 999 := by simpa using hA
      obtain ⟨b1, b2⟩ : 0 ≤ b ∧ b ≤ 999 := by simpa using hB
      simp -implicitDefEqProofs [hB, go_sem, -List.set_cons_succ, -List.set_cons_zero]
      refine qcall_pure (nvImpl_calls s (by omega)) hf rfl ?_
      cases hn : nameB s with
      | false => simp -implicitDefEqProofs [hn, e1, e2, e3, e4, a1, a2, b1, b2, Ins.fmt, Ins.okB, go_sem, -List.set_cons_succ, -List.set_cons_zero]
      | true =>
        simp -implicitDefEqProofs [hn, go_sem, -List.set_cons_succ, -List.set_cons_zero]
        refine qcall_tab (itoa_call hT a h2) hf hH rfl ?_
        simp -implicitDefEqProofs [maxStr, go_sem, -List.set_cons_succ, -List.set_cons_zero]
        refine ⟨by omega, by omega, qcall_tab (itoa_call hT b h3) hf hH rfl ?_⟩
        simp -implicitDefEqProofs [hn, e1, e2, e3, e4, a1, a2, b1, b2, Ins.fmt, Ins.okB, maxStr, go_sem, -List.set_cons_succ, -List.set_cons_zero]
        omega
set_option maxHeartbeats 3200000 in
theorem fmtImpl_3 {g : Nat} {o : Obj} (hT : Tab g o) (op a b : Int) (s : List UInt8) (h1 : inR .i64 op) (h2 : inR .i64 a) (h3 : inR .i64 b) (hs : s.length ≤ 1048576) (e1 : opOk op = true) (e2 : opIA op = true) (e3 : opB op = false) (e4 : opN op = false) : FmtI g o ⟨op, a, b, s⟩ := by
  intro H hH
  refine acalls Tryd.func16 (by kernel_rfl) ac16_ok fun hf => ?_
  simp -implicitDefEqProofs [ac16, Ins.row, go_sem, -List.set_cons_succ, -List.set_cons_zero]
  refine qcall_pure (formOf_calls op) hf rfl ?_
  have hw := opWord_len op
  obtain ⟨la, lb⟩ := fmt_lens h2 h3
  simp -implicitDefEqProofs [e1, e2, e3, e4, go_sem, -List.set_cons_succ, -List.set_cons_zero]
  refine ⟨hf, qcall_pure (within_calls _ _ _) hf rfl ?_⟩
  cases hA : (decide (-999 ≤ a) && decide (a ≤ 999)) with
  | false => simp -implicitDefEqProofs [e1, hA, Ins.fmt, Ins.okB, go_sem, -List.set_cons_succ, -List.set_cons_zero]
  | true =>
    simp -implicitDefEqProofs [hA, go_sem, -List.set_cons_succ, -List.set_cons_zero]
    refine qcall_pure (within_calls _ _ _) hf rfl ?_
    cases hB : (decide (0 ≤ b) && decide (b ≤ 999)) with
    | false => simp -implicitDefEqProofs [e1, hA, hB, Ins.fmt, Ins.okB, go_sem, -List.set_cons_succ, -List.set_cons_zero]
    | true =>
      obtain ⟨a1, a2⟩ : -999 ≤ a ∧ a ≤ 999 := by simpa using hA
      obtain ⟨b1, b2⟩ : 0 ≤ b ∧ b ≤ 999 := by simpa using hB
      simp -implicitDefEqProofs [hB, go_sem, -List.set_cons_succ, -List.set_cons_zero]
      refine ⟨fun h0 => by first | (simp [e1, e2, e3, e4, a1, a2, b1, b2, Ins.fmt, Ins.okB, h0]; done) | (simp [e1, e2, e3, e4, a1, a2, b1, b2, Ins.fmt, Ins.okB]; intros; simp_all), ?_⟩
      intro hc; subst hc
      intro hc; subst hc
      refine qcall_tab (itoa_call hT a h2) hf hH rfl ?_
      simp -implicitDefEqProofs [maxStr, go_sem, -List.set_cons_succ, -List.set_cons_zero]
      simp -implicitDefEqProofs [e1, e2, e3, e4, a1, a2, b1, b2, Ins.fmt, Ins.okB, go_sem, -List.set_cons_succ, -List.set_cons_zero]
      omega
set_option maxHeartbeats 3200000 in
theorem fmtImpl_4 {g : Nat} {o : Obj} (hT : Tab g o) (op a b : Int) (s : List UInt8) (h1 : inR .i64 op) (h2 : inR .i64 a) (h3 : inR .i64 b) (hs : s.length ≤ 1048576) (e1 : opOk op = true) (e2 : opIA op = true) (e3 : opB op = false) (e4 : opN op = true) : FmtI g o ⟨op, a, b, s⟩ := by
  intro H hH
  refine acalls Tryd.func16 (by kernel_rfl) ac16_ok fun hf => ?_
  simp -implicitDefEqProofs [ac16, Ins.row, go_sem, -List.set_cons_succ, -List.set_cons_zero]
  refine qcall_pure (formOf_calls op) hf rfl ?_
  have hw := opWord_len op
  obtain ⟨la, lb⟩ := fmt_lens h2 h3
  simp -implicitDefEqProofs [e1, e2, e3, e4, go_sem, -List.set_cons_succ, -List.set_cons_zero]
  refine ⟨hf, qcall_pure (within_calls _ _ _) hf rfl ?_⟩
  cases hA : (decide (-999 ≤ a) && decide (a ≤ 999)) with
  | false => simp -implicitDefEqProofs [e1, hA, Ins.fmt, Ins.okB, go_sem, -List.set_cons_succ, -List.set_cons_zero]
  | true =>
    simp -implicitDefEqProofs [hA, go_sem, -List.set_cons_succ, -List.set_cons_zero]
    refine qcall_pure (within_calls _ _ _) hf rfl ?_
    cases hB : (decide (0 ≤ b) && decide (b ≤ 999)) with
    | false => simp -implicitDefEqProofs [e1, hA, hB, Ins.fmt, Ins.okB, go_sem, -List.set_cons_succ, -List.set_cons_zero]
    | true =>
      obtain ⟨a1, a2⟩ : -999 ≤ a ∧ a ≤ 999 := by simpa using hA
      obtain ⟨b1, b2⟩ : 0 ≤ b ∧ b ≤ 999 := by simpa using hB
      by_cases hb0 : b = 0
      case neg =>
        have hb1 : (b != 0) = true := by simpa using hb0
        simp -implicitDefEqProofs [hb0, hb1, e1, e2, e3, e4, a1, a2, b1, b2, Ins.fmt, Ins.okB, go_sem, -List.set_cons_succ, -List.set_cons_zero]
      subst hb0
      simp -implicitDefEqProofs [hB, go_sem, -List.set_cons_succ, -List.set_cons_zero]
      refine qcall_pure (nvImpl_calls s (by omega)) hf rfl ?_
      cases hn : nameB s with
      | false => simp -implicitDefEqProofs [hn, e1, e2, e3, e4, a1, a2, b1, b2, Ins.fmt, Ins.okB, go_sem, -List.set_cons_succ, -List.set_cons_zero]
      | true =>
        simp -implicitDefEqProofs [hn, go_sem, -List.set_cons_succ, -List.set_cons_zero]
        refine qcall_tab (itoa_call hT a h2) hf hH rfl ?_
        simp -implicitDefEqProofs [maxStr, go_sem, -List.set_cons_succ, -List.set_cons_zero]
        simp -implicitDefEqProofs [hn, e1, e2, e3, e4, a1, a2, b1, b2, Ins.fmt, Ins.okB, go_sem, -List.set_cons_succ, -List.set_cons_zero]
        omega
set_option maxHeartbeats 3200000 in
theorem fmtImpl_5 {g : Nat} {o : Obj} (hT : Tab g o) (op a b : Int) (s : List UInt8) (h1 : inR .i64 op) (h2 : inR .i64 a) (h3 : inR .i64 b) (hs : s.length ≤ 1048576) (e1 : opOk op = true) (e2 : opIA op = false) (e3 : opB op = false) (e4 : opN op = false) : FmtI g o ⟨op, a, b, s⟩ := by
  intro H hH
  refine acalls Tryd.func16 (by kernel_rfl) ac16_ok fun hf => ?_
  simp -implicitDefEqProofs [ac16, Ins.row, go_sem, -List.set_cons_succ, -List.set_cons_zero]
  refine qcall_pure (formOf_calls op) hf rfl ?_
  have hw := opWord_len op
  obtain ⟨la, lb⟩ := fmt_lens h2 h3
  simp -implicitDefEqProofs [e1, e2, e3, e4, go_sem, -List.set_cons_succ, -List.set_cons_zero]
  refine ⟨hf, qcall_pure (within_calls _ _ _) hf rfl ?_⟩
  cases hA : (decide (-999 ≤ a) && decide (a ≤ 999)) with
  | false => simp -implicitDefEqProofs [e1, hA, Ins.fmt, Ins.okB, go_sem, -List.set_cons_succ, -List.set_cons_zero]
  | true =>
    simp -implicitDefEqProofs [hA, go_sem, -List.set_cons_succ, -List.set_cons_zero]
    refine qcall_pure (within_calls _ _ _) hf rfl ?_
    cases hB : (decide (0 ≤ b) && decide (b ≤ 999)) with
    | false => simp -implicitDefEqProofs [e1, hA, hB, Ins.fmt, Ins.okB, go_sem, -List.set_cons_succ, -List.set_cons_zero]
    | true =>
      obtain ⟨a1, a2⟩ : -999 ≤ a ∧ a ≤ 999 := by simpa using hA
      obtain ⟨b1, b2⟩ : 0 ≤ b ∧ b ≤ 999 := by simpa using hB
      simp -implicitDefEqProofs [hB, go_sem, -List.set_cons_succ, -List.set_cons_zero]
      refine ⟨fun h0 => by first | (simp [e1, e2, e3, e4, a1, a2, b1, b2, Ins.fmt, Ins.okB, h0]; done) | (simp [e1, e2, e3, e4, a1, a2, b1, b2, Ins.fmt, Ins.okB]; intros; simp_all), ?_⟩
      intro hc; subst hc
      intro hc; subst hc
      intro hc; subst hc
      simp [e1, e2, e3, e4, a1, a2, b1, b2, Ins.fmt, Ins.okB]
set_option maxHeartbeats 3200000 in
theorem fmtImpl_calls {g : Nat} {o : Obj} (hT : Tab g o) (x : Ins) (hx : x.ok) (hs : x.text.length ≤ 1048576) : FmtI g o x := by
  obtain ⟨op, a, b, s⟩ := x
  obtain ⟨h1, h2, h3, h4⟩ := hx
  rcases op_bits op with ⟨e1, e2, e3, e4⟩ | ⟨e1, e2, e3, e4⟩ | ⟨e1, e2, e3, e4⟩ | ⟨e1, e2, e3, e4⟩ | ⟨e1, e2, e3, e4⟩ | ⟨e1, e2, e3, e4⟩
  · exact fmtImpl_0 hT op a b s h1 h2 h3 hs e1 e2 e3 e4
  · exact fmtImpl_1 hT op a b s h1 h2 h3 hs e1 e2 e3 e4
  · exact fmtImpl_2 hT op a b s h1 h2 h3 hs e1 e2 e3 e4
  · exact fmtImpl_3 hT op a b s h1 h2 h3 hs e1 e2 e3 e4
  · exact fmtImpl_4 hT op a b s h1 h2 h3 hs e1 e2 e3 e4
  · exact fmtImpl_5 hT op a b s h1 h2 h3 hs e1 e2 e3 e4
end Go.Proofs.YtbblefjbgbocoaaDoor

/-
  Atoms.
  Conditions: none.
-/
open Go Go.AM Go.Proofs
namespace Go.Proofs.YtbblefjbgbocoaaDoor
open Go.ChangeShapes Go.WideShapes Go.ChangeAt Go.RowKit
set_option linter.unusedVariables false
set_option linter.unusedSimpArgs false
set_option maxRecDepth 100000
end Go.Proofs.YtbblefjbgbocoaaDoor

/-
  Goals: which terms are goals, for the program and for the reference.
  Conditions: none.
-/
open Go Go.AM Go.Proofs
namespace Go.Proofs.YtbblefjbgbocoaaDoor
open Go.ChangeShapes Go.WideShapes Go.ChangeAt Go.RowKit
set_option linter.unusedVariables false
set_option linter.unusedSimpArgs false
set_option maxRecDepth 100000
def ops3 : List (List UInt8) := [[61], [92, 61], [61, 61], [60], [62], [61, 60], [62, 61], [61, 58, 61], [105, 115]]
def levelN (s : List UInt8) : Int := if ops3.contains s then 3 else if [[43], [45]].contains s then 2 else if [[42], [47, 47], [109, 111, 100]].contains s then 1 else 0
def leftB (s : List UInt8) : Bool := decide (levelN s = 1) || decide (levelN s = 2)
def builtB (s : List UInt8) (a : Int) : Bool :=
  if ops3.contains s then (a == 2) else if [[116, 114, 117, 101], [102, 97, 105, 108]].contains s then (a == 0)
  else if [[118, 97, 114], [110, 111, 110, 118, 97, 114], [97, 116, 111, 109], [105, 110, 116]].contains s then (a == 1) else if s = [97, 114, 103] then (a == 3) else false
/-- a goal that is built in -/
def Tm.built (t : Tm) : Bool := decide (t.k = 3) && builtB t.s t.kids.length
/-- a goal for clauses -/
def Tm.plain (t : Tm) : Bool := decide (t.k = 3) && (lettersB t.s && ((levelN t.s == 0) && !builtB t.s t.kids.length))
def Tm.cutB (t : Tm) : Bool := decide (t.k = 3) && (t.kids.isEmpty && t.s == [33])
def Tm.goal (t : Tm) : Bool := t.valid && (t.plain || t.built || t.cutB)
end Go.Proofs.YtbblefjbgbocoaaDoor

/-
  Terms that are well-formed, whatever their depth.
  Conditions: none.
-/
open Go Go.AM Go.Proofs
namespace Go.Proofs.YtbblefjbgbocoaaDoor
open Go.ChangeShapes Go.WideShapes Go.ChangeAt Go.RowKit
set_option linter.unusedVariables false
set_option linter.unusedSimpArgs false
set_option maxRecDepth 100000
theorem name_len {s : List UInt8} (h : nameB s = true) : 1 ≤ s.length ∧ s.length ≤ 6 := by
  simp only [nameB, Bool.or_eq_true] at h
  rcases h with h | h
  · simp only [lettersB, Bool.and_eq_true, decide_eq_true_eq] at h
    omega
  · simp [signs] at h
    rcases h with rfl | rfl | rfl | rfl | rfl | rfl | rfl | rfl | rfl | rfl | rfl | rfl | rfl | rfl | rfl <;> decide
end Go.Proofs.YtbblefjbgbocoaaDoor

/-
  Copies of terms by the program and by the reference.
  Conditions: none.
-/
open Go Go.AM Go.Proofs
namespace Go.Proofs.YtbblefjbgbocoaaDoor
open Go.ChangeShapes Go.WideShapes Go.ChangeAt Go.RowKit
set_option linter.unusedVariables false
set_option linter.unusedSimpArgs false
set_option maxRecDepth 100000
end Go.Proofs.YtbblefjbgbocoaaDoor

/-
  Structures that are made.
  Conditions: none.
-/
open Go Go.AM Go.Proofs
namespace Go.Proofs.YtbblefjbgbocoaaDoor
open Go.ChangeShapes Go.WideShapes Go.ChangeAt Go.RowKit
set_option linter.unusedVariables false
set_option linter.unusedSimpArgs false
set_option maxRecDepth 100000
end Go.Proofs.YtbblefjbgbocoaaDoor

/-
  Pairs of lists, and the empty list.
  Conditions: none.
-/
open Go Go.AM Go.Proofs
namespace Go.Proofs.YtbblefjbgbocoaaDoor
open Go.ChangeShapes Go.WideShapes Go.ChangeAt Go.RowKit
set_option linter.unusedVariables false
set_option linter.unusedSimpArgs false
set_option maxRecDepth 100000
end Go.Proofs.YtbblefjbgbocoaaDoor

/-
  Lists as terms: copies, chains, MakeList and ListOf of the program and of the reference.
  Conditions: none.
-/
open Go Go.AM Go.Proofs
namespace Go.Proofs.YtbblefjbgbocoaaDoor
open Go.ChangeShapes Go.WideShapes Go.ChangeAt Go.RowKit
set_option linter.unusedVariables false
set_option linter.unusedSimpArgs false
set_option maxRecDepth 100000
def pairT (a b : Tm) : Tm := .mk 3 0 [46] [a, b]
/-- elements in front of a tail -/
def chainT : List Tm → Tm → Tm
  | [], t => t
  | x :: l, t => pairT x (chainT l t)
end Go.Proofs.YtbblefjbgbocoaaDoor

/-
  A parser of terms with operators, in plain Lean, as the reference's goes.
  Conditions: none.
-/
open Go Go.AM Go.Proofs
namespace Go.Proofs.YtbblefjbgbocoaaDoor
set_option linter.unusedVariables false
set_option linter.unusedSimpArgs false
set_option maxRecDepth 100000
/-- does a byte stand at a place? -/
def sgn (s : List UInt8) (i : Nat) (c : UInt8) : Bool := match s[i]? with
  | some b => b == c
  | none => false
def digB (b : UInt8) : Bool := decide (48 ≤ b.toNat) && decide (b.toNat ≤ 57)
def smaB (b : UInt8) : Bool := decide (97 ≤ b.toNat) && decide (b.toNat ≤ 122)
def bigB (b : UInt8) : Bool := decide (65 ≤ b.toNat) && decide (b.toNat ≤ 90)
def digAt (s : List UInt8) (i : Nat) : Bool := match s[i]? with
  | some b => digB b
  | none => false
def smaAt (s : List UInt8) (i : Nat) : Bool := match s[i]? with
  | some b => smaB b
  | none => false
/-- where a run ends, at most n bytes on -/
def runE (p : List UInt8 → Nat → Bool) (s : List UInt8) : Nat → Nat → Nat
  | 0, i => i
  | n + 1, i => if p s i then runE p s n (i + 1) else i
/-- a numeral's number -/
def numV (l : List UInt8) : Nat := l.foldl (fun n b => n * 10 + (b.toNat - 48)) 0
/-- a canonical numeral -/
def canB (l : List UInt8) : Bool := decide (1 ≤ l.length) && decide (l.length ≤ 17) && (l.headD 0 != 48 || decide (l.length = 1)) && l.all digB
def cutS (s : List UInt8) (i j : Nat) : List UInt8 := (s.take j).drop i
/-- a number at a place, and the place behind it -/
def numR (s : List UInt8) (i : Nat) : Option (Int × Nat) :=
  if canB (cutS s (if sgn s i 45 then i + 1 else i) (runE digAt s 4 (if sgn s i 45 then i + 1 else i))) then
    if (sgn s i 45 && decide (numV (cutS s (if sgn s i 45 then i + 1 else i) (runE digAt s 4 (if sgn s i 45 then i + 1 else i))) = 0)) || decide (999 < numV (cutS s (if sgn s i 45 then i + 1 else i) (runE digAt s 4 (if sgn s i 45 then i + 1 else i)))) then none
    else some (if sgn s i 45 then -(numV (cutS s (i + 1) (runE digAt s 4 (i + 1))) : Int) else (numV (cutS s i (runE digAt s 4 i)) : Int), runE digAt s 4 (if sgn s i 45 then i + 1 else i))
  else none
/-- the longest of some names that stands at a place -/
def bestS (s : List UInt8) (i : Nat) : List (List UInt8) → List UInt8 → List UInt8
  | [], b => b
  | n :: l, b => bestS s i l (if decide (i + n.length ≤ s.length) && cutS s i (i + n.length) == n && decide (b.length < n.length) then n else b)
/-- a name at a place, and the place behind it -/
def nameR (s : List UInt8) (i : Nat) : Option (List UInt8 × Nat) :=
  if i + 6 < runE smaAt s s.length i then none
  else if i < runE smaAt s s.length i then some (cutS s i (runE smaAt s s.length i), runE smaAt s s.length i)
  else if bestS s i signs [] = [] then none
  else some (bestS s i signs [], i + (bestS s i signs []).length)
def wordB (n : List UInt8) : Bool := n == [105, 115] || n == [109, 111, 100]
/-- an operator at a place, and the place behind it -/
def opR (s : List UInt8) (i : Nat) : Option (List UInt8 × Nat) :=
  if s.length ≤ (if sgn s i 32 then i + 1 else i) then none
  else match nameR s (if sgn s i 32 then i + 1 else i) with
    | none => none
    | some (n, j) => if levelN n = 0 then none
      else if wordB n != sgn s i 32 || wordB n && !sgn s j 32 then none
      else some (n, if wordB n then j + 1 else j)
/-- what is to be read -/
inductive Job where
  | read (i d l : Nat)
  | ops (t : Tm) (i d l : Nat)
  | terms (i d : Nat) (e o : UInt8)
  | prime (i d : Nat)
/-- terms and the place behind them, or the place of a failure -/
inductive Rs where
  | ok (l : List Tm) (i : Nat)
  | bad (i : Nat)
def nilT : Tm := .mk 3 0 [91, 93] []
def Rs.tm : List Tm → Tm
  | t :: _ => t
  | [] => .mk 0 0 [] []
/-- one step of the parser; R: what the steps below it give -/
def step (s : List UInt8) (R : Job → Option Rs) : Job → Option Rs
  | .read i d 0 => R (.prime i d)
  | .read i d (l + 1) => match R (.read i d l) with
    | none => none
    | some (.bad e) => some (.bad e)
    | some (.ok ts j) => R (.ops (Rs.tm ts) j d (l + 1))
  | .ops t i d l => match opR s i with
    | none => some (.ok [t] i)
    | some (n, j) => if levelN n = l then match R (.read j d (l - 1)) with
        | none => none
        | some (.bad e) => some (.bad e)
        | some (.ok us k) => if l = 3 then some (.ok [.mk 3 0 n [t, Rs.tm us]] k) else R (.ops (.mk 3 0 n [t, Rs.tm us]) k d l)
      else some (.ok [t] i)
  | .terms i d e o => match R (.read i d 3) with
    | none => none
    | some (.bad x) => some (.bad x)
    | some (.ok ts j) => if sgn s j e || sgn s j o then some (.ok [Rs.tm ts] j)
      else if sgn s j 44 then match R (.terms (j + 1) d e o) with
        | none => none
        | some (.bad x) => some (.bad x)
        | some (.ok us k) => some (.ok (Rs.tm ts :: us) k)
      else some (.bad j)
  | .prime i d => match s[i]? with
    | none => some (.bad i)
    | some b => if d < 1 then some (.bad i)
      else if b = 40 then match R (.read (i + 1) d 3) with
        | none => none
        | some (.bad e) => some (.bad e)
        | some (.ok ts j) => if sgn s j 41 then some (.ok [Rs.tm ts] (j + 1)) else some (.bad j)
      else if b = 91 ∧ sgn s (i + 1) 93 = false then match R (.terms (i + 1) (d - 1) 93 124) with
        | none => none
        | some (.bad e) => some (.bad e)
        | some (.ok ts j) => if sgn s j 93 then some (.ok [chainT ts nilT] (j + 1))
          else match R (.read (j + 1) (d - 1) 3) with
            | none => none
            | some (.bad e) => some (.bad e)
            | some (.ok us k) => if sgn s k 93 then some (.ok [chainT ts (Rs.tm us)] (k + 1)) else some (.bad k)
      else if bigB b then some (.ok [.mk 1 (b.toNat - 65 : Nat) [] []] (i + 1))
      else if digB b || b == 45 && digAt s (i + 1) then match numR s i with
        | none => some (.bad i)
        | some (n, j) => some (.ok [.mk 2 n [] []] j)
      else match nameR s i with
        | none => some (.bad i)
        | some (n, j) => if sgn s j 40 then match R (.terms (j + 1) (d - 1) 41 41) with
            | none => none
            | some (.bad e) => some (.bad e)
            | some (.ok ts k) => some (.ok [.mk 3 0 n ts] (k + 1))
          else some (.ok [.mk 3 0 n []] j)
/-- the parser; none: it needs more steps -/
def rd (s : List UInt8) : Nat → Job → Option Rs
  | 0, _ => none
  | f + 1, j => step s (rd s f) j
end Go.Proofs.YtbblefjbgbocoaaDoor

/-
  The parser comes to an end, and what it gives is small.
  Conditions: none.
-/
open Go Go.AM Go.Proofs
namespace Go.Proofs.YtbblefjbgbocoaaDoor
set_option linter.unusedVariables false
set_option linter.unusedSimpArgs false
set_option maxRecDepth 100000
theorem sgn_lt {s : List UInt8} {i : Nat} {c : UInt8} (h : sgn s i c = true) : i < s.length := by
  unfold sgn at h
  split at h
  · rename_i hb; exact (List.getElem?_eq_some_iff.1 hb).1
  · cases h
/-- what a job is done from -/
def Job.pre (s : List UInt8) : Job → Prop
  | .read i d l => i ≤ s.length ∧ l ≤ 3
  | .ops t i d l => i ≤ s.length ∧ t.fits ∧ l ≤ 3
  | .terms i d e o => i ≤ s.length
  | .prime i d => i ≤ s.length
/-- .. and what it gives -/
def Job.post (s : List UInt8) : Job → Rs → Prop
  | _, .bad e => e ≤ s.length
  | .read i d l, .ok ts k => i < k ∧ k ≤ s.length ∧ ∃ t, ts = [t] ∧ t.fits
  | .ops t i d l, .ok ts k => i ≤ k ∧ k ≤ s.length ∧ ∃ t, ts = [t] ∧ t.fits
  | .terms i d e o, .ok ts k => i < k ∧ k ≤ s.length ∧ ts.length ≤ k - i ∧ (∀ t ∈ ts, t.fits) ∧ (sgn s k e || sgn s k o) = true
  | .prime i d, .ok ts k => i < k ∧ k ≤ s.length ∧ ∃ t, ts = [t] ∧ t.fits
def Job.m (s : List UInt8) : Job → Nat
  | .read i d l => 8 * (s.length + 1 - i) + l + 2
  | .ops t i d l => 8 * (s.length + 1 - i) + 1
  | .terms i d e o => 8 * (s.length + 1 - i) + 6
  | .prime i d => 8 * (s.length + 1 - i) + 1
/-- the parser with steps enough -/
def rdF (s : List UInt8) (j : Job) : Option Rs := rd s (8 * s.length + 20) j
end Go.Proofs.YtbblefjbgbocoaaDoor

/-
  Terms as they are written: the plain text, its length, its first byte.
  Conditions: none.
-/
open Go Go.AM Go.Proofs
namespace Go.Proofs.YtbblefjbgbocoaaDoor
open Go.ChangeShapes Go.WideShapes Go.ChangeAt Go.RowKit
set_option linter.unusedVariables false
set_option linter.unusedSimpArgs false
set_option maxRecDepth 100000
/-- texts, with a byte between them -/
def joinS (c : UInt8) : List (List UInt8) → List UInt8
  | [] => []
  | [a] => a
  | a :: b :: l => a ++ c :: joinS c (b :: l)
def Tm.atomB (t : Tm) : Bool := decide (t.k = 3) && t.kids.isEmpty
def Tm.lv (t : Tm) : Int := if t.kids.length = 2 then levelN t.s else 0
def plainC (b : UInt8) : Bool := decide (97 ≤ b.toNat ∧ b.toNat ≤ 122) || decide (65 ≤ b.toNat ∧ b.toNat ≤ 90) || decide (48 ≤ b.toNat ∧ b.toNat ≤ 57) || b == 91 || b == 40
def opnd (t : Tm) (w : List UInt8) (most : Int) (right : Bool) : List UInt8 :=
  if decide (most < t.lv) || (t.atomB && decide (0 < levelN t.s)) || (right && !plainC (w.headD 0)) then 40 :: w ++ [41] else w
def opSp (s : List UInt8) : List UInt8 := if lettersB s then 32 :: s ++ [32] else s
def leftMost (s : List UInt8) : Int := if leftB s then levelN s else levelN s - 1
def leafT : Tm := .mk 3 0 [91, 93] []
def wrNode (k n : Int) (s : List UInt8) (l : List Tm) (ws ts : List (List UInt8)) : List UInt8 :=
  if k = 1 then [UInt8.ofNat (65 + n.toNat)]
  else if k = 2 then Lib.itoa n
  else if s = [46] ∧ l.length = 2 then 91 :: ws.headD [] ++ ts.getD 1 [] ++ [93]
  else if l.length = 2 ∧ 0 < levelN s then opnd (l.getD 0 leafT) (ws.getD 0 []) (leftMost s) false ++ opSp s ++ opnd (l.getD 1 leafT) (ws.getD 1 []) (levelN s - 1) true
  else if l = [] then s else s ++ 40 :: joinS 44 ws ++ [41]
mutual
def Tm.wr : Tm → List UInt8
  | .mk k n s l => wrNode k n s l (wrs l) (wrts l)
/-- the rest of a list -/
def Tm.wrt : Tm → List UInt8
  | .mk k n s l => if k = 3 ∧ s = [46] ∧ l.length = 2 then 44 :: (wrs l).headD [] ++ (wrts l).getD 1 []
    else if k = 3 ∧ s = [91, 93] ∧ l = [] then [] else 124 :: wrNode k n s l (wrs l) (wrts l)
def wrs : List Tm → List (List UInt8)
  | [] => []
  | t :: l => t.wr :: wrs l
def wrts : List Tm → List (List UInt8)
  | [] => []
  | t :: l => t.wrt :: wrts l
end
theorem itoa_short {n : Int} (h0 : -999 ≤ n) (h1 : n ≤ 999) : 1 ≤ (Lib.itoa n).length ∧ (Lib.itoa n).length ≤ 5 := by
  have key : ∀ u : Nat, u ≤ 999 → 1 ≤ (Lib.decDigits u).length ∧ (Lib.decDigits u).length ≤ 4 := by
    intro u hu
    rw [Lib.decDigits]
    split
    · simp
    · rw [Lib.decDigits]
      split
      · simp
      · rw [Lib.decDigits]
        split
        · simp
        · rw [Lib.decDigits, dif_pos (by omega)]
          simp
  unfold Lib.itoa
  split
  · have := key n.natAbs (by omega)
    simp
    omega
  · have := key n.toNat (by omega)
    omega
end Go.Proofs.YtbblefjbgbocoaaDoor

/-
  A parser of terms with operators, in plain Lean, as the program's goes.
  Conditions: none.
-/
open Go Go.AM Go.Proofs
namespace Go.Proofs.YtbblefjbgbocoaaDoor
set_option linter.unusedVariables false
set_option linter.unusedSimpArgs false
set_option maxRecDepth 100000
/-- what the program's reader is to read -/
inductive PJ where
  | term (l d i : Nat)
  | loop (t : Tm) (m l d i : Nat)
  | args (d i : Nat)
  | items (d n i : Nat)
  | prime (d i : Nat)
/-- what comes behind a result -/
def thn (r : Option Rs) (k : List Tm → Nat → Option Rs) : Option Rs := match r with
  | none => none
  | some (.bad e) => some (.bad e)
  | some (.ok ts j) => k ts j
/-- what a job is done from -/
def PJ.pre (s : List UInt8) : PJ → Prop
  | .term l d i => i ≤ s.length ∧ l ≤ 3
  | .loop t m l d i => i ≤ s.length ∧ t.fits ∧ l ≤ 3 ∧ m ≤ 3
  | .args d i => i < s.length
  | .items d n i => i ≤ s.length
  | .prime d i => i ≤ s.length
/-- .. and what it gives -/
def PJ.post (s : List UInt8) : PJ → Rs → Prop
  | _, .bad e => e ≤ s.length
  | .term l d i, .ok ts k => i < k ∧ k ≤ s.length ∧ ∃ t, ts = [t] ∧ t.fits
  | .loop t m l d i, .ok ts k => i ≤ k ∧ k ≤ s.length ∧ ∃ t, ts = [t] ∧ t.fits
  | .args d i, .ok ts k => i < k ∧ k ≤ s.length ∧ ts.length ≤ k - i ∧ ∀ t ∈ ts, t.fits
  | .items d n i, .ok ts k => i < k ∧ k ≤ s.length ∧ ts.length ≤ k - i ∧ ∀ t ∈ ts, t.fits
  | .prime d i, .ok ts k => i < k ∧ k ≤ s.length ∧ ∃ t, ts = [t] ∧ t.fits
def PJ.m (s : List UInt8) : PJ → Nat
  | .term l d i => 8 * (s.length + 1 - i) + 4
  | .loop t m l d i => 8 * (s.length + 1 - i) + 1
  | .args d i => 8 * (s.length + 1 - i)
  | .items d n i => 8 * (s.length + 1 - i) + 6
  | .prime d i => 8 * (s.length + 1 - i) + 1
end Go.Proofs.YtbblefjbgbocoaaDoor

/-
  The program's reader reads what the reference's reads.
  Conditions: none.
-/
open Go Go.AM Go.Proofs
namespace Go.Proofs.YtbblefjbgbocoaaDoor
set_option linter.unusedVariables false
set_option linter.unusedSimpArgs false
set_option maxRecDepth 100000
section
variable {s : List UInt8} (hs : s.length ≤ 1000000)
include hs
/-- operators of levels from a on -/
def contF (s : List UInt8) (D : Nat) : Nat → Nat → Tm → Nat → Option Rs
  | 0, _, t, i => some (.ok [t] i)
  | n + 1, a, t, i => thn (rdF s (.ops t i D a)) fun us k => contF s D n (a + 1) (Rs.tm us) k
/-- .. behind an operand of level m, up to level l -/
def contM (s : List UInt8) (D m l : Nat) (t : Tm) (i : Nat) : Option Rs :=
  if m = 3 then some (.ok [t] i) else contF s D (l + 1 - max m 1) (max m 1) t i
/-- what the program's reader gives, told of the reference's -/
def PJ.tells (s : List UInt8) (D : Nat) : PJ → Rs → Prop
  | .term l d i, .ok ts k => rdF s (.read i D l) = some (.ok ts k)
  | .term l d i, .bad _ => ∀ ts k, rdF s (.read i D l) = some (.ok ts k) → ∃ t ∈ ts, t.shape (31 - d) = false
  | .loop t m l d i, .ok ts k => contM s D m l t i = some (.ok ts k)
  | .loop t m l d i, .bad _ => ∀ ts k, contM s D m l t i = some (.ok ts k) → ∃ t' ∈ ts, t'.shape (31 - d) = false
  | .args d i, .ok ts k => rdF s (.terms (i + 1) (D - 1) 41 41) = if sgn s k 41 then some (.ok ts k) else some (.bad k)
  | .args d i, .bad _ => ∀ ts k, rdF s (.terms (i + 1) (D - 1) 41 41) = some (.ok ts k) → ∃ t ∈ ts, t.shape (31 - (d + 1)) = false
  | .items d n i, .ok ts k => rdF s (.terms i (D - 1) 93 124) = if sgn s k 93 || sgn s k 124 then some (.ok ts k) else some (.bad k)
  | .items d n i, .bad _ => ∀ ts k, rdF s (.terms i (D - 1) 93 124) = some (.ok ts k) → ∃ (j : Nat) (t : Tm), ts[j]? = some t ∧ t.shape (31 - (d + 1 + n + j)) = false
  | .prime d i, .ok ts k => rdF s (.prime i D) = some (.ok ts k)
  | .prime d i, .bad _ => ∀ ts k, rdF s (.prime i D) = some (.ok ts k) → ∃ t ∈ ts, t.shape (31 - d) = false
end
end Go.Proofs.YtbblefjbgbocoaaDoor

/-
  Small numbers in decimal.
  Conditions: none.
-/
open Go Go.AM Go.Proofs
namespace Go.Proofs.YtbblefjbgbocoaaDoor
set_option linter.unusedVariables false
set_option linter.unusedSimpArgs false
set_option maxRecDepth 100000
/-- small numbers in decimal -/
def dec3 (u : Nat) : List UInt8 := if u < 10 then [UInt8.ofNat (48 + u)] else if u < 100 then [UInt8.ofNat (48 + u / 10), UInt8.ofNat (48 + u % 10)] else [UInt8.ofNat (48 + u / 100), UInt8.ofNat (48 + u / 10 % 10), UInt8.ofNat (48 + u % 10)]
def itoa3 (n : Int) : List UInt8 := if n < 0 then 45 :: dec3 n.natAbs else dec3 n.toNat
theorem dd_lt {u : Nat} (h : u < 10) : Lib.decDigits u = [UInt8.ofNat (48 + u)] := by rw [Lib.decDigits, dif_pos h]
theorem dd_ge {u : Nat} (h : ¬ u < 10) : Lib.decDigits u = Lib.decDigits (u / 10) ++ [UInt8.ofNat (48 + u % 10)] := by rw [Lib.decDigits, dif_neg h]
theorem dec3_eq {u : Nat} (h : u ≤ 999) : dec3 u = Lib.decDigits u := by
  unfold dec3
  by_cases h1 : u < 10
  · rw [if_pos h1, dd_lt h1]
  · rw [if_neg h1, dd_ge h1]
    by_cases h2 : u < 100
    · rw [if_pos h2, dd_lt (by omega)]; rfl
    · rw [if_neg h2, dd_ge (u := u / 10) (by omega), dd_lt (u := u / 10 / 10) (by omega)]
      have : u / 10 / 10 = u / 100 := by omega
      rw [this]; rfl
theorem itoa3_eq {n : Int} (h0 : -999 ≤ n) (h1 : n ≤ 999) : itoa3 n = Lib.itoa n := by
  unfold itoa3 Lib.itoa
  split
  · rw [dec3_eq (by omega)]
  · rw [dec3_eq (by omega)]
end Go.Proofs.YtbblefjbgbocoaaDoor

/-
  What is written is read back: names, numbers, operators.
  Conditions: none.
-/
open Go Go.AM Go.Proofs
namespace Go.Proofs.YtbblefjbgbocoaaDoor
set_option linter.unusedVariables false
set_option linter.unusedSimpArgs false
set_option maxRecDepth 100000
section
variable {s : List UInt8} {i : Nat} {w r : List UInt8}
end
/-- the operators -/
def allOps : List (List UInt8) := ops3 ++ [[43], [45]] ++ [[42], [47, 47], [109, 111, 100]]
theorem level_ops {n : List UInt8} (h : 1 ≤ levelN n) : n ∈ allOps := by
  unfold levelN at h
  unfold allOps
  split at h
  · rename_i h1; simp at h1; simp [h1]
  · split at h
    · rename_i h1; simp at h1; rcases h1 with h1 | h1 <;> simp [h1]
    · split at h
      · rename_i h1; simp at h1; rcases h1 with h1 | h1 | h1 <;> simp [h1]
      · omega
theorem ops_head : ∀ n ∈ allOps, (match opSp n with | [] => false | c :: _ => (!digB c && !smaB c) && !(c == 40) && !(c == 44) && !(c == 93) && !(c == 124) && !(c == 41)) = true := by decide
/-- what may stand behind a term: nothing, a closing byte, or an operator of at least a level -/
inductive Fol (m : Int) : List UInt8 → Prop
  | nil : Fol m []
  | close {c : UInt8} {r : List UInt8} : c ∈ [41, 44, 93, 124] → Fol m (c :: r)
  | op {n : List UInt8} {c : UInt8} {r : List UInt8} : 1 ≤ levelN n → m ≤ levelN n → plainC c = true → Fol m (opSp n ++ c :: r)
theorem Fol.mono {m m' : Int} {r : List UInt8} (h : Fol m r) (hm : m' ≤ m) : Fol m' r := by
  cases h with
  | nil => exact .nil
  | close h => exact .close h
  | op h1 h2 h3 => exact .op h1 (by omega) h3
theorem Fol.head {m : Int} {r : List UInt8} (h : Fol m r) : ∀ c r', r = c :: r' → digB c = false ∧ smaB c = false ∧ c ≠ 40 := by
  intro c r' e
  cases h with
  | nil => cases e
  | close h =>
    cases e
    have : ∀ c ∈ ([41, 44, 93, 124] : List UInt8), (!digB c && !smaB c && !(c == 40)) = true := by decide
    have := this _ h
    simp at this
    exact ⟨this.1.1, this.1.2, this.2⟩
  | @op n d q h1 h2 h3 =>
    have hh := ops_head n (level_ops h1)
    cases ho : opSp n with
    | nil => rw [ho] at hh; cases hh
    | cons a y =>
      rw [ho] at hh e
      cases e
      simp at hh
      exact ⟨hh.1.1.1.1.1.1, hh.1.1.1.1.1.2, hh.1.1.1.1.2⟩
section
variable {s : List UInt8} {i : Nat} {r : List UInt8}
end
end Go.Proofs.YtbblefjbgbocoaaDoor

/-
  What is written is read back: terms.
  Conditions: none.
-/
open Go Go.AM Go.Proofs
namespace Go.Proofs.YtbblefjbgbocoaaDoor
set_option linter.unusedVariables false
set_option linter.unusedSimpArgs false
set_option maxRecDepth 100000
/-! ### numbers -/
def dec3Ok (u : Nat) : Bool := canB (dec3 u) && decide (numV (dec3 u) = u) && decide ((dec3 u).length ≤ 3) && decide (1 ≤ (dec3 u).length)
theorem dec3_all : ((List.range 1000).all dec3Ok) = true := by kernel_rfl
theorem dec3_ok {u : Nat} (h : u ≤ 999) : canB (dec3 u) = true ∧ numV (dec3 u) = u ∧ (dec3 u).length ≤ 3 ∧ 1 ≤ (dec3 u).length := by
  have := List.all_eq_true.1 dec3_all u (by simp; omega)
  simp only [dec3Ok, Bool.and_eq_true, decide_eq_true_eq] at this
  exact ⟨this.1.1.1, this.1.1.2, this.1.2, this.2⟩
theorem can_digs {l : List UInt8} (h : canB l = true) : l.all digB = true := by simp only [canB, Bool.and_eq_true] at h; exact h.2
section
variable {s : List UInt8} {i : Nat} {r : List UInt8}
end
/-! ### heads -/
end Go.Proofs.YtbblefjbgbocoaaDoor

/-
  strconv.Atoi as a call of the abstract machine, where the variable that it reads is told.
  Conditions: none.
-/
open Go Go.AM Go.Proofs
namespace Go.Proofs
open Go.Shelf
def Tryd.laysC172_ren : Go.Shelf.Ren := ⟨fun | 172 => 15 | 244 => 22 | 245 => 23 | 247 => 32 | 279 => 33 | 280 => 34 | 281 => 35 | 282 => 36 | 287 => 48 | 316 => 49 | 171 => 26 | 205 => 50 | 321 => 58 | 322 => 59 | 243 => 40 | 246 => 52 | 283 => 60 | 284 => 61 | 285 => 62 | 286 => 63 | 129 => 67 | 317 => 66 | 318 => 68 | 319 => 69 | 320 => 70 | 337 => 71 | 338 => 72 | n => n, fun | 9 => 9 | 3 => 3 | 75 => 41 | 76 => 42 | 4 => 4 | 5 => 5 | 167 => 53 | 37 => 54 | 0 => 0 | 85 => 55 | 2 => 2 | 168 => 57 | 53 => 64 | 175 => 65 | 46 => 67 | 210 => 70 | 127 => 76 | 145 => 79 | 143 => 77 | 21 => 21 | 171 => 80 | 173 => 83 | 212 => 93 | 51 => 89 | 20 => 20 | 213 => 94 | 232 => 98 | 233 => 99 | 80 => 100 | n => n, fun | 15 => 0 | 16 => 1 | 17 => 5 | 18 => 6 | 19 => 7 | n => n⟩
theorem Tryd.laysC172 : Go.Proofs.LaysC.n172 Tryd.prog Tryd.laysC172_ren := {
  mixed := by kernel_rfl
  f129 := Tryd.func67.trans (congrArg some (by kernel_rfl))
  f171 := Tryd.func26.trans (congrArg some (by kernel_rfl))
  f172 := Tryd.func15.trans (congrArg some (by kernel_rfl))
  f205 := Tryd.func50.trans (congrArg some (by kernel_rfl))
  f243 := Tryd.func40.trans (congrArg some (by kernel_rfl))
  f244 := Tryd.func22.trans (congrArg some (by kernel_rfl))
  f245 := Tryd.func23.trans (congrArg some (by kernel_rfl))
  f246 := Tryd.func52.trans (congrArg some (by kernel_rfl))
  f247 := Tryd.func32.trans (congrArg some (by kernel_rfl))
  f279 := Tryd.func33.trans (congrArg some (by kernel_rfl))
  f280 := Tryd.func34.trans (congrArg some (by kernel_rfl))
  f281 := Tryd.func35.trans (congrArg some (by kernel_rfl))
  f282 := Tryd.func36.trans (congrArg some (by kernel_rfl))
  f283 := Tryd.func60.trans (congrArg some (by kernel_rfl))
  f284 := Tryd.func61.trans (congrArg some (by kernel_rfl))
  f285 := Tryd.func62.trans (congrArg some (by kernel_rfl))
  f286 := Tryd.func63.trans (congrArg some (by kernel_rfl))
  f287 := Tryd.func48.trans (congrArg some (by kernel_rfl))
  f316 := Tryd.func49.trans (congrArg some (by kernel_rfl))
  f317 := Tryd.func66.trans (congrArg some (by kernel_rfl))
  f318 := Tryd.func68.trans (congrArg some (by kernel_rfl))
  f319 := Tryd.func69.trans (congrArg some (by kernel_rfl))
  f320 := Tryd.func70.trans (congrArg some (by kernel_rfl))
  f321 := Tryd.func58.trans (congrArg some (by kernel_rfl))
  f322 := Tryd.func59.trans (congrArg some (by kernel_rfl))
  f337 := Tryd.func71.trans (congrArg some (by kernel_rfl))
  f338 := Tryd.func72.trans (congrArg some (by kernel_rfl))
  t0 := Tryd.underlying0
  a0 := Tryd.isAgg0
  z0 := Tryd.sizeOf0
  v0 := Tryd.zeroValue0
  t2 := Tryd.underlying2
  a2 := Tryd.isAgg2
  z2 := Tryd.sizeOf2
  v2 := Tryd.zeroValue2
  t3 := Tryd.underlying3
  a3 := Tryd.isAgg3
  z3 := Tryd.sizeOf3
  v3 := Tryd.zeroValue3
  t4 := Tryd.underlying4
  a4 := Tryd.isAgg4
  z4 := Tryd.sizeOf4
  v4 := Tryd.zeroValue4
  t5 := Tryd.underlying5
  a5 := Tryd.isAgg5
  z5 := Tryd.sizeOf5
  v5 := Tryd.zeroValue5
  t9 := Tryd.underlying9
  a9 := Tryd.isAgg9
  z9 := Tryd.sizeOf9
  v9 := Tryd.zeroValue9
  t20 := Tryd.underlying20
  a20 := Tryd.isAgg20
  z20 := Tryd.sizeOf20
  v20 := Tryd.zeroValue20
  t21 := Tryd.underlying21
  a21 := Tryd.isAgg21
  z21 := Tryd.sizeOf21
  v21 := Tryd.zeroValue21
  t37 := Tryd.underlying54
  a37 := Tryd.isAgg54
  z37 := Tryd.sizeOf54
  v37 := Tryd.zeroValue54
  t46 := Tryd.underlying67
  a46 := Tryd.isAgg67
  z46 := Tryd.sizeOf67
  v46 := Tryd.zeroValue67
  t51 := Tryd.underlying89
  a51 := Tryd.isAgg89
  z51 := Tryd.sizeOf89
  v51 := Tryd.zeroValue89
  t53 := Tryd.underlying64
  a53 := Tryd.isAgg64
  z53 := Tryd.sizeOf64
  v53 := Tryd.zeroValue64
  t75 := Tryd.underlying41
  a75 := Tryd.isAgg41
  z75 := Tryd.sizeOf41
  v75 := Tryd.zeroValue41
  t76 := Tryd.underlying42
  a76 := Tryd.isAgg42
  z76 := Tryd.sizeOf42
  v76 := Tryd.zeroValue42
  t85 := Tryd.underlying55
  a85 := Tryd.isAgg55
  z85 := Tryd.sizeOf55
  v85 := Tryd.zeroValue55
  t127 := Tryd.underlying76
  a127 := Tryd.isAgg76
  z127 := Tryd.sizeOf76
  v127 := Tryd.zeroValue76
  t143 := Tryd.underlying77
  a143 := Tryd.isAgg77
  z143 := Tryd.sizeOf77
  v143 := Tryd.zeroValue77
  t145 := Tryd.underlying79
  a145 := Tryd.isAgg79
  z145 := Tryd.sizeOf79
  v145 := Tryd.zeroValue79
  t167 := Tryd.underlying53
  a167 := Tryd.isAgg53
  z167 := Tryd.sizeOf53
  v167 := Tryd.zeroValue53
  t168 := Tryd.underlying57
  a168 := Tryd.isAgg57
  z168 := Tryd.sizeOf57
  v168 := Tryd.zeroValue57
  t171 := Tryd.underlying80
  a171 := Tryd.isAgg80
  z171 := Tryd.sizeOf80
  v171 := Tryd.zeroValue80
  t173 := Tryd.underlying83
  a173 := Tryd.isAgg83
  z173 := Tryd.sizeOf83
  v173 := Tryd.zeroValue83
  t175 := Tryd.underlying65
  a175 := Tryd.isAgg65
  z175 := Tryd.sizeOf65
  v175 := Tryd.zeroValue65
  t210 := Tryd.underlying70
  a210 := Tryd.isAgg70
  z210 := Tryd.sizeOf70
  v210 := Tryd.zeroValue70
  t212 := Tryd.underlying93
  a212 := Tryd.isAgg93
  z212 := Tryd.sizeOf93
  v212 := Tryd.zeroValue93
  t213 := Tryd.underlying94
  a213 := Tryd.isAgg94
  z213 := Tryd.sizeOf94
  t232 := Tryd.underlying98
  a232 := Tryd.isAgg98
  z232 := Tryd.sizeOf98
  v232 := Tryd.zeroValue98
  t233 := Tryd.underlying99
  a233 := Tryd.isAgg99
  z233 := Tryd.sizeOf99
  v233 := Tryd.zeroValue99
  g15 := by kernel_rfl
  g16 := by kernel_rfl
  g17 := by kernel_rfl
  g18 := by kernel_rfl
  g19 := by kernel_rfl
  t80 := Tryd.underlying100
  a80 := Tryd.isAgg100
  z80 := Tryd.sizeOf100
  v80 := Tryd.zeroValue100
  i0 := by kernel_rfl
  i2 := by kernel_rfl
  i3 := by kernel_rfl
  i4 := by kernel_rfl
  i5 := by kernel_rfl
  i9 := by kernel_rfl
  i20 := by kernel_rfl
  i21 := by kernel_rfl
  i37 := by kernel_rfl
  i46 := by kernel_rfl
  i51 := by kernel_rfl
  i53 := by kernel_rfl
  i75 := by kernel_rfl
  i76 := by kernel_rfl
  i80 := by kernel_rfl
  i85 := by kernel_rfl
  i127 := by kernel_rfl
  i143 := by kernel_rfl
  i145 := by kernel_rfl
  i167 := by kernel_rfl
  i168 := by kernel_rfl
  i171 := by kernel_rfl
  i173 := by kernel_rfl
  i175 := by kernel_rfl
  i210 := by kernel_rfl
  i212 := by kernel_rfl
  i232 := by kernel_rfl
  i233 := by kernel_rfl
  m15 := by kernel_rfl
  m16 := by kernel_rfl
  m17 := by kernel_rfl
  m18 := by kernel_rfl
  m19 := by kernel_rfl
  c0 := by kernel_rfl
  c2 := by kernel_rfl
  c3 := by kernel_rfl
  c4 := by kernel_rfl
  c5 := by kernel_rfl
  c9 := by kernel_rfl
  c20 := by kernel_rfl
  c21 := by kernel_rfl
  c37 := by kernel_rfl
  c46 := by kernel_rfl
  c51 := by kernel_rfl
  c53 := by kernel_rfl
  c75 := by kernel_rfl
  c76 := by kernel_rfl
  c80 := by kernel_rfl
  c85 := by kernel_rfl
  c127 := by kernel_rfl
  c143 := by kernel_rfl
  c145 := by kernel_rfl
  c167 := by kernel_rfl
  c168 := by kernel_rfl
  c171 := by kernel_rfl
  c173 := by kernel_rfl
  c175 := by kernel_rfl
  c210 := by kernel_rfl
  c212 := by kernel_rfl
  c213 := by kernel_rfl
  c232 := by kernel_rfl
  c233 := by kernel_rfl }
end Go.Proofs
namespace Go.Proofs.YtbblefjbgbocoaaDoor
open Go.Lib Go.RowKit
set_option linter.unusedVariables false
set_option linter.unusedSimpArgs false
set_option maxRecDepth 100000
/-- the variable that is read when a number is too large holds an error -/
def ERg (o : Obj) : Prop := ∀ w : World, w.heap[1]? = some o → ∃ u v, w.cell? ⟨1, 0, none⟩ = some (.iface u v)
/-- what strconv.Atoi gives -/
def AtoiR (s : List UInt8) (r : A) : Prop := ∃ n e, inR .i64 n ∧ r = .tup [.c (.d (.int .i64 n)), .c (.d (.v e))] ∧ ((e = .nilIface ∧ atoiAll s = .ok n) ∨ ∃ p q, e = .iface p q ∧ atoiAll s = .range)
/-- neither a number nor one that is too large: no -/
def endOk {α : Type} : NumEnd α → Bool
  | .ok _ => true
  | .range => true
  | _ => false
theorem atoi_call {o : Obj} (hT : ERg o) (s : List UInt8) (hs : s.length ≤ 2000000) (hsy : endOk (atoiAll s) = true) (H : Heap) (hH : H[1]? = some (.tab 1 o)) : ACalls Tryd.prog 15 [.c (.d (.str s))] H (fun r H' => H' = H ∧ AtoiR s r) := by
  refine acalls_tab_any hH ⟨_, Tryd.func15, by kernel_rfl, by decide⟩ ?_
  intro w ι k cargs hw hl ha
  obtain ⟨v, rfl⟩ : ∃ v, cargs = [v] := by
    match cargs, hl with
    | [v], _ => exact ⟨v, rfl⟩
  have h1 := ha 0 _ _ rfl rfl
  obtain ⟨t, rfl, ht⟩ : ∃ t : ByteArray, v = .string t ∧ t.data.toList = s := by
    cases h1 with
    | c h => cases h with
      | d h => cases h with
        | str t ht => exact ⟨t, rfl, rfl⟩
  have hsz : t.size = s.length := by rw [← ht]; rfl
  obtain ⟨u, v, hc⟩ := hT w hw
  rw [← ht] at hsy
  cases hr : atoiAll t.data.toList with
  | ok n =>
    obtain ⟨b0, b1⟩ := atoiAll_bounds hr
    refine (Any.strconv_Atoi_ok Tryd.laysC172 t (by omega) n hr w).mono ?_
    rintro e w' ⟨rfl, hw'⟩
    refine ⟨_, .tup [.c (.d (.int .i64 n)), .c (.d (.v .nilIface))], rfl, ⟨n, .nilIface, i64_def.2 ⟨b0, by omega⟩, rfl, .inl ⟨rfl, by rw [← ht]; exact hr⟩⟩, fun w ι m => ?_, ?_⟩
    · exact RA.tup (vs := [.int .i64 n, .nilIface]) rfl fun i a v h1 h2 => by
        match i with
        | 0 => cases h1; cases h2; exact .mkInt (i64_def.2 ⟨b0, by omega⟩)
        | 1 => cases h1; cases h2; exact .c (.d (.v _ rfl))
    · rcases hw' with rfl | ⟨q, rfl⟩
      · exact .refl _ _
      · exact bytesWorld_below _ _ _
  | range =>
    obtain ⟨b0, b1⟩ := atoiSat_bounds t.data.toList
    refine (Any.strconv_Atoi_range Tryd.laysC172 t (by omega) hr _ w hc (.inr ⟨_, _, rfl⟩)).mono ?_
    rintro e w' ⟨N, rfl, _, _, hb⟩
    have key : ∀ e : Value, e.oneCell' = true → (∃ p q, e = .iface p q) → ∃ v r, (Ending.returned (.tuple #[.int .i64 (atoiSat t.data.toList), e])) = .returned v ∧ AtoiR s r ∧ (∀ (w : World) (ι : List K) (n : Nat), RA w ι n r v) ∧ Below w.heap.size w w' := fun e he hpq => by
      obtain ⟨p, q, rfl⟩ := hpq
      refine ⟨_, .tup [.c (.d (.int .i64 (atoiSat t.data.toList))), .c (.d (.v (.iface p q)))], rfl, ⟨atoiSat t.data.toList, .iface p q, i64_def.2 ⟨by omega, by omega⟩, rfl, .inr ⟨p, q, rfl, by rw [← ht]; exact hr⟩⟩, fun w ι m => ?_, hb⟩
      exact RA.tup (vs := [.int .i64 _, .iface _ _]) rfl fun i a v h1 h2 => by
        match i with
        | 0 => cases h1; cases h2; exact .mkInt (i64_def.2 ⟨by omega, by omega⟩)
        | 1 => cases h1; cases h2; exact .c (.d (.v _ rfl))
    exact key _ rfl ⟨_, _, rfl⟩
  | _ => rw [hr] at hsy; cases hsy
end Go.Proofs.YtbblefjbgbocoaaDoor

/-
  Variables and numbers of the reference.
  Conditions: none.
-/
open Go Go.AM Go.Proofs
namespace Go.Proofs.YtbblefjbgbocoaaDoor
open Go.ChangeShapes Go.WideShapes Go.ChangeAt Go.RowKit
set_option linter.unusedVariables false
set_option linter.unusedSimpArgs false
set_option maxRecDepth 100000
end Go.Proofs.YtbblefjbgbocoaaDoor

/-
  The codes of two readers of bytes.
  Conditions: none.
-/
open Go Go.AM Go.Proofs
namespace Go.Proofs.YtbblefjbgbocoaaDoor
end Go.Proofs.YtbblefjbgbocoaaDoor

/-
  The reference's parser does what it is said to do.
  Conditions: none.
-/
open Go Go.AM Go.Proofs
namespace Go.Proofs.YtbblefjbgbocoaaDoor
open Go.ChangeShapes Go.WideShapes Go.ChangeAt Go.RowKit
set_option linter.unusedVariables false
set_option linter.unusedSimpArgs false
set_option maxRecDepth 100000
-- 17 loop.example/prologserver/spec.l1Sign params 3 ntmps 22
def ac17 : Cd := .seq (.region [⟨(some 6),.mv (.k (.c (.d (.bool false)))),none⟩] [6])
 (.seq (.region [⟨(some 7),.mv (.t 1),none⟩,
 ⟨(some 8),.bin .geq (.t 7) (.k (.c (.d (.int .i64 0)))),none⟩,
 ⟨(some 9),.mv (.t 8),none⟩,
 ⟨(some 10),.mv (.t 1),some (9,true)⟩,
 ⟨(some 11),.mv (.t 0),some (9,true)⟩,
 ⟨(some 12),.len 0 (.t 11),some (9,true)⟩,
 ⟨(some 13),.bin .lss (.t 10) (.t 12),some (9,true)⟩,
 ⟨(some 14),.pick (.t 9) (.t 13) (.k (.c (.d (.bool false)))),none⟩,
 ⟨(some 15),.mv (.t 14),none⟩,
 ⟨(some 16),.mv (.t 0),some (15,true)⟩,
 ⟨(some 17),.mv (.t 1),some (15,true)⟩,
 ⟨(some 18),.index (.t 16) (.t 17),some (15,true)⟩,
 ⟨(some 19),.mv (.t 2),some (15,true)⟩,
 ⟨(some 20),.bin .eql (.t 18) (.t 19),some (15,true)⟩,
 ⟨(some 21),.pick (.t 15) (.t 20) (.k (.c (.d (.bool false)))),none⟩,
 ⟨(some 6),.mv (.t 21),none⟩] [0,1,2,7,8,9,10,11,12,13,14,15,16,17,18,19,20,21])
 (.ret))
theorem ac17_ok : cFunc Tryd.prog [] [(0,[6],[]),(1,[0,1,2,7,8,9,10,11,12,13,14,15,16,17,18,19,20,21],[])] Tryd.f17 = some (ac17,[.tmp 6],22) := by kernel_rfl
-- 18 loop.example/prologserver/spec.l18Num params 1 ntmps 67
-- loop head live: [0,4,5,6]
def ac18 : Cd := .seq (.region [⟨(some 2),.mv (.k (.c (.d (.int .i64 0)))),none⟩,
 ⟨(some 3),.mv (.k (.c (.d (.bool false)))),none⟩] [2,3])
 (.seq (.region [⟨(some 7),.mv (.t 0),none⟩,
 ⟨(some 8),.len 0 (.t 7),none⟩,
 ⟨(some 9),.bin .gtr (.t 8) (.k (.c (.d (.int .i64 0)))),none⟩,
 ⟨(some 10),.mv (.t 9),none⟩,
 ⟨(some 11),.mv (.t 0),some (10,true)⟩,
 ⟨(some 12),.index (.t 11) (.k (.c (.d (.int .i64 0)))),some (10,true)⟩,
 ⟨(some 13),.bin .eql (.t 12) (.k (.c (.d (.int .u8 45)))),some (10,true)⟩,
 ⟨(some 14),.pick (.t 10) (.t 13) (.k (.c (.d (.bool false)))),none⟩,
 ⟨(some 4),.mv (.t 14),none⟩] [7,8,9,10,11,12,13,14])
 (.seq (.seq (.region [⟨(some 15),.mv (.t 4),none⟩] [])
 (.cond (.t 15)
 (.region [⟨(some 16),.mv (.t 0),none⟩,
 ⟨(some 17),.slice 0 (.t 16) (some (.k (.c (.d (.int .i64 1))))) none none,none⟩,
 ⟨(some 0),.mv (.t 17),none⟩] [15,16,17])
 (.skip)))
 (.seq (.seq (.region [⟨(some 18),.mv (.t 0),none⟩,
 ⟨(some 19),.len 0 (.t 18),none⟩,
 ⟨(some 20),.bin .eql (.t 19) (.k (.c (.d (.int .i64 0)))),none⟩,
 ⟨(some 21),.mv (.t 20),none⟩,
 ⟨(some 22),.mv (.t 0),some (21,false)⟩,
 ⟨(some 23),.len 0 (.t 22),some (21,false)⟩,
 ⟨(some 24),.bin .gtr (.t 23) (.k (.c (.d (.int .i64 17)))),some (21,false)⟩,
 ⟨(some 25),.pick (.t 21) (.k (.c (.d (.bool true)))) (.t 24),none⟩,
 ⟨(some 26),.mv (.t 25),none⟩,
 ⟨(some 27),.mv (.t 0),some (26,false)⟩,
 ⟨(some 28),.index (.t 27) (.k (.c (.d (.int .i64 0)))),some (26,false)⟩,
 ⟨(some 29),.bin .eql (.t 28) (.k (.c (.d (.int .u8 48)))),some (26,false)⟩,
 ⟨(some 30),.mv (.t 29),some (26,false)⟩,
 ⟨(some 31),.mv (.t 0),some (30,true)⟩,
 ⟨(some 32),.len 0 (.t 31),some (30,true)⟩,
 ⟨(some 33),.bin .gtr (.t 32) (.k (.c (.d (.int .i64 1)))),some (30,true)⟩,
 ⟨(some 34),.mv (.t 33),some (30,true)⟩,
 ⟨(some 35),.mv (.t 4),some (34,false)⟩,
 ⟨(some 36),.pick (.t 34) (.k (.c (.d (.bool true)))) (.t 35),some (30,true)⟩,
 ⟨(some 37),.pick (.t 30) (.t 36) (.k (.c (.d (.bool false)))),some (26,false)⟩,
 ⟨(some 38),.pick (.t 26) (.k (.c (.d (.bool true)))) (.t 37),none⟩] [15,18,19,20,21,22,23,24,25,26,27,28,29,30,31,32,33,34,35,36,37])
 (.cond (.t 38)
 (.seq (.region [⟨(some 2),.mv (.k (.c (.d (.int .i64 0)))),none⟩,
 ⟨(some 3),.mv (.k (.c (.d (.bool false)))),none⟩] [0,4,38])
 (.ret))
 (.skip)))
 (.seq (.region [⟨(some 5),.mv (.k (.c (.d (.int .i64 0)))),none⟩] [2,3,38])
 (.seq (.seq (.region [⟨(some 6),.mv (.k (.c (.d (.int .i64 0)))),none⟩] [])
 (.block 0 (.loop (.seq (.seq (.region [⟨(some 39),.mv (.t 6),none⟩,
 ⟨(some 40),.mv (.t 0),none⟩,
 ⟨(some 41),.len 0 (.t 40),none⟩,
 ⟨(some 42),.bin .lss (.t 39) (.t 41),none⟩] [39,40,41])
 (.cond (.t 42)
 (.skip)
 (.exit 0)))
 (.seq (.block 1 (.seq (.seq (.region [⟨(some 45),.mv (.t 0),none⟩,
 ⟨(some 46),.mv (.t 6),none⟩,
 ⟨(some 47),.index (.t 45) (.t 46),none⟩,
 ⟨(some 48),.bin .lss (.t 47) (.k (.c (.d (.int .u8 48)))),none⟩,
 ⟨(some 49),.mv (.t 48),none⟩,
 ⟨(some 50),.mv (.t 0),some (49,false)⟩,
 ⟨(some 51),.mv (.t 6),some (49,false)⟩,
 ⟨(some 52),.index (.t 50) (.t 51),some (49,false)⟩,
 ⟨(some 53),.bin .gtr (.t 52) (.k (.c (.d (.int .u8 57)))),some (49,false)⟩,
 ⟨(some 54),.pick (.t 49) (.k (.c (.d (.bool true)))) (.t 53),none⟩] [42,45,46,47,48,49,50,51,52,53])
 (.cond (.t 54)
 (.seq (.region [⟨(some 2),.mv (.k (.c (.d (.int .i64 0)))),none⟩,
 ⟨(some 3),.mv (.k (.c (.d (.bool false)))),none⟩] [0,4,5,6,54])
 (.ret))
 (.skip)))
 (.region [⟨(some 55),.mv (.t 5),none⟩,
 ⟨(some 56),.bin .mul (.t 55) (.k (.c (.d (.int .i64 10)))),none⟩,
 ⟨(some 57),.mv (.t 0),none⟩,
 ⟨(some 58),.mv (.t 6),none⟩,
 ⟨(some 59),.index (.t 57) (.t 58),none⟩,
 ⟨(some 60),.bin .sub (.t 59) (.k (.c (.d (.int .u8 48)))),none⟩,
 ⟨(some 61),.cvInt .i64 (.t 60),none⟩,
 ⟨(some 62),.bin .add (.t 56) (.t 61),none⟩,
 ⟨(some 5),.mv (.t 62),none⟩] [2,3,54,55,56,57,58,59,60,61,62])))
 (.region [⟨(some 43),.mv (.t 6),none⟩,
 ⟨(some 44),.bin .add (.t 43) (.k (.c (.d (.int .i64 1)))),none⟩,
 ⟨(some 6),.mv (.t 44),none⟩] [43,44]))))))
 (.seq (.seq (.region [⟨(some 63),.mv (.t 4),none⟩] [4])
 (.cond (.t 63)
 (.region [⟨(some 64),.mv (.t 5),none⟩,
 ⟨(some 65),.un .neg (.t 64),none⟩,
 ⟨(some 5),.mv (.t 65),none⟩] [63,64,65])
 (.skip)))
 (.seq (.region [⟨(some 66),.mv (.t 5),none⟩,
 ⟨(some 2),.mv (.t 66),none⟩,
 ⟨(some 3),.mv (.k (.c (.d (.bool true)))),none⟩] [5,63,66])
 (.ret))))))))
theorem ac18_ok : cFunc Tryd.prog [] [(0,[2,3],[]),(1,[7,8,9,10,11,12,13,14],[]),(2,[],[]),(3,[15,16,17],[]),(4,[15,18,19,20,21,22,23,24,25,26,27,28,29,30,31,32,33,34,35,36,37],[]),(5,[0,4,38],[]),(6,[2,3,38],[]),(7,[],[]),(8,[39,40,41],[]),(10,[42,45,46,47,48,49,50,51,52,53],[]),(11,[0,4,5,6,54],[]),(12,[2,3,54,55,56,57,58,59,60,61,62],[]),(9,[43,44],[]),(13,[4],[]),(14,[63,64,65],[]),(15,[5,63,66],[])] Tryd.f18 = some (ac18,[.tmp 2,.tmp 3],67) := by kernel_rfl
set_option maxHeartbeats 3200000 in
theorem sign_callsL (s : List UInt8) (hs : s.length ≤ 2000000) (i : Nat) (hi : i ≤ 2000000) (c : UInt8) (H : Heap) : ACalls Tryd.prog 17 [.c (.d (.str s)), .c (.d (.int .i64 i)), .c (.d (.int .u8 c.toNat))] H (fun r H' => H' = H ∧ r = .c (.d (.bool (sgn s i c)))) := by
  refine acalls Tryd.func17 (by kernel_rfl) ac17_ok fun hf => ?_
  have hli : inR .i64 (s.length : Int) := small_i64 (by omega) (by omega)
  by_cases hlt : i < s.length
  · have hsg : sgn s i c = (s[i] == c) := by simp [sgn, hlt]
    rw [hsg]
    have hlt2 : (i : Int) < s.length := by omega
    simp -implicitDefEqProofs [ac17, hli, hlt, go_sem, -List.set_cons_succ, -List.set_cons_zero]
    refine byte_nat hlt ?_
    simp -implicitDefEqProofs [go_sem, -List.set_cons_succ, -List.set_cons_zero]
    rw [Bool.eq_iff_iff]
    simp
    exact ⟨fun h => UInt8.toNat_inj.1 (by omega), fun h => by rw [h]⟩
  · have hsg : sgn s i c = false := by simp [sgn, hlt]
    have hlt2 : ¬ (i : Int) < s.length := by omega
    rw [hsg]
    simp -implicitDefEqProofs [ac17, hli, hlt, go_sem, -List.set_cons_succ, -List.set_cons_zero]
    refine byte_off 0 ?_
    simp -implicitDefEqProofs [go_sem, -List.set_cons_succ, -List.set_cons_zero]
theorem numV_snoc (l : List UInt8) (b : UInt8) : numV (l ++ [b]) = numV l * 10 + (b.toNat - 48) := by simp [numV]
theorem numV_lt : ∀ (n : Nat) (l : List UInt8), l.length = n → l.all digB = true → numV l < 10 ^ n := by
  intro n
  induction n with
  | zero => intro l hl _; obtain rfl := List.eq_nil_of_length_eq_zero hl; simp [numV]
  | succ n ih =>
    intro l hl hd
    have hne : l ≠ [] := by intro h; subst h; simp at hl
    obtain ⟨m, b, rfl⟩ : ∃ m b, l = m ++ [b] := ⟨l.dropLast, l.getLast hne, (List.dropLast_concat_getLast hne).symm⟩
    simp at hl
    rw [List.all_append, Bool.and_eq_true] at hd
    have h1 := ih m hl hd.1
    have h2 := hd.2
    simp [digB] at h2
    rw [numV_snoc, Nat.pow_succ]
    omega
set_option maxHeartbeats 1600000 in
theorem num_calls (t : List UInt8) (hl : t.length ≤ 17) (hd : t.all digB = true) (H : Heap) : ACalls Tryd.prog 18 [.c (.d (.str t))] H
    (fun r H' => H' = H ∧ r = .tup [.c (.d (.int .i64 (if canB t then (numV t : Int) else 0))), .c (.d (.bool (canB t)))]) := by
  refine acalls Tryd.func18 (by kernel_rfl) ac18_ok fun hf => ?_
  have hli : inR .i64 (t.length : Int) := small_i64 (by omega) (by omega)
  cases t with
  | nil =>
    have h0 : inR .i64 (0 : Int) := small_i64 (by omega) (by omega)
    simp -implicitDefEqProofs [ac18, h0, go_sem, -List.set_cons_succ, -List.set_cons_zero]
    refine byte_off 0 ?_
    simp -implicitDefEqProofs [canB, h0, go_sem, -List.set_cons_succ, -List.set_cons_zero]
    refine byte_off 0 ?_
    simp -implicitDefEqProofs [canB, h0, go_sem, -List.set_cons_succ, -List.set_cons_zero]
  | cons b l =>
    have hb : digB b = true := by simp at hd; exact hd.1
    have hb2 : 48 ≤ b.toNat ∧ b.toNat ≤ 57 := by simpa [digB] using hb
    have hb45 : ((b.toNat : Int) == 45) = false := by simp; omega
    have hz : ((l.length : Int) + 1 == 0) = false := by simp; omega
    have h17 : ¬ (17 : Int) < (l.length : Int) + 1 := by simp at hl; omega
    simp only [List.length_cons, Int.natCast_add, Int.cast_ofNat_Int] at hli
    have hpos : (0 : Int) < (l.length : Int) + 1 := by omega
    obtain ⟨t, ht⟩ : ∃ t, t = b :: l := ⟨_, rfl⟩
    simp -implicitDefEqProofs [ac18, hli, hpos, go_sem, -List.set_cons_succ, -List.set_cons_zero]
    refine byte_int b (by omega) (by simp) ?_
    simp -implicitDefEqProofs [hb45, hz, h17, hli, go_sem, -List.set_cons_succ, -List.set_cons_zero]
    refine byte_int b (by omega) (by simp) ?_
    simp -implicitDefEqProofs [hb45, hz, h17, hli, go_sem, -List.set_cons_succ, -List.set_cons_zero]
    refine ⟨fun h1 h2 => ?_, fun h1 => ?_⟩
    · have hb48 : b = 48 := UInt8.toNat_inj.1 (by have : (48 : UInt8).toNat = 48 := rfl; omega)
      have hl0 : l ≠ [] := by intro h; subst h; simp at h2
      have : canB (b :: l) = false := by simp [canB, hb48, hl0]
      simp [this]
    · have hcan : canB (b :: l) = true := by
        have e1 : (b != 48) = true ∨ l = [] := by
          by_cases hb48 : b = 48
          · subst hb48
            have := h1 rfl
            right
            exact List.eq_nil_of_length_eq_zero (by omega)
          · left; simp [hb48]
        simp only [canB, Bool.and_eq_true, Bool.or_eq_true, decide_eq_true_eq, List.headD_cons]
        refine ⟨⟨⟨by simp, hl⟩, ?_⟩, hd⟩
        rcases e1 with e1 | e1
        · exact .inl e1
        · exact .inr (by simp [e1])
      rw [hcan]
      simp only [if_true]
      rw [← ht] at hl hd ⊢
      have htl : inR .i64 (t.length : Int) := small_i64 (by omega) (by omega)
      refine loop_set (σ := Nat) (fun i => [(6, .c (.d (.int .i64 i))), (5, .c (.d (.int .i64 (numV (t.take i)))))]) (fun _ => H) (fun _ => []) (fun i => i ≤ t.length) (fun i => t.length - i) 0 (by simp [setAll, numV]) (Nat.zero_le _) ?_
      intro i hi
      simp -implicitDefEqProofs [setAll, htl, go_sem, -List.set_cons_succ, -List.set_cons_zero]
      refine ⟨fun hlt => ?_, fun hge => ?_⟩
      · have hadd : inR .i64 ((i : Int) + 1) := small_i64 (by omega) (by omega)
        have hdi : digB t[i] = true := List.all_eq_true.1 hd _ (List.getElem_mem hlt)
        have hd2 : 48 ≤ t[i].toNat ∧ t[i].toNat ≤ 57 := by simpa [digB] using hdi
        have q1 : ¬ (t[i].toNat : Int) < 48 := by omega
        have q2 : ¬ (57 : Int) < t[i].toNat := by omega
        have hts : t.take (i + 1) = t.take i ++ [t[i]] := List.take_succ_eq_append_getElem hlt
        have hnv := numV_lt i (t.take i) (by simp; omega) (by
          rw [List.all_eq_true]
          intro x hx
          exact List.all_eq_true.1 hd _ (List.mem_of_mem_take hx))
        have hp : 10 ^ i ≤ 10 ^ 17 := Nat.pow_le_pow_right (by omega) (by omega)
        have hw : IntKind.i64.wrap ((t[i].toNat : Int) - 48) = (t[i].toNat : Int) - 48 := by rw [IntKind.wrap_i64]; omega
        have hr1 : inR .i64 ((numV (t.take i) : Int) * 10) := i64_def.2 (by omega)
        have hr2 : inR .i64 ((numV (t.take i) : Int) * 10 + ((t[i].toNat : Int) - 48)) := i64_def.2 (by omega)
        have hr3 : inR .u8 ((t[i].toNat : Int) - 48) := by simp [inR, IntKind.min, IntKind.max, IntKind.signed, IntKind.bits]; omega
        refine byte_nat hlt ?_
        simp -implicitDefEqProofs [q1, go_sem, -List.set_cons_succ, -List.set_cons_zero]
        refine byte_nat hlt ?_
        simp -implicitDefEqProofs [q1, q2, hr1, go_sem, -List.set_cons_succ, -List.set_cons_zero]
        refine byte_nat hlt ?_
        simp -implicitDefEqProofs [q1, q2, hr1, hr2, hr3, hw, hadd, go_sem, -List.set_cons_succ, -List.set_cons_zero]
        refine loop_back (i + 1) (by rw [hts, numV_snoc]; simp [setAll]; omega) hlt (by show t.length - (i + 1) < t.length - i; omega)
      · obtain rfl : i = t.length := by omega
        simp -implicitDefEqProofs [go_sem, -List.set_cons_succ, -List.set_cons_zero]
end Go.Proofs.YtbblefjbgbocoaaDoor

/-
  Numbers as the program reads them: the plain law.
  Conditions: none.
-/
open Go Go.AM Go.Proofs
namespace Go.Proofs.YtbblefjbgbocoaaDoor
set_option linter.unusedVariables false
set_option linter.unusedSimpArgs false
set_option maxRecDepth 100000
def atOk (n : Int) : Bool := match Lib.atoiAll (itoa3 n) with
  | .ok v => decide (v = n)
  | _ => false
theorem at_all : ((List.range 1000).all fun x => atOk x && atOk (-x)) = true := by kernel_rfl
theorem atoi_itoa3 {n : Int} (h0 : -999 ≤ n) (h1 : n ≤ 999) : Lib.atoiAll (itoa3 n) = .ok n := by
  have := List.all_eq_true.1 at_all n.natAbs (by simp; omega)
  rw [Bool.and_eq_true] at this
  have h : atOk n = true := by
    by_cases hn : 0 ≤ n
    · rw [show n = (n.natAbs : Int) by omega]; exact this.1
    · rw [show n = -(n.natAbs : Int) by omega]; exact this.2
  unfold atOk at h
  split at h
  · rename_i v hv
    rw [hv, of_decide_eq_true h]
  · cases h
end Go.Proofs.YtbblefjbgbocoaaDoor

/-
  Texts, cut at a byte.
  Conditions: none.
-/
open Go Go.AM Go.Proofs
namespace Go.Proofs.YtbblefjbgbocoaaDoor
open Go.ChangeShapes Go.WideShapes Go.ChangeAt Go.RowKit
set_option linter.unusedVariables false
set_option linter.unusedSimpArgs false
set_option maxRecDepth 100000
-- 7 loop.example/prologserver/spec.l18Cut params 2 ntmps 36
-- loop head live: [0,1,5,6,7]
def ac7 : Cd := .seq (.region [⟨(some 4),.mv (.k (.c (.full []))),none⟩] [4])
 (.seq (.region [⟨(some 8),.buildSlice 1 0 [(.str [])] [],none⟩,
 ⟨(some 5),.mv (.t 8),none⟩] [8])
 (.seq (.region [⟨(some 6),.mv (.k (.c (.d (.int .i64 0)))),none⟩] [])
 (.seq (.seq (.region [⟨(some 7),.mv (.k (.c (.d (.int .i64 0)))),none⟩] [])
 (.block 0 (.loop (.seq (.seq (.region [⟨(some 9),.mv (.t 7),none⟩,
 ⟨(some 10),.mv (.t 0),none⟩,
 ⟨(some 11),.len 0 (.t 10),none⟩,
 ⟨(some 12),.bin .leq (.t 9) (.t 11),none⟩] [9,10,11])
 (.cond (.t 12)
 (.skip)
 (.exit 0)))
 (.seq (.block 1 (.seq (.region [⟨(some 15),.mv (.t 7),none⟩,
 ⟨(some 16),.mv (.t 0),none⟩,
 ⟨(some 17),.len 0 (.t 16),none⟩,
 ⟨(some 18),.bin .eql (.t 15) (.t 17),none⟩,
 ⟨(some 19),.mv (.t 18),none⟩,
 ⟨(some 20),.mv (.t 0),some (19,false)⟩,
 ⟨(some 21),.mv (.t 7),some (19,false)⟩,
 ⟨(some 22),.index (.t 20) (.t 21),some (19,false)⟩,
 ⟨(some 23),.mv (.t 1),some (19,false)⟩,
 ⟨(some 24),.bin .eql (.t 22) (.t 23),some (19,false)⟩,
 ⟨(some 25),.pick (.t 19) (.k (.c (.d (.bool true)))) (.t 24),none⟩] [12,15,16,17,18,19,20,21,22,23,24])
 (.cond (.t 25)
 (.seq (.region [⟨(some 26),.mv (.t 5),none⟩,
 ⟨(some 27),.mv (.t 0),none⟩,
 ⟨(some 28),.mv (.t 6),none⟩,
 ⟨(some 29),.mv (.t 7),none⟩,
 ⟨(some 30),.slice 0 (.t 27) (some (.t 28)) (some (.t 29)) none,none⟩,
 ⟨(some 31),.buildSlice 1 1 [(.str [])] [(0,(.t 30))],none⟩,
 ⟨(some 32),.append false 1 (.t 26) (.t 31),none⟩,
 ⟨(some 5),.mv (.t 32),none⟩] [6,25,26,27,28,29,30,31,32])
 (.region [⟨(some 33),.mv (.t 7),none⟩,
 ⟨(some 34),.bin .add (.t 33) (.k (.c (.d (.int .i64 1)))),none⟩,
 ⟨(some 6),.mv (.t 34),none⟩] [33,34]))
 (.skip))))
 (.region [⟨(some 13),.mv (.t 7),none⟩,
 ⟨(some 14),.bin .add (.t 13) (.k (.c (.d (.int .i64 1)))),none⟩,
 ⟨(some 7),.mv (.t 14),none⟩] [13,14,25]))))))
 (.seq (.region [⟨(some 35),.mv (.t 5),none⟩,
 ⟨(some 4),.mv (.t 35),none⟩] [5,35])
 (.ret)))))
theorem ac7_ok : cFunc Tryd.prog [] [(0,[4],[]),(1,[8],[]),(2,[],[]),(3,[],[]),(4,[9,10,11],[]),(6,[12,15,16,17,18,19,20,21,22,23,24],[]),(7,[6,25,26,27,28,29,30,31,32],[]),(8,[33,34],[]),(5,[13,14,25],[]),(9,[5,35],[])] Tryd.f7 = some (ac7,[.tmp 4],36) := by kernel_rfl
/-- a text, cut at each of a byte -/
def cutAt (c : UInt8) : List UInt8 → List (List UInt8)
  | [] => [[]]
  | b :: s => if b = c then [] :: cutAt c s else match cutAt c s with
    | l :: r => (b :: l) :: r
    | [] => [[b]]
def glue (p : List UInt8) : List (List UInt8) → List (List UInt8)
  | l :: r => (p ++ l) :: r
  | [] => [p]
theorem cutAt_ne (c : UInt8) : ∀ s : List UInt8, cutAt c s ≠ []
  | [] => by simp [cutAt]
  | b :: s => by
    unfold cutAt
    split
    · simp
    · split <;> simp
theorem glue_nil (l : List (List UInt8)) (h : l ≠ []) : glue [] l = l := by
  cases l with
  | nil => exact absurd rfl h
  | cons a l => rfl
theorem glue_cut (c b : UInt8) (p s : List UInt8) : glue p (cutAt c (b :: s)) = if b = c then p :: cutAt c s else glue (p ++ [b]) (cutAt c s) := by
  rw [cutAt]
  by_cases h : b = c
  · simp [h, glue]
  · simp only [if_neg h]
    cases hc : cutAt c s with
    | nil => exact absurd hc (cutAt_ne c s)
    | cons l r => simp [glue]
theorem byte_off2 {g : Bool} {s : List UInt8} {i : Int} (b : UInt8) {K : A → St → Prop} {st : St} (hg : g = false) (hk : K (.c (.d (.int .u8 b.toNat))) st) : ByteK g s i K st := ⟨b, fun h => absurd (hg ▸ h) (by simp), hk⟩
theorem byte_nat2 {g : Bool} {s : List UInt8} {i : Nat} {K : A → St → Prop} {st : St} (h : i < s.length) (hg : g = true) (hk : K (.c (.d (.int .u8 s[i].toNat))) st) : ByteK g s i K st := by
  subst hg
  exact byte_nat h hk
set_option maxHeartbeats 3200000 in
theorem cut_calls (s : List UInt8) (hs : s.length ≤ 2000000) (c : UInt8) (H : Heap) : ACalls Tryd.prog 7 [.c (.d (.str s)), .c (.d (.int .u8 c.toNat))] H (fun r H' => H' = H ∧ r = .c (.d (.sl ((cutAt c s).map strRow)))) := by
  refine acalls Tryd.func7 (by kernel_rfl) ac7_ok fun hf => ?_
  have hli : inR .i64 (s.length : Int) := small_i64 (by omega) (by omega)
  simp -implicitDefEqProofs [ac7, go_sem, -List.set_cons_succ, -List.set_cons_zero]
  refine loop_enter (St.le_token 5 1 rfl) ?_
  refine loop_set (σ := Nat × Nat × List (List UInt8)) (fun x => [(7, .c (.d (.int .i64 x.1))), (6, .c (.d (.int .i64 x.2.1))), (5, .c (.own (.l 0) x.2.2.length (x.2.2.map strRow)))]) (fun _ => H) (fun x => [.grow x.2.2.length 1])
    (fun x => x.2.2.length ≤ x.1 ∧ ((x.1 ≤ s.length ∧ x.2.1 ≤ x.1 ∧ x.2.2 ++ glue ((s.take x.1).drop x.2.1) (cutAt c (s.drop x.1)) = cutAt c s) ∨ (x.1 = s.length + 1 ∧ x.2.2 = cutAt c s))) (fun x => s.length + 1 - x.1) (0, 0, []) (by simp [setAll]) ⟨Nat.zero_le _, .inl ⟨Nat.zero_le _, Nat.zero_le _, by simp [glue_nil _ (cutAt_ne c s)]⟩⟩ ?_
  rintro ⟨i, fr, out⟩ ⟨hol, hI⟩
  simp only at hol hI
  simp -implicitDefEqProofs [setAll, hli, go_sem, -List.set_cons_succ, -List.set_cons_zero]
  refine ⟨fun hle => ?_, fun hgt => ?_⟩
  · obtain ⟨_, hfr, hcut⟩ := hI.resolve_right (by omega)
    have hadd : inR .i64 ((i : Int) + 1) := small_i64 (by omega) (by omega)
    by_cases he : i = s.length
    · subst he
      refine byte_off2 0 (by simp) ?_
      simp -implicitDefEqProofs [hadd, go_sem, -List.set_cons_succ, -List.set_cons_zero]
      refine ⟨hfr, fun r hr => ?_, by unfold maxApp; omega, ?_⟩
      · obtain ⟨y, _, rfl⟩ := List.mem_map.1 hr; rfl
      refine loop_back (s.length + 1, s.length + 1, out ++ [s.drop fr]) (by simp [setAll, strRow]) ⟨by simp; omega, .inr ⟨rfl, ?_⟩⟩ (by show s.length + 1 - (s.length + 1) < _; omega)
      rw [← hcut]
      simp [cutAt, glue]
    · have he2 : ¬ (i : Int) = s.length := by omega
      have hlt : i < s.length := by omega
      refine byte_nat2 hlt (by simp [he2]) ?_
      simp -implicitDefEqProofs [he, he2, hadd, go_sem, -List.set_cons_succ, -List.set_cons_zero]
      have hdr : s.drop i = s[i] :: s.drop (i + 1) := List.drop_eq_getElem_cons hlt
      rw [hdr, glue_cut] at hcut
      refine ⟨fun hb => ⟨⟨hfr, by omega⟩, fun r hr => ?_, by unfold maxApp; omega, ?_⟩, fun hb => ?_⟩
      · obtain ⟨y, _, rfl⟩ := List.mem_map.1 hr; rfl
      · have hb2 : s[i] = c := UInt8.toNat_inj.1 (by omega)
        rw [if_pos hb2] at hcut
        refine loop_back (i + 1, i + 1, out ++ [(s.take i).drop fr]) (by simp [setAll, strRow]) ⟨by simp; omega, .inl ⟨hlt, Nat.le_refl _, ?_⟩⟩ (by show s.length + 1 - (i + 1) < s.length + 1 - i; omega)
        rw [← hcut]
        simp [glue_nil _ (cutAt_ne c _)]
      · have hb2 : ¬ s[i] = c := fun h => hb (by rw [h])
        rw [if_neg hb2] at hcut
        refine loop_back (i + 1, fr, out) (by simp [setAll]) ⟨by dsimp only; omega, .inl ⟨hlt, by dsimp only; omega, ?_⟩⟩ (by show s.length + 1 - (i + 1) < s.length + 1 - i; omega)
        rw [← hcut]
        simp only
        rw [List.take_succ_eq_append_getElem hlt, List.drop_append_of_le_length (by simp; omega)]
  · obtain ⟨_, hcut⟩ := hI.resolve_left (by omega)
    simp -implicitDefEqProofs [hcut, hf, go_sem, -List.set_cons_succ, -List.set_cons_zero]
end Go.Proofs.YtbblefjbgbocoaaDoor

/-
  strings.Split at one byte: the text, cut at that byte.
  Conditions: none.
-/
open Go Go.AM Go.Proofs
namespace Go.Proofs.YtbblefjbgbocoaaDoor
open Go.Lib
set_option linter.unusedVariables false
set_option linter.unusedSimpArgs false
theorem cut_word {c : UInt8} : ∀ {w : List UInt8}, c ∉ w → cutAt c w = [w]
  | [], _ => rfl
  | b :: w, h => by
    rw [cutAt, if_neg (fun e => h (by simp [e])), cut_word (w := w) (fun e => h (by simp [e]))]
theorem cut_cons {c : UInt8} (r : List UInt8) : ∀ {w : List UInt8}, c ∉ w → cutAt c (w ++ c :: r) = w :: cutAt c r
  | [], _ => by rw [List.nil_append, cutAt, if_pos rfl]
  | b :: w, h => by
    rw [List.cons_append, cutAt, if_neg (fun e => h (by simp [e])), cut_cons r (w := w) (fun e => h (by simp [e]))]
theorem cutw_len (c : UInt8) : ∀ s : List UInt8, 1 ≤ (cutAt c s).length ∧ (cutAt c s).length ≤ s.length + 1
  | [] => by simp [cutAt]
  | b :: s => by
    have ih := cutw_len c s
    rw [cutAt]
    split
    · simp; omega
    · split
      · rename_i h; rw [h] at ih; simp at ih ⊢; omega
      · simp
theorem cutw_mem (c : UInt8) : ∀ s : List UInt8, ∀ w ∈ cutAt c s, w.length ≤ s.length
  | [], w, h => by simp [cutAt] at h; simp [h]
  | b :: s, w, h => by
    rw [cutAt] at h
    split at h
    · rcases List.mem_cons.1 h with rfl | h
      · simp
      · have := cutw_mem c s w h; simp; omega
    · split at h
      · rename_i l r hq
        rcases List.mem_cons.1 h with rfl | h
        · have := cutw_mem c s l (by rw [hq]; simp); simp; omega
        · have := cutw_mem c s w (by rw [hq]; simp [h]); simp; omega
      · simp at h; subst h; simp
theorem index_c (b c : UInt8) (s : List UInt8) : index (b :: s) [c] = if b = c then 0 else if index s [c] = -1 then -1 else index s [c] + 1 := by
  rw [index]
  by_cases h : b = c
  · subst h; simp
  · rw [if_neg (by first | (simp; done) | (simp; exact fun e => h e.symm)), if_neg h]
    by_cases h2 : index s [c] = -1
    · simp [h2]
    · simp [h2]
theorem no_c {c : UInt8} : ∀ {s : List UInt8}, index s [c] = -1 → cutAt c s = [s]
  | [], _ => rfl
  | b :: s, h => by
    rw [index_c] at h
    split at h
    · cases h
    · rename_i hb
      split at h
      · rename_i h2
        rw [cutAt, if_neg hb, no_c h2]
      · have := index_ge s [c]; omega
theorem hit_c {c : UInt8} : ∀ {s : List UInt8} {i : Nat}, index s [c] = i → i < s.length ∧ c ∉ s.take i ∧ s = s.take i ++ c :: s.drop (i + 1)
  | [], i, h => by simp [index] at h
  | b :: s, i, h => by
    rw [index_c] at h
    split at h
    · rename_i hb
      obtain rfl : i = 0 := by omega
      simp [hb]
    · rename_i hb
      split at h
      · omega
      · obtain ⟨j, rfl⟩ : ∃ j, i = j + 1 := ⟨i - 1, by have := index_ge s [c]; omega⟩
        obtain ⟨h1, h2, h3⟩ := hit_c (c := c) (s := s) (i := j) (by omega)
        refine ⟨by simp; omega, ?_, ?_⟩
        · simp; exact ⟨fun e => hb e.symm, h2⟩
        · simpa using h3
theorem split_cut (c : UInt8) : ∀ (n : Nat) (s : List UInt8), s.count c = n → splitK [c] 0 n s = cutAt c s
  | 0, s, h => by
    have hc : c ∉ s := by simpa [List.count_eq_zero] using h
    rw [splitK, cut_word hc]
  | n + 1, s, h => by
    rw [splitK]
    by_cases h2 : index s [c] = -1
    · rw [if_pos (by simp [h2]), no_c h2]
    · obtain ⟨i, hi⟩ : ∃ i : Nat, index s [c] = i := ⟨(index s [c]).toNat, by have := index_ge s [c]; omega⟩
      obtain ⟨h3, h4, h5⟩ := hit_c hi
      have h6 : (s.drop (i + 1)).count c = n := by
        rw [h5] at h
        simp only [List.count_append, List.count_cons_self] at h
        rw [List.count_eq_zero.2 h4] at h
        omega
      rw [if_neg (by simp [h2]), hi]
      simp only [Int.toNat_natCast, Nat.add_zero, List.length_cons, List.length_nil, Nat.zero_add]
      rw [split_cut c n _ h6]
      conv => rhs; rw [h5, cut_cons _ h4]
end Go.Proofs.YtbblefjbgbocoaaDoor

/-
  Instructions and their texts: a text is the text of one instruction at most, and is cut into its words.
  Conditions: none.
-/
open Go Go.AM Go.Proofs
namespace Go.Proofs.YtbblefjbgbocoaaDoor
set_option linter.unusedVariables false
set_option linter.unusedSimpArgs false
set_option maxRecDepth 100000
def Ins.wds (x : Ins) : List (List UInt8) := opWord x.op :: ((if opIA x.op then [Lib.itoa x.a] else []) ++ ((if opB x.op then [Lib.itoa x.b] else []) ++ (if opN x.op then [x.text] else [])))
theorem okB_all {x : Ins} (h : x.okB = true) : opOk x.op = true ∧ (-999 ≤ x.a ∧ x.a ≤ 999) ∧ (0 ≤ x.b ∧ x.b ≤ 999) ∧ (opIA x.op = false → x.a = 0) ∧ (opB x.op = false → x.b = 0) ∧ (opN x.op = true → nameB x.text = true) ∧ (opN x.op = false → x.text = []) := by
  obtain ⟨op, a, b, t⟩ := x
  simp only [Ins.okB, Bool.and_eq_true, Bool.or_eq_true, decide_eq_true_eq, beq_iff_eq] at h
  obtain ⟨⟨⟨⟨⟨h1, h2⟩, h3⟩, h4⟩, h5⟩, h6⟩ := h
  refine ⟨h1, h2, h3, fun e => ?_, fun e => ?_, fun e => ?_, fun e => ?_⟩
  · simp only at e; rcases h4 with h | h
    · rw [e] at h; cases h
    · exact h
  · simp only at e; rcases h5 with h | h
    · rw [e] at h; cases h
    · exact h
  · simp only at e; rw [e] at h6; simpa using h6
  · simp only at e; rw [e] at h6; simpa using h6
theorem word_sp (op : Int) : (32 : UInt8) ∉ opWord op := by
  rcases op_cases op with rfl | rfl | rfl | rfl | rfl | rfl | rfl | rfl | rfl | rfl | rfl | rfl | rfl | rfl | h
  all_goals try decide
  have h1 : op ≠ 1 ∧ op ≠ 2 ∧ op ≠ 3 ∧ op ≠ 4 ∧ op ≠ 5 ∧ op ≠ 6 ∧ op ≠ 7 ∧ op ≠ 8 ∧ op ≠ 9 ∧ op ≠ 10 ∧ op ≠ 11 ∧ op ≠ 12 ∧ op ≠ 13 ∧ op ≠ 14 := by omega
  simp [opWord, h1]
theorem digs_sp {l : List UInt8} (h : l.all digB = true) : (32 : UInt8) ∉ l := fun hm => by
  have := List.all_eq_true.1 h _ hm
  simp [digB] at this
theorem itoa_sp {n : Int} (h0 : -999 ≤ n) (h1 : n ≤ 999) : (32 : UInt8) ∉ Lib.itoa n := by
  rw [← itoa3_eq h0 h1]
  unfold itoa3
  split
  · obtain ⟨d1, _⟩ := dec3_ok (u := n.natAbs) (by omega)
    intro hm
    rcases List.mem_cons.1 hm with h | h
    · cases h
    · exact digs_sp (can_digs d1) h
  · obtain ⟨d1, _⟩ := dec3_ok (u := n.toNat) (by omega)
    exact digs_sp (can_digs d1)
theorem name_sp {s : List UInt8} (h : nameB s = true) : (32 : UInt8) ∉ s := by
  simp only [nameB, Bool.or_eq_true] at h
  rcases h with h | h
  · intro hm
    simp only [lettersB, Bool.and_eq_true, List.all_eq_true] at h
    have := h.1 _ hm
    simp [lowB] at this
  · simp only [List.contains_eq_mem, decide_eq_true_eq] at h
    have : ∀ x ∈ signs, (32 : UInt8) ∉ x := by decide
    exact this _ h
/-- a text is cut into the words of its instruction -/
theorem fmt_wds {x : Ins} (h : x.okB = true) : cutAt 32 x.fmt = x.wds := by
  obtain ⟨h1, h2, h3, _, _, h6, _⟩ := okB_all h
  have w := word_sp x.op
  have a := itoa_sp h2.1 h2.2
  have b := itoa_sp (n := x.b) (by omega) h3.2
  unfold Ins.fmt Ins.wds
  rw [if_pos h]
  cases hA : opIA x.op <;> cases hB : opB x.op <;> cases hN : opN x.op
  all_goals first
    | (have t := name_sp (h6 hN); simp [cut_cons, cut_word, w, a, b, t]; done)
    | (simp [cut_cons, cut_word, w, a, b]; done)
theorem word_ne {op : Int} (h1 : opOk op = true) : opWord op ≠ [] := by
  simp only [opOk, Bool.and_eq_true, decide_eq_true_eq] at h1
  rcases op_cases op with h | h | h | h | h | h | h | h | h | h | h | h | h | h | h
  all_goals first
    | (rw [h]; decide)
    | omega
theorem itoa_len3 {n : Int} (h0 : -999 ≤ n) (h1 : n ≤ 999) : (Lib.itoa n).length ≤ 5 := (itoa_short h0 h1).2
theorem fmt_60 {x : Ins} (h : x.okB = true) : x.fmt.length ≤ 60 := by
  obtain ⟨h1, h2, h3, _, _, h6, _⟩ := okB_all h
  have w := opWord_len x.op
  have a := itoa_len3 h2.1 h2.2
  have b := itoa_len3 (n := x.b) (by omega) h3.2
  unfold Ins.fmt
  rw [if_pos h]
  cases hA : opIA x.op <;> cases hB : opB x.op <;> cases hN : opN x.op
  all_goals first
    | (have t := (name_len (h6 hN)).2; simp; omega)
    | (simp; omega)
theorem wds_len (x : Ins) : 1 ≤ x.wds.length ∧ x.wds.length ≤ 4 := by
  unfold Ins.wds
  cases opIA x.op <;> cases opB x.op <;> cases opN x.op <;> simp
theorem wds_shape {x : Ins} (h : x.okB = true) : x.wds.length = (opShape x.op).length + 1 := by
  obtain ⟨h1, _⟩ := okB_all h
  unfold Ins.wds opShape
  rw [if_pos h1]
  cases opIA x.op <;> cases opB x.op <;> cases opN x.op <;> simp
/-- what is taken from the words that are left -/
def tk (has : Bool) (rest : List (List UInt8)) : List UInt8 × List (List UInt8) := if has && !rest.isEmpty then (rest.headD [], rest.tail) else ([48], rest)
/-- the value of a numeral, if it is one -/
def Apv (w : List UInt8) (n : Int) : Prop := ∀ m, Lib.atoiAll w = .ok m → n = m
theorem apv_itoa {n m : Int} (h0 : -999 ≤ n) (h1 : n ≤ 999) (h : Apv (Lib.itoa n) m) : m = n := h n (by rw [← itoa3_eq h0 h1]; exact atoi_itoa3 h0 h1)
theorem apv_zero {m : Int} (h : Apv [48] m) : m = 0 := apv_itoa (n := 0) (by omega) (by omega) (by rw [← itoa3_eq (by omega) (by omega)]; exact h)
/-- an instruction is built of words -/
def Bt (W : List (List UInt8)) (op : Int) (x : Ins) : Prop := x.op = op ∧ Apv (tk (opIA op) W.tail).1 x.a ∧ Apv (tk (opB op) (tk (opIA op) W.tail).2).1 x.b ∧ x.text = if opN op then (tk true (tk (opB op) (tk (opIA op) W.tail).2).2).1 else []
theorem bt_back {s : List UInt8} {op : Int} {x y : Ins} (hb : Bt (cutAt 32 s) op x) (h : y.okB = true) (hs : y.fmt = s) (ho : y.op = op) : x = y := by
  obtain ⟨b1, b2, b3, b4⟩ := hb
  rw [← hs, fmt_wds h] at b2 b3 b4
  obtain ⟨h1, h2, h3, h4, h5, h6, h7⟩ := okB_all h
  obtain ⟨yo, ya, yb, yt⟩ := y
  obtain ⟨xo, xa, xb, xt⟩ := x
  simp only at ho b1 b2 b3 b4 h1 h2 h3 h4 h5 h6 h7
  subst ho; subst b1
  simp only [Ins.wds, List.tail_cons] at b2 b3 b4
  have ea : xa = ya := by
    cases hA : opIA xo with
    | true => rw [hA] at b2; simp [tk] at b2; exact apv_itoa h2.1 h2.2 b2
    | false => rw [hA] at b2; simp [tk] at b2; rw [apv_zero b2, h4 hA]
  have eb : xb = yb := by
    cases hB : opB xo with
    | true =>
      rw [hB] at b3
      cases hA : opIA xo <;> (rw [hA] at b3; simp [tk] at b3; exact apv_itoa (by omega) h3.2 b3)
    | false =>
      rw [hB] at b3
      cases hA : opIA xo <;> (rw [hA] at b3; simp [tk] at b3; rw [apv_zero b3, h5 hB])
  have et : xt = yt := by
    cases hN : opN xo with
    | true =>
      rw [hN] at b4
      cases hA : opIA xo <;> cases hB : opB xo <;> (rw [hA, hB] at b4; simpa [tk] using b4)
    | false => rw [hN] at b4; rw [h7 hN]; simpa using b4
  rw [ea, eb, et]
/-- what ParseInstr answers -/
def Pa (s : List UInt8) (R : Option Ins) : Prop := (∀ x, R = some x → x.okB = true ∧ x.fmt = s ∧ x.ok) ∧ (R = none → ∀ y : Ins, y.okB = true → y.fmt ≠ s)
theorem no_op {s : List UInt8} {op : Int} (h : (cutAt 32 s).headD [] ≠ opWord op) : ∀ y : Ins, y.okB = true → y.op = op → y.fmt ≠ s := fun y hy ho hs => by
  rw [← hs, fmt_wds hy, ← ho] at h
  exact h rfl
theorem word_inj {i j : Int} (hi : opOk i = true) (hj : opOk j = true) (h : opWord i = opWord j) : i = j := by
  simp only [opOk, Bool.and_eq_true, decide_eq_true_eq] at hi hj
  have key : ((List.range 15).all fun a => (List.range 15).all fun b => !(opWord (a : Int) == opWord (b : Int)) || a == b) = true := by kernel_rfl
  obtain ⟨a, rfl⟩ := Int.eq_ofNat_of_zero_le (show 0 ≤ i by omega)
  obtain ⟨b, rfl⟩ := Int.eq_ofNat_of_zero_le (show 0 ≤ j by omega)
  have := List.all_eq_true.1 (List.all_eq_true.1 key a (by simp; omega)) b (by simp; omega)
  rw [h] at this
  simp at this
  omega
/-- texts differ where instructions differ -/
theorem fmt_inj {x y : Ins} (hx : x.okB = true) (hy : y.okB = true) (h : x.fmt = y.fmt) : x = y := by
  have hw := fmt_wds hx
  rw [h, fmt_wds hy] at hw
  obtain ⟨h1, h2, h3, h4, h5, h6, h7⟩ := okB_all hx
  obtain ⟨g1, g2, g3, g4, g5, g6, g7⟩ := okB_all hy
  have ho : x.op = y.op := word_inj h1 g1 (by have := congrArg (fun l => l.headD []) hw; simpa [Ins.wds] using this.symm)
  refine bt_back (s := y.fmt) (op := y.op) ⟨ho, ?_, ?_, ?_⟩ hy rfl rfl
  · rw [fmt_wds hy, hw, ← ho]
    simp only [Ins.wds, List.tail_cons]
    cases hA : opIA x.op with
    | true => simp [tk]; intro m hm; rw [← itoa3_eq h2.1 h2.2, atoi_itoa3 h2.1 h2.2] at hm; cases hm; rfl
    | false => simp [tk]; rw [h4 hA]; intro m hm; have := atoi_itoa3 (n := 0) (by omega) (by omega); rw [show itoa3 0 = [48] from rfl, hm] at this; cases this; rfl
  · rw [fmt_wds hy, hw, ← ho]
    simp only [Ins.wds, List.tail_cons]
    have q : Apv (Lib.itoa x.b) x.b := fun m hm => by rw [← itoa3_eq (by omega) h3.2, atoi_itoa3 (by omega) h3.2] at hm; cases hm; rfl
    have z : opB x.op = false → Apv [48] x.b := fun hB m hm => by rw [h5 hB]; have := atoi_itoa3 (n := 0) (by omega) (by omega); rw [show itoa3 0 = [48] from rfl, hm] at this; cases this; rfl
    cases hA : opIA x.op <;> cases hB : opB x.op <;> simp [tk]
    all_goals first
      | exact q
      | exact z hB
  · rw [fmt_wds hy, hw, ← ho]
    simp only [Ins.wds, List.tail_cons]
    cases hN : opN x.op with
    | true => cases hA : opIA x.op <;> cases hB : opB x.op <;> simp [tk]
    | false => simp; exact h7 hN
theorem Pa.one {s : List UInt8} {R R' : Option Ins} (h : Pa s R) (h' : Pa s R') : R = R' := by
  cases R with
  | none => cases R' with
    | none => rfl
    | some y => exact absurd (h'.1 y rfl).2.1 (h.2 rfl y (h'.1 y rfl).1)
  | some x => cases R' with
    | none => exact absurd (h.1 x rfl).2.1 (h'.2 rfl x (h.1 x rfl).1)
    | some y => rw [fmt_inj (h.1 x rfl).1 (h'.1 y rfl).1 (by rw [(h.1 x rfl).2.1, (h'.1 y rfl).2.1])]
/-- an instruction is read back from its text -/
theorem Pa.back {x : Ins} {R : Option Ins} (hx : x.okB = true) (h : Pa x.fmt R) : R = some x := by
  cases R with
  | none => exact absurd rfl (h.2 rfl x hx)
  | some y => rw [fmt_inj (h.1 y rfl).1 hx (h.1 y rfl).2.1]
end Go.Proofs.YtbblefjbgbocoaaDoor

/-
  strings.Split and strconv.Atoi as calls of the abstract machine, where what they read is told; what the rows list.
  Conditions: none.
-/
open Go Go.AM Go.Proofs
namespace Go.Proofs
open Go.Shelf
def Tryd.laysM146_ren : Go.Shelf.Ren := ⟨fun | 146 => 12 | 221 => 21 | 268 => 29 | 138 => 30 | 143 => 31 | 195 => 44 | 197 => 45 | 218 => 46 | 219 => 47 | 260 => 53 | 217 => 54 | 225 => 55 | 224 => 56 | 267 => 57 | 266 => 64 | 314 => 65 | n => n, fun | 9 => 9 | 31 => 28 | 3 => 3 | 4 => 4 | 0 => 0 | 105 => 61 | 21 => 21 | 5 => 5 | 46 => 67 | 119 => 85 | 139 => 88 | 138 => 87 | 146 => 90 | 51 => 89 | n => n, fun | 1 => 2 | 3 => 3 | 4 => 4 | n => n⟩
theorem Tryd.laysM146 : Go.Proofs.LaysM.n146 Tryd.prog Tryd.laysM146_ren := {
  mixed := by kernel_rfl
  f138 := Tryd.func30.trans (congrArg some (by kernel_rfl))
  f143 := Tryd.func31.trans (congrArg some (by kernel_rfl))
  f146 := Tryd.func12.trans (congrArg some (by kernel_rfl))
  f195 := Tryd.func44.trans (congrArg some (by kernel_rfl))
  f197 := Tryd.func45.trans (congrArg some (by kernel_rfl))
  f217 := Tryd.func54.trans (congrArg some (by kernel_rfl))
  f218 := Tryd.func46.trans (congrArg some (by kernel_rfl))
  f219 := Tryd.func47.trans (congrArg some (by kernel_rfl))
  f221 := Tryd.func21.trans (congrArg some (by kernel_rfl))
  f224 := Tryd.func56.trans (congrArg some (by kernel_rfl))
  f225 := Tryd.func55.trans (congrArg some (by kernel_rfl))
  f260 := Tryd.func53.trans (congrArg some (by kernel_rfl))
  f266 := Tryd.func64.trans (congrArg some (by kernel_rfl))
  f267 := Tryd.func57.trans (congrArg some (by kernel_rfl))
  f268 := Tryd.func29.trans (congrArg some (by kernel_rfl))
  f314 := Tryd.func65.trans (congrArg some (by kernel_rfl))
  t0 := Tryd.underlying0
  a0 := Tryd.isAgg0
  z0 := Tryd.sizeOf0
  v0 := Tryd.zeroValue0
  t3 := Tryd.underlying3
  a3 := Tryd.isAgg3
  z3 := Tryd.sizeOf3
  v3 := Tryd.zeroValue3
  t4 := Tryd.underlying4
  a4 := Tryd.isAgg4
  z4 := Tryd.sizeOf4
  v4 := Tryd.zeroValue4
  t5 := Tryd.underlying5
  a5 := Tryd.isAgg5
  z5 := Tryd.sizeOf5
  v5 := Tryd.zeroValue5
  t9 := Tryd.underlying9
  a9 := Tryd.isAgg9
  z9 := Tryd.sizeOf9
  v9 := Tryd.zeroValue9
  t21 := Tryd.underlying21
  a21 := Tryd.isAgg21
  z21 := Tryd.sizeOf21
  v21 := Tryd.zeroValue21
  t31 := Tryd.underlying28
  a31 := Tryd.isAgg28
  z31 := Tryd.sizeOf28
  v31 := Tryd.zeroValue28
  t46 := Tryd.underlying67
  a46 := Tryd.isAgg67
  z46 := Tryd.sizeOf67
  v46 := Tryd.zeroValue67
  t51 := Tryd.underlying89
  a51 := Tryd.isAgg89
  z51 := Tryd.sizeOf89
  v51 := Tryd.zeroValue89
  t105 := Tryd.underlying61
  a105 := Tryd.isAgg61
  z105 := Tryd.sizeOf61
  v105 := Tryd.zeroValue61
  t119 := Tryd.underlying85
  a119 := Tryd.isAgg85
  z119 := Tryd.sizeOf85
  t138 := Tryd.underlying87
  a138 := Tryd.isAgg87
  z138 := Tryd.sizeOf87
  v138 := Tryd.zeroValue87
  t139 := Tryd.underlying88
  a139 := Tryd.isAgg88
  z139 := Tryd.sizeOf88
  v139 := Tryd.zeroValue88
  t146 := Tryd.underlying90
  a146 := Tryd.isAgg90
  z146 := Tryd.sizeOf90
  v146 := Tryd.zeroValue90
  g1 := by kernel_rfl
  g3 := by kernel_rfl
  g4 := by kernel_rfl
  i0 := by kernel_rfl
  i3 := by kernel_rfl
  i4 := by kernel_rfl
  i5 := by kernel_rfl
  i9 := by kernel_rfl
  i21 := by kernel_rfl
  i31 := by kernel_rfl
  i46 := by kernel_rfl
  i51 := by kernel_rfl
  i105 := by kernel_rfl
  i138 := by kernel_rfl
  i139 := by kernel_rfl
  i146 := by kernel_rfl
  m1 := by kernel_rfl
  s1_3 := fun w h => Go.Proofs.cell_of_shapedOpen_int (zero := #[.int .i64 0]) (t := 3) h (of_decide_eq_true (by kernel_rfl)) (by kernel_rfl) rfl (by kernel_rfl) (by kernel_rfl) Tryd.underlying3
  m3 := by kernel_rfl
  m4 := by kernel_rfl }
end Go.Proofs
namespace Go.Proofs.YtbblefjbgbocoaaDoor
open Go.Lib Go.RowKit Go.ChangeShapes Go.WideShapes Go.ChangeAt
set_option linter.unusedVariables false
set_option linter.unusedSimpArgs false
set_option maxRecDepth 100000
/-- the other variable of strconv, and the one of bytealg -/
def ESy (o : Obj) : Prop := ∀ w : World, w.heap[0]? = some o → ∃ u v, w.cell? ⟨0, 0, none⟩ = some (.iface u v)
def MLn (o : Obj) : Prop := ∀ w : World, w.heap[2]? = some o → ∃ m, w.cell? ⟨2, 0, none⟩ = some (.int .i64 m)
def Lib4 (ts : List (Nat × Obj)) : Prop := ∃ o o2 o3 o4, ts = [(5, o), (1, o2), (0, o3), (2, o4)] ∧ Tab 5 o ∧ ERg o2 ∧ ESy o3 ∧ MLn o4
def Hq (H : Heap) : Prop := ∃ o o2 o3 o4, (H[0]? = some (.tab 5 o) ∧ H[1]? = some (.tab 1 o2) ∧ H[2]? = some (.tab 0 o3) ∧ H[3]? = some (.tab 2 o4)) ∧ Tab 5 o ∧ ERg o2 ∧ ESy o3 ∧ MLn o4
theorem hq_app {H : Heap} (h : Hq H) (L : Heap) : Hq (H ++ L) := by
  obtain ⟨o, o2, o3, o4, ⟨h0, h1, h2, h3⟩, h4⟩ := h
  have app : ∀ {i : Nat} {x : Ob}, H[i]? = some x → (H ++ L)[i]? = some x := fun hi => by
    rw [List.getElem?_append_left (List.getElem?_eq_some_iff.1 hi).1]; exact hi
  exact ⟨o, o2, o3, o4, ⟨app h0, app h1, app h2, app h3⟩, h4⟩
theorem max_told {W : World} (h : W.ShapedOpen Tryd.prog) : ∃ o, W.heap[2]? = some o ∧ MLn o := by
  obtain ⟨m, hm⟩ := Tryd.laysM146.s1_3 W h
  have hm : W.cell? ⟨2, 0, none⟩ = some (.int .i64 m) := hm
  cases ho : W.heap[2]? with
  | none => simp [World.cell?, ho] at hm
  | some o => exact ⟨o, rfl, fun w hw => ⟨m, by rw [← hm]; exact cell_of_heap (hw.trans ho.symm) 0⟩⟩
/-- a call's outcome, where what the rows list is met and the world has its shape -/
theorem returns_shaped {H : Type} {enc : TypeId × Value → H} {a : Assume} {C : Checked} {os : Os} {f : FuncId} {fn : Func} {s : ChangeSpec} {conds : List PathCond} {apart fresh handsOn again : Bool} {X : World → Array Value → Prop}
    (hX : ∀ (w w' : World) (args : Array Value), w.heap = w'.heap → X w args → X w' args) (own : ownKnob C.prog.godebug = none) (started : os.Started) (noInit : C.prog.inits.idxOf? f = none) (hfn : C.prog.funcs[f]? = some fn)
    (witness : ∃ (w : World) (tape : Tape) (i : Input), w.os = os ∧ (w.forCall tape i).Shaped C.prog ∧ i.vars = [] ∧ Input.okWide C.prog (w.forCall tape i) .any w.heap.size f i ∧
      ((s.pre enc C.prog fn conds apart (w.forCall tape i).memory i.args ∧ X (w.forCall tape i).memory i.args) ∧ sizedMet enc C.prog fn (OpenSpec.ofChange s) apart (w.forCall tape i).memory i.args) ∧ a.holds C.prog (lone (Frame.enter C.prog f i.args .normal) [] (w.forCall tape i)))
    (contract : ∀ (W : World) (base : Nat) (args : Array Value) (ds gs : List (DataW H)) (before : List MemPlace), (∀ (j : Nat) t v, fn.params[j]? = some t → args[j]? = some v → Value.okWide C.prog W .any base t v) → DataW.Whole enc C.prog fn.params.toList s.vars apart W args.toList ds gs before →
      conds.all (PathCond.test C.prog ⟨fn.params.toList, ds, s.plain.varTypes C.prog, gs⟩) = true → (DataW.weightsEach C.prog (fn.params.toList ++ s.plain.varTypes C.prog) (ds ++ gs)).all (· ≤ reachBytes) = true → X W args → W.ShapedOpen C.prog →
      a.holds C.prog (lone (Frame.enter C.prog f args .normal) [] W) → Calls C.prog f args W fun e W' => ∃ v, e = .returned v ∧ s.post enc C.prog fn apart fresh handsOn again W args v W') :
    ReturnsInHanded a C os f .any (fun w args => (s.pre enc C.prog fn conds apart w args ∧ X w args) ∧ sizedMet enc C.prog fn (OpenSpec.ofChange s) apart w args) (s.post enc C.prog fn apart fresh handsOn again) := by
  refine returnsInHanded_of_calls own started noInit witness fun w tape i _ hsh _ hok hpre hholds => ?_
  obtain ⟨_, _, _, fn', hfn', _, _, _, _, hval⟩ := hok
  obtain rfl : fn' = fn := Option.some.inj (hfn'.symm.trans hfn)
  obtain ⟨⟨⟨ds, gs, before, hw, hc⟩, hx⟩, hz⟩ := hpre
  refine (contract _ w.heap.size i.args ds gs before hval (DataW.Whole.of_heap (w' := w.forCall tape i) (by rfl) hw) hc (hz.weights hw) (hX _ _ _ (by rfl) hx) hsh hholds).mono fun e W' ⟨v, he, hp⟩ => ?_
  subst he
  exact ChangeSpec.post_blind hp
/-- what strconv.Atoi gives for whatever text -/
def AtoiA (s : List UInt8) (r : A) : Prop := ∃ n e, inR .i64 n ∧ r = .tup [.c (.d (.int .i64 n)), .c (.d (.v e))] ∧ ∀ m, atoiAll s = .ok m → n = m
theorem atoi_any {H : Heap} (hq : Hq H) (s : List UInt8) (hs : s.length ≤ 1048576) : ACalls Tryd.prog 15 [.c (.d (.str s))] H (fun r H' => H' = H ∧ AtoiA s r) := by
  obtain ⟨o, o2, o3, o4, ⟨h0, h1, h2, h3⟩, hT, hR, hS, hM⟩ := hq
  by_cases hsy : endOk (atoiAll s) = true
  · refine (atoi_call hR s (by omega) hsy H h1).mono fun r H' ⟨h, n, e, h5, h6, h7⟩ => ⟨h, n, e, h5, h6, fun m hm => ?_⟩
    rcases h7 with ⟨_, h⟩ | ⟨_, _, _, h⟩
    · rw [h] at hm; cases hm; rfl
    · rw [h] at hm; cases hm
  · refine acalls_tab_any h2 ⟨_, Tryd.func15, by kernel_rfl, by decide⟩ ?_
    intro w ι k cargs hw hl ha
    obtain ⟨v, rfl⟩ : ∃ v, cargs = [v] := by
      match cargs, hl with
      | [v], _ => exact ⟨v, rfl⟩
    have h1 := ha 0 _ _ rfl rfl
    obtain ⟨t, rfl, ht⟩ : ∃ t : ByteArray, v = .string t ∧ t.data.toList = s := by
      cases h1 with
      | c h => cases h with
        | d h => cases h with
          | str t ht => exact ⟨t, rfl, rfl⟩
    have hsz : t.size = s.length := by rw [← ht]; rfl
    obtain ⟨u, v, hc⟩ := hS w hw
    rw [← ht] at hsy
    cases hr : atoiAll t.data.toList with
    | ok n => rw [hr] at hsy; exact absurd rfl hsy
    | range => rw [hr] at hsy; exact absurd rfl hsy
    | _ =>
      refine (Any.strconv_Atoi_syntax Tryd.laysC172 t (by omega) hr _ w hc (.inr ⟨_, _, rfl⟩)).mono ?_
      rintro e w' ⟨N, rfl, _, _, hb⟩
      have key : ∀ e : Value, e.oneCell' = true → (∃ p q, e = .iface p q) → ∃ v r, (Ending.returned (.tuple #[.int .i64 0, e])) = .returned v ∧ AtoiA s r ∧ (∀ (w : World) (ι : List K) (n : Nat), RA w ι n r v) ∧ Below w.heap.size w w' := fun e he hpq => by
        obtain ⟨p, q, rfl⟩ := hpq
        refine ⟨_, .tup [.c (.d (.int .i64 0)), .c (.d (.v (.iface p q)))], rfl, ⟨0, .iface p q, small_i64 (by omega) (by omega), rfl, fun m hm => by rw [← ht, hr] at hm; cases hm⟩, fun w ι m => ?_, hb⟩
        exact RA.tup (vs := [.int .i64 _, .iface _ _]) rfl fun i a v h1 h2 => by
          match i with
          | 0 => cases h1; cases h2; exact .mkInt (small_i64 (by omega) (by omega))
          | 1 => cases h1; cases h2; exact .c (.d (.v _ rfl))
      exact key _ rfl ⟨_, _, rfl⟩
theorem split_words (t : ByteArray) (c : UInt8) : ((splitB ⟨#[c]⟩ 0 (countB t ⟨#[c]⟩) t).map (·.data.toList)) = cutAt c t.data.toList := by
  rw [splitB_data]
  have h : countB t ⟨#[c]⟩ = t.data.toList.count c := count_one c _
  rw [h]
  exact split_cut c _ _ rfl
set_option maxHeartbeats 3200000 in
theorem split_calls {H : Heap} (hq : Hq H) (s : List UInt8) (c : UInt8) (hs : s.length ≤ 1048576) : ACalls Tryd.prog 12 [.c (.d (.str s)), .c (.d (.str [c]))] H (fun r H' => H' = H ∧ r = .c (.d (.sl ((cutAt c s).map strRow)))) := by
  obtain ⟨o, o2, o3, o4, ⟨g0, g1, g2, g3⟩, hT, hR, hS, hM⟩ := hq
  refine ⟨⟨_, Tryd.func12, by kernel_rfl, by decide⟩, fun w ι cargs hsim hl ha => ?_⟩
  obtain ⟨v0, v1, rfl⟩ : ∃ v0 v1, cargs = [v0, v1] := by
    match cargs, hl with
    | [a, b], _ => exact ⟨a, b, rfl⟩
  have h0 := ha 0 _ _ rfl rfl
  have h1 := ha 1 _ _ rfl rfl
  obtain ⟨t, rfl, ht⟩ : ∃ t : ByteArray, v0 = .string t ∧ t.data.toList = s := by
    cases h0 with
    | c h => cases h with
      | d h => cases h with
        | str t ht => exact ⟨t, rfl, rfl⟩
  obtain ⟨sep, rfl, hsep⟩ : ∃ sep : ByteArray, v1 = .string sep ∧ sep = ⟨#[c]⟩ := by
    cases h1 with
    | c h => cases h with
      | d h =>
        generalize hcl : [c] = l at h
        cases h with
        | str s _ => exact ⟨s, rfl, by
            have : s.data = #[c] := by rw [← Array.toArray_toList (xs := s.data), ← hcl]
            cases s; simp only at this; rw [this]⟩
  subst hsep
  obtain ⟨m, hm⟩ := hM w (hsim.tabs_get g3)
  have hsz : t.size = s.length := by rw [← ht]; rfl
  have hone : 1 ≤ (⟨#[c]⟩ : ByteArray).size := Nat.le_refl 1
  have hlen := splitB_all ⟨#[c]⟩ hone 0 (countB t ⟨#[c]⟩) t rfl
  have hw := split_words t c
  refine (Any.strings_Split { Tryd.laysM146 with } Tryd.laysM146.i9 t ⟨#[c]⟩ m w (by omega) hm hone).mono ?_
  rintro e w' ⟨rfl, hw'⟩
  generalize hws : splitB ⟨#[c]⟩ 0 (countB t ⟨#[c]⟩) t = ws at hlen hw hw'
  have hwl : ws.length ≤ 1048577 := by
    have e := congrArg List.length hw
    rw [List.length_map] at e
    have := (cutw_len c t.data.toList).2
    rw [e, ht] at *
    omega
  have hb : Below w.heap.size w w' := by rw [hw']; exact (Below.refl _ _).alloc (Nat.le_refl _) _
  have hx : Ext w ι w' ι := Ext.of_blocks hb.os hb.tape hb.output hb.size hb.block
  rw [← hlen]
  refine ⟨_, H, ι, _, rfl, ⟨rfl, rfl⟩, hsim.of_blocks hx hb.block, .c (.d ?_), hx, Nat.le_refl _⟩
  rw [← ht, ← hw, List.map_map]
  have hrl : (ws.map (strRow ∘ fun x => x.data.toList)).length = ws.length := by simp
  have := RD.sl (w := w') (S := AM.Safe w' ι) (ws.map (strRow ∘ fun x => x.data.toList)) w.heap.size 0 ws.length 1 (fun i => .string (ws.getD i ByteArray.empty)) (by omega) (by rw [hrl]; unfold maxRows; omega)
    (fun i r h => by
      simp only [List.getElem?_map, Option.map_eq_some_iff] at h
      obtain ⟨a, _, rfl⟩ := h
      rfl)
    (fun i r j x h h2 => by
      simp only [List.getElem?_map, Option.map_eq_some_iff] at h
      obtain ⟨a, ha, rfl⟩ := h
      have hj : j = 0 := by
        have := (List.getElem?_eq_some_iff.1 h2).1
        simp [strRow] at this
        exact this
      subst hj
      have hil := (List.getElem?_eq_some_iff.1 ha).1
      refine ⟨?_, ?_, fun k hk ho => ?_⟩
      · rw [hw']
        rw [World.cell?_alloc_new]
        simp only [Nat.zero_add, Nat.mul_one, Nat.add_zero, List.getElem?_toArray, List.getElem?_map, ha, Option.map_some, List.getD, Option.getD_some]
      · rw [hw']; simp only [World.alloc, Array.size_push]; omega
      · have := hsim.low k w.heap.size hk (K.at_of_owns ho)
        omega)
    (fun i r j x h h2 => by
      simp only [List.getElem?_map, Option.map_eq_some_iff] at h
      obtain ⟨a, ha, rfl⟩ := h
      have hj : j = 0 := by
        have := (List.getElem?_eq_some_iff.1 h2).1
        simp [strRow] at this
        exact this
      subst hj
      simp [strRow] at h2
      subst h2
      have hal : a.data.toList.length ≤ 1048576 := by
        have h3 := cutw_mem c t.data.toList a.data.toList (by rw [← hw]; exact List.mem_map.2 ⟨a, List.mem_of_getElem? ha, rfl⟩)
        rw [ht] at h3
        omega
      simp only [Nat.mul_one, Nat.add_zero]
      rw [show ws.getD i ByteArray.empty = a by simp [List.getD, ha]]
      exact .str a (by unfold maxStr; omega))
  rw [hrl] at this
  exact this
end Go.Proofs.YtbblefjbgbocoaaDoor

/-
  Instructions, read from texts: the program.
  Conditions: none.
-/
open Go Go.AM Go.Proofs
namespace Go.Proofs.YtbblefjbgbocoaaDoor
open Go.ChangeShapes Go.WideShapes Go.ChangeAt Go.RowKit
set_option linter.unusedVariables false
set_option linter.unusedSimpArgs false
set_option maxRecDepth 100000
-- 14 loop.example/prologserver/impl.ParseInstr$1 params 1 ntmps 18
def ac14 : Cd := .seq (.region [⟨(some 3),.mv (.k (.c (.d (.str [])))),none⟩] [3])
 (.seq (.seq (.region [⟨(some 5),.mv (.t 0),none⟩,
 ⟨(some 6),.un .not (.t 5),none⟩,
 ⟨(some 7),.mv (.t 6),none⟩,
 ⟨(some 8),.load none (.t 1),some (7,false)⟩,
 ⟨(some 9),.len 1 (.t 8),some (7,false)⟩,
 ⟨(some 10),.bin .eql (.t 9) (.k (.c (.d (.int .i64 0)))),some (7,false)⟩,
 ⟨(some 11),.pick (.t 7) (.k (.c (.d (.bool true)))) (.t 10),none⟩] [0,5,6,7,8,9,10])
 (.cond (.t 11)
 (.seq (.region [⟨(some 3),.mv (.k (.c (.d (.str [48])))),none⟩] [11])
 (.ret))
 (.skip)))
 (.seq (.region [⟨(some 12),.load none (.t 1),none⟩,
 ⟨(some 13),.indexAddr 1 (.t 12) (.k (.c (.d (.int .i64 0)))),none⟩,
 ⟨(some 14),.load none (.t 13),none⟩,
 ⟨(some 4),.mv (.t 14),none⟩] [3,11,12,13,14])
 (.seq (.region [⟨(some 15),.load none (.t 1),none⟩,
 ⟨(some 16),.slice 1 (.t 15) (some (.k (.c (.d (.int .i64 1))))) none none,none⟩,
 ⟨none,.store 1 (.t 1) (.t 16),none⟩] [15,16])
 (.seq (.region [⟨(some 17),.mv (.t 4),none⟩,
 ⟨(some 3),.mv (.t 17),none⟩] [4,17])
 (.ret)))))
theorem ac14_ok : cFunc Tryd.prog [] [(0,[3],[]),(1,[0,5,6,7,8,9,10],[]),(2,[11],[]),(3,[3,11,12,13,14],[]),(4,[15,16],[]),(5,[4,17],[])] Tryd.f14 = some (ac14,[.tmp 3],18) := by kernel_rfl
-- 5 loop.example/prologserver/impl.ParseInstr params 1 ntmps 70
-- loop head live: [0,2,4,5]
def ac5 : Cd := .seq (.region [⟨(some 2),.alloc [(.d (.int .i64 0)),(.d (.int .i64 0)),(.d (.int .i64 0)),(.d (.str []))],none⟩,
 ⟨(some 3),.mv (.k (.c (.d (.bool false)))),none⟩] [3])
 (.seq (.region [⟨(some 11),.mv (.t 0),none⟩,
 ⟨(some 12),.qcall 12 [(.t 11),(.k (.c (.d (.str [32]))))],none⟩,
 ⟨(some 4),.mv (.t 12),none⟩] [11,12])
 (.seq (.seq (.region [⟨(some 13),.mv (.t 4),none⟩,
 ⟨(some 14),.len 1 (.t 13),none⟩,
 ⟨(some 15),.bin .gtr (.t 14) (.k (.c (.d (.int .i64 4)))),none⟩] [13,14])
 (.cond (.t 15)
 (.seq (.region [⟨(some 16),.build [(.d (.int .i64 0)),(.d (.int .i64 0)),(.d (.int .i64 0)),(.d (.str []))] [],none⟩,
 ⟨none,.store 4 (.t 2) (.t 16),none⟩,
 ⟨(some 3),.mv (.k (.c (.d (.bool false)))),none⟩] [0,4,15,16])
 (.ret))
 (.skip)))
 (.seq (.seq (.region [⟨(some 5),.mv (.k (.c (.d (.int .i64 1)))),none⟩] [3,15])
 (.block 0 (.loop (.seq (.seq (.region [⟨(some 17),.mv (.t 5),none⟩,
 ⟨(some 18),.bin .leq (.t 17) (.k (.c (.d (.int .i64 14)))),none⟩] [17])
 (.cond (.t 18)
 (.skip)
 (.exit 0)))
 (.seq (.block 1 (.seq (.region [⟨(some 22),.mv (.t 5),none⟩,
 ⟨(some 23),.qcall 13 [(.t 22)],none⟩,
 ⟨(some 21),.mv (.t 23),none⟩,
 ⟨(some 24),.extract 0 (.t 21),none⟩,
 ⟨(some 25),.extract 1 (.t 21),none⟩,
 ⟨(some 6),.alloc [(.d (.str [])),(.d (.bool false)),(.d (.bool false)),(.d (.bool false))],none⟩,
 ⟨none,.store 4 (.t 6) (.t 24),none⟩,
 ⟨(some 7),.mv (.t 25),none⟩] [18,21,22,23,24,25])
 (.seq (.seq (.region [⟨(some 26),.mv (.t 7),none⟩,
 ⟨(some 27),.un .not (.t 26),none⟩,
 ⟨(some 28),.mv (.t 27),none⟩,
 ⟨(some 29),.fieldAddr 0 (.t 6),some (28,false)⟩,
 ⟨(some 31),.mv (.t 4),some (28,false)⟩,
 ⟨(some 32),.indexAddr 1 (.t 31) (.k (.c (.d (.int .i64 0)))),some (28,false)⟩,
 ⟨(some 30),.load none (.t 29),some (28,false)⟩,
 ⟨(some 33),.load none (.t 32),some (28,false)⟩,
 ⟨(some 34),.bin .neq (.t 30) (.t 33),some (28,false)⟩,
 ⟨(some 35),.pick (.t 28) (.k (.c (.d (.bool true)))) (.t 34),none⟩] [7,26,27,28,29,30,31,32,33,34])
 (.cond (.t 35)
 (.exit 1)
 (.skip)))
 (.seq (.region [⟨(some 36),.mv (.t 5),none⟩,
 ⟨(some 37),.build [(.d (.int .i64 0)),(.d (.int .i64 0)),(.d (.int .i64 0)),(.d (.str []))] [(0,1,(.t 36))],none⟩,
 ⟨(some 8),.alloc [(.d (.int .i64 0)),(.d (.int .i64 0)),(.d (.int .i64 0)),(.d (.str []))],none⟩,
 ⟨none,.store 4 (.t 8) (.t 37),none⟩] [35,36,37])
 (.seq (.region [⟨(some 38),.mv (.t 4),none⟩,
 ⟨(some 39),.slice 1 (.t 38) (some (.k (.c (.d (.int .i64 1))))) none none,none⟩,
 ⟨(some 9),.alloc [(.full [])],none⟩,
 ⟨none,.store 1 (.t 9) (.t 39),none⟩] [38,39])
 (.seq (.region [⟨(some 40),.mkFunc 14 [(.t 9)],none⟩,
 ⟨(some 10),.mv (.t 40),none⟩] [9,40])
 (.seq (.region [⟨(some 42),.mv (.t 10),none⟩,
 ⟨(some 43),.fieldAddr 1 (.t 6),none⟩,
 ⟨(some 44),.load none (.t 43),none⟩,
 ⟨(some 45),.callv (.t 42) [(.t 44)],none⟩,
 ⟨(some 46),.call false 15 [(.t 45)],none⟩,
 ⟨(some 41),.mv (.t 46),none⟩,
 ⟨(some 47),.extract 0 (.t 41),none⟩,
 ⟨(some 48),.extract 1 (.t 41),none⟩,
 ⟨(some 49),.fieldAddr 1 (.t 8),none⟩,
 ⟨none,.store 1 (.t 49) (.t 47),none⟩] [41,42,43,44,45,46,47,48,49])
 (.seq (.region [⟨(some 51),.mv (.t 10),none⟩,
 ⟨(some 52),.fieldAddr 2 (.t 6),none⟩,
 ⟨(some 53),.load none (.t 52),none⟩,
 ⟨(some 54),.callv (.t 51) [(.t 53)],none⟩,
 ⟨(some 55),.call false 15 [(.t 54)],none⟩,
 ⟨(some 50),.mv (.t 55),none⟩,
 ⟨(some 56),.extract 0 (.t 50),none⟩,
 ⟨(some 57),.extract 1 (.t 50),none⟩,
 ⟨(some 58),.fieldAddr 2 (.t 8),none⟩,
 ⟨none,.store 1 (.t 58) (.t 56),none⟩] [50,51,52,53,54,55,56,57,58])
 (.seq (.seq (.region [⟨(some 59),.fieldAddr 3 (.t 6),none⟩,
 ⟨(some 60),.load none (.t 59),none⟩] [6,59])
 (.cond (.t 60)
 (.region [⟨(some 61),.mv (.t 10),none⟩,
 ⟨(some 62),.callv (.t 61) [(.k (.c (.d (.bool true))))],none⟩,
 ⟨(some 63),.fieldAddr 3 (.t 8),none⟩,
 ⟨none,.store 1 (.t 63) (.t 62),none⟩] [10,60,61,62,63])
 (.skip)))
 (.seq (.region [⟨(some 64),.load (some 4) (.t 8),none⟩,
 ⟨(some 65),.qcall 16 [(.t 64)],none⟩,
 ⟨(some 66),.mv (.t 0),none⟩,
 ⟨(some 67),.bin .eql (.t 65) (.t 66),none⟩] [10,60,64,65,66])
 (.cond (.t 67)
 (.seq (.region [⟨(some 68),.load (some 4) (.t 8),none⟩,
 ⟨none,.store 4 (.t 2) (.t 68),none⟩,
 ⟨(some 3),.mv (.k (.c (.d (.bool true)))),none⟩] [0,4,5,8,67,68])
 (.ret))
 (.skip))))))))))))
 (.region [⟨(some 19),.mv (.t 5),none⟩,
 ⟨(some 20),.bin .add (.t 19) (.k (.c (.d (.int .i64 1)))),none⟩,
 ⟨(some 5),.mv (.t 20),none⟩] [3,8,19,20,67]))))))
 (.seq (.region [⟨(some 69),.build [(.d (.int .i64 0)),(.d (.int .i64 0)),(.d (.int .i64 0)),(.d (.str []))] [],none⟩,
 ⟨none,.store 4 (.t 2) (.t 69),none⟩,
 ⟨(some 3),.mv (.k (.c (.d (.bool false)))),none⟩] [69])
 (.ret)))))
theorem ac5_ok : cFunc Tryd.prog [1000012,1000013,1000016] [(0,[3],[]),(1,[11,12],[]),(2,[13,14],[]),(3,[0,4,15,16],[]),(4,[3,15],[]),(5,[17],[]),(7,[18,21,22,23,24,25],[]),(8,[7,26,27,28,29,30,31,32,33,34],[0,1,2,3,5,6,4,7,8,9]),(9,[35,36,37],[]),(10,[38,39],[]),(11,[9,40],[]),(12,[41,42,43,44,45,46,47,48,49],[]),(13,[50,51,52,53,54,55,56,57,58],[]),(14,[6,59],[]),(15,[10,60,61,62,63],[]),(16,[10,60,64,65,66],[]),(17,[0,4,5,8,67,68],[]),(6,[3,8,19,20,67],[]),(18,[69],[])] Tryd.f5 = some (ac5,[.cell 2 (some 4),.tmp 3],70) := by kernel_rfl
/-- a call that leaves all objects as they were, with one of several results -/
theorem call_relA {P : Program} {f : FuncId} {xs : List A} {sl : List A} {ext loc H₂ : Heap} {R : A → Prop} {K : A → St → Prop} (hc : ACalls P f xs H₂ (fun r' H' => H' = H₂ ∧ R r')) (hf : Obs.fits ext.length 0 ext) (hH : H₂ = ext ++ loc.map (Ob.re ext.length))
    (hk : ∀ r, R r → A.re ext.length r = r ∧ K r ⟨sl, ext, loc⟩) : ACalls P f xs H₂ (CallK K ⟨sl, ext, loc⟩) := by
  subst hH
  exact hc.mono fun r' H' ⟨h1, h2⟩ => ⟨ext, loc, r', h1, rfl, Nat.le_refl _, hf, (hk r' h2).1.symm, (hk r' h2).2⟩
/-- a call that changes one of the caller's own objects -/
theorem call_atL {P : Program} {f : FuncId} {args : List A} {sl : List A} {ext loc H₂ : Heap} {j : Nat} {g : Ob} {r : A} {K : A → St → Prop} (hc : ACalls P f args H₂ (fun r' H' => H' = H₂.set (ext.length + j) g ∧ r' = r)) (hg : Ob.re ext.length g = g) (hr : A.re ext.length r = r)
    (hf : Obs.fits ext.length 0 ext) (hH : H₂ = ext ++ loc.map (Ob.re ext.length)) (hk : K r ⟨sl, ext, loc.set j g⟩) : ACalls P f args H₂ (CallK K ⟨sl, ext, loc⟩) := by
  subst hH
  refine hc.mono fun r' H' ⟨h1, h2⟩ => ⟨ext, loc.set j g, r, ?_, rfl, by simp, hf, by rw [h2, hr], hk⟩
  rw [h1, List.set_append_right _ _ (by omega), Nat.add_sub_cancel_left, List.map_set, hg]
theorem set_same {H : Heap} {i : Nat} {x : Ob} (h : H[i]? = some x) : H.set i x = H := by
  obtain ⟨h1, h2⟩ := List.getElem?_eq_some_iff.1 h
  rw [← h2]
  simp
set_option maxHeartbeats 3200000 in
/-- the closure that takes the next word -/
theorem take_calls (b : Bool) (rest : List (List UInt8)) (hr : rest.length ≤ 1048576) (H : Heap) (i : Nat) (hi : H[i]? = some (.cells [.d (.sl (rest.map strRow))])) :
    ACalls Tryd.prog 14 [.c (.d (.bool b)), .c (.ptr (.e i) 0)] H (fun r H' => H' = H.set i (.cells [.d (.sl ((tk b rest).2.map strRow))]) ∧ r = .c (.d (.str (tk b rest).1))) := by
  refine acalls Tryd.func14 (by kernel_rfl) ac14_ok fun hf => ?_
  have hs := set_same hi
  cases b with
  | false => simp -implicitDefEqProofs [ac14, tk, hi, hs, hf, go_sem, -List.set_cons_succ, -List.set_cons_zero]
  | true =>
    cases rest with
    | nil =>
      simp only [List.map_nil] at hi hs
      have h0 : inR .i64 (0 : Int) := small_i64 (by omega) (by omega)
      simp -implicitDefEqProofs [ac14, tk, hi, hs, h0, hf, go_sem, -List.set_cons_succ, -List.set_cons_zero]
    | cons w rest =>
      have hli : inR .i64 ((rest.length : Int) + 1) := small_i64 (by omega) (by simp at hr; omega)
      have hz : ((rest.length : Int) + 1 == 0) = false := by simp; omega
      simp only [List.map_cons] at hi hs
      simp -implicitDefEqProofs [ac14, tk, hi, hli, hz, hf, go_sem, -List.set_cons_succ, -List.set_cons_zero]
      refine row_int (strRow w) (by omega) (by simp) rfl ?_
      simp -implicitDefEqProofs [strRow, hi, hli, hz, hf, go_sem, -List.set_cons_succ, -List.set_cons_zero]
      exact ⟨allLen_map fun _ => rfl, by omega, Obs_fits_set hf ⟨trivial, trivial⟩⟩
theorem tk_le {N : Nat} {b : Bool} {rest : List (List UInt8)} {w : List UInt8} {r : List (List UInt8)} (hN : 1 ≤ N) (h : ∀ x ∈ rest, x.length ≤ N) (he : tk b rest = (w, r)) : w.length ≤ N ∧ r.length ≤ rest.length ∧ ∀ x ∈ r, x.length ≤ N := by
  unfold tk at he
  split at he
  · rename_i hc
    cases rest with
    | nil => simp at hc
    | cons a l =>
      simp at he
      obtain ⟨rfl, rfl⟩ := he
      exact ⟨h _ (by simp), by simp, fun x hx => h x (by simp [hx])⟩
  · cases he
    exact ⟨hN, Nat.le_refl _, h⟩
theorem grown_tab {ext loc ext' loc' : Heap} {i g : Nat} {o : Obj} (hg : Grown ext loc ext' loc') (h : ext[i]? = some (.tab g o)) : (ext' ++ loc'.map (Ob.re ext.length))[i]? = some (.tab g o) := by
  have hi := (List.getElem?_eq_some_iff.1 h).1
  have := hg.2.2 [] [] (.e i) (.tab g o) (by simp [z_, List.getD, h]) (by simp) (by simp)
  simp only [z_, List.getD] at this
  rw [List.getElem?_append_left (by rw [hg.1]; exact hi)]
  rw [List.getElem?_eq_getElem (by rw [hg.1]; exact hi)] at this ⊢
  simpa using this
theorem hq_grown {ext loc ext' loc' : Heap} (hg : Grown ext loc ext' loc') (h : Hq ext) : Hq (ext' ++ loc'.map (Ob.re ext.length)) := by
  obtain ⟨o, o2, o3, o4, ⟨h0, h1, h2, h3⟩, h4⟩ := h
  exact ⟨o, o2, o3, o4, ⟨grown_tab hg h0, grown_tab hg h1, grown_tab hg h2, grown_tab hg h3⟩, h4⟩
def zeroI : Ins := ⟨0, 0, 0, []⟩
def insA : Option Ins → A
  | some x => .tup [.agg (x.row.map .d), .c (.d (.bool true))]
  | none => .tup [.agg (zeroI.row.map .d), .c (.d (.bool false))]
theorem Pa.no {s : List UInt8} (h : ∀ y : Ins, y.okB = true → y.fmt ≠ s) : Pa s none := ⟨fun x hx => (by cases hx), fun _ => h⟩
theorem Pa.yes {s : List UInt8} {x : Ins} (h : x.fmt = s) (hs : s ≠ []) (ho : x.ok) : Pa s (some x) := by
  refine ⟨fun y hy => ?_, fun h => by cases h⟩
  cases hy
  refine ⟨?_, h, ho⟩
  cases hb : x.okB with
  | true => rfl
  | false => unfold Ins.fmt at h; rw [hb] at h; exact absurd h.symm hs
set_option maxHeartbeats 3200000 in
theorem piImpl_calls (s : List UInt8) (hs : s.length ≤ 1048576) (H : Heap) (hq : Hq H) : ACalls Tryd.prog 5 [.c (.d (.str s))] H (fun r H' => H' = H ∧ ∃ R, Pa s R ∧ r = insA R) := by
  refine acalls Tryd.func5 (by kernel_rfl) ac5_ok fun hf => ?_
  have hcl := cutw_len 32 s
  have hcm := cutw_mem 32 s
  have hwd : ∀ y : Ins, y.okB = true → y.fmt = s → cutAt 32 s = y.wds := fun y hy h => by rw [← h, fmt_wds hy]
  simp -implicitDefEqProofs [ac5, hf, go_sem, -List.set_cons_succ, -List.set_cons_zero]
  refine ⟨hf, _, rfl, fun st' hg => split_calls (hq_grown hg hq) s 32 hs, ?_⟩
  have hbt := @bt_back s
  have hno := @no_op s
  have hs0 : s = [] → (cutAt 32 s).headD [] = [] := fun h => by rw [h]; rfl
  generalize cutAt 32 s = W at hcl hcm hwd hbt hno hs0
  obtain ⟨o, o2, o3, o4, ⟨g0, _⟩, hT, _⟩ := id hq
  have hwi : inR .i64 (W.length : Int) := small_i64 (by omega) (by omega)
  by_cases h4 : 4 < W.length
  · have h4' : (4 : Int) < W.length := by omega
    simp -implicitDefEqProofs [hwi, h4', hf, zeroI, Ins.row, go_sem, -List.set_cons_succ, -List.set_cons_zero]
    exact ⟨none, Pa.no fun y hy h => by have := (wds_len y).2; rw [← hwd y hy h] at this; omega, rfl⟩
  · have h4' : ¬ (4 : Int) < W.length := by omega
    obtain ⟨w0, wr, rfl⟩ : ∃ w0 wr, W = w0 :: wr := by
      cases W with
      | nil => simp at hcl
      | cons a b => exact ⟨a, b, rfl⟩
    simp only [List.length_cons, Int.natCast_add, Int.cast_ofNat_Int] at hwi h4'
    simp -implicitDefEqProofs [hwi, h4', hf, go_sem, -List.set_cons_succ, -List.set_cons_zero]
    refine loop_set (σ := Nat) (fun i => [(5, .c (.d (.int .i64 i)))]) (fun _ => H) (fun i => [.cells (zeroI.row.map .d)]) (fun i => 1 ≤ i ∧ i ≤ 15 ∧ ∀ y : Ins, y.okB = true → y.op < i → y.fmt ≠ s) (fun i => 15 - i) 1 (by simp [setAll, zeroI, Ins.row]) ⟨by omega, by omega, fun y hy h => ?_⟩ ?_
    · have := (okB_all hy).1
      simp [opOk] at this
      omega
    rintro i ⟨i1, i15, hlow⟩
    by_cases hle : i ≤ 14
    · have hle' : (i : Int) ≤ 14 := by omega
      have hadd : inR .i64 ((i : Int) + 1) := small_i64 (by omega) (by omega)
      have hok : opOk (i : Int) = true := by simp [opOk]; omega
      simp -implicitDefEqProofs [setAll, hle, hle', hf, go_sem, -List.set_cons_succ, -List.set_cons_zero]
      refine qcall_pure (formOf_calls i) hf (by simp [A.re, A.res, C.re]) ?_
      rw [hok]
      simp -implicitDefEqProofs [hf, go_sem, -List.set_cons_succ, -List.set_cons_zero]
      refine row_int (strRow w0) (by omega) (by simp) rfl ?_
      by_cases hw : opWord (i : Int) = w0
      · have hw2 : (opWord (i : Int) != w0) = false := by simp [hw]
        have hwr : wr.length ≤ 1048576 := by simp at hcl; omega
        have hwl : ∀ w ∈ w0 :: wr, w.length ≤ 1048576 := fun w h => Nat.le_trans (hcm w h) hs
        obtain ⟨W1, R1, e1⟩ : ∃ W1 R1, tk (opIA (i : Int)) wr = (W1, R1) := ⟨_, _, rfl⟩
        obtain ⟨W2, R2, e2⟩ : ∃ W2 R2, tk (opB (i : Int)) R1 = (W2, R2) := ⟨_, _, rfl⟩
        obtain ⟨W3, R3, e3⟩ : ∃ W3 R3, tk true R2 = (W3, R3) := ⟨_, _, rfl⟩
        have k1 := tk_le (N := 1048576) (by omega) (fun w h => hwl w (by simp [h])) e1
        have k2 := tk_le (N := 1048576) (by omega) k1.2.2 e2
        have k3 := tk_le (N := 1048576) (by omega) k2.2.2 e3
        have c1 := fun H j hj => take_calls (opIA (i : Int)) wr hwr H j hj
        have c2 := fun H j hj => take_calls (opB (i : Int)) R1 (by omega) H j hj
        have c3 := fun H j hj => take_calls true R2 (by omega) H j hj
        simp only [e1, e2, e3] at c1 c2 c3
        simp -implicitDefEqProofs [strRow, hw, hw2, hf, go_sem, -List.set_cons_succ, -List.set_cons_zero]
        refine ⟨allLen_map fun _ => rfl, by omega, ?_⟩
        simp -implicitDefEqProofs [ptrsOf, go_sem, -List.set_cons_succ, -List.set_cons_zero]
        refine call_atL (j := 3) (c1 _ (H.length + 3) (by simp [strRow])) (by simp [Ob.re, C.re]) (by simp [A.re, C.re]) hf (by simp [zeroI, Ins.row, Ob.re, C.re]) ?_
        simp -implicitDefEqProofs [hf, go_sem, -List.set_cons_succ, -List.set_cons_zero]
        refine call_relA (atoi_any (hq_app hq _) W1 k1.1) hf (by simp [zeroI, Ins.row, Ob.re, C.re]) ?_
        rintro _ ⟨n1, x1, hn1, rfl, hv1⟩
        refine ⟨by simp [A.re, A.res, C.re], ?_⟩
        simp -implicitDefEqProofs [hn1, hf, ptrsOf, go_sem, -List.set_cons_succ, -List.set_cons_zero]
        refine call_atL (j := 3) (c2 _ (H.length + 3) (by simp [strRow])) (by simp [Ob.re, C.re]) (by simp [A.re, C.re]) hf (by simp [zeroI, Ins.row, Ob.re, C.re]) ?_
        simp -implicitDefEqProofs [hf, go_sem, -List.set_cons_succ, -List.set_cons_zero]
        refine call_relA (atoi_any (hq_app hq _) W2 k2.1) hf (by simp [zeroI, Ins.row, Ob.re, C.re]) ?_
        rintro _ ⟨n2, x2, hn2, rfl, hv2⟩
        refine ⟨by simp [A.re, A.res, C.re], ?_⟩
        simp -implicitDefEqProofs [hn2, hf, ptrsOf, go_sem, -List.set_cons_succ, -List.set_cons_zero]
        have hsne : s ≠ [] := fun h => word_ne hok (hw.trans (hs0 h))
        have hii : inR .i64 (i : Int) := small_i64 (by omega) (by omega)
        have step : ∀ T : List UInt8, T = (if opN (i : Int) then W3 else []) → (⟨i, n1, n2, T⟩ : Ins).fmt ≠ s → ∀ y : Ins, y.okB = true → y.op < (i + 1 : Nat) → y.fmt ≠ s := fun T hT' hne y hy h hfy => by
          by_cases ho : y.op = i
          · have := hbt (show Bt (w0 :: wr) (i : Int) ⟨i, n1, n2, T⟩ from ⟨rfl, by show Apv (tk (opIA i) wr).1 n1; rw [e1]; exact hv1, by show Apv (tk (opB i) (tk (opIA i) wr).2).1 n2; rw [e1, e2]; exact hv2, by show T = if opN (i : Int) then (tk true (tk (opB i) (tk (opIA i) wr).2).2).1 else []; rw [e1, e2, e3]; exact hT'⟩) hy hfy ho
            rw [this] at hne
            exact hne hfy
          · exact hlow y hy (by omega) hfy
        cases hN : opN (i : Int) with
        | false =>
          have hx : (⟨i, n1, n2, []⟩ : Ins).ok := ⟨hii, hn1, hn2, by simp⟩
          have cf := fun H' hH' => fmtImpl_calls hT ⟨i, n1, n2, []⟩ hx (by simp) H' hH'
          simp -implicitDefEqProofs [hf, go_sem, -List.set_cons_succ, -List.set_cons_zero]
          refine qcall_tab cf hf g0 rfl ?_
          by_cases hfm : (⟨i, n1, n2, []⟩ : Ins).fmt = s
          · simp -implicitDefEqProofs [hfm, zeroI, Ins.row, hf, go_sem, -List.set_cons_succ, -List.set_cons_zero]
            exact ⟨some _, Pa.yes hfm hsne hx, rfl⟩
          · simp -implicitDefEqProofs [hfm, hadd, hf, go_sem, -List.set_cons_succ, -List.set_cons_zero]
            refine loop_less (i + 1) (St.le_cut [_, _, _] ?_ (by simp [Sl.le, A.le_refl_iff, A.le_u_iff, As.lo, A.lo, C.lo, Ref.lo, Cs.lo, Obs.lo, Ob.lo, setAll, and_true, true_and, List.length_nil, List.length_cons]) rfl (by simp [zeroI, Ins.row, Sl.le, A.le_refl_iff, A.le_u_iff, As.lo, A.lo, C.lo, Ref.lo, Cs.lo, Obs.lo, Ob.lo, setAll, and_true, true_and, List.length_nil, List.length_cons])) ⟨by omega, by omega, step [] (by rw [hN]; rfl) hfm⟩ (by show 15 - (i + 1) < 15 - i; omega)
            simp [setAll, Sl.le, A.le_refl_iff, A.le_u_iff, As.lo, A.lo, C.lo, Ref.lo, Cs.lo, Obs.lo, Ob.lo, setAll, and_true, true_and, List.length_nil, List.length_cons]
        | true =>
          have hx : (⟨i, n1, n2, W3⟩ : Ins).ok := ⟨hii, hn1, hn2, by have := k3.1; show W3.length ≤ reachBytes; unfold reachBytes; omega⟩
          have cf := fun H' hH' => fmtImpl_calls hT ⟨i, n1, n2, W3⟩ hx (by have := k3.1; simp only; omega) H' hH'
          simp -implicitDefEqProofs [hf, ptrsOf, go_sem, -List.set_cons_succ, -List.set_cons_zero]
          refine call_atL (j := 3) (c3 _ (H.length + 3) (by simp [strRow])) (by simp [Ob.re, C.re]) (by simp [A.re, C.re]) hf (by simp [zeroI, Ins.row, Ob.re, C.re]) ?_
          simp -implicitDefEqProofs [hf, go_sem, -List.set_cons_succ, -List.set_cons_zero]
          refine qcall_tab cf hf g0 rfl ?_
          by_cases hfm : (⟨i, n1, n2, W3⟩ : Ins).fmt = s
          · simp -implicitDefEqProofs [hfm, zeroI, Ins.row, hf, go_sem, -List.set_cons_succ, -List.set_cons_zero]
            exact ⟨some _, Pa.yes hfm hsne hx, rfl⟩
          · simp -implicitDefEqProofs [hfm, hadd, hf, go_sem, -List.set_cons_succ, -List.set_cons_zero]
            refine loop_less (i + 1) (St.le_cut [_, _, _] ?_ (by simp [Sl.le, A.le_refl_iff, A.le_u_iff, As.lo, A.lo, C.lo, Ref.lo, Cs.lo, Obs.lo, Ob.lo, setAll, and_true, true_and, List.length_nil, List.length_cons]) rfl (by simp [zeroI, Ins.row, Sl.le, A.le_refl_iff, A.le_u_iff, As.lo, A.lo, C.lo, Ref.lo, Cs.lo, Obs.lo, Ob.lo, setAll, and_true, true_and, List.length_nil, List.length_cons])) ⟨by omega, by omega, step W3 (by rw [hN]; rfl) hfm⟩ (by show 15 - (i + 1) < 15 - i; omega)
            simp [setAll, Sl.le, A.le_refl_iff, A.le_u_iff, As.lo, A.lo, C.lo, Ref.lo, Cs.lo, Obs.lo, Ob.lo, setAll, and_true, true_and, List.length_nil, List.length_cons]
      · have hw2 : (opWord (i : Int) != w0) = true := by simp [hw]
        simp -implicitDefEqProofs [strRow, hw, hw2, hadd, hf, go_sem, -List.set_cons_succ, -List.set_cons_zero]
        refine loop_less (i + 1) (St.le_cut [_] ?_ (by simp [Sl.le, A.le_refl_iff, A.le_u_iff, As.lo, A.lo, C.lo, Ref.lo, Cs.lo, Obs.lo, Ob.lo, setAll, and_true, true_and, List.length_nil, List.length_cons]) rfl (by simp [zeroI, Ins.row, Sl.le, A.le_refl_iff, A.le_u_iff, As.lo, A.lo, C.lo, Ref.lo, Cs.lo, Obs.lo, Ob.lo, setAll, and_true, true_and, List.length_nil, List.length_cons])) ⟨by omega, by omega, fun y hy h => ?_⟩ (by show 15 - (i + 1) < 15 - i; omega)
        · simp [setAll, Sl.le, A.le_refl_iff, A.le_u_iff, As.lo, A.lo, C.lo, Ref.lo, Cs.lo, Obs.lo, Ob.lo, setAll, and_true, true_and, List.length_nil, List.length_cons]
        · by_cases ho : y.op = i
          · exact hno (show (w0 :: wr).headD [] ≠ opWord (i : Int) from fun e => hw e.symm) y hy ho
          · exact hlow y hy (by omega)
    · have hle' : ¬ (i : Int) ≤ 14 := by omega
      simp -implicitDefEqProofs [setAll, hle, hle', hf, zeroI, Ins.row, go_sem, -List.set_cons_succ, -List.set_cons_zero]
      refine ⟨none, Pa.no fun y hy => hlow y hy ?_, rfl⟩
      have := (okB_all hy).1
      simp [opOk] at this
      omega
end Go.Proofs.YtbblefjbgbocoaaDoor

/-
  Texts of instructions: the reference.
  Conditions: none.
-/
open Go Go.AM Go.Proofs
namespace Go.Proofs.YtbblefjbgbocoaaDoor
open Go.ChangeShapes Go.WideShapes Go.ChangeAt Go.RowKit
set_option linter.unusedVariables false
set_option linter.unusedSimpArgs false
set_option maxRecDepth 100000
theorem okB_out {op a b : Int} {s : List UInt8} (h : ((a < -999 ∨ 999 < a) ∨ b < 0) ∨ 999 < b) : (⟨op, a, b, s⟩ : Ins).okB = false := by
  cases h1 : (⟨op, a, b, s⟩ : Ins).okB with
  | false => rfl
  | true =>
    simp [Ins.okB] at h1
    omega
theorem okB_in {op a b : Int} {s : List UInt8} (h : (⟨op, a, b, s⟩ : Ins).okB = true) : -999 ≤ a ∧ a ≤ 999 ∧ 0 ≤ b ∧ b ≤ 999 := by
  simp [Ins.okB] at h
  omega
theorem emp_eq (s : List UInt8) : (s == []) = s.isEmpty := by cases s <;> rfl
set_option maxHeartbeats 3200000 in
theorem l8Instr_0 (op a b : Int) (s : List UInt8) (hs : s.length ≤ 1048576) (e1 : opOk op = false) (e2 : opIA op = false) (e3 : opB op = false) (e4 : opN op = false) (H : Heap) : ACalls Tryd.prog 19 [.agg ((⟨op, a, b, s⟩ : Ins).row.map .d)] H (fun r H' => H' = H ∧ r = .c (.d (.bool (⟨op, a, b, s⟩ : Ins).okB))) := by
  refine acalls Tryd.func19 (by kernel_rfl) ac19_ok fun hf => ?_
  simp -implicitDefEqProofs [ac19, Ins.row, go_sem, -List.set_cons_succ, -List.set_cons_zero]
  refine qcall_pure (shapeOf_calls op) hf rfl ?_
  simp -implicitDefEqProofs [opShape, e1, e2, e3, e4, Ins.okB, go_sem, -List.set_cons_succ, -List.set_cons_zero]
set_option maxHeartbeats 3200000 in
theorem l8Instr_1 (op a b : Int) (s : List UInt8) (hs : s.length ≤ 1048576) (e1 : opOk op = true) (e2 : opIA op = true) (e3 : opB op = true) (e4 : opN op = false) (H : Heap) : ACalls Tryd.prog 19 [.agg ((⟨op, a, b, s⟩ : Ins).row.map .d)] H (fun r H' => H' = H ∧ r = .c (.d (.bool (⟨op, a, b, s⟩ : Ins).okB))) := by
  refine acalls Tryd.func19 (by kernel_rfl) ac19_ok fun hf => ?_
  simp -implicitDefEqProofs [ac19, Ins.row, go_sem, -List.set_cons_succ, -List.set_cons_zero]
  refine qcall_pure (shapeOf_calls op) hf rfl ?_
  simp -implicitDefEqProofs [opShape, e1, e2, e3, e4, go_sem, -List.set_cons_succ, -List.set_cons_zero]
  refine ⟨okB_out, fun a1 a2 b1 b2 => ?_⟩
  simp [a1, a2, b1, b2, e1, e2, e3, e4, Ins.okB, emp_eq, Bool.and_assoc]
set_option maxHeartbeats 3200000 in
theorem l8Instr_2 (op a b : Int) (s : List UInt8) (hs : s.length ≤ 1048576) (e1 : opOk op = true) (e2 : opIA op = true) (e3 : opB op = true) (e4 : opN op = true) (H : Heap) : ACalls Tryd.prog 19 [.agg ((⟨op, a, b, s⟩ : Ins).row.map .d)] H (fun r H' => H' = H ∧ r = .c (.d (.bool (⟨op, a, b, s⟩ : Ins).okB))) := by
  refine acalls Tryd.func19 (by kernel_rfl) ac19_ok fun hf => ?_
  simp -implicitDefEqProofs [ac19, Ins.row, go_sem, -List.set_cons_succ, -List.set_cons_zero]
  refine qcall_pure (shapeOf_calls op) hf rfl ?_
  simp -implicitDefEqProofs [opShape, e1, e2, e3, e4, go_sem, -List.set_cons_succ, -List.set_cons_zero]
  refine ⟨okB_out, fun a1 a2 b1 b2 => ?_⟩
  refine qcall_pure (nvSpec_calls s (by omega)) hf rfl ?_
  simp -implicitDefEqProofs [e3, go_sem, -List.set_cons_succ, -List.set_cons_zero]
  simp [a1, a2, b1, b2, e1, e2, e3, e4, Ins.okB]
set_option maxHeartbeats 3200000 in
theorem l8Instr_3 (op a b : Int) (s : List UInt8) (hs : s.length ≤ 1048576) (e1 : opOk op = true) (e2 : opIA op = true) (e3 : opB op = false) (e4 : opN op = false) (H : Heap) : ACalls Tryd.prog 19 [.agg ((⟨op, a, b, s⟩ : Ins).row.map .d)] H (fun r H' => H' = H ∧ r = .c (.d (.bool (⟨op, a, b, s⟩ : Ins).okB))) := by
  refine acalls Tryd.func19 (by kernel_rfl) ac19_ok fun hf => ?_
  simp -implicitDefEqProofs [ac19, Ins.row, go_sem, -List.set_cons_succ, -List.set_cons_zero]
  refine qcall_pure (shapeOf_calls op) hf rfl ?_
  simp -implicitDefEqProofs [opShape, e1, e2, e3, e4, go_sem, -List.set_cons_succ, -List.set_cons_zero]
  refine ⟨okB_out, fun a1 a2 b1 b2 => ?_⟩
  simp [a1, a2, b1, b2, e1, e2, e3, e4, Ins.okB, emp_eq, Bool.and_assoc]
set_option maxHeartbeats 3200000 in
theorem l8Instr_4 (op a b : Int) (s : List UInt8) (hs : s.length ≤ 1048576) (e1 : opOk op = true) (e2 : opIA op = true) (e3 : opB op = false) (e4 : opN op = true) (H : Heap) : ACalls Tryd.prog 19 [.agg ((⟨op, a, b, s⟩ : Ins).row.map .d)] H (fun r H' => H' = H ∧ r = .c (.d (.bool (⟨op, a, b, s⟩ : Ins).okB))) := by
  refine acalls Tryd.func19 (by kernel_rfl) ac19_ok fun hf => ?_
  simp -implicitDefEqProofs [ac19, Ins.row, go_sem, -List.set_cons_succ, -List.set_cons_zero]
  refine qcall_pure (shapeOf_calls op) hf rfl ?_
  by_cases hb0 : b = 0
  case neg =>
    have hb1 : (b == 0) = false := by simpa using hb0
    have hk : (⟨op, a, b, s⟩ : Ins).okB = false := by simp [Ins.okB, e3, hb1]
    simp -implicitDefEqProofs [opShape, e1, e2, e3, e4, hb0, hb1, hk, go_sem, -List.set_cons_succ, -List.set_cons_zero]
  subst hb0
  simp -implicitDefEqProofs [opShape, e1, e2, e3, e4, go_sem, -List.set_cons_succ, -List.set_cons_zero]
  refine ⟨fun h => okB_out (by omega), fun a1 a2 => ?_⟩
  refine qcall_pure (nvSpec_calls s (by omega)) hf rfl ?_
  simp -implicitDefEqProofs [e3, go_sem, -List.set_cons_succ, -List.set_cons_zero]
  simp [a1, a2, e1, e2, e3, e4, Ins.okB]
set_option maxHeartbeats 3200000 in
theorem l8Instr_5 (op a b : Int) (s : List UInt8) (hs : s.length ≤ 1048576) (e1 : opOk op = true) (e2 : opIA op = false) (e3 : opB op = false) (e4 : opN op = false) (H : Heap) : ACalls Tryd.prog 19 [.agg ((⟨op, a, b, s⟩ : Ins).row.map .d)] H (fun r H' => H' = H ∧ r = .c (.d (.bool (⟨op, a, b, s⟩ : Ins).okB))) := by
  refine acalls Tryd.func19 (by kernel_rfl) ac19_ok fun hf => ?_
  simp -implicitDefEqProofs [ac19, Ins.row, go_sem, -List.set_cons_succ, -List.set_cons_zero]
  refine qcall_pure (shapeOf_calls op) hf rfl ?_
  simp -implicitDefEqProofs [opShape, e1, e2, e3, e4, go_sem, -List.set_cons_succ, -List.set_cons_zero]
  refine ⟨okB_out, fun a1 a2 b1 b2 => ?_⟩
  simp [a1, a2, b1, b2, e1, e2, e3, e4, Ins.okB, emp_eq, Bool.and_assoc]
set_option maxHeartbeats 3200000 in
theorem fmtSpec_0 (op a b : Int) (s : List UInt8) (h1 : inR .i64 op) (h2 : inR .i64 a) (h3 : inR .i64 b) (hs : s.length ≤ 1048576) (e1 : opOk op = false) (e2 : opIA op = false) (e3 : opB op = false) (e4 : opN op = false) (H : Heap) : ACalls Tryd.prog 11 [.agg ((⟨op, a, b, s⟩ : Ins).row.map .d)] H (fun r H' => H' = H ∧ r = .c (.d (.str (⟨op, a, b, s⟩ : Ins).fmt))) := by
  have hi := l8Instr_0 op a b s hs e1 e2 e3 e4
  have hw := opWord_len op
  obtain ⟨la, lb⟩ := fmt_lens h2 h3
  refine acalls Tryd.func11 (by kernel_rfl) ac11_ok fun hf => ?_
  simp -implicitDefEqProofs [ac11, Ins.row, go_sem, -List.set_cons_succ, -List.set_cons_zero]
  simp [Ins.row] at hi
  refine qcall_pure hi hf rfl ?_
  cases hk : (⟨op, a, b, s⟩ : Ins).okB with
  | false => simp -implicitDefEqProofs [hk, Ins.fmt, go_sem, -List.set_cons_succ, -List.set_cons_zero]
  | true =>
    obtain ⟨a1, a2, b1, b2⟩ := okB_in hk
    simp [Ins.okB, e1] at hk
set_option maxHeartbeats 3200000 in
theorem fmtSpec_1 (op a b : Int) (s : List UInt8) (h1 : inR .i64 op) (h2 : inR .i64 a) (h3 : inR .i64 b) (hs : s.length ≤ 1048576) (e1 : opOk op = true) (e2 : opIA op = true) (e3 : opB op = true) (e4 : opN op = false) (H : Heap) : ACalls Tryd.prog 11 [.agg ((⟨op, a, b, s⟩ : Ins).row.map .d)] H (fun r H' => H' = H ∧ r = .c (.d (.str (⟨op, a, b, s⟩ : Ins).fmt))) := by
  have hi := l8Instr_1 op a b s hs e1 e2 e3 e4
  have hw := opWord_len op
  obtain ⟨la, lb⟩ := fmt_lens h2 h3
  refine acalls Tryd.func11 (by kernel_rfl) ac11_ok fun hf => ?_
  simp -implicitDefEqProofs [ac11, Ins.row, go_sem, -List.set_cons_succ, -List.set_cons_zero]
  simp [Ins.row] at hi
  refine qcall_pure hi hf rfl ?_
  cases hk : (⟨op, a, b, s⟩ : Ins).okB with
  | false => simp -implicitDefEqProofs [hk, Ins.fmt, go_sem, -List.set_cons_succ, -List.set_cons_zero]
  | true =>
    obtain ⟨a1, a2, b1, b2⟩ := okB_in hk
    obtain ⟨o1, o2⟩ : 1 ≤ op ∧ op ≤ 14 := by simpa [opOk] using e1
    simp -implicitDefEqProofs [hk, go_sem, -List.set_cons_succ, -List.set_cons_zero]
    refine qcall_pure names_calls hf rfl ?_
    simp -implicitDefEqProofs [namesL_len, go_sem, -List.set_cons_succ, -List.set_cons_zero]
    refine row_int [.str (opWord op)] (by omega) ?_ rfl ?_
    · exact names_at (by omega) (by omega)
    simp -implicitDefEqProofs [go_sem, -List.set_cons_succ, -List.set_cons_zero]
    refine qcall_pure (shapeOf_calls op) hf rfl ?_
    simp -implicitDefEqProofs [opShape, e1, e2, e3, e4, maxStr, go_sem, -List.set_cons_succ, -List.set_cons_zero]
    refine ⟨by omega, qcall_pure (dec1_calls a (by omega) (by omega)) hf rfl ?_⟩
    simp -implicitDefEqProofs [maxStr, go_sem, -List.set_cons_succ, -List.set_cons_zero]
    refine ⟨by omega, by omega, qcall_pure (dec1_calls b (by omega) (by omega)) hf rfl ?_⟩
    simp -implicitDefEqProofs [hk, e1, e2, e3, e4, Ins.fmt, maxStr, go_sem, -List.set_cons_succ, -List.set_cons_zero]
    omega
set_option maxHeartbeats 3200000 in
theorem fmtSpec_2 (op a b : Int) (s : List UInt8) (h1 : inR .i64 op) (h2 : inR .i64 a) (h3 : inR .i64 b) (hs : s.length ≤ 1048576) (e1 : opOk op = true) (e2 : opIA op = true) (e3 : opB op = true) (e4 : opN op = true) (H : Heap) : ACalls Tryd.prog 11 [.agg ((⟨op, a, b, s⟩ : Ins).row.map .d)] H (fun r H' => H' = H ∧ r = .c (.d (.str (⟨op, a, b, s⟩ : Ins).fmt))) := by
  have hi := l8Instr_2 op a b s hs e1 e2 e3 e4
  have hw := opWord_len op
  obtain ⟨la, lb⟩ := fmt_lens h2 h3
  refine acalls Tryd.func11 (by kernel_rfl) ac11_ok fun hf => ?_
  simp -implicitDefEqProofs [ac11, Ins.row, go_sem, -List.set_cons_succ, -List.set_cons_zero]
  simp [Ins.row] at hi
  refine qcall_pure hi hf rfl ?_
  cases hk : (⟨op, a, b, s⟩ : Ins).okB with
  | false => simp -implicitDefEqProofs [hk, Ins.fmt, go_sem, -List.set_cons_succ, -List.set_cons_zero]
  | true =>
    obtain ⟨a1, a2, b1, b2⟩ := okB_in hk
    obtain ⟨o1, o2⟩ : 1 ≤ op ∧ op ≤ 14 := by simpa [opOk] using e1
    simp -implicitDefEqProofs [hk, go_sem, -List.set_cons_succ, -List.set_cons_zero]
    refine qcall_pure names_calls hf rfl ?_
    simp -implicitDefEqProofs [namesL_len, go_sem, -List.set_cons_succ, -List.set_cons_zero]
    refine row_int [.str (opWord op)] (by omega) ?_ rfl ?_
    · exact names_at (by omega) (by omega)
    simp -implicitDefEqProofs [go_sem, -List.set_cons_succ, -List.set_cons_zero]
    refine qcall_pure (shapeOf_calls op) hf rfl ?_
    simp -implicitDefEqProofs [opShape, e1, e2, e3, e4, maxStr, go_sem, -List.set_cons_succ, -List.set_cons_zero]
    refine ⟨by omega, qcall_pure (dec1_calls a (by omega) (by omega)) hf rfl ?_⟩
    simp -implicitDefEqProofs [maxStr, go_sem, -List.set_cons_succ, -List.set_cons_zero]
    refine ⟨by omega, by omega, qcall_pure (dec1_calls b (by omega) (by omega)) hf rfl ?_⟩
    simp -implicitDefEqProofs [hk, e1, e2, e3, e4, Ins.fmt, maxStr, go_sem, -List.set_cons_succ, -List.set_cons_zero]
    omega
set_option maxHeartbeats 3200000 in
theorem fmtSpec_3 (op a b : Int) (s : List UInt8) (h1 : inR .i64 op) (h2 : inR .i64 a) (h3 : inR .i64 b) (hs : s.length ≤ 1048576) (e1 : opOk op = true) (e2 : opIA op = true) (e3 : opB op = false) (e4 : opN op = false) (H : Heap) : ACalls Tryd.prog 11 [.agg ((⟨op, a, b, s⟩ : Ins).row.map .d)] H (fun r H' => H' = H ∧ r = .c (.d (.str (⟨op, a, b, s⟩ : Ins).fmt))) := by
  have hi := l8Instr_3 op a b s hs e1 e2 e3 e4
  have hw := opWord_len op
  obtain ⟨la, lb⟩ := fmt_lens h2 h3
  refine acalls Tryd.func11 (by kernel_rfl) ac11_ok fun hf => ?_
  simp -implicitDefEqProofs [ac11, Ins.row, go_sem, -List.set_cons_succ, -List.set_cons_zero]
  simp [Ins.row] at hi
  refine qcall_pure hi hf rfl ?_
  cases hk : (⟨op, a, b, s⟩ : Ins).okB with
  | false => simp -implicitDefEqProofs [hk, Ins.fmt, go_sem, -List.set_cons_succ, -List.set_cons_zero]
  | true =>
    obtain ⟨a1, a2, b1, b2⟩ := okB_in hk
    obtain ⟨o1, o2⟩ : 1 ≤ op ∧ op ≤ 14 := by simpa [opOk] using e1
    simp -implicitDefEqProofs [hk, go_sem, -List.set_cons_succ, -List.set_cons_zero]
    refine qcall_pure names_calls hf rfl ?_
    simp -implicitDefEqProofs [namesL_len, go_sem, -List.set_cons_succ, -List.set_cons_zero]
    refine row_int [.str (opWord op)] (by omega) ?_ rfl ?_
    · exact names_at (by omega) (by omega)
    simp -implicitDefEqProofs [go_sem, -List.set_cons_succ, -List.set_cons_zero]
    refine qcall_pure (shapeOf_calls op) hf rfl ?_
    simp -implicitDefEqProofs [opShape, e1, e2, e3, e4, maxStr, go_sem, -List.set_cons_succ, -List.set_cons_zero]
    refine ⟨by omega, qcall_pure (dec1_calls a (by omega) (by omega)) hf rfl ?_⟩
    simp -implicitDefEqProofs [hk, e1, e2, e3, e4, Ins.fmt, maxStr, go_sem, -List.set_cons_succ, -List.set_cons_zero]
    omega
set_option maxHeartbeats 3200000 in
theorem fmtSpec_4 (op a b : Int) (s : List UInt8) (h1 : inR .i64 op) (h2 : inR .i64 a) (h3 : inR .i64 b) (hs : s.length ≤ 1048576) (e1 : opOk op = true) (e2 : opIA op = true) (e3 : opB op = false) (e4 : opN op = true) (H : Heap) : ACalls Tryd.prog 11 [.agg ((⟨op, a, b, s⟩ : Ins).row.map .d)] H (fun r H' => H' = H ∧ r = .c (.d (.str (⟨op, a, b, s⟩ : Ins).fmt))) := by
  have hi := l8Instr_4 op a b s hs e1 e2 e3 e4
  have hw := opWord_len op
  obtain ⟨la, lb⟩ := fmt_lens h2 h3
  refine acalls Tryd.func11 (by kernel_rfl) ac11_ok fun hf => ?_
  simp -implicitDefEqProofs [ac11, Ins.row, go_sem, -List.set_cons_succ, -List.set_cons_zero]
  simp [Ins.row] at hi
  refine qcall_pure hi hf rfl ?_
  cases hk : (⟨op, a, b, s⟩ : Ins).okB with
  | false => simp -implicitDefEqProofs [hk, Ins.fmt, go_sem, -List.set_cons_succ, -List.set_cons_zero]
  | true =>
    obtain ⟨a1, a2, b1, b2⟩ := okB_in hk
    obtain ⟨o1, o2⟩ : 1 ≤ op ∧ op ≤ 14 := by simpa [opOk] using e1
    simp -implicitDefEqProofs [hk, go_sem, -List.set_cons_succ, -List.set_cons_zero]
    refine qcall_pure names_calls hf rfl ?_
    simp -implicitDefEqProofs [namesL_len, go_sem, -List.set_cons_succ, -List.set_cons_zero]
    refine row_int [.str (opWord op)] (by omega) ?_ rfl ?_
    · exact names_at (by omega) (by omega)
    simp -implicitDefEqProofs [go_sem, -List.set_cons_succ, -List.set_cons_zero]
    refine qcall_pure (shapeOf_calls op) hf rfl ?_
    simp -implicitDefEqProofs [opShape, e1, e2, e3, e4, maxStr, go_sem, -List.set_cons_succ, -List.set_cons_zero]
    refine ⟨by omega, qcall_pure (dec1_calls a (by omega) (by omega)) hf rfl ?_⟩
    simp -implicitDefEqProofs [hk, e1, e2, e3, e4, Ins.fmt, maxStr, go_sem, -List.set_cons_succ, -List.set_cons_zero]
    omega
set_option maxHeartbeats 3200000 in
theorem fmtSpec_5 (op a b : Int) (s : List UInt8) (h1 : inR .i64 op) (h2 : inR .i64 a) (h3 : inR .i64 b) (hs : s.length ≤ 1048576) (e1 : opOk op = true) (e2 : opIA op = false) (e3 : opB op = false) (e4 : opN op = false) (H : Heap) : ACalls Tryd.prog 11 [.agg ((⟨op, a, b, s⟩ : Ins).row.map .d)] H (fun r H' => H' = H ∧ r = .c (.d (.str (⟨op, a, b, s⟩ : Ins).fmt))) := by
  have hi := l8Instr_5 op a b s hs e1 e2 e3 e4
  have hw := opWord_len op
  obtain ⟨la, lb⟩ := fmt_lens h2 h3
  refine acalls Tryd.func11 (by kernel_rfl) ac11_ok fun hf => ?_
  simp -implicitDefEqProofs [ac11, Ins.row, go_sem, -List.set_cons_succ, -List.set_cons_zero]
  simp [Ins.row] at hi
  refine qcall_pure hi hf rfl ?_
  cases hk : (⟨op, a, b, s⟩ : Ins).okB with
  | false => simp -implicitDefEqProofs [hk, Ins.fmt, go_sem, -List.set_cons_succ, -List.set_cons_zero]
  | true =>
    obtain ⟨a1, a2, b1, b2⟩ := okB_in hk
    obtain ⟨o1, o2⟩ : 1 ≤ op ∧ op ≤ 14 := by simpa [opOk] using e1
    simp -implicitDefEqProofs [hk, go_sem, -List.set_cons_succ, -List.set_cons_zero]
    refine qcall_pure names_calls hf rfl ?_
    simp -implicitDefEqProofs [namesL_len, go_sem, -List.set_cons_succ, -List.set_cons_zero]
    refine row_int [.str (opWord op)] (by omega) ?_ rfl ?_
    · exact names_at (by omega) (by omega)
    simp -implicitDefEqProofs [go_sem, -List.set_cons_succ, -List.set_cons_zero]
    refine qcall_pure (shapeOf_calls op) hf rfl ?_
    simp -implicitDefEqProofs [opShape, e1, e2, e3, e4, maxStr, go_sem, -List.set_cons_succ, -List.set_cons_zero]
    simp [hk, e1, e2, e3, e4, Ins.fmt]
set_option maxHeartbeats 3200000 in
theorem fmtSpec_calls (x : Ins) (hx : x.ok) (hs : x.text.length ≤ 1048576) (H : Heap) : ACalls Tryd.prog 11 [.agg (x.row.map .d)] H (fun r H' => H' = H ∧ r = .c (.d (.str x.fmt))) := by
  obtain ⟨op, a, b, s⟩ := x
  obtain ⟨h1, h2, h3, h4⟩ := hx
  rcases op_bits op with ⟨e1, e2, e3, e4⟩ | ⟨e1, e2, e3, e4⟩ | ⟨e1, e2, e3, e4⟩ | ⟨e1, e2, e3, e4⟩ | ⟨e1, e2, e3, e4⟩ | ⟨e1, e2, e3, e4⟩
  · exact fmtSpec_0 op a b s h1 h2 h3 hs e1 e2 e3 e4 H
  · exact fmtSpec_1 op a b s h1 h2 h3 hs e1 e2 e3 e4 H
  · exact fmtSpec_2 op a b s h1 h2 h3 hs e1 e2 e3 e4 H
  · exact fmtSpec_3 op a b s h1 h2 h3 hs e1 e2 e3 e4 H
  · exact fmtSpec_4 op a b s h1 h2 h3 hs e1 e2 e3 e4 H
  · exact fmtSpec_5 op a b s h1 h2 h3 hs e1 e2 e3 e4 H
end Go.Proofs.YtbblefjbgbocoaaDoor
