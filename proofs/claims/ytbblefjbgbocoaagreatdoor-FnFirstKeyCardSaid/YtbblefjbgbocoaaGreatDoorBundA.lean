/-
  Contracts of functions that the law reaches, and plain lemmas: several texts in one.
  Conditions: none.
-/
import Derived.Test.YtbblefjbgbocoaaGreatDoorRows
import Derived.KernelRfl
import Derived.Test.YtbblefjbgbocoaaGreatDoorAbsN
import Derived.Lib.ItoaNum
import Derived.Shelf.Strconv.Itoa3
import Derived.MakeChecks
import Derived.LaidMore
import Derived.Shelf.LaysM
open Go Go.AM Go.Proofs
attribute [local go_sem] kw ew sw tw a_ b_ c_ A.ok A.val d_ e_ f_ g_ h_ i_ j_ k_ l_ m_ unA unD n_ AOp.total o_ p_ q_ r_ s_ t_ u_ v_ A.thaw C.thaw A.fits As.fits C.fits evs oks w_ A.pure C.pure A.re C.re x_ y_ cut A.cells C.rows? z_ A_ B_ C_ a0_ b0_ D_ Ob.re Cs.fits E_ F_ G_ H_ I_ J_ K_ L_ M_ N_ O_ C.toD P_ Q_ R_ S_ T_ Obs.fits U_ eqD V_ W_ X_ Y_ Z_
/-
  Small facts that the proofs of this seat share.
  Conditions: none.
-/
open Go Go.AM Go.Proofs
namespace Go.Proofs.YtbblefjbgbocoaaGreatDoor
set_option linter.unusedVariables false
set_option linter.unusedSimpArgs false
theorem small_i64 {n : Int} (h : -1000000000000000 ≤ n) (h' : n ≤ 1000000000000000) : inR .i64 n := by
  unfold inR
  simp [IntKind.min, IntKind.max, IntKind.signed, IntKind.bits]
  omega
theorem reach_i64 {n : Nat} (h : n ≤ reachBytes) : inR .i64 (n : Int) := by simp only [inR, IntKind.min, IntKind.max, IntKind.signed, IntKind.bits, reachBytes] at *; omega
theorem i64_def {n : Int} : inR .i64 n ↔ -9223372036854775808 ≤ n ∧ n ≤ 9223372036854775807 := by
  unfold inR
  simp [IntKind.min, IntKind.max, IntKind.signed, IntKind.bits]
/-- the result of a call of a size: how much is left; where something is left, P holds -/
def Left (m : Int) (P : Prop) (r : A) : Prop := ∃ n : Int, r = .c (.d (.int .i64 n)) ∧ -1 ≤ n ∧ n ≤ m ∧ (0 ≤ n → P)
theorem Left.re {m : Int} {P : Prop} {r : A} {n : Nat} (h : Left m P r) : A.re n r = r := by
  obtain ⟨k, rfl, _⟩ := h
  rfl
/-- rows that are laid one by one -/
def fill {α : Type} (f : α → List D) (z : List D) (l : List α) (i : Nat) : List (List D) := (l.take i).map f ++ List.replicate (l.length - i) z
theorem list_of_ty {α : Type} {f : α → List D} {p : α → Prop} : ∀ {rows : List (List D)}, (∀ r ∈ rows, ∃ x : α, r = f x ∧ p x) → ∃ l : List α, rows = l.map f ∧ ∀ x ∈ l, p x
  | [], _ => ⟨[], rfl, fun x h => by cases h⟩
  | r :: rs, h => by
    obtain ⟨x, rfl, hx⟩ := h r (by simp)
    obtain ⟨l, rfl, hl⟩ := list_of_ty (rows := rs) (f := f) (p := p) (fun r hr => h r (by simp [hr]))
    refine ⟨x :: l, rfl, fun y hy => ?_⟩
    rcases List.mem_cons.1 hy with rfl | hy
    · exact hx
    · exact hl y hy
theorem isEmpty_len {α : Type} (l : List α) : ((l.length : Int) == 0) = l.isEmpty := by cases l <;> simp; omega
def intRows (l : List Int) : List (List D) := l.map fun n => [.int .i64 n]
theorem allLen_ints (l : List Int) : allLen 1 (intRows l) := allLen_map fun _ => rfl
end Go.Proofs.YtbblefjbgbocoaaGreatDoor

/-
  How long a numeral is.
  Conditions: none.
-/
open Go Go.AM Go.Proofs
namespace Go.Proofs.YtbblefjbgbocoaaGreatDoor
set_option linter.unusedVariables false
set_option linter.unusedSimpArgs false
set_option maxRecDepth 100000
theorem itoa_len (n : Int) (h0 : -9223372036854775808 ≤ n) (h1 : n ≤ 9223372036854775807) : (Lib.itoa n).length ≤ 1000000 := by
  have key : ∀ k u : Nat, u < 10 ^ k → 0 < k → (Lib.decDigits u).length ≤ k := by
    intro k
    induction k with
    | zero => omega
    | succ k ih =>
      intro u hu _
      rw [Lib.decDigits]
      split
      · simp
      · rename_i hge
        have hk : 0 < k := by
          rcases Nat.eq_zero_or_pos k with e | e
          · subst e; simp at hu; omega
          · exact e
        have := ih (u / 10) (by rw [Nat.pow_succ] at hu; omega) hk
        simp
        omega
  unfold Lib.itoa
  split
  · have := key 30 n.natAbs (by omega) (by omega)
    simp
    omega
  · have := key 30 n.toNat (by omega) (by omega)
    omega
end Go.Proofs.YtbblefjbgbocoaaGreatDoor

/-
  Numerals of the reference.
  Conditions: none.
-/
open Go Go.AM Go.Proofs
namespace Go.Proofs.YtbblefjbgbocoaaGreatDoor
open Go.ChangeShapes Go.WideShapes Go.ChangeAt Go.RowKit
set_option linter.unusedVariables false
set_option linter.unusedSimpArgs false
set_option maxRecDepth 100000
-- 105 loop.example/prologserver/spec.l18Dec params 1 ntmps 31
-- loop head live: [0,3]
def ac105 : Cd := .seq (.region [⟨(some 2),.mv (.k (.c (.d (.str [])))),none⟩] [2])
 (.seq (.seq (.region [⟨(some 4),.mv (.t 0),none⟩,
 ⟨(some 5),.bin .lss (.t 4) (.k (.c (.d (.int .i64 (-9223372036854775807))))),none⟩] [4])
 (.cond (.t 5)
 (.seq (.region [⟨(some 2),.mv (.k (.c (.d (.str [45,57,50,50,51,51,55,50,48,51,54,56,53,52,55,55,53,56,48,56])))),none⟩] [0,5])
 (.ret))
 (.skip)))
 (.seq (.seq (.region [⟨(some 6),.mv (.t 0),none⟩,
 ⟨(some 7),.bin .lss (.t 6) (.k (.c (.d (.int .i64 0)))),none⟩] [2,5,6])
 (.cond (.t 7)
 (.seq (.region [⟨(some 8),.mv (.t 0),none⟩,
 ⟨(some 9),.un .neg (.t 8),none⟩,
 ⟨(some 10),.qcall 105 [(.t 9)],none⟩,
 ⟨(some 11),.bin .add (.k (.c (.d (.str [45])))) (.t 10),none⟩,
 ⟨(some 2),.mv (.t 11),none⟩] [0,7,8,9,10,11])
 (.ret))
 (.skip)))
 (.seq (.region [⟨(some 3),.mv (.k (.c (.d (.str [])))),none⟩] [2,7])
 (.seq (.block 0 (.loop (.seq (.seq (.region [⟨(some 12),.mv (.t 0),none⟩,
 ⟨(some 13),.bin .gtr (.t 12) (.k (.c (.d (.int .i64 9)))),none⟩] [12])
 (.cond (.t 13)
 (.skip)
 (.exit 0)))
 (.block 1 (.seq (.region [⟨(some 14),.mv (.t 0),none⟩,
 ⟨(some 15),.bin .rem (.t 14) (.k (.c (.d (.int .i64 10)))),none⟩,
 ⟨(some 16),.bin .add (.k (.c (.d (.int .i64 48)))) (.t 15),none⟩,
 ⟨(some 17),.cvInt .u8 (.t 16),none⟩,
 ⟨(some 18),.buildSlice 1 1 [(.int .u8 0)] [(0,(.t 17))],none⟩,
 ⟨(some 19),.cvB2S (.t 18),none⟩,
 ⟨(some 20),.mv (.t 3),none⟩,
 ⟨(some 21),.bin .add (.t 19) (.t 20),none⟩,
 ⟨(some 3),.mv (.t 21),none⟩] [13,14,15,16,17,18,19,20,21])
 (.region [⟨(some 22),.mv (.t 0),none⟩,
 ⟨(some 23),.bin .quo (.t 22) (.k (.c (.d (.int .i64 10)))),none⟩,
 ⟨(some 0),.mv (.t 23),none⟩] [22,23]))))))
 (.seq (.region [⟨(some 24),.mv (.t 0),none⟩,
 ⟨(some 25),.bin .add (.k (.c (.d (.int .i64 48)))) (.t 24),none⟩,
 ⟨(some 26),.cvInt .u8 (.t 25),none⟩,
 ⟨(some 27),.buildSlice 1 1 [(.int .u8 0)] [(0,(.t 26))],none⟩,
 ⟨(some 28),.cvB2S (.t 27),none⟩,
 ⟨(some 29),.mv (.t 3),none⟩,
 ⟨(some 30),.bin .add (.t 28) (.t 29),none⟩,
 ⟨(some 2),.mv (.t 30),none⟩] [0,3,24,25,26,27,28,29,30])
 (.ret))))))
theorem ac105_ok : cFunc Tryz.prog [1000105] [(0,[2],[]),(1,[4],[]),(2,[0,5],[]),(3,[2,5,6],[]),(4,[0,7,8,9,10,11],[]),(5,[2,7],[]),(6,[12],[]),(7,[13,14,15,16,17,18,19,20,21],[]),(8,[22,23],[]),(9,[0,3,24,25,26,27,28,29,30],[])] Tryz.f105 = some (ac105,[.tmp 2],31) := by kernel_rfl
-- 54 loop.example/prologserver/spec.l1Dec params 1 ntmps 11
def ac54 : Cd := .seq (.region [⟨(some 2),.mv (.k (.c (.d (.str [])))),none⟩] [2])
 (.seq (.seq (.region [⟨(some 3),.mv (.t 0),none⟩,
 ⟨(some 4),.bin .lss (.t 3) (.k (.c (.d (.int .i64 0)))),none⟩] [3])
 (.cond (.t 4)
 (.seq (.region [⟨(some 5),.mv (.t 0),none⟩,
 ⟨(some 6),.un .neg (.t 5),none⟩,
 ⟨(some 7),.qcall 105 [(.t 6)],none⟩,
 ⟨(some 8),.bin .add (.k (.c (.d (.str [45])))) (.t 7),none⟩,
 ⟨(some 2),.mv (.t 8),none⟩] [0,4,5,6,7,8])
 (.ret))
 (.skip)))
 (.seq (.region [⟨(some 9),.mv (.t 0),none⟩,
 ⟨(some 10),.qcall 105 [(.t 9)],none⟩,
 ⟨(some 2),.mv (.t 10),none⟩] [0,4,9,10])
 (.ret)))
theorem ac54_ok : cFunc Tryz.prog [1000105] [(0,[2],[]),(1,[3],[]),(2,[0,4,5,6,7,8],[]),(3,[0,4,9,10],[])] Tryz.f54 = some (ac54,[.tmp 2],11) := by kernel_rfl
theorem dd_small {n : Nat} (h : n < 10) : Lib.decDigits n = [UInt8.ofNat (48 + n)] := by rw [Lib.decDigits, dif_pos h]
theorem dd_big {n : Nat} (h : 10 ≤ n) : Lib.decDigits n = Lib.decDigits (n / 10) ++ [UInt8.ofNat (48 + n % 10)] := by rw [Lib.decDigits, dif_neg (by omega)]
theorem b2s_one {m : Nat} {K : A → St → Prop} {st : St} (h : m < 10) (hk : K (.c (.d (.str [UInt8.ofNat (48 + m)]))) st) : B2SK true [[.int .u8 (IntKind.wrap .u8 (48 + (m : Int)))]] K st := by
  refine ⟨[UInt8.ofNat (48 + m)], fun _ => ?_, hk⟩
  have : m = 0 ∨ m = 1 ∨ m = 2 ∨ m = 3 ∨ m = 4 ∨ m = 5 ∨ m = 6 ∨ m = 7 ∨ m = 8 ∨ m = 9 := by omega
  rcases this with rfl | rfl | rfl | rfl | rfl | rfl | rfl | rfl | rfl | rfl <;> rfl
theorem dec_pos (n : Nat) (hn : (n : Int) ≤ 9223372036854775807) (H : Heap) : ACalls Tryz.prog 105 [.c (.d (.int .i64 n))] H (fun r H' => H' = H ∧ r = .c (.d (.str (Lib.itoa n)))) := by
  refine acalls Tryz.func105 (by kernel_rfl) ac105_ok fun hf => ?_
  have h0 : ¬ ((n : Int) < -9223372036854775807) := by omega
  have h1 : ¬ ((n : Int) < 0) := by omega
  simp -implicitDefEqProofs [ac105, h0, h1, go_sem, -List.set_cons_succ, -List.set_cons_zero]
  have hlen : (Lib.decDigits n).length ≤ 1000000 := by
    have := itoa_len n (by omega) (by omega)
    rwa [Lib.itoa_nonneg] at this
  rw [Lib.itoa_nonneg]
  refine loop_set (σ := Nat × List UInt8) (fun x => [(0, .c (.d (.int .i64 x.1))), (3, .c (.d (.str x.2)))]) (fun _ => H) (fun _ => []) (fun x => x.1 ≤ n ∧ Lib.decDigits n = Lib.decDigits x.1 ++ x.2) (fun x => x.1) (n, []) rfl ⟨Nat.le_refl _, by simp⟩ ?_
  rintro ⟨m, out⟩ ⟨hm, hd⟩
  have hm1 : inR .i64 ((m : Int)) := i64_def.2 (by simp at hm; omega)
  have hol : out.length ≤ 1000000 := by rw [hd] at hlen; simp at hlen; omega
  simp only at hm hd
  simp -implicitDefEqProofs [setAll, go_sem, -List.set_cons_succ, -List.set_cons_zero]
  have hmod : (m : Int).tmod 10 = ((m % 10 : Nat) : Int) := by rw [Int.tmod_eq_emod_of_nonneg (by omega)]; omega
  have hquo : (m : Int).tdiv 10 = ((m / 10 : Nat) : Int) := by rw [Int.tdiv_eq_ediv_of_nonneg (by omega)]; omega
  have hq : inR .i64 ((m / 10 : Nat) : Int) := i64_def.2 (by omega)
  refine ⟨fun hgt => ?_, fun hle => ?_⟩
  · rw [hmod]
    refine ⟨small_i64 (by omega) (by omega), b2s_one (by omega) ?_⟩
    simp -implicitDefEqProofs [setAll, hquo, hq, maxStr, go_sem, -List.set_cons_succ, -List.set_cons_zero]
    refine ⟨by omega, ?_⟩
    refine ⟨by simpa using hq, ?_⟩
    refine loop_back (m / 10, UInt8.ofNat (48 + m % 10) :: out) (by simp [setAll]) ⟨by simp only; omega, ?_⟩ (by show m / 10 < m; omega)
    rw [hd, dd_big (n := m) (by omega)]
    simp
  · refine ⟨small_i64 (by omega) (by omega), b2s_one (by omega) ?_⟩
    simp -implicitDefEqProofs [setAll, maxStr, go_sem, -List.set_cons_succ, -List.set_cons_zero]
    rw [hd, dd_small (n := m) (by omega)]
    simp
    omega
theorem dec_calls (n : Int) (hn : inR .i64 n) (H : Heap) : ACalls Tryz.prog 105 [.c (.d (.int .i64 n))] H (fun r H' => H' = H ∧ r = .c (.d (.str (Lib.itoa n)))) := by
  obtain ⟨hn1, hn2⟩ := i64_def.1 hn
  rcases Int.lt_or_le n 0 with hneg | hpos
  · refine acalls Tryz.func105 (by kernel_rfl) ac105_ok fun hf => ?_
    simp -implicitDefEqProofs [ac105, go_sem, -List.set_cons_succ, -List.set_cons_zero]
    refine ⟨fun h => ?_, fun h => ?_⟩
    · have : n = -9223372036854775808 := by omega
      subst this
      decide +kernel
    · refine ⟨fun _ => ?_, fun h => by omega⟩
      have hi : inR .i64 (-n) := i64_def.2 (by omega)
      have h2 := dec_pos n.natAbs (by omega)
      have e : ((n.natAbs : Nat) : Int) = -n := by omega
      have e2 : Lib.itoa n = 45 :: Lib.itoa (-n) := by
        rw [← e, Lib.itoa_nonneg]
        unfold Lib.itoa
        rw [if_pos hneg]
      rw [e] at h2
      have h3 := itoa_len (-n) (by omega) (by omega)
      refine ⟨hi, qcall_pure h2 hf rfl ?_⟩
      simp -implicitDefEqProofs [e2, maxStr, go_sem, -List.set_cons_succ, -List.set_cons_zero]
      omega
  · have := dec_pos n.toNat (by omega) H
    rwa [Int.toNat_of_nonneg hpos] at this
theorem dec1_calls (n : Int) (hn1 : -9223372036854775807 ≤ n) (hn2 : n ≤ 9223372036854775807) (H : Heap) : ACalls Tryz.prog 54 [.c (.d (.int .i64 n))] H (fun r H' => H' = H ∧ r = .c (.d (.str (Lib.itoa n)))) := by
  refine acalls Tryz.func54 (by kernel_rfl) ac54_ok fun hf => ?_
  simp -implicitDefEqProofs [ac54, go_sem, -List.set_cons_succ, -List.set_cons_zero]
  refine ⟨fun hneg => ?_, fun hpos => ?_⟩
  · have e2 : Lib.itoa n = 45 :: Lib.itoa (-n) := by
      have e : ((n.natAbs : Nat) : Int) = -n := by omega
      rw [← e, Lib.itoa_nonneg]
      unfold Lib.itoa
      rw [if_pos hneg]
    have h3 := itoa_len (-n) (by omega) (by omega)
    refine ⟨i64_def.2 (by omega), qcall_pure (dec_calls (-n) (i64_def.2 (by omega))) hf rfl ?_⟩
    simp -implicitDefEqProofs [e2, maxStr, go_sem, -List.set_cons_succ, -List.set_cons_zero]
    omega
  · refine qcall_pure (dec_calls n (i64_def.2 (by omega))) hf rfl ?_
    simp -implicitDefEqProofs [go_sem, -List.set_cons_succ, -List.set_cons_zero]
end Go.Proofs.YtbblefjbgbocoaaGreatDoor

/-
  strconv.Itoa as a call of the abstract machine, where the table that it reads is told.
  Conditions: none.
-/
open Go Go.AM Go.Proofs
namespace Go.Proofs
open Go.Shelf
def Tryz.laysM171_ren : Go.Shelf.Ren := ⟨fun | 171 => 47 | 243 => 100 | 246 => 155 | 283 => 187 | 284 => 188 | 285 => 189 | 286 => 190 | 129 => 219 | 317 => 218 | 318 => 220 | 319 => 221 | 320 => 222 | 337 => 237 | 338 => 238 | n => n, fun | 3 => 3 | 9 => 9 | 2 => 2 | 4 => 4 | 171 => 193 | 0 => 0 | 53 => 194 | 37 => 22 | 5 => 5 | 173 => 197 | 212 => 218 | 51 => 219 | 20 => 20 | 213 => 220 | 46 => 204 | 232 => 237 | 233 => 238 | n => n, fun | 17 => 2 | 18 => 6 | 19 => 7 | n => n⟩
theorem Tryz.laysM171 : Go.Proofs.LaysM.n171 Tryz.prog Tryz.laysM171_ren := {
  mixed := by kernel_rfl
  f129 := Tryz.func219.trans (congrArg some (by kernel_rfl))
  f171 := Tryz.func47.trans (congrArg some (by kernel_rfl))
  f243 := Tryz.func100.trans (congrArg some (by kernel_rfl))
  f246 := Tryz.func155.trans (congrArg some (by kernel_rfl))
  f283 := Tryz.func187.trans (congrArg some (by kernel_rfl))
  f284 := Tryz.func188.trans (congrArg some (by kernel_rfl))
  f285 := Tryz.func189.trans (congrArg some (by kernel_rfl))
  f286 := Tryz.func190.trans (congrArg some (by kernel_rfl))
  f317 := Tryz.func218.trans (congrArg some (by kernel_rfl))
  f318 := Tryz.func220.trans (congrArg some (by kernel_rfl))
  f319 := Tryz.func221.trans (congrArg some (by kernel_rfl))
  f320 := Tryz.func222.trans (congrArg some (by kernel_rfl))
  f337 := Tryz.func237.trans (congrArg some (by kernel_rfl))
  f338 := Tryz.func238.trans (congrArg some (by kernel_rfl))
  t0 := Tryz.underlying0
  a0 := Tryz.isAgg0
  z0 := Tryz.sizeOf0
  v0 := Tryz.zeroValue0
  t2 := Tryz.underlying2
  a2 := Tryz.isAgg2
  z2 := Tryz.sizeOf2
  v2 := Tryz.zeroValue2
  t3 := Tryz.underlying3
  a3 := Tryz.isAgg3
  z3 := Tryz.sizeOf3
  v3 := Tryz.zeroValue3
  t4 := Tryz.underlying4
  a4 := Tryz.isAgg4
  z4 := Tryz.sizeOf4
  v4 := Tryz.zeroValue4
  t5 := Tryz.underlying5
  a5 := Tryz.isAgg5
  z5 := Tryz.sizeOf5
  v5 := Tryz.zeroValue5
  t9 := Tryz.underlying9
  a9 := Tryz.isAgg9
  z9 := Tryz.sizeOf9
  v9 := Tryz.zeroValue9
  t20 := Tryz.underlying20
  a20 := Tryz.isAgg20
  z20 := Tryz.sizeOf20
  v20 := Tryz.zeroValue20
  t37 := Tryz.underlying22
  a37 := Tryz.isAgg22
  z37 := Tryz.sizeOf22
  v37 := Tryz.zeroValue22
  t46 := Tryz.underlying204
  a46 := Tryz.isAgg204
  z46 := Tryz.sizeOf204
  v46 := Tryz.zeroValue204
  t51 := Tryz.underlying219
  a51 := Tryz.isAgg219
  z51 := Tryz.sizeOf219
  v51 := Tryz.zeroValue219
  t53 := Tryz.underlying194
  a53 := Tryz.isAgg194
  z53 := Tryz.sizeOf194
  v53 := Tryz.zeroValue194
  t171 := Tryz.underlying193
  a171 := Tryz.isAgg193
  z171 := Tryz.sizeOf193
  v171 := Tryz.zeroValue193
  t173 := Tryz.underlying197
  a173 := Tryz.isAgg197
  z173 := Tryz.sizeOf197
  v173 := Tryz.zeroValue197
  t212 := Tryz.underlying218
  a212 := Tryz.isAgg218
  z212 := Tryz.sizeOf218
  v212 := Tryz.zeroValue218
  t213 := Tryz.underlying220
  a213 := Tryz.isAgg220
  z213 := Tryz.sizeOf220
  t232 := Tryz.underlying237
  a232 := Tryz.isAgg237
  z232 := Tryz.sizeOf237
  v232 := Tryz.zeroValue237
  t233 := Tryz.underlying238
  a233 := Tryz.isAgg238
  z233 := Tryz.sizeOf238
  v233 := Tryz.zeroValue238
  g17 := by kernel_rfl
  g18 := by kernel_rfl
  g19 := by kernel_rfl
  i0 := by kernel_rfl
  i2 := by kernel_rfl
  i3 := by kernel_rfl
  i4 := by kernel_rfl
  i5 := by kernel_rfl
  i9 := by kernel_rfl
  i20 := by kernel_rfl
  i37 := by kernel_rfl
  i46 := by kernel_rfl
  i51 := by kernel_rfl
  i53 := by kernel_rfl
  i171 := by kernel_rfl
  i173 := by kernel_rfl
  i212 := by kernel_rfl
  i232 := by kernel_rfl
  i233 := by kernel_rfl
  m17 := by kernel_rfl
  m18 := by kernel_rfl
  m19 := by kernel_rfl }
end Go.Proofs
namespace Go.Proofs.YtbblefjbgbocoaaGreatDoor
open Go.Lib
set_option linter.unusedVariables false
set_option linter.unusedSimpArgs false
set_option maxRecDepth 100000
/-- block g holds the table -/
def Tab (g : Nat) (o : Obj) : Prop := ∀ (w : World), w.heap[g]? = some o → ∀ n : Int, -9223372036854775808 ≤ n → n ≤ 9223372036854775807 →
  Calls Tryz.prog 47 #[.int .i64 n] w fun e w' => e = .returned (.string ⟨(Lib.itoa n).toArray⟩) ∧ ∃ k os, w' = Sort.grow (w.drewN k) os
theorem tab_mk {W : World} {name : String} (h : Lib.TabIs Tryz.prog W name .u64 Lib.pow10Tab) (hc : ∀ n : Int, -9223372036854775808 ≤ n → n ≤ 9223372036854775807 → ∀ w, Lib.TabIs Tryz.prog w name .u64 Lib.pow10Tab →
    Calls Tryz.prog 47 #[.int .i64 n] w fun e w' => e = .returned (.string ⟨(Lib.itoa n).toArray⟩) ∧ ∃ k os, w' = Sort.grow (w.drewN k) os) : ∃ (g : Nat) (o : Obj), W.heap[g]? = some o ∧ Tab g o := by
  obtain ⟨g, o, h1, h2⟩ := tab_of h
  exact ⟨g, o, h1, fun w hw n h3 h4 => hc n h3 h4 w (h2 w hw)⟩
/-- what the law's rows list -/
def laid : List (String × DataW Unit) := Rows.fnExactParseQueryRow.laid
theorem itoa_call {g : Nat} {o : Obj} (hT : Tab g o) (n : Int) (hn : inR .i64 n) (H : Heap) (hH : H[0]? = some (.tab g o)) : ACalls Tryz.prog 47 [.c (.d (.int .i64 n))] H (fun r H' => H' = H ∧ r = .c (.d (.str (Lib.itoa n)))) := by
  have hb := i64_def.1 hn
  refine acalls_tab_str hH ⟨_, Tryz.func47, by kernel_rfl, by decide⟩ (by have := itoa_len n hb.1 hb.2; unfold maxStr; omega) ?_
  intro w ι k cargs hw hl ha
  obtain ⟨v, rfl⟩ : ∃ v, cargs = [v] := by
    match cargs, hl with
    | [v], _ => exact ⟨v, rfl⟩
  have h1 := ha 0 _ _ rfl rfl
  cases h1 with
  | c h => cases h with
    | d h => cases h with
      | int => exact hT w hw n hb.1 hb.2
end Go.Proofs.YtbblefjbgbocoaaGreatDoor

/-
  Terms as data: what the laws' sizes, copies and comparisons of terms answer, and TermSame.
  Conditions: none.
-/
open Go Go.AM Go.Proofs
namespace Go.Proofs.YtbblefjbgbocoaaGreatDoor
open Go.ChangeShapes Go.WideShapes Go.ChangeAt Go.RowKit
set_option linter.unusedVariables false
set_option linter.unusedSimpArgs false
set_option maxRecDepth 100000
/-- a term -/
inductive Tm where
  | mk (k n : Int) (s : List UInt8) (kids : List Tm)
  deriving Inhabited
def Tm.k : Tm → Int | .mk k _ _ _ => k
def Tm.n : Tm → Int | .mk _ n _ _ => n
def Tm.s : Tm → List UInt8 | .mk _ _ s _ => s
def Tm.kids : Tm → List Tm | .mk _ _ _ l => l
noncomputable instance : DecidableEq Tm := fun a b => Classical.propDecidable (a = b)
mutual
def Tm.row : Tm → List D
  | .mk k n s l => [.int .i64 k, .int .i64 n, .str s, .sl (Tm.rows l)]
def Tm.rows : List Tm → List (List D)
  | [] => []
  | t :: l => t.row :: Tm.rows l
end
theorem rows_map : ∀ l : List Tm, Tm.rows l = l.map Tm.row
  | [] => rfl
  | t :: l => by rw [Tm.rows, rows_map l]; rfl
theorem row_mk (k n : Int) (s : List UInt8) (l : List Tm) : (Tm.mk k n s l).row = [.int .i64 k, .int .i64 n, .str s, .sl (l.map Tm.row)] := by rw [Tm.row, rows_map]
theorem row_eq (t : Tm) : t.row = [.int .i64 t.k, .int .i64 t.n, .str t.s, .sl (t.kids.map Tm.row)] := by
  obtain ⟨k, n, s, l⟩ := t
  exact row_mk k n s l
theorem row_len (t : Tm) : t.row.length = 4 := by cases t; rfl
theorem Tm.ind {p : Tm → Prop} (h : ∀ k n s l, (∀ t ∈ l, p t) → p (.mk k n s l)) : ∀ t, p t := by
  intro t
  induction hs : SizeOf.sizeOf t using Nat.strongRecOn generalizing t with
  | ind m ih =>
    obtain ⟨k, n, s, l⟩ := t
    refine h k n s l fun t ht => ih (SizeOf.sizeOf t) ?_ t rfl
    have := List.sizeOf_lt_of_mem ht
    simp at hs
    omega
/-- a term that a law looks at -/
inductive Tm.fits : Tm → Prop
  | mk {k n : Int} {s : List UInt8} {l : List Tm} : inR .i64 k → inR .i64 n → s.length ≤ 1048576 → l.length ≤ 1048576 → (∀ t ∈ l, t.fits) → (Tm.mk k n s l).fits
theorem take_row (t : Tm) : List.take 4 (List.map C.d t.row) = List.map C.d t.row := List.take_of_length_le (by simp [row_len])
end Go.Proofs.YtbblefjbgbocoaaGreatDoor

/-
  A number in a range.
  Conditions: none.
-/
open Go Go.AM Go.Proofs
namespace Go.Proofs.YtbblefjbgbocoaaGreatDoor
open Go.ChangeShapes Go.WideShapes Go.ChangeAt Go.RowKit
set_option linter.unusedVariables false
set_option linter.unusedSimpArgs false
set_option maxRecDepth 100000
-- 45 loop.example/prologserver/impl.within params 3 ntmps 15
def ac45 : Cd := .seq (.region [⟨(some 6),.mv (.k (.c (.d (.bool false)))),none⟩] [6])
 (.seq (.region [⟨(some 7),.mv (.t 1),none⟩,
 ⟨(some 8),.mv (.t 0),none⟩,
 ⟨(some 9),.bin .leq (.t 7) (.t 8),none⟩,
 ⟨(some 10),.mv (.t 9),none⟩,
 ⟨(some 11),.mv (.t 0),some (10,true)⟩,
 ⟨(some 12),.mv (.t 2),some (10,true)⟩,
 ⟨(some 13),.bin .leq (.t 11) (.t 12),some (10,true)⟩,
 ⟨(some 14),.pick (.t 10) (.t 13) (.k (.c (.d (.bool false)))),none⟩,
 ⟨(some 6),.mv (.t 14),none⟩] [0,1,2,7,8,9,10,11,12,13,14])
 (.ret))
theorem ac45_ok : cFunc Tryz.prog [] [(0,[6],[]),(1,[0,1,2,7,8,9,10,11,12,13,14],[])] Tryz.f45 = some (ac45,[.tmp 6],15) := by kernel_rfl
theorem within_calls (x lo hi : Int) (H : Heap) : ACalls Tryz.prog 45 [.c (.d (.int .i64 x)), .c (.d (.int .i64 lo)), .c (.d (.int .i64 hi))] H (fun r H' => H' = H ∧ r = .c (.d (.bool (decide (lo ≤ x) && decide (x ≤ hi))))) := by
  refine acalls Tryz.func45 (by kernel_rfl) ac45_ok fun hf => ?_
  simp -implicitDefEqProofs [ac45, go_sem, -List.set_cons_succ, -List.set_cons_zero]
end Go.Proofs.YtbblefjbgbocoaaGreatDoor

/-
  Names: letters and signs.
  Conditions: none.
-/
open Go Go.AM Go.Proofs
namespace Go.Proofs.YtbblefjbgbocoaaGreatDoor
open Go.ChangeShapes Go.WideShapes Go.ChangeAt Go.RowKit
set_option linter.unusedVariables false
set_option linter.unusedSimpArgs false
set_option maxRecDepth 100000
-- 97 loop.example/prologserver/impl.isLetters params 1 ntmps 23
-- loop head live: [0,5,6]
def ac97 : Cd := .seq (.region [⟨(some 2),.mv (.k (.c (.d (.bool false)))),none⟩] [2])
 (.seq (.seq (.region [⟨(some 4),.mv (.t 0),none⟩,
 ⟨(some 5),.len 0 (.t 4),none⟩,
 ⟨(some 6),.mv (.k (.c (.d (.int .i64 0)))),none⟩] [4])
 (.block 0 (.loop (.seq (.region [⟨(some 7),.bin .lss (.t 6) (.t 5),none⟩] [])
 (.seq (.cond (.t 7)
 (.skip)
 (.exit 0))
 (.seq (.block 1 (.seq (.region [⟨(some 8),.mv (.t 6),none⟩,
 ⟨(some 3),.mv (.t 8),none⟩] [7,8])
 (.seq (.region [⟨(some 9),.mv (.t 0),none⟩,
 ⟨(some 10),.mv (.t 3),none⟩,
 ⟨(some 11),.index (.t 9) (.t 10),none⟩,
 ⟨(some 12),.bin .lss (.t 11) (.k (.c (.d (.int .u8 97)))),none⟩,
 ⟨(some 13),.mv (.t 12),none⟩,
 ⟨(some 14),.mv (.t 0),some (13,false)⟩,
 ⟨(some 15),.mv (.t 3),some (13,false)⟩,
 ⟨(some 16),.index (.t 14) (.t 15),some (13,false)⟩,
 ⟨(some 17),.bin .gtr (.t 16) (.k (.c (.d (.int .u8 122)))),some (13,false)⟩,
 ⟨(some 18),.pick (.t 13) (.k (.c (.d (.bool true)))) (.t 17),none⟩] [3,9,10,11,12,13,14,15,16,17])
 (.cond (.t 18)
 (.seq (.region [⟨(some 2),.mv (.k (.c (.d (.bool false)))),none⟩] [0,5,6,18])
 (.ret))
 (.skip)))))
 (.region [⟨(some 19),.bin .add (.t 6) (.k (.c (.d (.int .i64 1)))),none⟩,
 ⟨(some 6),.mv (.t 19),none⟩] [2,18,19])))))))
 (.seq (.region [⟨(some 20),.mv (.t 0),none⟩,
 ⟨(some 21),.len 0 (.t 20),none⟩,
 ⟨(some 22),.qcall 45 [(.t 21),(.k (.c (.d (.int .i64 1)))),(.k (.c (.d (.int .i64 6))))],none⟩,
 ⟨(some 2),.mv (.t 22),none⟩] [0,20,21,22])
 (.ret)))
theorem ac97_ok : cFunc Tryz.prog [1000045] [(0,[2],[]),(1,[4],[]),(2,[],[]),(3,[7,8],[]),(4,[3,9,10,11,12,13,14,15,16,17],[]),(5,[0,5,6,18],[]),(6,[2,18,19],[]),(7,[0,20,21,22],[])] Tryz.f97 = some (ac97,[.tmp 2],23) := by kernel_rfl
-- 137 loop.example/prologserver/spec.l1Word params 1 ntmps 28
-- loop head live: [0,3]
def ac137 : Cd := .seq (.region [⟨(some 2),.mv (.k (.c (.d (.bool false)))),none⟩] [2])
 (.seq (.seq (.region [⟨(some 3),.mv (.k (.c (.d (.int .i64 0)))),none⟩] [])
 (.block 0 (.loop (.seq (.seq (.region [⟨(some 4),.mv (.t 3),none⟩,
 ⟨(some 5),.mv (.t 0),none⟩,
 ⟨(some 6),.len 0 (.t 5),none⟩,
 ⟨(some 7),.bin .lss (.t 4) (.t 6),none⟩] [4,5,6])
 (.cond (.t 7)
 (.skip)
 (.exit 0)))
 (.seq (.block 1 (.seq (.region [⟨(some 10),.mv (.t 0),none⟩,
 ⟨(some 11),.mv (.t 3),none⟩,
 ⟨(some 12),.index (.t 10) (.t 11),none⟩,
 ⟨(some 13),.bin .lss (.t 12) (.k (.c (.d (.int .u8 97)))),none⟩,
 ⟨(some 14),.mv (.t 13),none⟩,
 ⟨(some 15),.mv (.t 0),some (14,false)⟩,
 ⟨(some 16),.mv (.t 3),some (14,false)⟩,
 ⟨(some 17),.index (.t 15) (.t 16),some (14,false)⟩,
 ⟨(some 18),.bin .gtr (.t 17) (.k (.c (.d (.int .u8 122)))),some (14,false)⟩,
 ⟨(some 19),.pick (.t 14) (.k (.c (.d (.bool true)))) (.t 18),none⟩] [7,10,11,12,13,14,15,16,17,18])
 (.cond (.t 19)
 (.seq (.region [⟨(some 2),.mv (.k (.c (.d (.bool false)))),none⟩] [0,3,19])
 (.ret))
 (.skip))))
 (.region [⟨(some 8),.mv (.t 3),none⟩,
 ⟨(some 9),.bin .add (.t 8) (.k (.c (.d (.int .i64 1)))),none⟩,
 ⟨(some 3),.mv (.t 9),none⟩] [2,8,9,19]))))))
 (.seq (.region [⟨(some 20),.mv (.t 0),none⟩,
 ⟨(some 21),.len 0 (.t 20),none⟩,
 ⟨(some 22),.bin .geq (.t 21) (.k (.c (.d (.int .i64 1)))),none⟩,
 ⟨(some 23),.mv (.t 22),none⟩,
 ⟨(some 24),.mv (.t 0),some (23,true)⟩,
 ⟨(some 25),.len 0 (.t 24),some (23,true)⟩,
 ⟨(some 26),.bin .leq (.t 25) (.k (.c (.d (.int .i64 6)))),some (23,true)⟩,
 ⟨(some 27),.pick (.t 23) (.t 26) (.k (.c (.d (.bool false)))),none⟩,
 ⟨(some 2),.mv (.t 27),none⟩] [0,20,21,22,23,24,25,26,27])
 (.ret)))
theorem ac137_ok : cFunc Tryz.prog [] [(0,[2],[]),(1,[],[]),(2,[4,5,6],[]),(4,[7,10,11,12,13,14,15,16,17,18],[]),(5,[0,3,19],[]),(3,[2,8,9,19],[]),(6,[0,20,21,22,23,24,25,26,27],[])] Tryz.f137 = some (ac137,[.tmp 2],28) := by kernel_rfl
-- 99 loop.example/prologserver/impl.symbols params 0 ntmps 2
def ac99 : Cd := .seq (.region [⟨(some 0),.mv (.k (.c (.full []))),none⟩] [0])
 (.seq (.region [⟨(some 1),.buildSlice 1 15 [(.str [])] [(0,(.k (.c (.d (.str [43]))))),(1,(.k (.c (.d (.str [45]))))),(2,(.k (.c (.d (.str [42]))))),(3,(.k (.c (.d (.str [47,47]))))),(4,(.k (.c (.d (.str [61]))))),(5,(.k (.c (.d (.str [92,61]))))),(6,(.k (.c (.d (.str [61,61]))))),(7,(.k (.c (.d (.str [60]))))),(8,(.k (.c (.d (.str [62]))))),(9,(.k (.c (.d (.str [61,60]))))),(10,(.k (.c (.d (.str [62,61]))))),(11,(.k (.c (.d (.str [61,58,61]))))),(12,(.k (.c (.d (.str [46]))))),(13,(.k (.c (.d (.str [91,93]))))),(14,(.k (.c (.d (.str [33])))))],none⟩,
 ⟨(some 0),.mv (.t 1),none⟩] [1])
 (.ret))
theorem ac99_ok : cFunc Tryz.prog [] [(0,[0],[]),(1,[1],[])] Tryz.f99 = some (ac99,[.tmp 0],2) := by kernel_rfl
-- 165 loop.example/prologserver/spec.l1Signs params 0 ntmps 2
def ac165 : Cd := .seq (.region [⟨(some 0),.mv (.k (.c (.full []))),none⟩] [0])
 (.seq (.region [⟨(some 1),.buildSlice 1 15 [(.str [])] [(0,(.k (.c (.d (.str [43]))))),(1,(.k (.c (.d (.str [45]))))),(2,(.k (.c (.d (.str [42]))))),(3,(.k (.c (.d (.str [47,47]))))),(4,(.k (.c (.d (.str [61]))))),(5,(.k (.c (.d (.str [92,61]))))),(6,(.k (.c (.d (.str [61,61]))))),(7,(.k (.c (.d (.str [60]))))),(8,(.k (.c (.d (.str [62]))))),(9,(.k (.c (.d (.str [61,60]))))),(10,(.k (.c (.d (.str [62,61]))))),(11,(.k (.c (.d (.str [61,58,61]))))),(12,(.k (.c (.d (.str [46]))))),(13,(.k (.c (.d (.str [91,93]))))),(14,(.k (.c (.d (.str [33])))))],none⟩,
 ⟨(some 0),.mv (.t 1),none⟩] [1])
 (.ret))
theorem ac165_ok : cFunc Tryz.prog [] [(0,[0],[]),(1,[1],[])] Tryz.f165 = some (ac165,[.tmp 0],2) := by kernel_rfl
-- 154 slices.Index[[]string,string] params 2 ntmps 19
-- loop head live: [0,1,7,8]
def ac154 : Cd := .seq (.region [⟨(some 4),.mv (.k (.c (.d (.int .i64 0)))),none⟩] [4])
 (.seq (.seq (.region [⟨(some 6),.mv (.t 0),none⟩,
 ⟨(some 7),.len 1 (.t 6),none⟩,
 ⟨(some 8),.mv (.k (.c (.d (.int .i64 0)))),none⟩] [6])
 (.block 0 (.loop (.seq (.region [⟨(some 9),.bin .lss (.t 8) (.t 7),none⟩] [])
 (.seq (.cond (.t 9)
 (.skip)
 (.exit 0))
 (.seq (.block 1 (.seq (.region [⟨(some 10),.mv (.t 8),none⟩,
 ⟨(some 5),.mv (.t 10),none⟩] [9,10])
 (.seq (.region [⟨(some 11),.mv (.t 1),none⟩,
 ⟨(some 12),.mv (.t 0),none⟩,
 ⟨(some 13),.mv (.t 5),none⟩,
 ⟨(some 14),.indexAddr 1 (.t 12) (.t 13),none⟩,
 ⟨(some 15),.load none (.t 14),none⟩,
 ⟨(some 16),.bin .eql (.t 11) (.t 15),none⟩] [11,12,13,14,15])
 (.cond (.t 16)
 (.seq (.region [⟨(some 17),.mv (.t 5),none⟩,
 ⟨(some 4),.mv (.t 17),none⟩] [0,1,5,7,8,16,17])
 (.ret))
 (.skip)))))
 (.region [⟨(some 18),.bin .add (.t 8) (.k (.c (.d (.int .i64 1)))),none⟩,
 ⟨(some 8),.mv (.t 18),none⟩] [4,5,16,18])))))))
 (.seq (.region [⟨(some 4),.mv (.k (.c (.d (.int .i64 (-1))))),none⟩] [])
 (.ret)))
theorem ac154_ok : cFunc Tryz.prog [] [(0,[4],[]),(1,[6],[]),(2,[],[]),(3,[9,10],[]),(4,[11,12,13,14,15],[]),(5,[0,1,5,7,8,16,17],[]),(6,[4,5,16,18],[]),(7,[],[])] Tryz.f154 = some (ac154,[.tmp 4],19) := by kernel_rfl
-- 98 slices.Contains[[]string,string] params 2 ntmps 9
def ac98 : Cd := .seq (.region [⟨(some 4),.mv (.k (.c (.d (.bool false)))),none⟩] [4])
 (.seq (.region [⟨(some 5),.mv (.t 0),none⟩,
 ⟨(some 6),.mv (.t 1),none⟩,
 ⟨(some 7),.call false 154 [(.t 5),(.t 6)],none⟩,
 ⟨(some 8),.bin .geq (.t 7) (.k (.c (.d (.int .i64 0)))),none⟩,
 ⟨(some 4),.mv (.t 8),none⟩] [0,1,5,6,7,8])
 (.ret))
theorem ac98_ok : cFunc Tryz.prog [] [(0,[4],[]),(1,[0,1,5,6,7,8],[])] Tryz.f98 = some (ac98,[.tmp 4],9) := by kernel_rfl
-- 164 loop.example/prologserver/spec.l1Has params 2 ntmps 18
-- loop head live: [0,1,5]
def ac164 : Cd := .seq (.region [⟨(some 4),.mv (.k (.c (.d (.bool false)))),none⟩] [4])
 (.seq (.seq (.region [⟨(some 5),.mv (.k (.c (.d (.int .i64 0)))),none⟩] [])
 (.block 0 (.loop (.seq (.seq (.region [⟨(some 6),.mv (.t 5),none⟩,
 ⟨(some 7),.mv (.t 0),none⟩,
 ⟨(some 8),.len 1 (.t 7),none⟩,
 ⟨(some 9),.bin .lss (.t 6) (.t 8),none⟩] [6,7,8])
 (.cond (.t 9)
 (.skip)
 (.exit 0)))
 (.seq (.block 1 (.seq (.region [⟨(some 12),.mv (.t 0),none⟩,
 ⟨(some 13),.mv (.t 5),none⟩,
 ⟨(some 14),.indexAddr 1 (.t 12) (.t 13),none⟩,
 ⟨(some 15),.load none (.t 14),none⟩,
 ⟨(some 16),.mv (.t 1),none⟩,
 ⟨(some 17),.bin .eql (.t 15) (.t 16),none⟩] [9,12,13,14,15,16])
 (.cond (.t 17)
 (.seq (.region [⟨(some 4),.mv (.k (.c (.d (.bool true)))),none⟩] [0,1,5,17])
 (.ret))
 (.skip))))
 (.region [⟨(some 10),.mv (.t 5),none⟩,
 ⟨(some 11),.bin .add (.t 10) (.k (.c (.d (.int .i64 1)))),none⟩,
 ⟨(some 5),.mv (.t 11),none⟩] [4,10,11,17]))))))
 (.seq (.region [⟨(some 4),.mv (.k (.c (.d (.bool false)))),none⟩] [])
 (.ret)))
theorem ac164_ok : cFunc Tryz.prog [] [(0,[4],[]),(1,[],[]),(2,[6,7,8],[]),(4,[9,12,13,14,15,16],[]),(5,[0,1,5,17],[]),(3,[4,10,11,17],[]),(6,[],[])] Tryz.f164 = some (ac164,[.tmp 4],18) := by kernel_rfl
-- 46 loop.example/prologserver/impl.NameValid params 1 ntmps 10
def ac46 : Cd := .seq (.region [⟨(some 2),.mv (.k (.c (.d (.bool false)))),none⟩] [2])
 (.seq (.region [⟨(some 3),.mv (.t 0),none⟩,
 ⟨(some 4),.qcall 97 [(.t 3)],none⟩,
 ⟨(some 5),.mv (.t 4),none⟩,
 ⟨(some 6),.qcall 99 [],some (5,false)⟩,
 ⟨(some 7),.mv (.t 0),some (5,false)⟩,
 ⟨(some 8),.qcall 98 [(.t 6),(.t 7)],some (5,false)⟩,
 ⟨(some 9),.pick (.t 5) (.k (.c (.d (.bool true)))) (.t 8),none⟩,
 ⟨(some 2),.mv (.t 9),none⟩] [0,3,4,5,6,7,8,9])
 (.ret))
theorem ac46_ok : cFunc Tryz.prog [1000097,1000098,1000099] [(0,[2],[]),(1,[0,3,4,5,6,7,8,9],[])] Tryz.f46 = some (ac46,[.tmp 2],10) := by kernel_rfl
-- 104 loop.example/prologserver/spec.NameValid params 1 ntmps 10
def ac104 : Cd := .seq (.region [⟨(some 2),.mv (.k (.c (.d (.bool false)))),none⟩] [2])
 (.seq (.region [⟨(some 3),.mv (.t 0),none⟩,
 ⟨(some 4),.qcall 137 [(.t 3)],none⟩,
 ⟨(some 5),.mv (.t 4),none⟩,
 ⟨(some 6),.qcall 165 [],some (5,false)⟩,
 ⟨(some 7),.mv (.t 0),some (5,false)⟩,
 ⟨(some 8),.qcall 164 [(.t 6),(.t 7)],some (5,false)⟩,
 ⟨(some 9),.pick (.t 5) (.k (.c (.d (.bool true)))) (.t 8),none⟩,
 ⟨(some 2),.mv (.t 9),none⟩] [0,3,4,5,6,7,8,9])
 (.ret))
theorem ac104_ok : cFunc Tryz.prog [1000137,1000164,1000165] [(0,[2],[]),(1,[0,3,4,5,6,7,8,9],[])] Tryz.f104 = some (ac104,[.tmp 2],10) := by kernel_rfl
def lowB (b : UInt8) : Bool := decide ((97 : Int) ≤ b.toNat) && decide ((b.toNat : Int) ≤ 122)
/-- a name of letters -/
def lettersB (s : List UInt8) : Bool := s.all lowB && (decide ((1 : Int) ≤ s.length) && decide ((s.length : Int) ≤ 6))
def signs : List (List UInt8) := [[43], [45], [42], [47, 47], [61], [92, 61], [61, 61], [60], [62], [61, 60], [62, 61], [61, 58, 61], [46], [91, 93], [33]]
def strRow (s : List UInt8) : List D := [.str s]
theorem low_take_succ {p : UInt8 → Bool} {s : List UInt8} {i : Nat} (h : i < s.length) (ha : ∀ b ∈ s.take i, p b = true) (hb : p s[i] = true) : ∀ b ∈ s.take (i + 1), p b = true := by
  intro b h'
  rw [List.take_add_one, List.mem_append] at h'
  rcases h' with h' | h'
  · exact ha b h'
  · rw [List.getElem?_eq_getElem h] at h'
    simp at h'; subst h'; exact hb
set_option maxHeartbeats 3200000 in
theorem isLetters_calls (s : List UInt8) (hs : s.length ≤ 1000000000000) (H : Heap) : ACalls Tryz.prog 97 [.c (.d (.str s))] H (fun r H' => H' = H ∧ r = .c (.d (.bool (lettersB s)))) := by
  refine acalls Tryz.func97 (by kernel_rfl) ac97_ok fun hf => ?_
  have hlen : inR .i64 (s.length : Int) := small_i64 (by omega) (by omega)
  simp -implicitDefEqProofs [ac97, hlen, go_sem, -List.set_cons_succ, -List.set_cons_zero]
  refine loop_set (σ := Nat) (fun i => [(6, .c (.d (.int .i64 i)))]) (fun _ => H) (fun _ => []) (fun i => i ≤ s.length ∧ ∀ b ∈ s.take i, lowB b = true) (fun i => s.length - i) 0 rfl ⟨Nat.zero_le _, by simp⟩ ?_
  rintro i ⟨hi, hall⟩
  simp -implicitDefEqProofs [setAll, hlen, go_sem, -List.set_cons_succ, -List.set_cons_zero]
  refine ⟨fun hlt => byte_nat hlt ?_, fun hge => ?_⟩
  · have hadd : inR .i64 ((i : Int) + 1) := small_i64 (by omega) (by omega)
    have bad : lowB s[i] = false → lettersB s = false := fun h => by
      have : s.all lowB = false := by
        rw [List.all_eq_false]
        exact ⟨s[i], List.getElem_mem hlt, by simp [h]⟩
      simp [lettersB, this]
    by_cases h97 : (s[i].toNat : Int) < 97
    · simp -implicitDefEqProofs [h97, go_sem, -List.set_cons_succ, -List.set_cons_zero]
      refine byte_off 0 ?_
      simp -implicitDefEqProofs [go_sem, -List.set_cons_succ, -List.set_cons_zero]
      rw [bad (by simp [lowB]; omega)]
    · simp -implicitDefEqProofs [h97, go_sem, -List.set_cons_succ, -List.set_cons_zero]
      refine byte_nat hlt ?_
      simp -implicitDefEqProofs [hadd, go_sem, -List.set_cons_succ, -List.set_cons_zero]
      refine ⟨fun h => by rw [bad (by simp [lowB]; omega)], fun h => ?_⟩
      exact loop_back (i + 1) (by simp [setAll]) ⟨hlt, low_take_succ hlt hall (by simp [lowB]; omega)⟩ (by show s.length - (i + 1) < s.length - i; omega)
  · have hil : i = s.length := by omega
    subst hil
    rw [List.take_length] at hall
    have hok : s.all lowB = true := List.all_eq_true.2 hall
    refine qcall_pure (within_calls s.length 1 6) hf rfl ?_
    simp -implicitDefEqProofs [lettersB, hok, go_sem, -List.set_cons_succ, -List.set_cons_zero]
set_option maxHeartbeats 3200000 in
theorem l1Word_calls (s : List UInt8) (hs : s.length ≤ 1000000000000) (H : Heap) : ACalls Tryz.prog 137 [.c (.d (.str s))] H (fun r H' => H' = H ∧ r = .c (.d (.bool (lettersB s)))) := by
  refine acalls Tryz.func137 (by kernel_rfl) ac137_ok fun hf => ?_
  have hlen : inR .i64 (s.length : Int) := small_i64 (by omega) (by omega)
  simp -implicitDefEqProofs [ac137, hlen, go_sem, -List.set_cons_succ, -List.set_cons_zero]
  refine loop_set (σ := Nat) (fun i => [(3, .c (.d (.int .i64 i)))]) (fun _ => H) (fun _ => []) (fun i => i ≤ s.length ∧ ∀ b ∈ s.take i, lowB b = true) (fun i => s.length - i) 0 rfl ⟨Nat.zero_le _, by simp⟩ ?_
  rintro i ⟨hi, hall⟩
  simp -implicitDefEqProofs [setAll, hlen, go_sem, -List.set_cons_succ, -List.set_cons_zero]
  refine ⟨fun hlt => byte_nat hlt ?_, fun hge => ?_⟩
  · have hadd : inR .i64 ((i : Int) + 1) := small_i64 (by omega) (by omega)
    have bad : lowB s[i] = false → lettersB s = false := fun h => by
      have : s.all lowB = false := by
        rw [List.all_eq_false]
        exact ⟨s[i], List.getElem_mem hlt, by simp [h]⟩
      simp [lettersB, this]
    by_cases h97 : (s[i].toNat : Int) < 97
    · simp -implicitDefEqProofs [h97, go_sem, -List.set_cons_succ, -List.set_cons_zero]
      refine byte_off 0 ?_
      simp -implicitDefEqProofs [go_sem, -List.set_cons_succ, -List.set_cons_zero]
      rw [bad (by simp [lowB]; omega)]
    · simp -implicitDefEqProofs [h97, go_sem, -List.set_cons_succ, -List.set_cons_zero]
      refine byte_nat hlt ?_
      simp -implicitDefEqProofs [hadd, go_sem, -List.set_cons_succ, -List.set_cons_zero]
      refine ⟨fun h => by rw [bad (by simp [lowB]; omega)], fun h => ?_⟩
      exact loop_back (i + 1) (by simp [setAll]) ⟨hlt, low_take_succ hlt hall (by simp [lowB]; omega)⟩ (by show s.length - (i + 1) < s.length - i; omega)
  · have hil : i = s.length := by omega
    subst hil
    rw [List.take_length] at hall
    have hok : s.all lowB = true := List.all_eq_true.2 hall
    simp [lettersB, hok]
set_option maxHeartbeats 3200000 in
theorem symbols_calls (H : Heap) : ACalls Tryz.prog 99 [] H (fun r H' => H' = H ∧ r = .c (.d (.sl (signs.map strRow)))) := by
  refine acalls Tryz.func99 (by kernel_rfl) ac99_ok fun hf => ?_
  simp -implicitDefEqProofs [ac99, signs, strRow, go_sem, -List.set_cons_succ, -List.set_cons_zero]
set_option maxHeartbeats 3200000 in
theorem l1Signs_calls (H : Heap) : ACalls Tryz.prog 165 [] H (fun r H' => H' = H ∧ r = .c (.d (.sl (signs.map strRow)))) := by
  refine acalls Tryz.func165 (by kernel_rfl) ac165_ok fun hf => ?_
  simp -implicitDefEqProofs [ac165, signs, strRow, go_sem, -List.set_cons_succ, -List.set_cons_zero]
set_option maxHeartbeats 3200000 in
theorem index_calls (l : List (List UInt8)) (hl : l.length ≤ 1048576) (s : List UInt8) (H : Heap) : ACalls Tryz.prog 154 [.c (.d (.sl (l.map strRow))), .c (.d (.str s))] H (fun r H' => H' = H ∧ ∃ k : Int, r = .c (.d (.int .i64 k)) ∧ decide (0 ≤ k) = l.contains s) := by
  refine acalls Tryz.func154 (by kernel_rfl) ac154_ok fun hf => ?_
  have hli : inR .i64 (l.length : Int) := small_i64 (by omega) (by omega)
  simp -implicitDefEqProofs [ac154, hli, go_sem, -List.set_cons_succ, -List.set_cons_zero]
  refine loop_set (σ := Nat) (fun i => [(8, .c (.d (.int .i64 i)))]) (fun _ => H) (fun _ => []) (fun i => i ≤ l.length ∧ s ∉ l.take i) (fun i => l.length - i) 0 rfl ⟨Nat.zero_le _, by simp⟩ ?_
  rintro i ⟨hi, hno⟩
  simp -implicitDefEqProofs [setAll, hli, go_sem, -List.set_cons_succ, -List.set_cons_zero]
  refine ⟨fun hlt => ?_, fun hge => ?_⟩
  · refine row_of hlt rfl ?_
    have hadd : inR .i64 ((i : Int) + 1) := small_i64 (by omega) (by omega)
    simp -implicitDefEqProofs [strRow, hadd, go_sem, -List.set_cons_succ, -List.set_cons_zero]
    refine ⟨fun h => ?_, fun h => ?_⟩
    · subst h; exact List.getElem_mem hlt
    · refine loop_back (i + 1) (by simp [setAll]) ⟨hlt, ?_⟩ (by show l.length - (i + 1) < l.length - i; omega)
      rw [List.take_succ_eq_append_getElem hlt, List.mem_append]
      rintro (h' | h')
      · exact hno h'
      · simp at h'; exact h h'
  · rw [List.take_of_length_le hge] at hno
    simp [hno]
set_option maxHeartbeats 3200000 in
theorem contains_calls (l : List (List UInt8)) (hl : l.length ≤ 1048576) (s : List UInt8) (H : Heap) : ACalls Tryz.prog 98 [.c (.d (.sl (l.map strRow))), .c (.d (.str s))] H (fun r H' => H' = H ∧ r = .c (.d (.bool (l.contains s)))) := by
  refine acalls Tryz.func98 (by kernel_rfl) ac98_ok fun hf => ?_
  simp -implicitDefEqProofs [ac98, go_sem, -List.set_cons_succ, -List.set_cons_zero]
  refine call_some (index_calls l hl s _) (by simp) (fun r ⟨k, hk, _⟩ => by subst hk; rfl) hf ?_
  rintro _ ⟨k, rfl, hk⟩
  simp -implicitDefEqProofs [go_sem, -List.set_cons_succ, -List.set_cons_zero]
  simpa using hk
set_option maxHeartbeats 3200000 in
theorem l1Has_calls (l : List (List UInt8)) (hl : l.length ≤ 1048576) (s : List UInt8) (H : Heap) : ACalls Tryz.prog 164 [.c (.d (.sl (l.map strRow))), .c (.d (.str s))] H (fun r H' => H' = H ∧ r = .c (.d (.bool (l.contains s)))) := by
  refine acalls Tryz.func164 (by kernel_rfl) ac164_ok fun hf => ?_
  have hli : inR .i64 (l.length : Int) := small_i64 (by omega) (by omega)
  simp -implicitDefEqProofs [ac164, hli, go_sem, -List.set_cons_succ, -List.set_cons_zero]
  refine loop_set (σ := Nat) (fun i => [(5, .c (.d (.int .i64 i)))]) (fun _ => H) (fun _ => []) (fun i => i ≤ l.length ∧ s ∉ l.take i) (fun i => l.length - i) 0 rfl ⟨Nat.zero_le _, by simp⟩ ?_
  rintro i ⟨hi, hno⟩
  simp -implicitDefEqProofs [setAll, hli, go_sem, -List.set_cons_succ, -List.set_cons_zero]
  refine ⟨fun hlt => ?_, fun hge => ?_⟩
  · refine row_of hlt rfl ?_
    have hadd : inR .i64 ((i : Int) + 1) := small_i64 (by omega) (by omega)
    simp -implicitDefEqProofs [strRow, hadd, go_sem, -List.set_cons_succ, -List.set_cons_zero]
    refine ⟨fun h => ?_, fun h => ?_⟩
    · subst h; exact List.getElem_mem hlt
    · refine loop_back (i + 1) (by simp [setAll]) ⟨hlt, ?_⟩ (by show l.length - (i + 1) < l.length - i; omega)
      rw [List.take_succ_eq_append_getElem hlt, List.mem_append]
      rintro (h' | h')
      · exact hno h'
      · simp at h'; exact h h'.symm
  · rw [List.take_of_length_le hge] at hno
    simpa using hno
/-- a name -/
def nameB (s : List UInt8) : Bool := lettersB s || signs.contains s
set_option maxHeartbeats 3200000 in
theorem nvImpl_calls (s : List UInt8) (hs : s.length ≤ 1000000000000) (H : Heap) : ACalls Tryz.prog 46 [.c (.d (.str s))] H (fun r H' => H' = H ∧ r = .c (.d (.bool (nameB s)))) := by
  refine acalls Tryz.func46 (by kernel_rfl) ac46_ok fun hf => ?_
  simp -implicitDefEqProofs [ac46, go_sem, -List.set_cons_succ, -List.set_cons_zero]
  refine qcall_pure (isLetters_calls s hs) hf rfl ?_
  cases h : lettersB s with
  | true => simp -implicitDefEqProofs [h, nameB, go_sem, -List.set_cons_succ, -List.set_cons_zero]
  | false =>
    simp -implicitDefEqProofs [h, go_sem, -List.set_cons_succ, -List.set_cons_zero]
    refine qcall_pure symbols_calls hf rfl ?_
    simp -implicitDefEqProofs [go_sem, -List.set_cons_succ, -List.set_cons_zero]
    refine qcall_pure (contains_calls signs (by decide) s) hf rfl ?_
    simp -implicitDefEqProofs [h, nameB, go_sem, -List.set_cons_succ, -List.set_cons_zero]
set_option maxHeartbeats 3200000 in
theorem nvSpec_calls (s : List UInt8) (hs : s.length ≤ 1000000000000) (H : Heap) : ACalls Tryz.prog 104 [.c (.d (.str s))] H (fun r H' => H' = H ∧ r = .c (.d (.bool (nameB s)))) := by
  refine acalls Tryz.func104 (by kernel_rfl) ac104_ok fun hf => ?_
  simp -implicitDefEqProofs [ac104, go_sem, -List.set_cons_succ, -List.set_cons_zero]
  refine qcall_pure (l1Word_calls s hs) hf rfl ?_
  cases h : lettersB s with
  | true => simp -implicitDefEqProofs [h, nameB, go_sem, -List.set_cons_succ, -List.set_cons_zero]
  | false =>
    simp -implicitDefEqProofs [h, go_sem, -List.set_cons_succ, -List.set_cons_zero]
    refine qcall_pure l1Signs_calls hf rfl ?_
    simp -implicitDefEqProofs [go_sem, -List.set_cons_succ, -List.set_cons_zero]
    refine qcall_pure (l1Has_calls signs (by decide) s) hf rfl ?_
    simp -implicitDefEqProofs [h, nameB, go_sem, -List.set_cons_succ, -List.set_cons_zero]
end Go.Proofs.YtbblefjbgbocoaaGreatDoor

/-
  Valid terms: TermValid of the program and of the reference.
  Conditions: none.
-/
open Go Go.AM Go.Proofs
namespace Go.Proofs.YtbblefjbgbocoaaGreatDoor
open Go.ChangeShapes Go.WideShapes Go.ChangeAt Go.RowKit
set_option linter.unusedVariables false
set_option linter.unusedSimpArgs false
set_option maxRecDepth 100000
-- 173 slices.IndexFunc[[]loop.example/prologserver/impl.Term,loop.example/prologserver/impl.Term] params 2 ntmps 19
-- loop head live: [0,1,7,8]
def ac173 : Cd := .seq (.region [⟨(some 4),.mv (.k (.c (.d (.int .i64 0)))),none⟩] [4])
 (.seq (.seq (.region [⟨(some 6),.mv (.t 0),none⟩,
 ⟨(some 7),.len 1 (.t 6),none⟩,
 ⟨(some 8),.mv (.k (.c (.d (.int .i64 0)))),none⟩] [6])
 (.block 0 (.loop (.seq (.region [⟨(some 9),.bin .lss (.t 8) (.t 7),none⟩] [])
 (.seq (.cond (.t 9)
 (.skip)
 (.exit 0))
 (.seq (.block 1 (.seq (.region [⟨(some 10),.mv (.t 8),none⟩,
 ⟨(some 5),.mv (.t 10),none⟩] [9,10])
 (.seq (.region [⟨(some 11),.mv (.t 1),none⟩,
 ⟨(some 12),.mv (.t 0),none⟩,
 ⟨(some 13),.mv (.t 5),none⟩,
 ⟨(some 14),.indexAddr 4 (.t 12) (.t 13),none⟩,
 ⟨(some 15),.load (some 4) (.t 14),none⟩,
 ⟨(some 16),.callv (.t 11) [(.t 15)],none⟩] [11,12,13,14,15])
 (.cond (.t 16)
 (.seq (.region [⟨(some 17),.mv (.t 5),none⟩,
 ⟨(some 4),.mv (.t 17),none⟩] [0,1,5,7,8,16,17])
 (.ret))
 (.skip)))))
 (.region [⟨(some 18),.bin .add (.t 8) (.k (.c (.d (.int .i64 1)))),none⟩,
 ⟨(some 8),.mv (.t 18),none⟩] [4,5,16,18])))))))
 (.seq (.region [⟨(some 4),.mv (.k (.c (.d (.int .i64 (-1))))),none⟩] [])
 (.ret)))
theorem ac173_ok : cFunc Tryz.prog [] [(0,[4],[]),(1,[6],[]),(2,[],[]),(3,[9,10],[]),(4,[11,12,13,14,15],[]),(5,[0,1,5,7,8,16,17],[]),(6,[4,5,16,18],[]),(7,[],[])] Tryz.f173 = some (ac173,[.tmp 4],19) := by kernel_rfl
-- 115 slices.ContainsFunc[[]loop.example/prologserver/impl.Term,loop.example/prologserver/impl.Term] params 2 ntmps 9
def ac115 : Cd := .seq (.region [⟨(some 4),.mv (.k (.c (.d (.bool false)))),none⟩] [4])
 (.seq (.region [⟨(some 5),.mv (.t 0),none⟩,
 ⟨(some 6),.mv (.t 1),none⟩,
 ⟨(some 7),.call false 173 [(.t 5),(.t 6)],none⟩,
 ⟨(some 8),.bin .geq (.t 7) (.k (.c (.d (.int .i64 0)))),none⟩,
 ⟨(some 4),.mv (.t 8),none⟩] [0,1,5,6,7,8])
 (.ret))
theorem ac115_ok : cFunc Tryz.prog [] [(0,[4],[]),(1,[0,1,5,6,7,8],[])] Tryz.f115 = some (ac115,[.tmp 4],9) := by kernel_rfl
theorem tmF_idx {σ : Type} (Hp : σ → Heap) (n : Nat) (hn : ∀ s, (Hp s).length = n) (hfit : ∀ s, Obs.fits n 0 (Hp s)) (g : FuncId) (caps : List (Nat × Nat)) (step : σ → Tm → Bool × σ) (P : σ → Prop) (l : List Tm) (hl : l.length ≤ 1048576)
    (h : ∀ s, P s → ∀ t ∈ l, ACalls Tryz.prog g (.agg ((Tm.row t).map .d) :: caps.map fun x => .c (.ptr (.e x.1) x.2)) (Hp s) (fun r H' => r = .c (.d (.bool (step s t).1)) ∧ H' = Hp (step s t).2)) (hP : ∀ s, P s → ∀ t ∈ l, (step s t).1 = false → P (step s t).2) (s : σ) (h0 : P s) :
    ACalls Tryz.prog 173 [.c (.d (.sl (l.map Tm.row))), .c (.fn g (caps.map fun x => (.e x.1, x.2)))] (Hp s) (fun r H' => (∃ k : Int, r = .c (.d (.int .i64 k)) ∧ decide (0 ≤ k) = (anyS step l s).1) ∧ H' = Hp (anyS step l s).2) := by
  refine acalls Tryz.func173 (by kernel_rfl) ac173_ok fun hf => ?_
  have hli : inR .i64 (l.length : Int) := small_i64 (by omega) (by omega)
  simp -implicitDefEqProofs [ac173, hli, go_sem, -List.set_cons_succ, -List.set_cons_zero]
  refine loop_set (σ := Nat × σ) (fun x => [(8, .c (.d (.int .i64 x.1)))]) (fun x => Hp x.2) (fun _ => []) (fun x => x.1 ≤ l.length ∧ P x.2 ∧ anyS step (l.drop x.1) x.2 = anyS step l s) (fun x => l.length - x.1) (0, s) rfl ⟨Nat.zero_le _, h0, rfl⟩ ?_
  rintro ⟨i, q⟩ ⟨hi, hq, hrun⟩
  simp only at hi hq hrun
  simp -implicitDefEqProofs [setAll, hli, go_sem, -List.set_cons_succ, -List.set_cons_zero]
  refine ⟨fun hlt => ?_, fun hge => ?_⟩
  · refine row_of hlt (row_len _) ?_
    simp -implicitDefEqProofs [row_len, take_row, pure_d, re_d, callArgs_ptrs, go_sem, -List.set_cons_succ, -List.set_cons_zero]
    have hd : l.drop i = l[i] :: l.drop (i + 1) := List.drop_eq_getElem_cons hlt
    rw [hd, anyS] at hrun
    have hadd : inR .i64 ((i : Int) + 1) := small_i64 (by omega) (by omega)
    refine (h q hq l[i] (List.getElem_mem hlt)).mono fun r H' ⟨h1, h2⟩ => ⟨Hp (step q l[i]).2, [], .c (.d (.bool (step q l[i]).1)), by simpa using h2, by simp only [hn], Nat.le_refl _, by simp only [hn]; exact hfit _, h1, ?_⟩
    cases hs : (step q l[i]).1 with
    | true =>
      rw [if_pos hs] at hrun
      simp -implicitDefEqProofs [hs, go_sem, -List.set_cons_succ, -List.set_cons_zero]
      rw [← hrun]
      exact ⟨by simp, rfl⟩
    | false =>
      rw [if_neg (by simp [hs])] at hrun
      simp -implicitDefEqProofs [hs, hadd, go_sem, -List.set_cons_succ, -List.set_cons_zero]
      exact loop_back (i + 1, (step q l[i]).2) (by simp [setAll]) ⟨hlt, hP q hq _ (List.getElem_mem hlt) hs, hrun⟩ (by show l.length - (i + 1) < l.length - i; omega)
  · rw [List.drop_of_length_le hge] at hrun
    simp only [anyS] at hrun
    rw [← hrun]
    exact ⟨by simp, rfl⟩
theorem tmF_con {σ : Type} (Hp : σ → Heap) (n : Nat) (hn : ∀ s, (Hp s).length = n) (hfit : ∀ s, Obs.fits n 0 (Hp s)) (g : FuncId) (caps : List (Nat × Nat)) (step : σ → Tm → Bool × σ) (P : σ → Prop) (l : List Tm) (hl : l.length ≤ 1048576)
    (h : ∀ s, P s → ∀ t ∈ l, ACalls Tryz.prog g (.agg ((Tm.row t).map .d) :: caps.map fun x => .c (.ptr (.e x.1) x.2)) (Hp s) (fun r H' => r = .c (.d (.bool (step s t).1)) ∧ H' = Hp (step s t).2)) (hP : ∀ s, P s → ∀ t ∈ l, (step s t).1 = false → P (step s t).2) (s : σ) (h0 : P s) :
    ACalls Tryz.prog 115 [.c (.d (.sl (l.map Tm.row))), .c (.fn g (caps.map fun x => (.e x.1, x.2)))] (Hp s) (fun r H' => r = .c (.d (.bool (anyS step l s).1)) ∧ H' = Hp (anyS step l s).2) := by
  refine acalls Tryz.func115 (by kernel_rfl) ac115_ok fun hf => ?_
  simp -implicitDefEqProofs [ac115, go_sem, -List.set_cons_succ, -List.set_cons_zero]
  simp only [List.map_map, Function.comp_def, Ref.re]
  refine (tmF_idx Hp n hn hfit g caps step P l hl h hP s h0).mono fun r H' ⟨⟨k, h1, h2⟩, h3⟩ => ⟨Hp (anyS step l s).2, [], .c (.d (.int .i64 k)), by simpa using h3, by simp only [hn], Nat.le_refl _, by simp only [hn]; exact hfit _, h1, ?_⟩
  simp -implicitDefEqProofs [go_sem, -List.set_cons_succ, -List.set_cons_zero]
  rw [← h2]
/-- a node's own fields -/
def Tm.ownB : Tm → Bool
  | .mk k n s l => if k = 1 then ((decide (0 ≤ n) && decide (n ≤ 25)) && s == []) && l.isEmpty
    else if k = 2 then ((decide (-999 ≤ n) && decide (n ≤ 999)) && s == []) && l.isEmpty
    else if k = 3 then (decide (n = 0) && nameB s) && decide (l.length ≤ 4)
    else false
mutual
/-- well-formed, down to a depth -/
def Tm.shape : Nat → Tm → Bool
  | d, .mk k n s l => decide (1 ≤ d) && ((Tm.mk k n s l).ownB && shapes (d - 1) l)
def shapes : Nat → List Tm → Bool
  | _, [] => true
  | d, t :: l => t.shape d && shapes d l
end
mutual
/-- the number of nodes -/
def Tm.size : Tm → Nat
  | .mk _ _ _ l => 1 + sizes l
def sizes : List Tm → Nat
  | [] => 0
  | t :: l => t.size + sizes l
end
def Tm.valid (t : Tm) : Bool := t.shape 30 && decide (t.size ≤ 120)
mutual
/-- the program's check: nodes are counted -/
def scanT : Nat → Tm → Nat → Bool × Nat
  | deep, .mk k n s l, c => if 120 < c + 1 ∨ 30 < deep then (false, c + 1) else if !(Tm.mk k n s l).ownB then (false, c + 1) else scanL (deep + 1) l (c + 1)
def scanL : Nat → List Tm → Nat → Bool × Nat
  | _, [], c => (true, c)
  | deep, t :: l, c => if (scanT deep t c).1 = true then scanL deep l (scanT deep t c).2 else (false, (scanT deep t c).2)
end
theorem shapes_all : ∀ (l : List Tm) (d : Nat), shapes d l = l.all fun t => t.shape d
  | [], _ => rfl
  | t :: l, d => by rw [shapes, shapes_all l d]; rfl
theorem own_leaf {k n : Int} {s : List UInt8} {l : List Tm} (hk : k ≠ 3) (h : (Tm.mk k n s l).ownB = true) : l = [] := by
  simp only [Tm.ownB] at h
  by_cases k1 : k = 1
  · rw [if_pos k1] at h; simp at h; exact h.2
  · rw [if_neg k1] at h
    by_cases k2 : k = 2
    · rw [if_pos k2] at h; simp at h; exact h.2
    · rw [if_neg k2, if_neg hk] at h; cases h
/-- what the program's check answers -/
theorem scan_spec : ∀ t : Tm, ∀ (deep c : Nat), c ≤ 120 → ((scanT deep t c).1 = true → (scanT deep t c).2 = c + t.size ∧ (scanT deep t c).2 ≤ 120) ∧ ((scanT deep t c).1 = (t.shape (31 - deep) && decide (c + t.size ≤ 120))) := by
  refine Tm.ind fun k n s l ih deep c hc => ?_
  have hl : ∀ (l : List Tm), (∀ t ∈ l, ∀ (deep c : Nat), c ≤ 120 → ((scanT deep t c).1 = true → (scanT deep t c).2 = c + t.size ∧ (scanT deep t c).2 ≤ 120) ∧ ((scanT deep t c).1 = (t.shape (31 - deep) && decide (c + t.size ≤ 120)))) →
      ∀ (deep c : Nat), c ≤ 120 → ((scanL deep l c).1 = true → (scanL deep l c).2 = c + sizes l ∧ (scanL deep l c).2 ≤ 120) ∧ ((scanL deep l c).1 = (shapes (31 - deep) l && decide (c + sizes l ≤ 120))) := by
    intro l
    induction l with
    | nil => intro _ deep c hc; simp [scanL, shapes, sizes, hc]
    | cons t l ih2 =>
      intro h deep c hc
      obtain ⟨h1, h2⟩ := h t (by simp) deep c hc
      rw [scanL, shapes, sizes]
      cases hs : (scanT deep t c).1 with
      | true =>
        obtain ⟨h3, h4⟩ := h1 hs
        obtain ⟨h5, h6⟩ := ih2 (fun x hx => h x (by simp [hx])) deep (scanT deep t c).2 h4
        rw [hs] at h2
        simp only [if_true]
        rw [h3] at h5 h6 ⊢
        have h7 := h2.symm
        simp only [Bool.and_eq_true] at h7
        rw [h7.1, Bool.true_and]
        refine ⟨fun h => ⟨by have := (h5 h).1; omega, (h5 h).2⟩, ?_⟩
        rw [h6, show c + t.size + sizes l = c + (t.size + sizes l) by omega]
      | false =>
        rw [hs] at h2
        simp only [Bool.false_eq_true, if_false]
        refine ⟨fun h => (by cases h), ?_⟩
        have h7 := h2.symm
        rw [Bool.and_eq_false_iff] at h7
        symm
        rcases h7 with h7 | h7
        · simp [h7]
        · simp only [decide_eq_false_iff_not] at h7
          have : ¬ c + (t.size + sizes l) ≤ 120 := by omega
          simp [this]
  rw [scanT, Tm.shape, Tm.size]
  by_cases h1 : 120 < c + 1 ∨ 30 < deep
  · rw [if_pos h1]
    refine ⟨fun h => (by cases h), ?_⟩
    symm
    rcases h1 with h1 | h1
    · have : ¬ c + (1 + sizes l) ≤ 120 := by omega
      simp [this]
    · have : ¬ 1 ≤ 31 - deep := by omega
      simp [this]
  · rw [if_neg h1]
    have hd : 1 ≤ 31 - deep := by omega
    cases ho : (Tm.mk k n s l).ownB with
    | false => exact ⟨fun h => (by simp at h), by simp⟩
    | true =>
      simp only [Bool.not_true, Bool.false_eq_true, if_false]
      obtain ⟨h3, h4⟩ := hl l ih (deep + 1) (c + 1) (by omega)
      refine ⟨fun h => ⟨by have := (h3 h).1; omega, (h3 h).2⟩, ?_⟩
      rw [h4, show 31 - (deep + 1) = 31 - deep - 1 by omega, show c + 1 + sizes l = c + (1 + sizes l) by omega]
      simp [hd]
theorem scan_valid (t : Tm) : (scanT 1 t 0).1 = t.valid := by
  have := (scan_spec t 1 0 (by omega)).2
  rw [this, Tm.valid]
  simp
end Go.Proofs.YtbblefjbgbocoaaGreatDoor

/-
  TermValid: the functions of the program and of the reference.
  Conditions: none.
-/
open Go Go.AM Go.Proofs
namespace Go.Proofs.YtbblefjbgbocoaaGreatDoor
open Go.ChangeShapes Go.WideShapes Go.ChangeAt Go.RowKit
set_option linter.unusedVariables false
set_option linter.unusedSimpArgs false
set_option maxRecDepth 100000
-- 119 loop.example/prologserver/impl.scan params 3 ntmps 76
def ac119 : Cd := .seq (.region [⟨(some 3),.box (.t 0),none⟩,
 ⟨(some 4),.box (.t 1),none⟩,
 ⟨(some 5),.box (.t 2),none⟩,
 ⟨(some 6),.mv (.k (.c (.d (.bool false)))),none⟩] [0,1,2,6])
 (.seq (.region [⟨(some 7),.load none (.t 5),none⟩,
 ⟨(some 8),.nilCheck (.t 7),none⟩,
 ⟨(some 9),.load none (.t 8),none⟩,
 ⟨(some 10),.bin .add (.t 9) (.k (.c (.d (.int .i64 1)))),none⟩,
 ⟨(some 11),.nilCheck (.t 7),none⟩,
 ⟨none,.store 1 (.t 11) (.t 10),none⟩] [7,8,9,10,11])
 (.seq (.seq (.region [⟨(some 12),.load none (.t 5),none⟩,
 ⟨(some 13),.nilCheck (.t 12),none⟩,
 ⟨(some 14),.load none (.t 13),none⟩,
 ⟨(some 15),.bin .gtr (.t 14) (.k (.c (.d (.int .i64 120)))),none⟩,
 ⟨(some 16),.mv (.t 15),none⟩,
 ⟨(some 17),.load none (.t 4),some (16,false)⟩,
 ⟨(some 18),.bin .gtr (.t 17) (.k (.c (.d (.int .i64 30)))),some (16,false)⟩,
 ⟨(some 19),.pick (.t 16) (.k (.c (.d (.bool true)))) (.t 18),none⟩] [12,13,14,15,16,17,18])
 (.cond (.t 19)
 (.seq (.region [⟨(some 6),.mv (.k (.c (.d (.bool false)))),none⟩] [3,4,5,19])
 (.ret))
 (.skip)))
 (.seq (.seq (.region [⟨(some 20),.fieldAddr 0 (.t 3),none⟩,
 ⟨(some 21),.load none (.t 20),none⟩] [6,19,20])
 (.block 0 (.seq (.region [⟨(some 23),.bin .eql (.t 21) (.k (.c (.d (.int .i64 1)))),none⟩,
 ⟨(some 22),.mv (.t 23),none⟩] [23])
 (.cond (.t 22)
 (.seq (.region [⟨(some 24),.fieldAddr 1 (.t 3),none⟩,
 ⟨(some 25),.load none (.t 24),none⟩,
 ⟨(some 26),.qcall 45 [(.t 25),(.k (.c (.d (.int .i64 0)))),(.k (.c (.d (.int .i64 25))))],none⟩,
 ⟨(some 27),.mv (.t 26),none⟩,
 ⟨(some 28),.fieldAddr 2 (.t 3),some (27,true)⟩,
 ⟨(some 29),.load none (.t 28),some (27,true)⟩,
 ⟨(some 30),.bin .eql (.t 29) (.k (.c (.d (.str [])))),some (27,true)⟩,
 ⟨(some 31),.pick (.t 27) (.t 30) (.k (.c (.d (.bool false)))),none⟩,
 ⟨(some 32),.mv (.t 31),none⟩,
 ⟨(some 33),.fieldAddr 3 (.t 3),some (32,true)⟩,
 ⟨(some 34),.load none (.t 33),some (32,true)⟩,
 ⟨(some 35),.len 1 (.t 34),some (32,true)⟩,
 ⟨(some 36),.bin .eql (.t 35) (.k (.c (.d (.int .i64 0)))),some (32,true)⟩,
 ⟨(some 37),.pick (.t 32) (.t 36) (.k (.c (.d (.bool false)))),none⟩,
 ⟨(some 6),.mv (.t 37),none⟩] [3,4,5,21,22,24,25,26,27,28,29,30,31,32,33,34,35,36,37])
 (.ret))
 (.seq (.region [⟨(some 39),.bin .eql (.t 21) (.k (.c (.d (.int .i64 2)))),none⟩,
 ⟨(some 38),.mv (.t 39),none⟩] [22,39])
 (.cond (.t 38)
 (.seq (.region [⟨(some 40),.fieldAddr 1 (.t 3),none⟩,
 ⟨(some 41),.load none (.t 40),none⟩,
 ⟨(some 42),.qcall 45 [(.t 41),(.k (.c (.d (.int .i64 (-999))))),(.k (.c (.d (.int .i64 999))))],none⟩,
 ⟨(some 43),.mv (.t 42),none⟩,
 ⟨(some 44),.fieldAddr 2 (.t 3),some (43,true)⟩,
 ⟨(some 45),.load none (.t 44),some (43,true)⟩,
 ⟨(some 46),.bin .eql (.t 45) (.k (.c (.d (.str [])))),some (43,true)⟩,
 ⟨(some 47),.pick (.t 43) (.t 46) (.k (.c (.d (.bool false)))),none⟩,
 ⟨(some 48),.mv (.t 47),none⟩,
 ⟨(some 49),.fieldAddr 3 (.t 3),some (48,true)⟩,
 ⟨(some 50),.load none (.t 49),some (48,true)⟩,
 ⟨(some 51),.len 1 (.t 50),some (48,true)⟩,
 ⟨(some 52),.bin .eql (.t 51) (.k (.c (.d (.int .i64 0)))),some (48,true)⟩,
 ⟨(some 53),.pick (.t 48) (.t 52) (.k (.c (.d (.bool false)))),none⟩,
 ⟨(some 6),.mv (.t 53),none⟩] [3,4,5,21,38,40,41,42,43,44,45,46,47,48,49,50,51,52,53])
 (.ret))
 (.seq (.region [⟨(some 55),.bin .eql (.t 21) (.k (.c (.d (.int .i64 3)))),none⟩,
 ⟨(some 54),.mv (.t 55),none⟩] [21,38,55])
 (.cond (.t 54)
 (.seq (.seq (.region [⟨(some 56),.fieldAddr 1 (.t 3),none⟩,
 ⟨(some 57),.load none (.t 56),none⟩,
 ⟨(some 58),.bin .neq (.t 57) (.k (.c (.d (.int .i64 0)))),none⟩,
 ⟨(some 59),.mv (.t 58),none⟩,
 ⟨(some 60),.fieldAddr 2 (.t 3),some (59,false)⟩,
 ⟨(some 61),.load none (.t 60),some (59,false)⟩,
 ⟨(some 62),.qcall 46 [(.t 61)],some (59,false)⟩,
 ⟨(some 63),.un .not (.t 62),some (59,false)⟩,
 ⟨(some 64),.pick (.t 59) (.k (.c (.d (.bool true)))) (.t 63),none⟩,
 ⟨(some 65),.mv (.t 64),none⟩,
 ⟨(some 66),.fieldAddr 3 (.t 3),some (65,false)⟩,
 ⟨(some 67),.load none (.t 66),some (65,false)⟩,
 ⟨(some 68),.len 1 (.t 67),some (65,false)⟩,
 ⟨(some 69),.bin .gtr (.t 68) (.k (.c (.d (.int .i64 4)))),some (65,false)⟩,
 ⟨(some 70),.pick (.t 65) (.k (.c (.d (.bool true)))) (.t 69),none⟩] [54,56,57,58,59,60,61,62,63,64,65,66,67,68,69])
 (.cond (.t 70)
 (.seq (.region [⟨(some 6),.mv (.k (.c (.d (.bool false)))),none⟩] [3,4,5,70])
 (.ret))
 (.skip)))
 (.seq (.region [⟨(some 71),.fieldAddr 3 (.t 3),none⟩,
 ⟨(some 72),.load none (.t 71),none⟩,
 ⟨(some 73),.mkFunc 175 [(.t 4),(.t 5)],none⟩,
 ⟨(some 74),.call false 115 [(.t 72),(.t 73)],none⟩,
 ⟨(some 75),.un .not (.t 74),none⟩,
 ⟨(some 6),.mv (.t 75),none⟩] [3,4,5,70,71,72,73,74,75])
 (.ret)))
 (.skip)))))))))
 (.seq (.region [⟨(some 6),.mv (.k (.c (.d (.bool false)))),none⟩] [3,4,5,54])
 (.ret)))))
theorem ac119_ok : cFunc Tryz.prog [1000045,1000046] [(0,[0,1,2,6],[]),(1,[7,8,9,10,11],[]),(2,[12,13,14,15,16,17,18],[]),(3,[3,4,5,19],[]),(4,[6,19,20],[]),(5,[23],[]),(6,[3,4,5,21,22,24,25,26,27,28,29,30,31,32,33,34,35,36,37],[]),(7,[22,39],[]),(8,[3,4,5,21,38,40,41,42,43,44,45,46,47,48,49,50,51,52,53],[]),(9,[21,38,55],[]),(10,[54,56,57,58,59,60,61,62,63,64,65,66,67,68,69],[]),(11,[3,4,5,70],[]),(12,[3,4,5,70,71,72,73,74,75],[]),(13,[3,4,5,54],[])] Tryz.f119 = some (ac119,[.tmp 6],76) := by kernel_rfl
-- 175 loop.example/prologserver/impl.scan$1 params 1 ntmps 11
def ac175 : Cd := .seq (.region [⟨(some 3),.box (.t 0),none⟩,
 ⟨(some 4),.mv (.k (.c (.d (.bool false)))),none⟩] [0,4])
 (.seq (.region [⟨(some 5),.load (some 4) (.t 3),none⟩,
 ⟨(some 6),.load none (.t 1),none⟩,
 ⟨(some 7),.bin .add (.t 6) (.k (.c (.d (.int .i64 1)))),none⟩,
 ⟨(some 8),.load none (.t 2),none⟩,
 ⟨(some 9),.call false 119 [(.t 5),(.t 7),(.t 8)],none⟩,
 ⟨(some 10),.un .not (.t 9),none⟩,
 ⟨(some 4),.mv (.t 10),none⟩] [3,5,6,7,8,9,10])
 (.ret))
theorem ac175_ok : cFunc Tryz.prog [] [(0,[0,4],[]),(1,[3,5,6,7,8,9,10],[])] Tryz.f175 = some (ac175,[.tmp 4],11) := by kernel_rfl
-- 70 loop.example/prologserver/impl.TermValid params 1 ntmps 6
def ac70 : Cd := .seq (.region [⟨(some 1),.box (.t 0),none⟩,
 ⟨(some 2),.mv (.k (.c (.d (.bool false)))),none⟩] [0,2])
 (.seq (.region [⟨(some 3),.alloc [(.d (.int .i64 0))],none⟩,
 ⟨none,.store 1 (.t 3) (.k (.c (.d (.int .i64 0)))),none⟩] [])
 (.seq (.region [⟨(some 4),.load (some 4) (.t 1),none⟩,
 ⟨(some 5),.call false 119 [(.t 4),(.k (.c (.d (.int .i64 1)))),(.t 3)],none⟩,
 ⟨(some 2),.mv (.t 5),none⟩] [1,3,4,5])
 (.ret)))
theorem ac70_ok : cFunc Tryz.prog [] [(0,[0,2],[]),(1,[],[]),(2,[1,3,4,5],[])] Tryz.f70 = some (ac70,[.tmp 2],6) := by kernel_rfl
-- 181 loop.example/prologserver/spec.l1Own params 1 ntmps 63
def ac181 : Cd := .seq (.region [⟨(some 1),.box (.t 0),none⟩,
 ⟨(some 2),.mv (.k (.c (.d (.bool false)))),none⟩] [0,2])
 (.seq (.seq (.region [⟨(some 3),.fieldAddr 0 (.t 1),none⟩,
 ⟨(some 4),.load none (.t 3),none⟩] [3])
 (.block 0 (.seq (.region [⟨(some 6),.bin .eql (.t 4) (.k (.c (.d (.int .i64 1)))),none⟩,
 ⟨(some 5),.mv (.t 6),none⟩] [6])
 (.cond (.t 5)
 (.seq (.region [⟨(some 7),.fieldAddr 1 (.t 1),none⟩,
 ⟨(some 8),.load none (.t 7),none⟩,
 ⟨(some 9),.bin .geq (.t 8) (.k (.c (.d (.int .i64 0)))),none⟩,
 ⟨(some 10),.mv (.t 9),none⟩,
 ⟨(some 11),.fieldAddr 1 (.t 1),some (10,true)⟩,
 ⟨(some 12),.load none (.t 11),some (10,true)⟩,
 ⟨(some 13),.bin .leq (.t 12) (.k (.c (.d (.int .i64 25)))),some (10,true)⟩,
 ⟨(some 14),.pick (.t 10) (.t 13) (.k (.c (.d (.bool false)))),none⟩,
 ⟨(some 15),.mv (.t 14),none⟩,
 ⟨(some 16),.fieldAddr 2 (.t 1),some (15,true)⟩,
 ⟨(some 17),.load none (.t 16),some (15,true)⟩,
 ⟨(some 18),.bin .eql (.t 17) (.k (.c (.d (.str [])))),some (15,true)⟩,
 ⟨(some 19),.pick (.t 15) (.t 18) (.k (.c (.d (.bool false)))),none⟩,
 ⟨(some 20),.mv (.t 19),none⟩,
 ⟨(some 21),.fieldAddr 3 (.t 1),some (20,true)⟩,
 ⟨(some 22),.load none (.t 21),some (20,true)⟩,
 ⟨(some 23),.len 1 (.t 22),some (20,true)⟩,
 ⟨(some 24),.bin .eql (.t 23) (.k (.c (.d (.int .i64 0)))),some (20,true)⟩,
 ⟨(some 25),.pick (.t 20) (.t 24) (.k (.c (.d (.bool false)))),none⟩,
 ⟨(some 2),.mv (.t 25),none⟩] [1,4,5,7,8,9,10,11,12,13,14,15,16,17,18,19,20,21,22,23,24,25])
 (.ret))
 (.seq (.region [⟨(some 27),.bin .eql (.t 4) (.k (.c (.d (.int .i64 2)))),none⟩,
 ⟨(some 26),.mv (.t 27),none⟩] [5,27])
 (.cond (.t 26)
 (.seq (.region [⟨(some 28),.fieldAddr 1 (.t 1),none⟩,
 ⟨(some 29),.load none (.t 28),none⟩,
 ⟨(some 30),.bin .geq (.t 29) (.k (.c (.d (.int .i64 (-999))))),none⟩,
 ⟨(some 31),.mv (.t 30),none⟩,
 ⟨(some 32),.fieldAddr 1 (.t 1),some (31,true)⟩,
 ⟨(some 33),.load none (.t 32),some (31,true)⟩,
 ⟨(some 34),.bin .leq (.t 33) (.k (.c (.d (.int .i64 999)))),some (31,true)⟩,
 ⟨(some 35),.pick (.t 31) (.t 34) (.k (.c (.d (.bool false)))),none⟩,
 ⟨(some 36),.mv (.t 35),none⟩,
 ⟨(some 37),.fieldAddr 2 (.t 1),some (36,true)⟩,
 ⟨(some 38),.load none (.t 37),some (36,true)⟩,
 ⟨(some 39),.bin .eql (.t 38) (.k (.c (.d (.str [])))),some (36,true)⟩,
 ⟨(some 40),.pick (.t 36) (.t 39) (.k (.c (.d (.bool false)))),none⟩,
 ⟨(some 41),.mv (.t 40),none⟩,
 ⟨(some 42),.fieldAddr 3 (.t 1),some (41,true)⟩,
 ⟨(some 43),.load none (.t 42),some (41,true)⟩,
 ⟨(some 44),.len 1 (.t 43),some (41,true)⟩,
 ⟨(some 45),.bin .eql (.t 44) (.k (.c (.d (.int .i64 0)))),some (41,true)⟩,
 ⟨(some 46),.pick (.t 41) (.t 45) (.k (.c (.d (.bool false)))),none⟩,
 ⟨(some 2),.mv (.t 46),none⟩] [1,4,26,28,29,30,31,32,33,34,35,36,37,38,39,40,41,42,43,44,45,46])
 (.ret))
 (.seq (.region [⟨(some 48),.bin .eql (.t 4) (.k (.c (.d (.int .i64 3)))),none⟩,
 ⟨(some 47),.mv (.t 48),none⟩] [4,26,48])
 (.cond (.t 47)
 (.seq (.region [⟨(some 49),.fieldAddr 1 (.t 1),none⟩,
 ⟨(some 50),.load none (.t 49),none⟩,
 ⟨(some 51),.bin .eql (.t 50) (.k (.c (.d (.int .i64 0)))),none⟩,
 ⟨(some 52),.mv (.t 51),none⟩,
 ⟨(some 53),.fieldAddr 2 (.t 1),some (52,true)⟩,
 ⟨(some 54),.load none (.t 53),some (52,true)⟩,
 ⟨(some 55),.qcall 104 [(.t 54)],some (52,true)⟩,
 ⟨(some 56),.pick (.t 52) (.t 55) (.k (.c (.d (.bool false)))),none⟩,
 ⟨(some 57),.mv (.t 56),none⟩,
 ⟨(some 58),.fieldAddr 3 (.t 1),some (57,true)⟩,
 ⟨(some 59),.load none (.t 58),some (57,true)⟩,
 ⟨(some 60),.len 1 (.t 59),some (57,true)⟩,
 ⟨(some 61),.bin .leq (.t 60) (.k (.c (.d (.int .i64 4)))),some (57,true)⟩,
 ⟨(some 62),.pick (.t 57) (.t 61) (.k (.c (.d (.bool false)))),none⟩,
 ⟨(some 2),.mv (.t 62),none⟩] [1,47,49,50,51,52,53,54,55,56,57,58,59,60,61,62])
 (.ret))
 (.skip)))))))))
 (.seq (.region [⟨(some 2),.mv (.k (.c (.d (.bool false)))),none⟩] [1,47])
 (.ret)))
theorem ac181_ok : cFunc Tryz.prog [1000104] [(0,[0,2],[]),(1,[3],[]),(2,[6],[]),(3,[1,4,5,7,8,9,10,11,12,13,14,15,16,17,18,19,20,21,22,23,24,25],[]),(4,[5,27],[]),(5,[1,4,26,28,29,30,31,32,33,34,35,36,37,38,39,40,41,42,43,44,45,46],[]),(6,[4,26,48],[]),(7,[1,47,49,50,51,52,53,54,55,56,57,58,59,60,61,62],[]),(8,[1,47],[])] Tryz.f181 = some (ac181,[.tmp 2],63) := by kernel_rfl
-- 135 loop.example/prologserver/spec.l1Shape params 2 ntmps 29
-- loop head live: [1,2,5]
def ac135 : Cd := .seq (.region [⟨(some 2),.box (.t 0),none⟩,
 ⟨(some 4),.mv (.k (.c (.d (.bool false)))),none⟩] [0,4])
 (.seq (.seq (.region [⟨(some 6),.mv (.t 1),none⟩,
 ⟨(some 7),.bin .lss (.t 6) (.k (.c (.d (.int .i64 1)))),none⟩,
 ⟨(some 8),.mv (.t 7),none⟩,
 ⟨(some 9),.load (some 4) (.t 2),some (8,false)⟩,
 ⟨(some 10),.qcall 181 [(.t 9)],some (8,false)⟩,
 ⟨(some 11),.un .not (.t 10),some (8,false)⟩,
 ⟨(some 12),.pick (.t 8) (.k (.c (.d (.bool true)))) (.t 11),none⟩] [6,7,8,9,10,11])
 (.cond (.t 12)
 (.seq (.region [⟨(some 4),.mv (.k (.c (.d (.bool false)))),none⟩] [1,2,12])
 (.ret))
 (.skip)))
 (.seq (.seq (.region [⟨(some 5),.mv (.k (.c (.d (.int .i64 0)))),none⟩] [4,12])
 (.block 0 (.loop (.seq (.seq (.region [⟨(some 13),.mv (.t 5),none⟩,
 ⟨(some 14),.fieldAddr 3 (.t 2),none⟩,
 ⟨(some 15),.load none (.t 14),none⟩,
 ⟨(some 16),.len 1 (.t 15),none⟩,
 ⟨(some 17),.bin .lss (.t 13) (.t 16),none⟩] [13,14,15,16])
 (.cond (.t 17)
 (.skip)
 (.exit 0)))
 (.seq (.block 1 (.seq (.region [⟨(some 20),.fieldAddr 3 (.t 2),none⟩,
 ⟨(some 21),.load none (.t 20),none⟩,
 ⟨(some 22),.mv (.t 5),none⟩,
 ⟨(some 23),.indexAddr 4 (.t 21) (.t 22),none⟩,
 ⟨(some 24),.load (some 4) (.t 23),none⟩,
 ⟨(some 25),.mv (.t 1),none⟩,
 ⟨(some 26),.bin .sub (.t 25) (.k (.c (.d (.int .i64 1)))),none⟩,
 ⟨(some 27),.qcall 135 [(.t 24),(.t 26)],none⟩,
 ⟨(some 28),.un .not (.t 27),none⟩] [17,20,21,22,23,24,25,26,27])
 (.cond (.t 28)
 (.seq (.region [⟨(some 4),.mv (.k (.c (.d (.bool false)))),none⟩] [1,2,5,28])
 (.ret))
 (.skip))))
 (.region [⟨(some 18),.mv (.t 5),none⟩,
 ⟨(some 19),.bin .add (.t 18) (.k (.c (.d (.int .i64 1)))),none⟩,
 ⟨(some 5),.mv (.t 19),none⟩] [4,18,19,28]))))))
 (.seq (.region [⟨(some 4),.mv (.k (.c (.d (.bool true)))),none⟩] [])
 (.ret))))
theorem ac135_ok : cFunc Tryz.prog [1000135,1000181] [(0,[0,4],[]),(1,[6,7,8,9,10,11],[]),(2,[1,2,12],[]),(3,[4,12],[]),(4,[13,14,15,16],[]),(6,[17,20,21,22,23,24,25,26,27],[]),(7,[1,2,5,28],[]),(5,[4,18,19,28],[]),(8,[],[])] Tryz.f135 = some (ac135,[.tmp 4],29) := by kernel_rfl
-- 136 loop.example/prologserver/spec.l1Count params 2 ntmps 31
-- loop head live: [1,2,5,6]
def ac136 : Cd := .seq (.region [⟨(some 2),.box (.t 0),none⟩,
 ⟨(some 4),.mv (.k (.c (.d (.int .i64 0)))),none⟩] [0,4])
 (.seq (.region [⟨(some 5),.mv (.k (.c (.d (.int .i64 1)))),none⟩] [])
 (.seq (.seq (.region [⟨(some 6),.mv (.k (.c (.d (.int .i64 0)))),none⟩] [])
 (.block 0 (.loop (.seq (.seq (.region [⟨(some 7),.mv (.t 6),none⟩,
 ⟨(some 8),.fieldAddr 3 (.t 2),none⟩,
 ⟨(some 9),.load none (.t 8),none⟩,
 ⟨(some 10),.len 1 (.t 9),none⟩,
 ⟨(some 11),.bin .lss (.t 7) (.t 10),none⟩,
 ⟨(some 12),.mv (.t 11),none⟩,
 ⟨(some 13),.mv (.t 5),some (12,true)⟩,
 ⟨(some 14),.mv (.t 1),some (12,true)⟩,
 ⟨(some 15),.bin .leq (.t 13) (.t 14),some (12,true)⟩,
 ⟨(some 16),.pick (.t 12) (.t 15) (.k (.c (.d (.bool false)))),none⟩] [7,8,9,10,11,12,13,14,15])
 (.cond (.t 16)
 (.skip)
 (.exit 0)))
 (.seq (.block 1 (.region [⟨(some 19),.mv (.t 5),none⟩,
 ⟨(some 20),.fieldAddr 3 (.t 2),none⟩,
 ⟨(some 21),.load none (.t 20),none⟩,
 ⟨(some 22),.mv (.t 6),none⟩,
 ⟨(some 23),.indexAddr 4 (.t 21) (.t 22),none⟩,
 ⟨(some 24),.load (some 4) (.t 23),none⟩,
 ⟨(some 25),.mv (.t 1),none⟩,
 ⟨(some 26),.mv (.t 5),none⟩,
 ⟨(some 27),.bin .sub (.t 25) (.t 26),none⟩,
 ⟨(some 28),.qcall 136 [(.t 24),(.t 27)],none⟩,
 ⟨(some 29),.bin .add (.t 19) (.t 28),none⟩,
 ⟨(some 5),.mv (.t 29),none⟩] [16,19,20,21,22,23,24,25,26,27,28,29]))
 (.region [⟨(some 17),.mv (.t 6),none⟩,
 ⟨(some 18),.bin .add (.t 17) (.k (.c (.d (.int .i64 1)))),none⟩,
 ⟨(some 6),.mv (.t 18),none⟩] [17,18]))))))
 (.seq (.region [⟨(some 30),.mv (.t 5),none⟩,
 ⟨(some 4),.mv (.t 30),none⟩] [5,30])
 (.ret))))
theorem ac136_ok : cFunc Tryz.prog [1000136] [(0,[0,4],[]),(1,[],[]),(2,[],[]),(3,[7,8,9,10,11,12,13,14,15],[]),(5,[16,19,20,21,22,23,24,25,26,27,28,29],[]),(4,[17,18],[]),(6,[5,30],[])] Tryz.f136 = some (ac136,[.tmp 4],31) := by kernel_rfl
-- 80 loop.example/prologserver/spec.TermValid params 1 ntmps 10
def ac80 : Cd := .seq (.region [⟨(some 1),.box (.t 0),none⟩,
 ⟨(some 2),.mv (.k (.c (.d (.bool false)))),none⟩] [0,2])
 (.seq (.region [⟨(some 3),.load (some 4) (.t 1),none⟩,
 ⟨(some 4),.qcall 135 [(.t 3),(.k (.c (.d (.int .i64 30))))],none⟩,
 ⟨(some 5),.mv (.t 4),none⟩,
 ⟨(some 6),.load (some 4) (.t 1),some (5,true)⟩,
 ⟨(some 7),.qcall 136 [(.t 6),(.k (.c (.d (.int .i64 120))))],some (5,true)⟩,
 ⟨(some 8),.bin .leq (.t 7) (.k (.c (.d (.int .i64 120)))),some (5,true)⟩,
 ⟨(some 9),.pick (.t 5) (.t 8) (.k (.c (.d (.bool false)))),none⟩,
 ⟨(some 2),.mv (.t 9),none⟩] [1,3,4,5,6,7,8,9])
 (.ret))
theorem ac80_ok : cFunc Tryz.prog [1000135,1000136] [(0,[0,2],[]),(1,[1,3,4,5,6,7,8,9],[])] Tryz.f80 = some (ac80,[.tmp 2],10) := by kernel_rfl
def Cn (c : Nat) : Ob := .cells [.d (.int .i64 c)]
def ScanOk (t : Tm) : Prop := ∀ (deep c : Nat) (H : Heap) (i : Nat), deep ≤ 31 → c ≤ 120 → i < H.length →
  ACalls Tryz.prog 119 [.agg (t.row.map .d), .c (.d (.int .i64 deep)), .c (.ptr (.e i) 0)] (H.set i (Cn c)) (fun r H' => r = .c (.d (.bool (scanT deep t c).1)) ∧ H' = H.set i (Cn (scanT deep t c).2))
theorem anyS_scan (d : Nat) : ∀ (l : List Tm) (c : Nat), anyS (fun c t => (!(scanT d t c).1, (scanT d t c).2)) l c = (!(scanL d l c).1, (scanL d l c).2)
  | [], _ => rfl
  | t :: l, c => by
    rw [anyS, scanL]
    cases h : (scanT d t c).1 with
    | true => simp [anyS_scan d l]
    | false => simp
def scanHeap (H : Heap) (i deep : Nat) (x : Ob) (c : Nat) : Heap := H.set i (Cn c) ++ [x, .cells [.d (.int .i64 deep)], .cells [.ptr (.e i) 0]]
theorem scan1_calls (t : Tm) (h : ScanOk t) (deep c : Nat) (H : Heap) (i : Nat) (x : Ob) (hd : deep ≤ 30) (hc : c ≤ 120) (hi : i < H.length) (hfit : ∀ c, Obs.fits (H.length + 3) 0 (scanHeap H i deep x c)) :
    ACalls Tryz.prog 175 [.agg (t.row.map .d), .c (.ptr (.e (H.length + 1)) 0), .c (.ptr (.e (H.length + 2)) 0)] (scanHeap H i deep x c) (fun r H' => r = .c (.d (.bool (!(scanT (deep + 1) t c).1))) ∧ H' = scanHeap H i deep x (scanT (deep + 1) t c).2) := by
  refine acalls Tryz.func175 (by kernel_rfl) ac175_ok fun hf => ?_
  have hlen : ∀ c, (scanHeap H i deep x c).length = H.length + 3 := fun c => by simp [scanHeap]
  have g1 : (scanHeap H i deep x c)[H.length + 1]? = some (.cells [.d (.int .i64 deep)]) := by
    rw [scanHeap, List.getElem?_append_right (by simp)]; simp
  have g2 : (scanHeap H i deep x c)[H.length + 2]? = some (.cells [.ptr (.e i) 0]) := by
    rw [scanHeap, List.getElem?_append_right (by simp)]; simp
  have hadd : inR .i64 ((deep : Int) + 1) := small_i64 (by omega) (by omega)
  simp -implicitDefEqProofs [ac175, g1, g2, hadd, row_len, take_row, go_sem, -List.set_cons_succ, -List.set_cons_zero]
  have hset : ∀ c, (H ++ ([x, .cells [.d (.int .i64 deep)], .cells [.ptr (.e i) 0]] ++ [Ob.cells (t.row.map C.d)])).set i (Cn c) = scanHeap H i deep x c ++ [Ob.cells (t.row.map C.d)] := fun c => by
    rw [List.set_append_left _ _ hi, scanHeap, List.append_assoc]
  have h2 := h (deep + 1) c (H ++ ([x, .cells [.d (.int .i64 deep)], .cells [.ptr (.e i) 0]] ++ [Ob.cells (t.row.map C.d)])) i (by omega) hc (by simp; omega)
  rw [hset] at h2
  simp -implicitDefEqProofs [pure_d, re_d, Ref.re, go_sem, -List.set_cons_succ, -List.set_cons_zero]
  refine h2.mono fun r H' ⟨h3, h4⟩ => ⟨scanHeap H i deep x (scanT (deep + 1) t c).2, [Ob.cells (t.row.map C.d)], .c (.d (.bool (scanT (deep + 1) t c).1)), ?_, ?_, Nat.le_refl _, ?_, h3, ?_⟩
  · rw [h4, hset]; simp [Ob.re, re_d]
  · simp only [hlen]
  · simp only [hlen]; exact hfit _
  · simp -implicitDefEqProofs [go_sem, -List.set_cons_succ, -List.set_cons_zero]
theorem scanT_bad {deep c : Nat} {t : Tm} (h : 120 < c + 1 ∨ 30 < deep) : scanT deep t c = (false, c + 1) := by
  obtain ⟨k, n, s, l⟩ := t
  rw [scanT, if_pos h]
theorem scanT_own {deep c : Nat} {t : Tm} (h1 : c + 1 ≤ 120) (h2 : deep ≤ 30) (h : t.ownB = false) : scanT deep t c = (false, c + 1) := by
  obtain ⟨k, n, s, l⟩ := t
  rw [scanT, if_neg (by omega), h]; rfl
theorem scanT_go {deep c : Nat} {t : Tm} (h1 : c + 1 ≤ 120) (h2 : deep ≤ 30) (h : t.ownB = true) : scanT deep t c = scanL (deep + 1) t.kids (c + 1) := by
  obtain ⟨k, n, s, l⟩ := t
  rw [scanT, if_neg (by omega), h]; rfl
theorem scanT_leaf {deep c : Nat} {k n : Int} {s : List UInt8} {l : List Tm} (h1 : c + 1 ≤ 120) (h2 : deep ≤ 30) (h : k ≠ 3) : scanT deep (.mk k n s l) c = ((Tm.mk k n s l).ownB, c + 1) := by
  cases ho : (Tm.mk k n s l).ownB with
  | false => exact scanT_own h1 h2 ho
  | true =>
    rw [scanT_go h1 h2 ho, Tm.kids, own_leaf h ho]
    rfl
theorem scan_calls : ∀ t : Tm, t.fits → ScanOk t := by
  refine Tm.ind fun k n s l ih hfits deep c H i hd hc hi => ?_
  obtain ⟨hk, hn, hs, hl, hkids⟩ := hfits
  refine acalls Tryz.func119 (by kernel_rfl) ac119_ok fun hf => ?_
  simp only [List.length_set] at hf
  have hadd : inR .i64 ((c : Int) + 1) := small_i64 (by omega) (by omega)
  have hli : inR .i64 (l.length : Int) := small_i64 (by omega) (by omega)
  have hf1 : Obs.fits H.length 0 (H.set i (.cells [.d (.int .i64 ((c : Int) + 1))])) := fits_reset hf ⟨trivial, trivial⟩
  simp -implicitDefEqProofs [ac119, Cn, row_mk, hadd, hi, hf1, hli, List.getElem?_set, go_sem, -List.set_cons_succ, -List.set_cons_zero]
  have done : ∀ b : Bool, scanT deep (.mk k n s l) c = (b, c + 1) → b = (scanT deep (.mk k n s l) c).1 ∧ H.set i (Ob.cells [C.d (D.int IntKind.i64 ((c : Int) + 1))]) = H.set i (Ob.cells [C.d (D.int IntKind.i64 ((scanT deep (.mk k n s l) c).2 : Nat))]) := fun b h => by rw [h]; exact ⟨rfl, rfl⟩
  refine ⟨fun h => ?_, fun h1 h2 => ⟨fun k1 => ?_, fun k1 => ⟨fun k2 => ?_, fun k2 => ⟨fun k3 => ⟨fun n0 => ⟨n0, ?_⟩, fun n0 => ?_⟩, fun k3 => ?_⟩⟩⟩⟩
  · have := done false (scanT_bad (by omega))
    exact ⟨this.1.symm, this.2⟩
  · subst k1
    refine qcall_pure (within_calls n 0 25) (by simpa using hf1) rfl ?_
    have hd := done _ (scanT_leaf (by omega) (by omega) (by omega))
    simp -implicitDefEqProofs [hi, hli, isEmpty_len, List.getElem?_set, go_sem, -List.set_cons_succ, -List.set_cons_zero]
    rw [← hd.1]
    refine ⟨?_, hd.2⟩
    simp [Tm.ownB]
  · subst k2
    refine qcall_pure (within_calls n (-999) 999) (by simpa using hf1) rfl ?_
    have hd := done _ (scanT_leaf (by omega) (by omega) (by omega))
    simp -implicitDefEqProofs [hi, hli, isEmpty_len, List.getElem?_set, go_sem, -List.set_cons_succ, -List.set_cons_zero]
    rw [← hd.1]
    refine ⟨?_, hd.2⟩
    simp [Tm.ownB]
  · subst n0 k3
    refine qcall_pure (nvImpl_calls s (by omega)) (by simpa using hf1) rfl ?_
    cases hnm : nameB s with
    | false =>
      have hd := done _ (scanT_own (by omega) (by omega) (by simp [Tm.ownB, hnm]))
      simp -implicitDefEqProofs [hnm, hi, hli, List.getElem?_set, go_sem, -List.set_cons_succ, -List.set_cons_zero]
      exact ⟨hd.1.symm, hd.2⟩
    | true =>
      by_cases h4 : 4 < l.length
      · have h4' : ¬ l.length ≤ 4 := by omega
        have hd := done _ (scanT_own (by omega) (by omega) (by simp [Tm.ownB, hnm, h4']))
        simp -implicitDefEqProofs [hnm, hi, hli, h4, List.getElem?_set, go_sem, -List.set_cons_succ, -List.set_cons_zero]
        exact ⟨fun _ => ⟨hd.1.symm, hd.2⟩, fun h => by omega⟩
      · have h4' : l.length ≤ 4 := by omega
        have hgo := scanT_go (t := .mk 3 0 s l) (show c + 1 ≤ 120 by omega) (show deep ≤ 30 by omega) (by simp [Tm.ownB, hnm, h4'])
        simp -implicitDefEqProofs [hnm, hi, hli, h4, List.getElem?_set, go_sem, -List.set_cons_succ, -List.set_cons_zero]
        refine ⟨fun h => by omega, fun _ => ?_⟩
        have hfit : ∀ c, Obs.fits (H.length + 3) 0 (scanHeap H i deep (Ob.cells [C.d (D.int IntKind.i64 3), C.d (D.int IntKind.i64 0), C.d (D.str s), C.d (D.sl (List.map Tm.row l))]) c) := fun c =>
          fits_append (fits_mono (by omega) (fits_reset (b := Cn c) hf ⟨trivial, trivial⟩)) ⟨⟨trivial, trivial, trivial, trivial, trivial⟩, ⟨trivial, trivial⟩, ⟨by show i < H.length + 3 + 0; omega, trivial⟩, trivial⟩
        have con := tmF_con (fun c => scanHeap H i deep (Ob.cells [C.d (D.int IntKind.i64 3), C.d (D.int IntKind.i64 0), C.d (D.str s), C.d (D.sl (List.map Tm.row l))]) c) (H.length + 3) (fun c => by simp [scanHeap]) hfit 175 [(H.length + 1, 0), (H.length + 2, 0)]
          (fun c t => (!(scanT (deep + 1) t c).1, (scanT (deep + 1) t c).2)) (fun c => c ≤ 120) l (by omega) (fun c hc t ht => scan1_calls t (ih t ht (hkids t ht)) deep c H i _ (by omega) hc hi hfit)
          (fun c hc t ht h => ((scan_spec t (deep + 1) c hc).1 (by simpa using h)).2) (c + 1) (by omega)
        rw [anyS_scan] at con
        simp only [Tm.kids] at hgo
        rw [← hgo] at con
        refine con.mono fun r H' ⟨h5, h6⟩ => ⟨H.set i (Cn (scanT deep (Tm.mk 3 0 s l) c).2), [Ob.cells [C.d (D.int IntKind.i64 3), C.d (D.int IntKind.i64 0), C.d (D.str s), C.d (D.sl (List.map Tm.row l))], Ob.cells [C.d (D.int IntKind.i64 deep)], Ob.cells [C.ptr (.e i) 0]], .c (.d (.bool (!(scanT deep (Tm.mk 3 0 s l) c).1))), by rw [h6]; rfl, by simp, Nat.le_refl _, by simpa using fits_reset (b := Cn (scanT deep (Tm.mk 3 0 s l) c).2) hf ⟨trivial, trivial⟩, h5, ?_⟩
        simp -implicitDefEqProofs [go_sem, -List.set_cons_succ, -List.set_cons_zero]
        rfl
  · have := done false (scanT_own (by omega) (by omega) (by simp [Tm.ownB, k3, n0]))
    exact ⟨this.1.symm, this.2⟩
  · have := done false (scanT_own (by omega) (by omega) (by simp [Tm.ownB, k1, k2, k3]))
    exact ⟨this.1.symm, this.2⟩
theorem tvImpl_calls (t : Tm) (ht : t.fits) (H : Heap) : ACalls Tryz.prog 70 [.agg (t.row.map .d)] H (fun r H' => H' = H ∧ r = .c (.d (.bool t.valid))) := by
  refine acalls Tryz.func70 (by kernel_rfl) ac70_ok fun hf => ?_
  simp -implicitDefEqProofs [ac70, hf, row_len, take_row, go_sem, -List.set_cons_succ, -List.set_cons_zero]
  have h := scan_calls t ht 1 0 (H ++ [Ob.cells (t.row.map C.d), Cn 0]) (H.length + 1) (by omega) (by omega) (by simp)
  have hset : ∀ c, (H ++ [Ob.cells (t.row.map C.d), Cn 0]).set (H.length + 1) (Cn c) = H ++ [Ob.cells (t.row.map C.d), Cn c] := fun c => by
    rw [List.set_append_right _ _ (by omega)]; simp
  rw [hset, scan_valid, hset] at h
  simp -implicitDefEqProofs [pure_d, re_d, Ref.re, go_sem, -List.set_cons_succ, -List.set_cons_zero]
  refine h.mono fun r H' ⟨h3, h4⟩ => ⟨H, [Ob.cells (t.row.map C.d), Cn (scanT 1 t 0).2], .c (.d (.bool t.valid)), ?_, rfl, Nat.le_refl _, hf, h3, ?_⟩
  · rw [h4]; simp [Cn, Ob.re, C.re, re_d]
  · simp -implicitDefEqProofs [go_sem, -List.set_cons_succ, -List.set_cons_zero]
theorem sizes_take : ∀ {l : List Tm} {i : Nat} (h : i < l.length), sizes (l.take (i + 1)) = sizes (l.take i) + l[i].size
  | [], i, h => by simp at h
  | t :: l, 0, h => by simp [sizes]
  | t :: l, i + 1, h => by
    have := sizes_take (l := l) (i := i) (by simpa using h)
    simp only [List.take_succ_cons, sizes, List.getElem_cons_succ, this]
    omega
theorem sizes_le : ∀ (l : List Tm) (i : Nat), sizes (l.take i) ≤ sizes l
  | [], i => by simp
  | t :: l, 0 => by simp [sizes]
  | t :: l, i + 1 => by
    have := sizes_le l i
    simp only [List.take_succ_cons, sizes]
    omega
theorem own_calls (t : Tm) (ht : t.fits) (H : Heap) : ACalls Tryz.prog 181 [.agg (t.row.map .d)] H (fun r H' => H' = H ∧ r = .c (.d (.bool t.ownB))) := by
  obtain ⟨k, n, s, l⟩ := t
  obtain ⟨hk, hn, hs, hl, hkids⟩ := ht
  refine acalls Tryz.func181 (by kernel_rfl) ac181_ok fun hf => ?_
  have hli : inR .i64 (l.length : Int) := small_i64 (by omega) (by omega)
  by_cases k1 : k = 1
  · subst k1
    simp -implicitDefEqProofs [ac181, row_mk, hli, Tm.ownB, isEmpty_len, go_sem, -List.set_cons_succ, -List.set_cons_zero]
  · by_cases k2 : k = 2
    · subst k2
      simp -implicitDefEqProofs [ac181, row_mk, hli, Tm.ownB, isEmpty_len, go_sem, -List.set_cons_succ, -List.set_cons_zero]
    · by_cases k3 : k = 3
      · subst k3
        by_cases n0 : n = 0
        · simp -implicitDefEqProofs [ac181, row_mk, hli, n0, go_sem, -List.set_cons_succ, -List.set_cons_zero]
          refine qcall_pure (nvSpec_calls s (by omega)) hf rfl ?_
          simp -implicitDefEqProofs [hli, n0, Tm.ownB, go_sem, -List.set_cons_succ, -List.set_cons_zero]
          congr 1
          simp
          omega
        · simp -implicitDefEqProofs [ac181, row_mk, hli, n0, Tm.ownB, go_sem, -List.set_cons_succ, -List.set_cons_zero]
      · simp -implicitDefEqProofs [ac181, row_mk, hli, k1, k2, k3, Tm.ownB, go_sem, -List.set_cons_succ, -List.set_cons_zero]
theorem shape_calls : ∀ t : Tm, t.fits → ∀ (d : Nat), d ≤ 30 → ∀ H, ACalls Tryz.prog 135 [.agg (t.row.map .d), .c (.d (.int .i64 d))] H (fun r H' => H' = H ∧ r = .c (.d (.bool (t.shape d)))) := by
  refine Tm.ind fun k n s l ih hfits d hd H => ?_
  have how := own_calls _ hfits
  obtain ⟨hk, hn, hs, hl, hkids⟩ := hfits
  rw [row_mk] at how
  simp only [List.map_cons, List.map_nil] at how
  refine acalls Tryz.func135 (by kernel_rfl) ac135_ok fun hf => ?_
  have hli : inR .i64 (l.length : Int) := small_i64 (by omega) (by omega)
  have hsub : 1 ≤ d → inR .i64 ((d : Int) - 1) := fun h => small_i64 (by omega) (by omega)
  simp -implicitDefEqProofs [ac135, row_mk, hli, go_sem, -List.set_cons_succ, -List.set_cons_zero]
  refine ⟨fun h1 => ⟨h1, ?_⟩, fun h1 => ?_⟩
  · have hd1 : 1 ≤ d := by omega
    refine qcall_pure how hf rfl ?_
    cases ho : (Tm.mk k n s l).ownB with
    | false => simp -implicitDefEqProofs [ho, Tm.shape, go_sem, -List.set_cons_succ, -List.set_cons_zero]
    | true =>
      simp -implicitDefEqProofs [ho, go_sem, -List.set_cons_succ, -List.set_cons_zero]
      refine loop_set (σ := Nat) (fun i => [(5, .c (.d (.int .i64 i)))]) (fun _ => H) (fun _ => [_]) (fun i => i ≤ l.length ∧ ∀ t ∈ l.take i, t.shape (d - 1) = true) (fun i => l.length - i) 0 rfl ⟨Nat.zero_le _, by simp⟩ ?_
      rintro i ⟨hi, hall⟩
      simp -implicitDefEqProofs [setAll, hli, go_sem, -List.set_cons_succ, -List.set_cons_zero]
      refine ⟨fun hlt => ?_, fun hge => ?_⟩
      · refine row_of hlt (row_len _) ?_
        simp -implicitDefEqProofs [row_len, take_row, pure_d, re_d, hsub hd1, go_sem, -List.set_cons_succ, -List.set_cons_zero]
        have hc := ih l[i] (List.getElem_mem hlt) (hkids _ (List.getElem_mem hlt)) (d - 1) (by omega)
        rw [show ((d - 1 : Nat) : Int) = (d : Int) - 1 by omega] at hc
        refine qcall_pure hc hf rfl ?_
        have hadd : inR .i64 ((i : Int) + 1) := small_i64 (by omega) (by omega)
        simp -implicitDefEqProofs [hadd, go_sem, -List.set_cons_succ, -List.set_cons_zero]
        refine ⟨fun hg => ?_, fun hg => loop_back (i + 1) (by simp [setAll]) ⟨hlt, fun t ht => ?_⟩ (by show l.length - (i + 1) < l.length - i; omega)⟩
        · rw [Tm.shape, shapes_all]
          have : (l.all fun t => t.shape (d - 1)) = false := by
            rw [List.all_eq_false]
            exact ⟨l[i], List.getElem_mem hlt, by simp [hg]⟩
          simp [this]
        · rw [List.take_succ_eq_append_getElem hlt, List.mem_append] at ht
          rcases ht with ht | ht
          · exact hall t ht
          · simp at ht; subst ht; exact hg
      · rw [List.take_of_length_le hge] at hall
        rw [Tm.shape, shapes_all, ho, List.all_eq_true.2 hall]
        simp [hd1]
  · rw [Tm.shape]
    have : ¬ 1 ≤ d := by omega
    simp [this]
theorem count_calls : ∀ t : Tm, t.fits → ∀ (m : Nat), m ≤ 1000 → ∀ H, ACalls Tryz.prog 136 [.agg (t.row.map .d), .c (.d (.int .i64 m))] H (fun r H' => H' = H ∧ r = .c (.d (.int .i64 (min t.size (m + 1) : Nat)))) := by
  refine Tm.ind fun k n s l ih hfits m hm H => ?_
  obtain ⟨hk, hn, hs, hl, hkids⟩ := hfits
  refine acalls Tryz.func136 (by kernel_rfl) ac136_ok fun hf => ?_
  have hli : inR .i64 (l.length : Int) := small_i64 (by omega) (by omega)
  simp -implicitDefEqProofs [ac136, row_mk, hli, go_sem, -List.set_cons_succ, -List.set_cons_zero]
  refine loop_set (σ := Nat × Nat) (fun x => [(6, .c (.d (.int .i64 x.1))), (5, .c (.d (.int .i64 x.2)))]) (fun _ => H) (fun _ => [_]) (fun x => x.1 ≤ l.length ∧ x.2 = min (1 + sizes (l.take x.1)) (m + 1)) (fun x => l.length - x.1) (0, 1) rfl ⟨Nat.zero_le _, by simp [sizes]⟩ ?_
  rintro ⟨i, c⟩ ⟨hi, hcnt⟩
  simp only at hi hcnt
  have htk : ∀ h : i < l.length, sizes (l.take (i + 1)) = sizes (l.take i) + (l[i]'h).size := fun h => sizes_take h
  by_cases hlt : i < l.length
  · by_cases hcm : c ≤ m
    · have hsub : inR .i64 ((m : Int) - (c : Int)) := small_i64 (by omega) (by omega)
      have hadd : inR .i64 ((i : Int) + 1) := small_i64 (by omega) (by omega)
      simp -implicitDefEqProofs [setAll, hli, hlt, hcm, hsub, go_sem, -List.set_cons_succ, -List.set_cons_zero]
      refine row_of hlt (row_len _) ?_
      simp -implicitDefEqProofs [row_len, take_row, pure_d, re_d, hsub, go_sem, -List.set_cons_succ, -List.set_cons_zero]
      have hc := ih l[i] (List.getElem_mem hlt) (hkids _ (List.getElem_mem hlt)) (m - c) (by omega)
      rw [show ((m - c : Nat) : Int) = (m : Int) - c by omega] at hc
      refine qcall_pure hc hf rfl ?_
      have e := htk hlt
      have hcs : c + min l[i].size (m - c + 1) = min (1 + sizes (l.take (i + 1))) (m + 1) := by omega
      have hadd2 : inR .i64 ((c : Int) + ((min l[i].size (m - c + 1) : Nat) : Int)) := small_i64 (by omega) (by omega)
      simp -implicitDefEqProofs [hadd, hadd2, go_sem, -List.set_cons_succ, -List.set_cons_zero]
      refine loop_back (i + 1, c + min l[i].size (m - c + 1)) (by simp [setAll]) ⟨hlt, hcs⟩ (by show l.length - (i + 1) < l.length - i; omega)
    · simp -implicitDefEqProofs [setAll, hli, hlt, hcm, go_sem, -List.set_cons_succ, -List.set_cons_zero]
      have h1 := sizes_le l i
      rw [Tm.size]
      omega
  · have hil : i = l.length := by omega
    subst hil
    rw [List.take_length] at hcnt
    simp -implicitDefEqProofs [setAll, hli, go_sem, -List.set_cons_succ, -List.set_cons_zero]
    rw [Tm.size, hcnt]
theorem tvSpec_calls (t : Tm) (ht : t.fits) (H : Heap) : ACalls Tryz.prog 80 [.agg (t.row.map .d)] H (fun r H' => H' = H ∧ r = .c (.d (.bool t.valid))) := by
  refine acalls Tryz.func80 (by kernel_rfl) ac80_ok fun hf => ?_
  simp -implicitDefEqProofs [ac80, row_len, take_row, pure_d, re_d, go_sem, -List.set_cons_succ, -List.set_cons_zero]
  refine qcall_pure (shape_calls t ht 30 (by omega)) hf rfl ?_
  cases h : t.shape 30 with
  | false => simp -implicitDefEqProofs [h, Tm.valid, row_len, take_row, go_sem, -List.set_cons_succ, -List.set_cons_zero]
  | true =>
    simp -implicitDefEqProofs [h, Tm.valid, row_len, take_row, pure_d, re_d, go_sem, -List.set_cons_succ, -List.set_cons_zero]
    refine qcall_pure (count_calls t ht 120 (by omega)) hf rfl ?_
    simp -implicitDefEqProofs [go_sem, -List.set_cons_succ, -List.set_cons_zero]
    omega
end Go.Proofs.YtbblefjbgbocoaaGreatDoor

/-
  First keys, of the program and of the reference.
  Conditions: none.
-/
open Go Go.AM Go.Proofs
namespace Go.Proofs.YtbblefjbgbocoaaGreatDoor
open Go.ChangeShapes Go.WideShapes Go.ChangeAt Go.RowKit
set_option linter.unusedVariables false
set_option linter.unusedSimpArgs false
set_option maxRecDepth 100000
/-- the key of a term -/
def Tm.key (t : Tm) : List UInt8 :=
  match t.kids with
  | [] => []
  | x :: _ => if x.k = 1 then [] else if x.k = 2 then Lib.itoa x.n else x.s ++ 47 :: Lib.itoa x.kids.length
-- 89 loop.example/prologserver/spec.l7Key params 1 ntmps 29
def ac89 : Cd := .seq (.region [⟨(some 1),.box (.t 0),none⟩,
 ⟨(some 2),.mv (.k (.c (.d (.str [])))),none⟩] [0,2])
 (.seq (.seq (.region [⟨(some 4),.fieldAddr 3 (.t 1),none⟩,
 ⟨(some 5),.load none (.t 4),none⟩,
 ⟨(some 6),.len 1 (.t 5),none⟩,
 ⟨(some 7),.bin .eql (.t 6) (.k (.c (.d (.int .i64 0)))),none⟩] [4,5,6])
 (.cond (.t 7)
 (.seq (.region [⟨(some 2),.mv (.k (.c (.d (.str [])))),none⟩] [1,7])
 (.ret))
 (.skip)))
 (.seq (.region [⟨(some 8),.fieldAddr 3 (.t 1),none⟩,
 ⟨(some 9),.load none (.t 8),none⟩,
 ⟨(some 10),.indexAddr 4 (.t 9) (.k (.c (.d (.int .i64 0)))),none⟩,
 ⟨(some 11),.load (some 4) (.t 10),none⟩,
 ⟨(some 3),.alloc [(.d (.int .i64 0)),(.d (.int .i64 0)),(.d (.str [])),(.full [])],none⟩,
 ⟨none,.store 4 (.t 3) (.t 11),none⟩] [1,2,7,8,9,10,11])
 (.seq (.seq (.region [⟨(some 12),.fieldAddr 0 (.t 3),none⟩,
 ⟨(some 13),.load none (.t 12),none⟩] [12])
 (.block 0 (.seq (.region [⟨(some 15),.bin .eql (.t 13) (.k (.c (.d (.int .i64 1)))),none⟩,
 ⟨(some 14),.mv (.t 15),none⟩] [15])
 (.cond (.t 14)
 (.seq (.region [⟨(some 2),.mv (.k (.c (.d (.str [])))),none⟩] [3,13,14])
 (.ret))
 (.seq (.region [⟨(some 17),.bin .eql (.t 13) (.k (.c (.d (.int .i64 2)))),none⟩,
 ⟨(some 16),.mv (.t 17),none⟩] [13,14,17])
 (.cond (.t 16)
 (.seq (.region [⟨(some 18),.fieldAddr 1 (.t 3),none⟩,
 ⟨(some 19),.load none (.t 18),none⟩,
 ⟨(some 20),.qcall 54 [(.t 19)],none⟩,
 ⟨(some 2),.mv (.t 20),none⟩] [3,16,18,19,20])
 (.ret))
 (.skip)))))))
 (.seq (.region [⟨(some 21),.fieldAddr 2 (.t 3),none⟩,
 ⟨(some 24),.fieldAddr 3 (.t 3),none⟩,
 ⟨(some 22),.load none (.t 21),none⟩,
 ⟨(some 23),.bin .add (.t 22) (.k (.c (.d (.str [47])))),none⟩,
 ⟨(some 25),.load none (.t 24),none⟩,
 ⟨(some 26),.len 1 (.t 25),none⟩,
 ⟨(some 27),.qcall 105 [(.t 26)],none⟩,
 ⟨(some 28),.bin .add (.t 23) (.t 27),none⟩,
 ⟨(some 2),.mv (.t 28),none⟩] [3,16,21,22,23,24,25,26,27,28])
 (.ret)))))
theorem ac89_ok : cFunc Tryz.prog [1000054,1000105] [(0,[0,2],[]),(1,[4,5,6],[]),(2,[1,7],[]),(3,[1,2,7,8,9,10,11],[]),(4,[12],[]),(5,[15],[]),(6,[3,13,14],[]),(7,[13,14,17],[]),(8,[3,16,18,19,20],[]),(9,[3,16,21,22,23,24,25,26,27,28],[0,3,1,2,4,5,6,7,8])] Tryz.f89 = some (ac89,[.tmp 2],29) := by kernel_rfl
-- 86 loop.example/prologserver/impl.firstKey params 1 ntmps 29
def ac86 : Cd := .seq (.region [⟨(some 1),.box (.t 0),none⟩,
 ⟨(some 2),.mv (.k (.c (.d (.str [])))),none⟩] [0,2])
 (.seq (.seq (.region [⟨(some 4),.fieldAddr 3 (.t 1),none⟩,
 ⟨(some 5),.load none (.t 4),none⟩,
 ⟨(some 6),.len 1 (.t 5),none⟩,
 ⟨(some 7),.bin .eql (.t 6) (.k (.c (.d (.int .i64 0)))),none⟩] [4,5,6])
 (.cond (.t 7)
 (.seq (.region [⟨(some 2),.mv (.k (.c (.d (.str [])))),none⟩] [1,7])
 (.ret))
 (.skip)))
 (.seq (.region [⟨(some 8),.fieldAddr 3 (.t 1),none⟩,
 ⟨(some 9),.load none (.t 8),none⟩,
 ⟨(some 10),.indexAddr 4 (.t 9) (.k (.c (.d (.int .i64 0)))),none⟩,
 ⟨(some 11),.load (some 4) (.t 10),none⟩,
 ⟨(some 3),.alloc [(.d (.int .i64 0)),(.d (.int .i64 0)),(.d (.str [])),(.full [])],none⟩,
 ⟨none,.store 4 (.t 3) (.t 11),none⟩] [1,2,7,8,9,10,11])
 (.seq (.region [⟨(some 12),.fieldAddr 0 (.t 3),none⟩,
 ⟨(some 13),.load none (.t 12),none⟩] [12])
 (.block 0 (.seq (.region [⟨(some 23),.bin .eql (.t 13) (.k (.c (.d (.int .i64 1)))),none⟩,
 ⟨(some 22),.mv (.t 23),none⟩] [23])
 (.cond (.t 22)
 (.seq (.region [⟨(some 2),.mv (.k (.c (.d (.str [])))),none⟩] [3,13,22])
 (.ret))
 (.seq (.region [⟨(some 25),.bin .eql (.t 13) (.k (.c (.d (.int .i64 2)))),none⟩,
 ⟨(some 24),.mv (.t 25),none⟩] [13,22,25])
 (.cond (.t 24)
 (.seq (.region [⟨(some 26),.fieldAddr 1 (.t 3),none⟩,
 ⟨(some 27),.load none (.t 26),none⟩,
 ⟨(some 28),.qcall 47 [(.t 27)],none⟩,
 ⟨(some 2),.mv (.t 28),none⟩] [3,24,26,27,28])
 (.ret))
 (.seq (.region [⟨(some 14),.fieldAddr 2 (.t 3),none⟩,
 ⟨(some 17),.fieldAddr 3 (.t 3),none⟩,
 ⟨(some 15),.load none (.t 14),none⟩,
 ⟨(some 16),.bin .add (.t 15) (.k (.c (.d (.str [47])))),none⟩,
 ⟨(some 18),.load none (.t 17),none⟩,
 ⟨(some 19),.len 1 (.t 18),none⟩,
 ⟨(some 20),.qcall 47 [(.t 19)],none⟩,
 ⟨(some 21),.bin .add (.t 16) (.t 20),none⟩,
 ⟨(some 2),.mv (.t 21),none⟩] [3,14,15,16,17,18,19,20,21,24])
 (.ret))))))))))
theorem ac86_ok : cFunc Tryz.prog [1000047] [(0,[0,2],[]),(1,[4,5,6],[]),(2,[1,7],[]),(3,[1,2,7,8,9,10,11],[]),(4,[12],[]),(6,[23],[]),(7,[3,13,22],[]),(8,[13,22,25],[]),(9,[3,24,26,27,28],[]),(5,[3,14,15,16,17,18,19,20,21,24],[0,3,1,2,4,5,6,7,8])] Tryz.f86 = some (ac86,[.tmp 2],29) := by kernel_rfl
-- 38 loop.example/prologserver/spec.FirstKey params 1 ntmps 8
def ac38 : Cd := .seq (.region [⟨(some 1),.box (.t 0),none⟩,
 ⟨(some 2),.mv (.k (.c (.d (.str [])))),none⟩] [0,2])
 (.seq (.seq (.region [⟨(some 3),.load (some 4) (.t 1),none⟩,
 ⟨(some 4),.qcall 80 [(.t 3)],none⟩,
 ⟨(some 5),.un .not (.t 4),none⟩] [3,4])
 (.cond (.t 5)
 (.seq (.region [⟨(some 2),.mv (.k (.c (.d (.str [])))),none⟩] [1,5])
 (.ret))
 (.skip)))
 (.seq (.region [⟨(some 6),.load (some 4) (.t 1),none⟩,
 ⟨(some 7),.qcall 89 [(.t 6)],none⟩,
 ⟨(some 2),.mv (.t 7),none⟩] [1,5,6,7])
 (.ret)))
theorem ac38_ok : cFunc Tryz.prog [1000080,1000089] [(0,[0,2],[]),(1,[3,4],[]),(2,[1,5],[]),(3,[1,5,6,7],[])] Tryz.f38 = some (ac38,[.tmp 2],8) := by kernel_rfl
-- 35 loop.example/prologserver/impl.FirstKey params 1 ntmps 8
def ac35 : Cd := .seq (.region [⟨(some 1),.box (.t 0),none⟩,
 ⟨(some 2),.mv (.k (.c (.d (.str [])))),none⟩] [0,2])
 (.seq (.seq (.region [⟨(some 3),.load (some 4) (.t 1),none⟩,
 ⟨(some 4),.qcall 70 [(.t 3)],none⟩,
 ⟨(some 5),.un .not (.t 4),none⟩] [3,4])
 (.cond (.t 5)
 (.seq (.region [⟨(some 2),.mv (.k (.c (.d (.str [])))),none⟩] [1,5])
 (.ret))
 (.skip)))
 (.seq (.region [⟨(some 6),.load (some 4) (.t 1),none⟩,
 ⟨(some 7),.qcall 86 [(.t 6)],none⟩,
 ⟨(some 2),.mv (.t 7),none⟩] [1,5,6,7])
 (.ret)))
theorem ac35_ok : cFunc Tryz.prog [1000070,1000086] [(0,[0,2],[]),(1,[3,4],[]),(2,[1,5],[]),(3,[1,5,6,7],[])] Tryz.f35 = some (ac35,[.tmp 2],8) := by kernel_rfl
theorem l7Key_calls (t : Tm) (ht : t.fits) (hv : ∀ x ∈ t.kids, -9223372036854775807 ≤ x.n) (H : Heap) : ACalls Tryz.prog 89 [.agg (t.row.map .d)] H (fun r H' => H' = H ∧ r = .c (.d (.str t.key))) := by
  obtain ⟨k, n, s, l⟩ := t
  obtain ⟨_, _, _, hl, hk⟩ := ht
  refine acalls Tryz.func89 (by kernel_rfl) ac89_ok fun hf => ?_
  have hli : inR .i64 (l.length : Int) := small_i64 (by omega) (by omega)
  cases l with
  | nil =>
    have h00 : inR .i64 0 := small_i64 (by omega) (by omega)
    simp -implicitDefEqProofs [ac89, row_mk, h00, Tm.key, Tm.kids, go_sem, -List.set_cons_succ, -List.set_cons_zero]
  | cons x l =>
    obtain ⟨xk, xn, xs, xl⟩ := x
    have hx := hk _ (List.mem_cons_self ..)
    obtain ⟨hx1, hx2, hx3, hx4, _⟩ := hx
    have hxl : inR .i64 (xl.length : Int) := small_i64 (by omega) (by omega)
    have hxn := hv _ (List.mem_cons_self ..)
    have hxn2 := (i64_def.1 hx2).2
    have hd := itoa_len (xl.length : Int) (by omega) (by omega)
    simp -implicitDefEqProofs [ac89, row_mk, hli, go_sem, -List.set_cons_succ, -List.set_cons_zero]
    refine ⟨by simpa using hli, fun h => by omega, fun _ => ?_⟩
    refine row_int (i := 0) (Tm.mk xk xn xs xl).row (by omega) (by simp [row_mk]) (row_len _) ?_
    simp -implicitDefEqProofs [row_mk, go_sem, -List.set_cons_succ, -List.set_cons_zero]
    refine ⟨hf, fun h1 => by simp [h1, Tm.key, Tm.kids, Tm.k], fun h1 => ⟨fun h2 => ?_, fun h2 => ⟨by unfold maxStr; omega, hxl, ?_⟩⟩⟩
    · refine qcall_pure (dec1_calls xn hxn hxn2) hf rfl ?_
      simp -implicitDefEqProofs [h1, h2, Tm.key, Tm.kids, Tm.k, Tm.n, go_sem, -List.set_cons_succ, -List.set_cons_zero]
    · refine qcall_pure (dec_calls _ hxl) hf rfl ?_
      simp -implicitDefEqProofs [h1, h2, Tm.key, Tm.kids, Tm.k, Tm.s, maxStr, go_sem, -List.set_cons_succ, -List.set_cons_zero]
      omega
theorem key_calls {g : Nat} {o : Obj} (hT : Tab g o) (t : Tm) (ht : t.fits) (H : Heap) (hH : H[0]? = some (.tab g o)) : ACalls Tryz.prog 86 [.agg (t.row.map .d)] H (fun r H' => H' = H ∧ r = .c (.d (.str t.key))) := by
  obtain ⟨k, n, s, l⟩ := t
  obtain ⟨_, _, _, hl, hk⟩ := ht
  refine acalls Tryz.func86 (by kernel_rfl) ac86_ok fun hf => ?_
  have hli : inR .i64 (l.length : Int) := small_i64 (by omega) (by omega)
  cases l with
  | nil =>
    have h00 : inR .i64 0 := small_i64 (by omega) (by omega)
    simp -implicitDefEqProofs [ac86, row_mk, h00, Tm.key, Tm.kids, go_sem, -List.set_cons_succ, -List.set_cons_zero]
  | cons x l =>
    obtain ⟨xk, xn, xs, xl⟩ := x
    have hx := hk _ (List.mem_cons_self ..)
    obtain ⟨hx1, hx2, hx3, hx4, _⟩ := hx
    have hxl : inR .i64 (xl.length : Int) := small_i64 (by omega) (by omega)
    have hxn2 := (i64_def.1 hx2).2
    have hd := itoa_len (xl.length : Int) (by omega) (by omega)
    simp -implicitDefEqProofs [ac86, row_mk, hli, go_sem, -List.set_cons_succ, -List.set_cons_zero]
    refine ⟨by simpa using hli, fun h => by omega, fun _ => ?_⟩
    refine row_int (i := 0) (Tm.mk xk xn xs xl).row (by omega) (by simp [row_mk]) (row_len _) ?_
    simp -implicitDefEqProofs [row_mk, go_sem, -List.set_cons_succ, -List.set_cons_zero]
    refine ⟨hf, fun h1 => by simp [h1, Tm.key, Tm.kids, Tm.k], fun h1 => ⟨fun h2 => ?_, fun h2 => ⟨by unfold maxStr; omega, hxl, ?_⟩⟩⟩
    · refine qcall_tab (itoa_call hT xn hx2) hf hH rfl ?_
      simp -implicitDefEqProofs [h1, h2, Tm.key, Tm.kids, Tm.k, Tm.n, go_sem, -List.set_cons_succ, -List.set_cons_zero]
    · refine qcall_tab (itoa_call hT _ hxl) hf hH rfl ?_
      simp -implicitDefEqProofs [h1, h2, Tm.key, Tm.kids, Tm.k, Tm.s, maxStr, go_sem, -List.set_cons_succ, -List.set_cons_zero]
      omega
theorem valid_kids {t : Tm} (h : t.valid = true) : ∀ x ∈ t.kids, -9223372036854775807 ≤ x.n := by
  obtain ⟨k, n, s, l⟩ := t
  intro x hx
  simp only [Tm.valid, Tm.shape, shapes_all, Bool.and_eq_true, List.all_eq_true] at h
  have h1 := h.1.2.2 x hx
  obtain ⟨xk, xn, xs, xl⟩ := x
  simp only [Tm.shape, Bool.and_eq_true] at h1
  have h2 := h1.2.1
  simp only [Tm.ownB] at h2
  simp only [Tm.n]
  split at h2
  · simp at h2; omega
  · split at h2
    · simp at h2; omega
    · split at h2
      · simp at h2; omega
      · simp at h2
end Go.Proofs.YtbblefjbgbocoaaGreatDoor

/-
  impl.FirstKey, as a value.
  Conditions: none.
-/
open Go Go.AM Go.Proofs
namespace Go.Proofs.YtbblefjbgbocoaaGreatDoor
set_option linter.unusedVariables false
set_option linter.unusedSimpArgs false
set_option maxRecDepth 100000
/-- the first key of a term -/
def Tm.fkey (t : Tm) : List UInt8 := if t.valid then t.key else []
theorem fkyS_calls (t : Tm) (ht : t.fits) (H : Heap) : ACalls Tryz.prog 38 [.agg (t.row.map .d)] H (fun r H' => H' = H ∧ r = .c (.d (.str t.fkey))) := by
  refine acalls Tryz.func38 (by kernel_rfl) ac38_ok fun hf => ?_
  simp -implicitDefEqProofs [ac38, row_len, take_row, pure_d, re_d, go_sem, -List.set_cons_succ, -List.set_cons_zero]
  refine qcall_pure (tvSpec_calls t ht) hf rfl ?_
  cases h : t.valid with
  | false => simp -implicitDefEqProofs [h, Tm.fkey, row_len, take_row, go_sem, -List.set_cons_succ, -List.set_cons_zero]
  | true =>
    simp -implicitDefEqProofs [h, Tm.fkey, row_len, take_row, pure_d, re_d, go_sem, -List.set_cons_succ, -List.set_cons_zero]
    refine qcall_pure (l7Key_calls t ht (valid_kids h)) hf rfl ?_
    simp -implicitDefEqProofs [go_sem, -List.set_cons_succ, -List.set_cons_zero]
theorem fky_calls {g : Nat} {o : Obj} (hT : Tab g o) (t : Tm) (ht : t.fits) (H : Heap) (hH : H[0]? = some (.tab g o)) : ACalls Tryz.prog 35 [.agg (t.row.map .d)] H (fun r H' => H' = H ∧ r = .c (.d (.str t.fkey))) := by
  refine acalls Tryz.func35 (by kernel_rfl) ac35_ok fun hf => ?_
  simp -implicitDefEqProofs [ac35, row_len, take_row, pure_d, re_d, go_sem, -List.set_cons_succ, -List.set_cons_zero]
  refine qcall_pure (tvImpl_calls t ht) hf rfl ?_
  cases h : t.valid with
  | false => simp -implicitDefEqProofs [h, Tm.fkey, row_len, take_row, go_sem, -List.set_cons_succ, -List.set_cons_zero]
  | true =>
    simp -implicitDefEqProofs [h, Tm.fkey, row_len, take_row, pure_d, re_d, go_sem, -List.set_cons_succ, -List.set_cons_zero]
    refine qcall_tab (key_calls hT t ht) hf hH rfl ?_
    simp -implicitDefEqProofs [go_sem, -List.set_cons_succ, -List.set_cons_zero]
end Go.Proofs.YtbblefjbgbocoaaGreatDoor

/-
  Terms: how many there are.
  Conditions: none.
-/
open Go Go.AM Go.Proofs
namespace Go.Proofs.YtbblefjbgbocoaaGreatDoor
open Go.ChangeShapes Go.WideShapes Go.ChangeAt Go.RowKit
set_option linter.unusedVariables false
set_option linter.unusedSimpArgs false
set_option maxRecDepth 100000
mutual
/-- what a law's size takes off for a term -/
def Tm.wt : Tm → Nat
  | .mk _ _ s l => s.length + Tm.wts l
def Tm.wts : List Tm → Nat
  | [] => 0
  | t :: l => 1 + t.wt + Tm.wts l
end
mutual
/-- the terms below a term -/
def Tm.sub : Tm → Nat
  | .mk _ _ _ l => Tm.cnt l
def Tm.cnt : List Tm → Nat
  | [] => 0
  | t :: l => 1 + t.sub + Tm.cnt l
end
/-- what is left, where enough is -/
def LeftW (m : Int) (p : Prop) (w : Nat) (r : A) : Prop := ∃ q : Int, r = .c (.d (.int .i64 q)) ∧ -1 ≤ q ∧ q ≤ m ∧ (0 ≤ q → p ∧ q + w ≤ m)
theorem LeftW.re {n : Nat} {m : Int} {p : Prop} {w : Nat} {r : A} (h : LeftW m p w r) : A.re n r = r := by
  obtain ⟨q, rfl, _⟩ := h
  rfl
theorem LeftW.left {m : Int} {p : Prop} {w : Nat} {r : A} (h : LeftW m p w r) : Left m p r := by
  obtain ⟨q, h1, h2, h3, h4⟩ := h
  exact ⟨q, h1, h2, h3, fun h => (h4 h).1⟩
end Go.Proofs.YtbblefjbgbocoaaGreatDoor

/-
  Rows that are marked one after the other.
  Conditions: none.
-/
open Go Go.AM Go.Proofs
namespace Go.Proofs.YtbblefjbgbocoaaGreatDoor
set_option linter.unusedVariables false
set_option linter.unusedSimpArgs false
/-- the first i rows are new ones -/
def mixed {α : Type} (f : Nat → α) (rows : List α) (i : Nat) : List α := (List.range i).map f ++ rows.drop i
end Go.Proofs.YtbblefjbgbocoaaGreatDoor

/-
  The law's text for a mark.
  Conditions: none.
-/
open Go Go.AM Go.Proofs
namespace Go.Proofs.YtbblefjbgbocoaaGreatDoor
open Go.ChangeShapes Go.WideShapes Go.ChangeAt Go.RowKit
set_option linter.unusedVariables false
set_option linter.unusedSimpArgs false
set_option maxRecDepth 100000
-- 62 loop.example/prologserver/laws.markText params 1 ntmps 20
-- loop head live: [0,3]
end Go.Proofs.YtbblefjbgbocoaaGreatDoor

/-
  Terms are marked, and looked at again.
  Conditions: none.
-/
open Go Go.AM Go.Proofs
namespace Go.Proofs.YtbblefjbgbocoaaGreatDoor
open Go.ChangeShapes Go.WideShapes Go.ChangeAt Go.RowKit
set_option linter.unusedVariables false
set_option linter.unusedSimpArgs false
set_option maxRecDepth 100000
end Go.Proofs.YtbblefjbgbocoaaGreatDoor

/-
  Copies of terms that stand in arrays of their own.
  Conditions: none.
-/
open Go Go.AM Go.Proofs
namespace Go.Proofs.YtbblefjbgbocoaaGreatDoor
open Go.ChangeShapes Go.WideShapes Go.ChangeAt Go.RowKit
set_option linter.unusedVariables false
set_option linter.unusedSimpArgs false
set_option maxRecDepth 100000
namespace Own
end Own
/-- what is handed out: rows in an array of their own -/
def HandsRows (rows : List (List D)) (r : A) (H : Heap) : Prop := ∃ v : Value, r = .c (.d (.v v)) ∧ H = [.tree v rows]
theorem HandsRows.handed {rows : List (List D)} {r : A} {H : Heap} (h : HandsRows rows r H) : Handed r H := by
  obtain ⟨v, rfl, rfl⟩ := h
  exact ⟨rfl, rfl⟩
/-- .. a term -/
def HandsTm (t : Tm) (r : A) (H : Heap) : Prop := ∃ v : Value, r = .agg [.d (.int .i64 t.k), .d (.int .i64 t.n), .d (.str t.s), .d (.v v)] ∧ H = [.tree v (t.kids.map Tm.row)]
theorem HandsTm.handed {t : Tm} {r : A} {H : Heap} (h : HandsTm t r H) : Handed r H := by
  obtain ⟨v, rfl, rfl⟩ := h
  exact ⟨rfl, rfl⟩
end Go.Proofs.YtbblefjbgbocoaaGreatDoor

/-
  A term's kids are marked, and looked at again.
  Conditions: none.
-/
open Go Go.AM Go.Proofs
namespace Go.Proofs.YtbblefjbgbocoaaGreatDoor
open Go.ChangeShapes Go.WideShapes Go.ChangeAt Go.RowKit
set_option linter.unusedVariables false
set_option linter.unusedSimpArgs false
set_option maxRecDepth 100000
end Go.Proofs.YtbblefjbgbocoaaGreatDoor

/-
  Rows whose slices are cut off and stand as trees.
  Conditions: none.
-/
open Go Go.AM Go.Proofs
namespace Go.Proofs.YtbblefjbgbocoaaGreatDoor
set_option linter.unusedVariables false
set_option linter.unusedSimpArgs false
/-- the slices of a row -/
def nsl : List D → Nat
  | [] => 0
  | .sl _ :: l => nsl l + 1
  | _ :: l => nsl l
/-- a row, its slices cut off -/
def cutR : List D → List Value → List D
  | .sl _ :: l, v :: vs => .v v :: cutR l vs
  | x :: l, vs => x :: cutR l vs
  | [], _ => []
/-- .. and these slices -/
def trs : List D → List Value → Heap
  | .sl d :: l, v :: vs => .tree v d :: trs l vs
  | _ :: l, vs => trs l vs
  | [], _ => []
theorem cut_sl (d : List (List D)) (l : List D) (v : Value) (vs : List Value) : cutR (.sl d :: l) (v :: vs) = .v v :: cutR l vs := rfl
theorem trs_sl (d : List (List D)) (l : List D) (v : Value) (vs : List Value) : trs (.sl d :: l) (v :: vs) = .tree v d :: trs l vs := rfl
theorem cut_ne {x : D} (h : x.isSl = false) (l : List D) (vs : List Value) : cutR (x :: l) vs = x :: cutR l vs := by cases x <;> first | rfl | cases h
theorem trs_ne {x : D} (h : x.isSl = false) (l : List D) (vs : List Value) : trs (x :: l) vs = trs l vs := by cases x <;> first | rfl | cases h
theorem nsl_ne {x : D} (h : x.isSl = false) (l : List D) : nsl (x :: l) = nsl l := by cases x <;> first | rfl | cases h
theorem trs_trees : ∀ (l : List D) (vs : List Value), (trs l vs).all Ob.isTreeB = true
  | [], _ => rfl
  | x :: l, vs => by
    by_cases hx : x.isSl = false
    · rw [trs_ne hx]; exact trs_trees l vs
    · cases x with
      | sl d => cases vs with
        | nil => exact trs_trees l []
        | cons v vs => rw [trs_sl, List.all_cons, trs_trees l vs]; rfl
      | _ => simp [D.isSl] at hx
theorem cut_port : ∀ (l : List D) (vs : List Value), vs.length = nsl l → ((cutR l vs).map C.d).all C.portB = true
  | [], _, _ => rfl
  | x :: l, vs, h => by
    by_cases hx : x.isSl = false
    · rw [nsl_ne hx] at h
      rw [cut_ne hx, List.map_cons, List.all_cons, cut_port l vs h]
      cases x <;> first | rfl | (simp [D.isSl] at hx)
    · cases x with
      | sl d => cases vs with
        | nil => simp [nsl] at h
        | cons v vs => rw [cut_sl, List.map_cons, List.all_cons, cut_port l vs (by simpa [nsl] using h)]; rfl
      | _ => simp [D.isSl] at hx
/-- what is handed out: a row whose slices stand in arrays of their own -/
def HandsRow (row : List D) (r : A) (H : Heap) : Prop := ∃ vs : List Value, vs.length = nsl row ∧ r = .agg ((cutR row vs).map .d) ∧ H = trs row vs
theorem HandsRow.handed {row : List D} {r : A} {H : Heap} (h : HandsRow row r H) : Handed r H := by
  obtain ⟨vs, h1, rfl, rfl⟩ := h
  exact ⟨cut_port row vs h1, trs_trees row vs⟩
end Go.Proofs.YtbblefjbgbocoaaGreatDoor

/-
  Terms that are handed to a law.
  Conditions: none.
-/
open Go Go.AM Go.Proofs
namespace Go.Proofs.YtbblefjbgbocoaaGreatDoor
open Go.ChangeShapes Go.WideShapes Go.ChangeAt Go.RowKit
set_option linter.unusedVariables false
set_option linter.unusedSimpArgs false
set_option maxRecDepth 100000
end Go.Proofs.YtbblefjbgbocoaaGreatDoor

/-
  Bindings: the laws' sizes, copies, comparisons and marks.
  Conditions: none.
-/
open Go Go.AM Go.Proofs
namespace Go.Proofs.YtbblefjbgbocoaaGreatDoor
open Go.ChangeShapes Go.WideShapes Go.ChangeAt Go.RowKit
set_option linter.unusedVariables false
set_option linter.unusedSimpArgs false
set_option maxRecDepth 100000
namespace Own
end Own
/-- a binding -/
structure Bd where
  n : Int
  t : Tm
def Bd.row (b : Bd) : List D := [.int .i64 b.n, .int .i64 b.t.k, .int .i64 b.t.n, .str b.t.s, .sl (b.t.kids.map Tm.row)]
theorem bdrow_eq (b : Bd) : b.row = .int .i64 b.n :: b.t.row := by rw [row_eq]; rfl
structure Bd.fits (b : Bd) : Prop where
  n : inR .i64 b.n
  t : b.t.fits
def Bd.wt (b : Bd) : Nat := b.t.wt
def Bd.sub (b : Bd) : Nat := b.t.sub
def FitsB (l : List Bd) : Prop := l.length ≤ 1048576 ∧ ∀ b ∈ l, b.fits
end Go.Proofs.YtbblefjbgbocoaaGreatDoor

/-
  Copies of terms by the program and by the reference.
  Conditions: none.
-/
open Go Go.AM Go.Proofs
namespace Go.Proofs.YtbblefjbgbocoaaGreatDoor
open Go.ChangeShapes Go.WideShapes Go.ChangeAt Go.RowKit
set_option linter.unusedVariables false
set_option linter.unusedSimpArgs false
set_option maxRecDepth 100000
-- 59 loop.example/prologserver/spec.l1Copy params 1 ntmps 31
-- loop head live: [1,2,3,4]
def ac59 : Cd := .seq (.region [⟨(some 1),.box (.t 0),none⟩,
 ⟨(some 2),.alloc [(.d (.int .i64 0)),(.d (.int .i64 0)),(.d (.str [])),(.full [])],none⟩] [0])
 (.seq (.region [⟨(some 5),.fieldAddr 0 (.t 1),none⟩,
 ⟨(some 6),.load none (.t 5),none⟩,
 ⟨(some 7),.fieldAddr 1 (.t 1),none⟩,
 ⟨(some 8),.load none (.t 7),none⟩,
 ⟨(some 9),.fieldAddr 2 (.t 1),none⟩,
 ⟨(some 10),.load none (.t 9),none⟩,
 ⟨(some 11),.build [(.d (.int .i64 0)),(.d (.int .i64 0)),(.d (.str [])),(.full [])] [(0,1,(.t 6)),(1,1,(.t 8)),(2,1,(.t 10))],none⟩,
 ⟨(some 3),.alloc [(.d (.int .i64 0)),(.d (.int .i64 0)),(.d (.str [])),(.full [])],none⟩,
 ⟨none,.store 4 (.t 3) (.t 11),none⟩] [5,6,7,8,9,10,11])
 (.seq (.seq (.region [⟨(some 4),.mv (.k (.c (.d (.int .i64 0)))),none⟩] [])
 (.block 0 (.loop (.seq (.seq (.region [⟨(some 12),.mv (.t 4),none⟩,
 ⟨(some 13),.fieldAddr 3 (.t 1),none⟩,
 ⟨(some 14),.load none (.t 13),none⟩,
 ⟨(some 15),.len 1 (.t 14),none⟩,
 ⟨(some 16),.bin .lss (.t 12) (.t 15),none⟩] [12,13,14,15])
 (.cond (.t 16)
 (.skip)
 (.exit 0)))
 (.seq (.block 1 (.region [⟨(some 19),.fieldAddr 3 (.t 3),none⟩,
 ⟨(some 21),.fieldAddr 3 (.t 1),none⟩,
 ⟨(some 23),.mv (.t 4),none⟩,
 ⟨(some 20),.load none (.t 19),none⟩,
 ⟨(some 22),.load none (.t 21),none⟩,
 ⟨(some 24),.indexAddr 4 (.t 22) (.t 23),none⟩,
 ⟨(some 25),.load (some 4) (.t 24),none⟩,
 ⟨(some 26),.qcall 59 [(.t 25)],none⟩,
 ⟨(some 27),.buildSlice 4 1 [(.int .i64 0),(.int .i64 0),(.str []),(.sl [])] [(0,(.t 26))],none⟩,
 ⟨(some 28),.append false 4 (.t 20) (.t 27),none⟩,
 ⟨(some 29),.fieldAddr 3 (.t 3),none⟩,
 ⟨none,.store 1 (.t 29) (.t 28),none⟩] [16,19,20,21,22,23,24,25,26,27,28,29]))
 (.region [⟨(some 17),.mv (.t 4),none⟩,
 ⟨(some 18),.bin .add (.t 17) (.k (.c (.d (.int .i64 1)))),none⟩,
 ⟨(some 4),.mv (.t 18),none⟩] [17,18]))))))
 (.seq (.region [⟨(some 30),.load (some 4) (.t 3),none⟩,
 ⟨none,.store 4 (.t 2) (.t 30),none⟩] [3,30])
 (.ret))))
theorem ac59_ok : cFunc Tryz.prog [1000059] [(0,[0],[]),(1,[5,6,7,8,9,10,11],[]),(2,[],[]),(3,[12,13,14,15],[]),(5,[16,19,20,21,22,23,24,25,26,27,28,29],[0,2,4,1,3,5,6,7,8,9,10,11]),(4,[17,18],[]),(6,[3,30],[])] Tryz.f59 = some (ac59,[.cell 2 (some 4)],31) := by kernel_rfl
theorem take_map_succ {l : List Tm} {i : Nat} (h : i < l.length) : (l.map Tm.row).take (i + 1) = (l.map Tm.row).take i ++ [l[i].row] := by
  rw [List.take_succ_eq_append_getElem (by simpa using h)]; simp
theorem copy_calls : ∀ t : Tm, t.fits → ∀ H, ACalls Tryz.prog 59 [.agg (t.row.map .d)] H (fun r H' => H' = H ∧ r = .agg (t.row.map .d)) := by
  refine Tm.ind fun k n s l ih hfits H => ?_
  obtain ⟨hk, hn, hs, hl, hkids⟩ := hfits
  refine acalls Tryz.func59 (by kernel_rfl) ac59_ok fun hf => ?_
  have hli : inR .i64 (l.length : Int) := small_i64 (by omega) (by omega)
  simp -implicitDefEqProofs [ac59, row_mk, hf, hli, go_sem, -List.set_cons_succ, -List.set_cons_zero]
  refine loop_enter (St.le_tokenC 2 3 4 rfl rfl) ?_
  refine loop_set (σ := Nat) (fun i => [(4, .c (.d (.int .i64 i)))]) (fun _ => H) (fun i => [.cells [.d (.int .i64 k), .d (.int .i64 n), .d (.str s), .d (.sl (l.map Tm.row))], .cells [.d (.int .i64 0), .d (.int .i64 0), .d (.str []), .full []], .cells [.d (.int .i64 k), .d (.int .i64 n), .d (.str s), .own (.l 3) i ((l.map Tm.row).take i)], .grow i 4])
    (fun i => i ≤ l.length) (fun i => l.length - i) 0 rfl (Nat.zero_le _) ?_
  intro i hi
  simp -implicitDefEqProofs [setAll, hli, go_sem, -List.set_cons_succ, -List.set_cons_zero]
  refine ⟨fun hlt => ?_, fun hge => ?_⟩
  · have hadd : inR .i64 ((i : Int) + 1) := small_i64 (by omega) (by omega)
    refine row_of hlt (row_len _) ?_
    simp -implicitDefEqProofs [row_len, take_row, pure_d, re_d, go_sem, -List.set_cons_succ, -List.set_cons_zero]
    refine qcall_pure (ih l[i] (List.getElem_mem hlt) (hkids _ (List.getElem_mem hlt))) hf (by simp [A.re, re_d]) ?_
    simp -implicitDefEqProofs [row_len, toDs_map, hadd, hf, Nat.min_eq_left hi, go_sem, -List.set_cons_succ, -List.set_cons_zero]
    refine ⟨fun r hr => allLen_map row_len r (List.mem_of_mem_take hr), by unfold maxApp; omega, ?_⟩
    refine loop_back (i + 1) ?_ hlt (by show l.length - (i + 1) < l.length - i; omega)
    simp [setAll, take_map_succ hlt]
  · have hil : i = l.length := by omega
    subst hil
    rw [show (l.map Tm.row).take l.length = l.map Tm.row from List.take_of_length_le (by simp)]
    simp -implicitDefEqProofs [hf, go_sem, -List.set_cons_succ, -List.set_cons_zero]
end Go.Proofs.YtbblefjbgbocoaaGreatDoor

/-
  Variables of terms are replaced.
  Conditions: none.
-/
open Go Go.AM Go.Proofs
namespace Go.Proofs.YtbblefjbgbocoaaGreatDoor
open Go.ChangeShapes Go.WideShapes Go.ChangeAt Go.RowKit
set_option linter.unusedVariables false
set_option linter.unusedSimpArgs false
set_option maxRecDepth 100000
/-- the term that is bound to a variable -/
def bdFind (l : List Bd) (n : Int) : Option Tm := (l.find? fun b => decide (b.n = n)).map Bd.t
def bdTo (l : List Bd) (n : Int) : Tm := (bdFind l n).getD (.mk 1 n [] [])
mutual
/-- the variables of a term are replaced -/
def Tm.sub1 (f : Int → Tm) : Tm → Tm
  | .mk k n s l => if k = 1 then f n else .mk k n s (subL f l)
def subL (f : Int → Tm) : List Tm → List Tm
  | [] => []
  | t :: l => t.sub1 f :: subL f l
end
theorem subL_map (f : Int → Tm) : ∀ l : List Tm, subL f l = l.map (Tm.sub1 f)
  | [] => by rw [subL]; rfl
  | t :: l => by rw [subL, subL_map f l]; rfl
theorem sub1_mk (f : Int → Tm) (k n : Int) (s : List UInt8) (l : List Tm) : (Tm.mk k n s l).sub1 f = if k = 1 then f n else .mk k n s (l.map (Tm.sub1 f)) := by rw [Tm.sub1, subL_map]
theorem sub1_fits (f : Int → Tm) (hf : ∀ n, inR .i64 n → (f n).fits) : ∀ t : Tm, t.fits → (t.sub1 f).fits := by
  refine Tm.ind fun k n s l ih h => ?_
  obtain ⟨hk, hn, hs, hl, hkids⟩ := h
  rw [sub1_mk]
  split
  · exact hf n hn
  · refine .mk hk hn hs (by simpa using hl) fun t ht => ?_
    obtain ⟨x, hx, rfl⟩ := List.mem_map.1 ht
    exact ih x hx (hkids x hx)
theorem bdTo_fits {l : List Bd} (h : ∀ b ∈ l, b.fits) (n : Int) (hn : inR .i64 n) : (bdTo l n).fits := by
  unfold bdTo bdFind
  cases hx : l.find? fun b => decide (b.n = n) with
  | none => exact .mk (small_i64 (by omega) (by omega)) hn (by simp) (by simp) (by simp)
  | some b => exact (h b (List.mem_of_find?_eq_some hx)).t
-- 205 loop.example/prologserver/impl.variable params 1 ntmps 5
def ac184 : Cd := .seq (.region [⟨(some 4),.alloc [(.d (.int .i64 0)),(.d (.int .i64 0)),(.d (.str [])),(.full [])],none⟩,
 ⟨(some 5),.mv (.k (.c (.d (.bool false)))),none⟩] [5])
 (.seq (.seq (.region [⟨(some 6),.mv (.k (.c (.d (.int .i64 0)))),none⟩] [])
 (.block 0 (.loop (.seq (.seq (.region [⟨(some 7),.mv (.t 6),none⟩,
 ⟨(some 8),.mv (.t 0),none⟩,
 ⟨(some 9),.len 1 (.t 8),none⟩,
 ⟨(some 10),.bin .lss (.t 7) (.t 9),none⟩] [7,8,9])
 (.cond (.t 10)
 (.skip)
 (.exit 0)))
 (.seq (.block 1 (.seq (.region [⟨(some 13),.mv (.t 0),none⟩,
 ⟨(some 14),.mv (.t 6),none⟩,
 ⟨(some 15),.indexAddr 5 (.t 13) (.t 14),none⟩,
 ⟨(some 16),.fieldAddr 0 (.t 15),none⟩,
 ⟨(some 17),.load none (.t 16),none⟩,
 ⟨(some 18),.mv (.t 1),none⟩,
 ⟨(some 19),.bin .eql (.t 17) (.t 18),none⟩] [10,13,14,15,16,17,18])
 (.cond (.t 19)
 (.seq (.region [⟨(some 20),.mv (.t 0),none⟩,
 ⟨(some 21),.mv (.t 6),none⟩,
 ⟨(some 22),.indexAddr 5 (.t 20) (.t 21),none⟩,
 ⟨(some 23),.fieldAddr 1 (.t 22),none⟩,
 ⟨(some 24),.load (some 4) (.t 23),none⟩,
 ⟨none,.store 4 (.t 4) (.t 24),none⟩,
 ⟨(some 5),.mv (.k (.c (.d (.bool true)))),none⟩] [0,1,6,19,20,21,22,23,24])
 (.ret))
 (.skip))))
 (.region [⟨(some 11),.mv (.t 6),none⟩,
 ⟨(some 12),.bin .add (.t 11) (.k (.c (.d (.int .i64 1)))),none⟩,
 ⟨(some 6),.mv (.t 12),none⟩] [5,11,12,19]))))))
 (.seq (.region [⟨(some 25),.build [(.d (.int .i64 0)),(.d (.int .i64 0)),(.d (.str [])),(.full [])] [],none⟩,
 ⟨none,.store 4 (.t 4) (.t 25),none⟩,
 ⟨(some 5),.mv (.k (.c (.d (.bool false)))),none⟩] [25])
 (.ret)))
theorem ac184_ok : cFunc Tryz.prog [] [(0,[5],[]),(1,[],[]),(2,[7,8,9],[]),(4,[10,13,14,15,16,17,18],[]),(5,[0,1,6,19,20,21,22,23,24],[]),(3,[5,11,12,19],[]),(6,[25],[])] Tryz.f184 = some (ac184,[.cell 4 (some 4),.tmp 5],26) := by kernel_rfl
-- 145 loop.example/prologserver/spec.l3Apply params 2 ntmps 49
-- loop head live: [1,2,4,7,8]
def ac145 : Cd := .seq (.region [⟨(some 2),.box (.t 0),none⟩,
 ⟨(some 4),.alloc [(.d (.int .i64 0)),(.d (.int .i64 0)),(.d (.str [])),(.full [])],none⟩] [0])
 (.seq (.seq (.region [⟨(some 9),.fieldAddr 0 (.t 2),none⟩,
 ⟨(some 10),.load none (.t 9),none⟩,
 ⟨(some 11),.bin .eql (.t 10) (.k (.c (.d (.int .i64 1)))),none⟩] [9,10])
 (.cond (.t 11)
 (.seq (.region [⟨(some 13),.mv (.t 1),none⟩,
 ⟨(some 14),.fieldAddr 1 (.t 2),none⟩,
 ⟨(some 15),.load none (.t 14),none⟩,
 ⟨(some 16),.qcall 184 [(.t 13),(.t 15)],none⟩,
 ⟨(some 12),.mv (.t 16),none⟩,
 ⟨(some 17),.extract 0 (.t 12),none⟩,
 ⟨(some 18),.extract 1 (.t 12),none⟩,
 ⟨(some 5),.alloc [(.d (.int .i64 0)),(.d (.int .i64 0)),(.d (.str [])),(.full [])],none⟩,
 ⟨none,.store 4 (.t 5) (.t 17),none⟩,
 ⟨(some 6),.mv (.t 18),none⟩] [11,12,13,14,15,16,17,18])
 (.seq (.region [⟨(some 19),.mv (.t 6),none⟩] [6])
 (.cond (.t 19)
 (.seq (.region [⟨(some 20),.load (some 4) (.t 5),none⟩,
 ⟨(some 21),.qcall 59 [(.t 20)],none⟩,
 ⟨none,.store 4 (.t 4) (.t 21),none⟩] [1,2,5,19,20,21])
 (.ret))
 (.skip))))
 (.skip)))
 (.seq (.region [⟨(some 22),.fieldAddr 0 (.t 2),none⟩,
 ⟨(some 23),.load none (.t 22),none⟩,
 ⟨(some 24),.fieldAddr 1 (.t 2),none⟩,
 ⟨(some 25),.load none (.t 24),none⟩,
 ⟨(some 26),.fieldAddr 2 (.t 2),none⟩,
 ⟨(some 27),.load none (.t 26),none⟩,
 ⟨(some 28),.build [(.d (.int .i64 0)),(.d (.int .i64 0)),(.d (.str [])),(.full [])] [(0,1,(.t 23)),(1,1,(.t 25)),(2,1,(.t 27))],none⟩,
 ⟨(some 7),.alloc [(.d (.int .i64 0)),(.d (.int .i64 0)),(.d (.str [])),(.full [])],none⟩,
 ⟨none,.store 4 (.t 7) (.t 28),none⟩] [5,11,19,22,23,24,25,26,27,28])
 (.seq (.seq (.region [⟨(some 8),.mv (.k (.c (.d (.int .i64 0)))),none⟩] [])
 (.block 0 (.loop (.seq (.seq (.region [⟨(some 29),.mv (.t 8),none⟩,
 ⟨(some 30),.fieldAddr 3 (.t 2),none⟩,
 ⟨(some 31),.load none (.t 30),none⟩,
 ⟨(some 32),.len 1 (.t 31),none⟩,
 ⟨(some 33),.bin .lss (.t 29) (.t 32),none⟩] [29,30,31,32])
 (.cond (.t 33)
 (.skip)
 (.exit 0)))
 (.seq (.block 1 (.region [⟨(some 36),.fieldAddr 3 (.t 7),none⟩,
 ⟨(some 38),.fieldAddr 3 (.t 2),none⟩,
 ⟨(some 40),.mv (.t 8),none⟩,
 ⟨(some 43),.mv (.t 1),none⟩,
 ⟨(some 37),.load none (.t 36),none⟩,
 ⟨(some 39),.load none (.t 38),none⟩,
 ⟨(some 41),.indexAddr 4 (.t 39) (.t 40),none⟩,
 ⟨(some 42),.load (some 4) (.t 41),none⟩,
 ⟨(some 44),.qcall 145 [(.t 42),(.t 43)],none⟩,
 ⟨(some 45),.buildSlice 4 1 [(.int .i64 0),(.int .i64 0),(.str []),(.sl [])] [(0,(.t 44))],none⟩,
 ⟨(some 46),.append false 4 (.t 37) (.t 45),none⟩,
 ⟨(some 47),.fieldAddr 3 (.t 7),none⟩,
 ⟨none,.store 1 (.t 47) (.t 46),none⟩] [33,36,37,38,39,40,41,42,43,44,45,46,47]))
 (.region [⟨(some 34),.mv (.t 8),none⟩,
 ⟨(some 35),.bin .add (.t 34) (.k (.c (.d (.int .i64 1)))),none⟩,
 ⟨(some 8),.mv (.t 35),none⟩] [34,35]))))))
 (.seq (.region [⟨(some 48),.load (some 4) (.t 7),none⟩,
 ⟨none,.store 4 (.t 4) (.t 48),none⟩] [7,48])
 (.ret)))))
theorem ac145_ok : cFunc Tryz.prog [1000059,1000145,1000184] [(0,[0],[]),(1,[9,10],[]),(2,[11,12,13,14,15,16,17,18],[]),(3,[6],[]),(4,[1,2,5,19,20,21],[]),(5,[5,11,19,22,23,24,25,26,27,28],[]),(6,[],[]),(7,[29,30,31,32],[]),(9,[33,36,37,38,39,40,41,42,43,44,45,46,47],[0,2,4,7,1,3,5,6,8,9,10,11,12]),(8,[34,35],[]),(10,[7,48],[])] Tryz.f145 = some (ac145,[.cell 4 (some 4)],49) := by kernel_rfl
/-- the terms of a list are replaced one by one -/
theorem subs_succ (f : Int → Tm) {l : List Tm} {i : Nat} (h : i < l.length) : ((l.map (Tm.sub1 f)).map Tm.row).take (i + 1) = ((l.map (Tm.sub1 f)).map Tm.row).take i ++ [(l[i].sub1 f).row] := by
  have := take_map_succ (l := l.map (Tm.sub1 f)) (i := i) (by simpa using h)
  simpa using this
end Go.Proofs.YtbblefjbgbocoaaGreatDoor

/-
  The program's copies of terms stand in arrays of their own.
  Conditions: none.
-/
open Go Go.AM Go.Proofs
namespace Go.Proofs.YtbblefjbgbocoaaGreatDoor
open Go.ChangeShapes Go.WideShapes Go.ChangeAt Go.RowKit
set_option linter.unusedVariables false
set_option linter.unusedSimpArgs false
set_option maxRecDepth 100000
namespace Own
end Own
end Go.Proofs.YtbblefjbgbocoaaGreatDoor

/-
  ApplyBinds of the program and of the reference.
  Conditions: none.
-/
open Go Go.AM Go.Proofs
namespace Go.Proofs.YtbblefjbgbocoaaGreatDoor
open Go.ChangeShapes Go.WideShapes Go.ChangeAt Go.RowKit
set_option linter.unusedVariables false
set_option linter.unusedSimpArgs false
set_option maxRecDepth 100000
namespace Own
end Own
/-- a term whose variables bear nothing else -/
inductive Tm.bare : Tm → Prop
  | mk {k n : Int} {s : List UInt8} {l : List Tm} : (k = 1 → s = [] ∧ l = []) → (∀ t ∈ l, t.bare) → (Tm.mk k n s l).bare
theorem l3Find_calls (l : List Bd) (hl : FitsB l) (n : Int) (H : Heap) : ACalls Tryz.prog 184 [.c (.d (.sl (l.map Bd.row))), .c (.d (.int .i64 n))] H
    (fun r H' => H' = H ∧ r = .tup [.agg (((bdFind l n).getD (.mk 0 0 [] [])).row.map .d), .c (.d (.bool (bdFind l n).isSome))]) := by
  have hlb := hl.1
  have hli : inR .i64 (l.length : Int) := small_i64 (by omega) (by omega)
  refine acalls Tryz.func184 (by kernel_rfl) ac184_ok fun hf => ?_
  simp -implicitDefEqProofs [ac184, hli, go_sem, -List.set_cons_succ, -List.set_cons_zero]
  refine loop_set (σ := Nat) (fun j => [(6, .c (.d (.int .i64 j)))]) (fun _ => H) (fun _ => [.cells [.d (.int .i64 0), .d (.int .i64 0), .d (.str []), .full []]]) (fun j => j ≤ l.length ∧ ∀ b ∈ l.take j, ¬ b.n = n) (fun j => l.length - j) 0 rfl ⟨Nat.zero_le _, by simp⟩ ?_
  rintro j ⟨hj, hno⟩
  simp -implicitDefEqProofs [setAll, hli, go_sem, -List.set_cons_succ, -List.set_cons_zero]
  refine ⟨fun hjl => ?_, fun hje => ?_⟩
  · have hadd : inR .i64 ((j : Int) + 1) := small_i64 (by omega) (by omega)
    refine row_of hjl rfl ?_
    simp -implicitDefEqProofs [Bd.row, hadd, go_sem, -List.set_cons_succ, -List.set_cons_zero]
    refine ⟨fun he => ?_, fun he => ?_⟩
    · have : bdFind l n = some l[j].t := by
        rw [bdFind, List.find?_eq_some_iff_getElem.2 ⟨by simpa using he, j, hjl, rfl, fun m hm => ?_⟩]
        · rfl
        · have := hno l[m] (by rw [List.mem_iff_getElem]; exact ⟨m, by simp; omega, by simp⟩)
          simpa using this
      refine row_of hjl rfl ?_
      rw [this]
      simp -implicitDefEqProofs [Bd.row, hf, go_sem, -List.set_cons_succ, -List.set_cons_zero]
      rw [row_eq]
      rfl
    · refine loop_back (j + 1) (by simp [setAll]) ⟨hjl, fun b hb => ?_⟩ (by show l.length - (j + 1) < l.length - j; omega)
      rw [List.take_succ_eq_append_getElem hjl, List.mem_append] at hb
      rcases hb with hb | hb
      · exact hno b hb
      · simp at hb; subst hb; exact he
  · rw [List.take_of_length_le hje] at hno
    have : bdFind l n = none := by
      rw [bdFind, List.find?_eq_none.2]
      · rfl
      · intro b hb; simpa using hno b hb
    rw [this]
    simp -implicitDefEqProofs [row_mk, hf, go_sem, -List.set_cons_succ, -List.set_cons_zero]
theorem l3Apply_calls (bs : List Bd) (hbs : FitsB bs) : ∀ t : Tm, t.fits → t.bare → ∀ (H : Heap), ACalls Tryz.prog 145 [.agg (t.row.map .d), .c (.d (.sl (bs.map Bd.row)))] H (fun r H' => H' = H ∧ r = .agg ((t.sub1 (bdTo bs)).row.map .d)) := by
  refine Tm.ind fun k n s l ih hfits hbare H => ?_
  obtain ⟨hk, hn, hs, hl, hkids⟩ := hfits
  obtain ⟨hb1, hbk⟩ := hbare
  have hli : inR .i64 (l.length : Int) := small_i64 (by omega) (by omega)
  refine acalls Tryz.func145 (by kernel_rfl) ac145_ok fun hf => ?_
  rw [sub1_mk]
  simp -implicitDefEqProofs [ac145, row_mk, hf, hli, go_sem, -List.set_cons_succ, -List.set_cons_zero]
  refine ⟨fun hk1 => ?_, fun hk1 => ?_⟩
  · rw [if_pos hk1]
    obtain ⟨rfl, rfl⟩ := hb1 hk1
    subst hk1
    have hfd := l3Find_calls bs hbs n
    cases hx : bdFind bs n with
    | some u =>
      have hu : u.fits := by
        have hx2 := hx
        unfold bdFind at hx2
        obtain ⟨b, h1, h2⟩ := Option.map_eq_some_iff.1 hx2
        rw [← h2]; exact (hbs.2 b (List.mem_of_find?_eq_some h1)).t
      have hbt : bdTo bs n = u := by rw [bdTo, hx]; rfl
      simp only [hx, Option.getD_some, Option.isSome_some] at hfd
      refine qcall_pure hfd hf (by simp [A.re, A.res, C.re, re_d]) ?_
      rw [hbt]
      simp -implicitDefEqProofs [row_len, take_row, pure_d, re_d, hf, go_sem, -List.set_cons_succ, -List.set_cons_zero]
      refine qcall_pure (copy_calls u hu) hf (by simp [A.re, re_d]) ?_
      simp -implicitDefEqProofs [row_len, take_row, pure_d, re_d, thaw_d, fits_map, hf, go_sem, -List.set_cons_succ, -List.set_cons_zero]
    | none =>
      have hbt : bdTo bs n = .mk 1 n [] [] := by rw [bdTo, hx]; rfl
      simp only [hx, Option.getD_none, Option.isSome_none] at hfd
      refine qcall_pure hfd hf (by simp [A.re, A.res, C.re, re_d]) ?_
      rw [hbt]
      have hz0 : inR .i64 0 := small_i64 (by omega) (by omega)
      simp -implicitDefEqProofs [row_mk, hf, hz0, go_sem, -List.set_cons_succ, -List.set_cons_zero]
      refine loop_set (σ := Unit) (fun _ => []) (fun _ => H) (fun _ => [.cells [.d (.int .i64 1), .d (.int .i64 n), .d (.str []), .d (.sl [])], .cells [.d (.int .i64 0), .d (.int .i64 0), .d (.str []), .full []], .cells [.d (.int .i64 0), .d (.int .i64 0), .d (.str []), .d (.sl [])], .cells [.d (.int .i64 1), .d (.int .i64 n), .d (.str []), .full []]]) (fun _ => True) (fun _ => 0) () rfl trivial ?_
      intro _ _
      simp -implicitDefEqProofs [setAll, hf, hz0, go_sem, -List.set_cons_succ, -List.set_cons_zero]
  · rw [if_neg hk1]
    refine loop_enter (St.le_tokenC 2 3 4 rfl rfl) ?_
    obtain ⟨S, hS⟩ : ∃ S, S = (l.map (Tm.sub1 (bdTo bs))).map Tm.row := ⟨_, rfl⟩
    have hSl : S.length = l.length := by simp [hS]
    refine loop_set (σ := Nat) (fun i => [(8, .c (.d (.int .i64 i)))]) (fun _ => H) (fun i => [.cells [.d (.int .i64 k), .d (.int .i64 n), .d (.str s), .d (.sl (l.map Tm.row))], .cells [.d (.int .i64 0), .d (.int .i64 0), .d (.str []), .full []], .cells [.d (.int .i64 k), .d (.int .i64 n), .d (.str s), .own (.l 3) i (S.take i)], .grow i 4])
      (fun i => i ≤ l.length) (fun i => l.length - i) 0 rfl (Nat.zero_le _) ?_
    intro i hi
    have hSa : ∀ r ∈ S.take i, r.length = 4 := fun r hr => by
      have := List.mem_of_mem_take hr
      rw [hS] at this
      exact allLen_map row_len r this
    simp -implicitDefEqProofs [setAll, hli, go_sem, -List.set_cons_succ, -List.set_cons_zero]
    refine ⟨fun hlt => ?_, fun hge => ?_⟩
    · have hadd : inR .i64 ((i : Int) + 1) := small_i64 (by omega) (by omega)
      refine row_of hlt (row_len _) ?_
      simp -implicitDefEqProofs [row_len, take_row, pure_d, re_d, go_sem, -List.set_cons_succ, -List.set_cons_zero]
      refine qcall_pure (ih l[i] (List.getElem_mem hlt) (hkids _ (List.getElem_mem hlt)) (hbk _ (List.getElem_mem hlt))) hf (by simp [A.re, re_d]) ?_
      have hss := subs_succ (bdTo bs) hlt
      rw [← hS] at hss
      simp -implicitDefEqProofs [row_len, toDs_map, hadd, hf, Nat.min_eq_left hi, hSl, go_sem, -List.set_cons_succ, -List.set_cons_zero]
      rw [← hss]
      exact ⟨hSa, by unfold maxApp; omega, loop_back (i + 1) (by simp [setAll]) hlt (by show l.length - (i + 1) < l.length - i; omega)⟩
    · have hil : i = l.length := by omega
      subst hil
      rw [show S.take l.length = S from List.take_of_length_le (by omega)]
      simp -implicitDefEqProofs [hf, go_sem, -List.set_cons_succ, -List.set_cons_zero]
      rw [row_mk, hS]
      rfl
/-- .. a term and a bool -/
def HandsTB (t : Tm) (b : Bool) (r : A) (H : Heap) : Prop := ∃ v : Value, r = .tup [.agg [.d (.int .i64 t.k), .d (.int .i64 t.n), .d (.str t.s), .d (.v v)], .c (.d (.bool b))] ∧ H = [.tree v (t.kids.map Tm.row)]
theorem HandsTB.handed {t : Tm} {b : Bool} {r : A} {H : Heap} (h : HandsTB t b r H) : Handed r H := by
  obtain ⟨v, rfl, rfl⟩ := h
  exact ⟨rfl, rfl⟩
end Go.Proofs.YtbblefjbgbocoaaGreatDoor

/-
  Structures that are made.
  Conditions: none.
-/
open Go Go.AM Go.Proofs
namespace Go.Proofs.YtbblefjbgbocoaaGreatDoor
open Go.ChangeShapes Go.WideShapes Go.ChangeAt Go.RowKit
set_option linter.unusedVariables false
set_option linter.unusedSimpArgs false
set_option maxRecDepth 100000
-- 96 loop.example/prologserver/spec.l1Struct params 2 ntmps 10
def ac96 : Cd := .seq (.region [⟨(some 4),.alloc [(.d (.int .i64 0)),(.d (.int .i64 0)),(.d (.str [])),(.full [])],none⟩] [])
 (.seq (.region [⟨(some 5),.mv (.t 0),none⟩,
 ⟨(some 6),.buildSlice 4 0 [(.int .i64 0),(.int .i64 0),(.str []),(.sl [])] [],none⟩,
 ⟨(some 7),.mv (.t 1),none⟩,
 ⟨(some 8),.append false 4 (.t 6) (.t 7),none⟩,
 ⟨(some 9),.build [(.d (.int .i64 0)),(.d (.int .i64 0)),(.d (.str [])),(.full [])] [(0,1,(.k (.c (.d (.int .i64 3))))),(2,1,(.t 5)),(3,1,(.t 8))],none⟩,
 ⟨none,.store 4 (.t 4) (.t 9),none⟩] [0,1,5,6,7,8,9])
 (.ret))
theorem ac96_ok : cFunc Tryz.prog [] [(0,[],[]),(1,[0,1,5,6,7,8,9],[])] Tryz.f96 = some (ac96,[.cell 4 (some 4)],10) := by kernel_rfl
theorem struct_calls (name : List UInt8) (l : List Tm) (hl : l.length ≤ 1048576) (H : Heap) : ACalls Tryz.prog 96 [.c (.d (.str name)), .c (.d (.sl (l.map Tm.row)))] H (fun r H' => H' = H ∧ r = .agg ((Tm.mk 3 0 name l).row.map .d)) := by
  refine acalls Tryz.func96 (by kernel_rfl) ac96_ok fun hf => ?_
  simp -implicitDefEqProofs [ac96, row_mk, hf, go_sem, -List.set_cons_succ, -List.set_cons_zero]
  exact ⟨allLen_map row_len, by unfold maxApp; omega⟩
end Go.Proofs.YtbblefjbgbocoaaGreatDoor

/-
  Variables and numbers of the reference.
  Conditions: none.
-/
open Go Go.AM Go.Proofs
namespace Go.Proofs.YtbblefjbgbocoaaGreatDoor
open Go.ChangeShapes Go.WideShapes Go.ChangeAt Go.RowKit
set_option linter.unusedVariables false
set_option linter.unusedSimpArgs false
set_option maxRecDepth 100000
-- 124 loop.example/prologserver/spec.l1Var params 1 ntmps 5
def ac124 : Cd := .seq (.region [⟨(some 2),.alloc [(.d (.int .i64 0)),(.d (.int .i64 0)),(.d (.str [])),(.full [])],none⟩] [])
 (.seq (.region [⟨(some 3),.mv (.t 0),none⟩,
 ⟨(some 4),.build [(.d (.int .i64 0)),(.d (.int .i64 0)),(.d (.str [])),(.full [])] [(0,1,(.k (.c (.d (.int .i64 1))))),(1,1,(.t 3))],none⟩,
 ⟨none,.store 4 (.t 2) (.t 4),none⟩] [0,3,4])
 (.ret))
theorem ac124_ok : cFunc Tryz.prog [] [(0,[],[]),(1,[0,3,4],[])] Tryz.f124 = some (ac124,[.cell 2 (some 4)],5) := by kernel_rfl
-- 125 loop.example/prologserver/spec.l1Int params 1 ntmps 5
def ac125 : Cd := .seq (.region [⟨(some 2),.alloc [(.d (.int .i64 0)),(.d (.int .i64 0)),(.d (.str [])),(.full [])],none⟩] [])
 (.seq (.region [⟨(some 3),.mv (.t 0),none⟩,
 ⟨(some 4),.build [(.d (.int .i64 0)),(.d (.int .i64 0)),(.d (.str [])),(.full [])] [(0,1,(.k (.c (.d (.int .i64 2))))),(1,1,(.t 3))],none⟩,
 ⟨none,.store 4 (.t 2) (.t 4),none⟩] [0,3,4])
 (.ret))
theorem ac125_ok : cFunc Tryz.prog [] [(0,[],[]),(1,[0,3,4],[])] Tryz.f125 = some (ac125,[.cell 2 (some 4)],5) := by kernel_rfl
theorem var_calls (n : Int) (H : Heap) : ACalls Tryz.prog 124 [.c (.d (.int .i64 n))] H (fun r H' => H' = H ∧ r = .agg ((Tm.mk 1 n [] []).row.map .d)) := by
  refine acalls Tryz.func124 (by kernel_rfl) ac124_ok fun hf => ?_
  simp -implicitDefEqProofs [ac124, row_mk, hf, go_sem, -List.set_cons_succ, -List.set_cons_zero]
theorem int_calls (n : Int) (H : Heap) : ACalls Tryz.prog 125 [.c (.d (.int .i64 n))] H (fun r H' => H' = H ∧ r = .agg ((Tm.mk 2 n [] []).row.map .d)) := by
  refine acalls Tryz.func125 (by kernel_rfl) ac125_ok fun hf => ?_
  simp -implicitDefEqProofs [ac125, row_mk, hf, go_sem, -List.set_cons_succ, -List.set_cons_zero]
end Go.Proofs.YtbblefjbgbocoaaGreatDoor

/-
  Slices of bytes as data.
  Conditions: none.
-/
open Go Go.AM Go.Proofs
namespace Go.Proofs.YtbblefjbgbocoaaGreatDoor
open Go.ChangeShapes Go.WideShapes Go.ChangeAt Go.RowKit
set_option linter.unusedVariables false
set_option linter.unusedSimpArgs false
set_option maxRecDepth 100000
theorem bytesRows_len {s : List UInt8} : (bytesRows s).length = s.length := by simp [bytesRows]
theorem bytesRows_nil {s : List UInt8} : bytesRows s = [] ↔ s = [] := by simp [bytesRows]
theorem bytesRows_get {s : List UInt8} {i : Nat} (h : i < s.length) : (bytesRows s)[i]? = some [.int .u8 s[i].toNat] := by simp [bytesRows, h]
theorem bytes_ty {row : List D} (h : HasTy Tryz.prog 22 row) : ∃ s : List UInt8, row = [.sl (bytesRows s)] ∧ s.length ≤ reachBytes := by
  obtain ⟨rows, rfl, hb, hc, ht⟩ := h.sl_inv Tryz.underlying22
  rw [show Tryz.prog.bytesOf 5 = 1 from by kernel_rfl] at hb
  obtain ⟨l, rfl, hl⟩ := list_of_ty (f := fun b : UInt8 => [.int .u8 b.toNat]) (p := fun _ => True) (rows := rows) (fun r hr => by
    obtain ⟨n, e, hn⟩ := (ht r hr).int_inv Tryz.underlying5
    refine ⟨UInt8.ofNat n.toNat, ?_, trivial⟩
    rw [e]
    have h1 : 0 ≤ n ∧ n ≤ 255 := by simpa [inR, IntKind.min, IntKind.max, IntKind.signed, IntKind.bits] using hn
    have : ((UInt8.ofNat n.toNat).toNat : Int) = n := by
      rw [UInt8.toNat_ofNat']
      omega
    rw [this])
  exact ⟨l, rfl, by simpa using hb⟩
theorem byteRow {s : List UInt8} {i : Int} {K : A → St → Prop} {st : St} (h0 : 0 ≤ i) (h : i < s.length) (hk : K (.c (.el [.int .u8 (s[i.toNat]'(by omega)).toNat] 0)) st) : RowK true (bytesRows s) i 1 K st :=
  row_int _ h0 (bytesRows_get (by omega)) rfl hk
theorem u8_i64 (b : UInt8) : IntKind.wrap .i64 (b.toNat : Int) = b.toNat := by
  rw [IntKind.wrap_i64]
  have := b.toNat_lt
  omega
end Go.Proofs.YtbblefjbgbocoaaGreatDoor

/-
  The source of draws: its first functions, each by what it answers.
  Conditions: none.
-/
open Go Go.AM Go.Proofs
namespace Go.Proofs.YtbblefjbgbocoaaGreatDoor
open Go.ChangeShapes Go.WideShapes Go.ChangeAt Go.RowKit
set_option linter.unusedVariables false
set_option linter.unusedSimpArgs false
set_option maxRecDepth 100000
-- 43 (*loop.example/prologserver/spec.l18Rd).pick params 2 ntmps 99
def ac43 : Cd := .seq (.region [⟨(some 4),.mv (.k (.c (.d (.int .i64 0)))),none⟩] [4])
 (.seq (.region [⟨(some 7),.mv (.t 0),none⟩,
 ⟨(some 8),.mv (.t 0),none⟩,
 ⟨(some 9),.nilCheck (.t 8),none⟩,
 ⟨(some 10),.fieldAddr 1 (.t 9),none⟩,
 ⟨(some 11),.load none (.t 10),none⟩,
 ⟨(some 12),.bin .add (.t 11) (.k (.c (.d (.int .i64 1)))),none⟩,
 ⟨(some 13),.nilCheck (.t 7),none⟩,
 ⟨(some 14),.fieldAddr 1 (.t 13),none⟩,
 ⟨none,.store 1 (.t 14) (.t 12),none⟩] [7,8,9,10,11,12,13,14])
 (.seq (.seq (.region [⟨(some 15),.mv (.t 1),none⟩,
 ⟨(some 16),.bin .lss (.t 15) (.k (.c (.d (.int .i64 1)))),none⟩,
 ⟨(some 17),.mv (.t 16),none⟩,
 ⟨(some 18),.mv (.t 0),some (17,false)⟩,
 ⟨(some 19),.nilCheck (.t 18),some (17,false)⟩,
 ⟨(some 20),.fieldAddr 0 (.t 19),some (17,false)⟩,
 ⟨(some 21),.load none (.t 20),some (17,false)⟩,
 ⟨(some 22),.len 1 (.t 21),some (17,false)⟩,
 ⟨(some 23),.bin .eql (.t 22) (.k (.c (.d (.int .i64 0)))),some (17,false)⟩,
 ⟨(some 24),.pick (.t 17) (.k (.c (.d (.bool true)))) (.t 23),none⟩] [15,16,17,18,19,20,21,22,23])
 (.cond (.t 24)
 (.seq (.region [⟨(some 4),.mv (.k (.c (.d (.int .i64 0)))),none⟩] [0,1,24])
 (.ret))
 (.skip)))
 (.seq (.region [⟨(some 25),.mv (.t 0),none⟩,
 ⟨(some 26),.nilCheck (.t 25),none⟩,
 ⟨(some 27),.fieldAddr 1 (.t 26),none⟩,
 ⟨(some 28),.load none (.t 27),none⟩,
 ⟨(some 29),.bin .sub (.t 28) (.k (.c (.d (.int .i64 1)))),none⟩,
 ⟨(some 5),.mv (.t 29),none⟩] [4,24,25,26,27,28,29])
 (.seq (.seq (.region [⟨(some 30),.mv (.t 5),none⟩,
 ⟨(some 31),.mv (.t 0),none⟩,
 ⟨(some 32),.nilCheck (.t 31),none⟩,
 ⟨(some 33),.fieldAddr 0 (.t 32),none⟩,
 ⟨(some 34),.load none (.t 33),none⟩,
 ⟨(some 35),.len 1 (.t 34),none⟩,
 ⟨(some 36),.bin .lss (.t 30) (.t 35),none⟩] [30,31,32,33,34,35])
 (.cond (.t 36)
 (.seq (.region [⟨(some 37),.mv (.t 0),none⟩,
 ⟨(some 38),.nilCheck (.t 37),none⟩,
 ⟨(some 39),.fieldAddr 0 (.t 38),none⟩,
 ⟨(some 40),.load none (.t 39),none⟩,
 ⟨(some 41),.mv (.t 5),none⟩,
 ⟨(some 42),.indexAddr 1 (.t 40) (.t 41),none⟩,
 ⟨(some 43),.load none (.t 42),none⟩,
 ⟨(some 44),.cvInt .i64 (.t 43),none⟩,
 ⟨(some 45),.mv (.t 1),none⟩,
 ⟨(some 46),.bin .rem (.t 44) (.t 45),none⟩,
 ⟨(some 4),.mv (.t 46),none⟩] [0,1,5,36,37,38,39,40,41,42,43,44,45,46])
 (.ret))
 (.skip)))
 (.seq (.region [⟨(some 47),.mv (.t 0),none⟩,
 ⟨(some 48),.nilCheck (.t 47),none⟩,
 ⟨(some 49),.fieldAddr 0 (.t 48),none⟩,
 ⟨(some 51),.mv (.t 5),none⟩,
 ⟨(some 52),.mv (.t 0),none⟩,
 ⟨(some 53),.nilCheck (.t 52),none⟩,
 ⟨(some 54),.fieldAddr 0 (.t 53),none⟩,
 ⟨(some 62),.mv (.t 0),none⟩,
 ⟨(some 63),.nilCheck (.t 62),none⟩,
 ⟨(some 64),.fieldAddr 0 (.t 63),none⟩,
 ⟨(some 66),.mv (.t 5),none⟩,
 ⟨(some 67),.bin .mul (.t 66) (.k (.c (.d (.int .i64 7)))),none⟩,
 ⟨(some 68),.bin .add (.t 67) (.k (.c (.d (.int .i64 3)))),none⟩,
 ⟨(some 69),.mv (.t 0),none⟩,
 ⟨(some 70),.nilCheck (.t 69),none⟩,
 ⟨(some 71),.fieldAddr 0 (.t 70),none⟩,
 ⟨(some 80),.mv (.t 5),none⟩,
 ⟨(some 81),.bin .mul (.t 80) (.k (.c (.d (.int .i64 29)))),none⟩,
 ⟨(some 83),.mv (.t 5),none⟩,
 ⟨(some 84),.mv (.t 0),none⟩,
 ⟨(some 85),.nilCheck (.t 84),none⟩,
 ⟨(some 86),.fieldAddr 0 (.t 85),none⟩,
 ⟨(some 50),.load none (.t 49),none⟩,
 ⟨(some 55),.load none (.t 54),none⟩,
 ⟨(some 56),.len 1 (.t 55),none⟩,
 ⟨(some 57),.bin .rem (.t 51) (.t 56),none⟩,
 ⟨(some 58),.indexAddr 1 (.t 50) (.t 57),none⟩,
 ⟨(some 59),.load none (.t 58),none⟩,
 ⟨(some 60),.cvInt .i64 (.t 59),none⟩,
 ⟨(some 61),.bin .mul (.t 60) (.k (.c (.d (.int .i64 131)))),none⟩,
 ⟨(some 65),.load none (.t 64),none⟩,
 ⟨(some 72),.load none (.t 71),none⟩,
 ⟨(some 73),.len 1 (.t 72),none⟩,
 ⟨(some 74),.bin .rem (.t 68) (.t 73),none⟩,
 ⟨(some 75),.indexAddr 1 (.t 65) (.t 74),none⟩,
 ⟨(some 76),.load none (.t 75),none⟩,
 ⟨(some 77),.cvInt .i64 (.t 76),none⟩,
 ⟨(some 78),.bin .mul (.t 77) (.k (.c (.d (.int .i64 1117)))),none⟩,
 ⟨(some 79),.bin .add (.t 61) (.t 78),none⟩,
 ⟨(some 82),.bin .add (.t 79) (.t 81),none⟩,
 ⟨(some 87),.load none (.t 86),none⟩,
 ⟨(some 88),.len 1 (.t 87),none⟩,
 ⟨(some 89),.bin .quo (.t 83) (.t 88),none⟩,
 ⟨(some 90),.bin .mul (.t 89) (.k (.c (.d (.int .i64 53)))),none⟩,
 ⟨(some 91),.bin .add (.t 82) (.t 90),none⟩,
 ⟨(some 6),.mv (.t 91),none⟩] [0,4,5,36,47,48,49,50,51,52,53,54,55,56,57,58,59,60,61,62,63,64,65,66,67,68,69,70,71,72,73,74,75,76,77,78,79,80,81,82,83,84,85,86,87,88,89,90,91])
 (.seq (.region [⟨(some 92),.mv (.t 6),none⟩,
 ⟨(some 93),.mv (.t 6),none⟩,
 ⟨(some 94),.bin .quo (.t 93) (.k (.c (.d (.int .i64 64)))),none⟩,
 ⟨(some 95),.bin .xor (.t 92) (.t 94),none⟩,
 ⟨(some 6),.mv (.t 95),none⟩] [92,93,94,95])
 (.seq (.region [⟨(some 96),.mv (.t 6),none⟩,
 ⟨(some 97),.mv (.t 1),none⟩,
 ⟨(some 98),.bin .rem (.t 96) (.t 97),none⟩,
 ⟨(some 4),.mv (.t 98),none⟩] [1,6,96,97,98])
 (.ret))))))))
theorem ac43_ok : cFunc Tryz.prog [] [(0,[4],[]),(1,[7,8,9,10,11,12,13,14],[]),(2,[15,16,17,18,19,20,21,22,23],[]),(3,[0,1,24],[]),(4,[4,24,25,26,27,28,29],[]),(5,[30,31,32,33,34,35],[]),(6,[0,1,5,36,37,38,39,40,41,42,43,44,45,46],[]),(7,[0,4,5,36,47,48,49,50,51,52,53,54,55,56,57,58,59,60,61,62,63,64,65,66,67,68,69,70,71,72,73,74,75,76,77,78,79,80,81,82,83,84,85,86,87,88,89,90,91],[0,1,2,4,5,6,7,15,16,17,19,20,21,22,23,24,33,34,36,37,38,39,3,8,9,10,11,12,13,14,18,25,26,27,28,29,30,31,32,35,40,41,42,43,44,45]),(8,[92,93,94,95],[]),(9,[1,6,96,97,98],[])] Tryz.f43 = some (ac43,[.tmp 4],99) := by kernel_rfl
-- 39 loop.example/prologserver/spec.l18Open params 1 ntmps 11
def ac39 : Cd := .seq (.region [⟨(some 2),.mv (.k (.c (.d (.v (.pointer none))))),none⟩] [2])
 (.seq (.seq (.region [⟨(some 3),.mv (.t 0),none⟩,
 ⟨(some 4),.len 1 (.t 3),none⟩,
 ⟨(some 5),.bin .gtr (.t 4) (.k (.c (.d (.int .i64 2000)))),none⟩] [3,4])
 (.cond (.t 5)
 (.region [⟨(some 6),.mv (.t 0),none⟩,
 ⟨(some 7),.slice 1 (.t 6) none (some (.k (.c (.d (.int .i64 2000))))) none,none⟩,
 ⟨(some 0),.mv (.t 7),none⟩] [5,6,7])
 (.skip)))
 (.seq (.region [⟨(some 8),.mv (.t 0),none⟩,
 ⟨(some 9),.build [(.full []),(.d (.int .i64 0))] [(0,1,(.t 8))],none⟩,
 ⟨(some 10),.box (.t 9),none⟩,
 ⟨(some 2),.mv (.t 10),none⟩] [0,5,8,9,10])
 (.ret)))
theorem ac39_ok : cFunc Tryz.prog [] [(0,[2],[]),(1,[3,4],[]),(2,[5,6,7],[]),(3,[0,5,8,9,10],[])] Tryz.f39 = some (ac39,[.tmp 2],11) := by kernel_rfl
-- 90 (*loop.example/prologserver/spec.l18Rd).num params 2 ntmps 12
def ac90 : Cd := .seq (.region [⟨(some 4),.mv (.k (.c (.d (.int .i64 0)))),none⟩] [4])
 (.seq (.region [⟨(some 5),.mv (.t 1),none⟩,
 ⟨(some 6),.mv (.t 0),none⟩,
 ⟨(some 7),.mv (.t 1),none⟩,
 ⟨(some 8),.len 1 (.t 7),none⟩,
 ⟨(some 9),.call false 43 [(.t 6),(.t 8)],none⟩,
 ⟨(some 10),.indexAddr 1 (.t 5) (.t 9),none⟩,
 ⟨(some 11),.load none (.t 10),none⟩,
 ⟨(some 4),.mv (.t 11),none⟩] [0,1,5,6,7,8,9,10,11])
 (.ret))
theorem ac90_ok : cFunc Tryz.prog [] [(0,[4],[]),(1,[0,1,5,6,7,8,9,10,11],[])] Tryz.f90 = some (ac90,[.tmp 4],12) := by kernel_rfl
/-- a source of draws, at a place -/
def Rd (c : List UInt8) (p : Int) : Ob := .cells [.d (.sl (bytesRows c)), .d (.int .i64 p)]
theorem xor_small {x y : Int} (hx : 0 ≤ x) (hx1 : x < 1099511627776) (hy : 0 ≤ y) (hy1 : y < 1099511627776) : 0 ≤ bitsVal .xor .i64 x y ∧ bitsVal .xor .i64 x y < 1099511627776 := by
  obtain ⟨a, rfl⟩ := Int.eq_ofNat_of_zero_le hx
  obtain ⟨b, rfl⟩ := Int.eq_ofNat_of_zero_le hy
  have hx : a < 2 ^ 40 := by omega
  have hy : b < 2 ^ 40 := by omega
  have hxor : a ^^^ b < 2 ^ 40 := Nat.xor_lt_two_pow hx hy
  have e : ((BitVec.ofInt 64 (a : Int)) ^^^ (BitVec.ofInt 64 (b : Int))).toNat = a ^^^ b := by
    rw [BitVec.toNat_xor]
    have h1 : (BitVec.ofInt 64 (a : Int)).toNat = a := by rw [BitVec.ofInt_natCast, BitVec.toNat_ofNat, Nat.mod_eq_of_lt (by omega)]
    have h2 : (BitVec.ofInt 64 (b : Int)).toNat = b := by rw [BitVec.ofInt_natCast, BitVec.toNat_ofNat, Nat.mod_eq_of_lt (by omega)]
    rw [h1, h2]
  have : bitsVal .xor .i64 (a : Int) (b : Int) = ((a ^^^ b : Nat) : Int) := by
    show IntKind.wrap .i64 (((BitVec.ofInt 64 (a : Int)) ^^^ (BitVec.ofInt 64 (b : Int))).toNat : Int) = _
    rw [e, IntKind.wrap_i64]
    omega
  rw [this]
  omega
theorem pick_calls (c : List UInt8) (hc : c.length ≤ 2000) (p m : Int) (hp : 0 ≤ p) (hp1 : p ≤ 1000000) (hm : -1000000000 ≤ m ∧ m ≤ 1000000000) (H : Heap) (i : Nat) (hi : i < H.length) :
    ACalls Tryz.prog 43 [.c (.ptr (.e i) 0), .c (.d (.int .i64 m))] (H.set i (Rd c p)) (fun r H' => ∃ k : Int, r = .c (.d (.int .i64 k)) ∧ 0 ≤ k ∧ (0 < m → k < m) ∧ H' = H.set i (Rd c (p + 1))) := by
  refine acalls Tryz.func43 (by kernel_rfl) ac43_ok fun hf => ?_
  have hadd : inR .i64 (p + 1) := small_i64 (by omega) (by omega)
  have hl : inR .i64 (c.length : Int) := small_i64 (by omega) (by omega)
  have hi64 : inR .i64 p := small_i64 (by omega) (by omega)
  simp only [List.length_set] at hf
  simp -implicitDefEqProofs [ac43, Rd, hadd, hl, hi64, hi, List.getElem?_set, bytesRows_len, go_sem, -List.set_cons_succ, -List.set_cons_zero]
  have hfit : Obs.fits H.length 0 (H.set i (.cells [.d (.sl (bytesRows c)), .d (.int .i64 (p + 1))])) := fits_reset hf ⟨trivial, trivial, trivial⟩
  refine ⟨hfit, fun h1 hc0 => ⟨fun h2 => ?_, fun h2 => ?_⟩⟩
  · refine byteRow hp (by omega) ?_
    simp -implicitDefEqProofs [u8_i64, go_sem, -List.set_cons_succ, -List.set_cons_zero]
    refine ⟨by omega, Int.tmod_nonneg _ (by omega), fun h => Int.tmod_lt_of_pos _ h⟩
  · have hcl : 0 < c.length := by cases c with | nil => exact absurd rfl hc0 | cons a l => simp
    refine ⟨small_i64 (by omega) (by omega), small_i64 (by omega) (by omega), small_i64 (by omega) (by omega), hc0, ?_⟩
    have hm1 := Int.tmod_nonneg (a := p) (c.length : Int) hp
    have hm2 := Int.tmod_lt_of_pos p (b := (c.length : Int)) (by omega)
    refine byteRow hm1 (by omega) ?_
    have hb1 := (c[(p.tmod ↑c.length).toNat]'(by omega)).toNat_lt
    have hq : 0 ≤ (p * 7 + 3).tmod (c.length : Int) := Int.tmod_nonneg _ (by omega)
    have hq2 := Int.tmod_lt_of_pos (p * 7 + 3) (b := (c.length : Int)) (by omega)
    simp -implicitDefEqProofs [u8_i64, hcl, hi, hl, bytesRows_len, bytesRows_nil, hc0, List.getElem?_set, go_sem, -List.set_cons_succ, -List.set_cons_zero]
    refine ⟨small_i64 (by omega) (by omega), byteRow hq (by omega) ?_⟩
    have hb2 := (c[((p * 7 + 3).tmod ↑c.length).toNat]'(by omega)).toNat_lt
    have hd0 : 0 ≤ p.tdiv (c.length : Int) := Int.tdiv_nonneg hp (by omega)
    have hd1 : p.tdiv (c.length : Int) ≤ p := Int.tdiv_le_self _ hp
    generalize ((c[(p.tmod ↑c.length).toNat]'(by omega)).toNat : Nat) = b1 at hb1
    generalize ((c[((p * 7 + 3).tmod ↑c.length).toNat]'(by omega)).toNat : Nat) = b2 at hb2
    generalize hdd : p.tdiv (c.length : Int) = d at hd0 hd1
    have i1 : inR .i64 ((b2 : Int) * 1117) := small_i64 (by omega) (by omega)
    have i2 : inR .i64 ((b1 : Int) * 131 + (b2 : Int) * 1117) := small_i64 (by omega) (by omega)
    have i3 : inR .i64 ((b1 : Int) * 131 + (b2 : Int) * 1117 + p * 29) := small_i64 (by omega) (by omega)
    have i4 : inR .i64 d := small_i64 (by omega) (by omega)
    have i5 : inR .i64 (d * 53) := small_i64 (by omega) (by omega)
    have i6 : inR .i64 ((b1 : Int) * 131 + (b2 : Int) * 1117 + p * 29 + d * 53) := small_i64 (by omega) (by omega)
    have hw : IntKind.wrap .i64 (b2 : Int) = b2 := by rw [IntKind.wrap_i64]; omega
    generalize hX : (b1 : Int) * 131 + (b2 : Int) * 1117 + p * 29 + d * 53 = X at i6
    have hx0 : 0 ≤ X := by omega
    have hx1 : X < 1099511627776 := by omega
    have j1 : 0 ≤ X.tdiv 64 := Int.tdiv_nonneg hx0 (by omega)
    have j2 : X.tdiv 64 ≤ X := Int.tdiv_le_self _ hx0
    obtain ⟨k1, k2⟩ := xor_small hx0 hx1 j1 (by omega)
    have i7 : inR .i64 (X.tdiv 64) := small_i64 (by omega) (by omega)
    simp -implicitDefEqProofs [hw, hcl, hi, hl, hdd, i1, i2, i3, i4, i5, hX, i6, i7, bytesRows_len, bytesRows_nil, hc0, List.getElem?_set, go_sem, -List.set_cons_succ, -List.set_cons_zero]
    exact ⟨by omega, Int.tmod_nonneg _ k1, fun h => Int.tmod_lt_of_pos _ h⟩

/-- what a function that draws gives: its source stands behind where it stood -/
def Drew (R : A → Prop) (N : Int) (c : List UInt8) (p : Int) (H : Heap) (i : Nat) (r : A) (H' : Heap) : Prop := R r ∧ ∃ p', p ≤ p' ∧ p' ≤ p + N ∧ H' = H.set i (Rd c p')
/-- what a function that draws is shown to give -/
def Draws (f : FuncId) (xs : List A) (N : Int) (R : A → Prop) : Prop :=
  ∀ (c : List UInt8) (p : Int) (H : Heap) (i : Nat), c.length ≤ 2000 → 0 ≤ p → p + N ≤ 1000000 → i < H.length → ACalls Tryz.prog f (.c (.ptr (.e i) 0) :: xs) (H.set i (Rd c p)) (Drew R N c p H i)
/-- an integer in a range -/
def IntIn (lo hi : Int) (r : A) : Prop := ∃ k : Int, r = .c (.d (.int .i64 k)) ∧ lo ≤ k ∧ k < hi
theorem pick_draws (m : Int) (hm : 1 ≤ m ∧ m ≤ 1000000000) : Draws 43 [.c (.d (.int .i64 m))] 1 (IntIn 0 m) := fun c p H i hc hp hp1 hi =>
  (pick_calls c hc p m hp (by omega) ⟨by omega, hm.2⟩ H i hi).mono fun r H' ⟨k, h1, h2, h3, h4⟩ => ⟨⟨k, h1, h2, h3 (by omega)⟩, p + 1, by omega, by omega, h4⟩

/-- a call that draws from a source that was handed in -/
theorem call_drawE {f : FuncId} {xs : List A} {N : Int} {R : A → Prop} (hd : Draws f xs N R) {c : List UInt8} {p : Int} {H : Heap} {i : Nat} {sl : List A} {loc H₂ : Heap} {K : A → St → Prop} (hc : c.length ≤ 2000) (hp : 0 ≤ p) (hp1 : p + N ≤ 1000000) (hi : i < H.length)
    (hH : H₂ = H.set i (Rd c p) ++ loc.map (Ob.re H.length)) (hr : ∀ r, R r → A.re H.length r = r) (hf : Obs.fits H.length 0 (H.set i (Rd c p))) (hk : ∀ r p', R r → p ≤ p' → p' ≤ p + N → K r ⟨sl, H.set i (Rd c p'), loc⟩) :
    ACalls Tryz.prog f (.c (.ptr (.e i) 0) :: xs) H₂ (CallK K ⟨sl, H.set i (Rd c p), loc⟩) := by
  subst hH
  have h := hd c p (H ++ loc.map (Ob.re H.length)) i hc hp hp1 (by simp; omega)
  rw [List.set_append_left _ _ hi] at h
  refine h.mono fun r H' ⟨h1, p', h2, h3, h4⟩ => ?_
  rw [List.set_append_left _ _ hi] at h4
  exact ⟨H.set i (Rd c p'), loc, r, by simpa using h4, by simp, Nat.le_refl _, by simpa using fits_reset (b := Rd c p') hf ⟨trivial, trivial, trivial⟩, by simpa using (hr r h1).symm, hk r p' h1 h2 h3⟩
/-- a call that draws from an own source, the first own object -/
theorem call_drawL {f : FuncId} {xs : List A} {N : Int} {R : A → Prop} (hd : Draws f xs N R) {c : List UInt8} {p : Int} {H : Heap} {sl : List A} {loc H₂ : Heap} {j : Nat} {K : A → St → Prop} (hc : c.length ≤ 2000) (hp : 0 ≤ p) (hp1 : p + N ≤ 1000000) (hj : loc[j]? = some (Rd c p))
    (hH : H₂ = H ++ loc.map (Ob.re H.length)) (hr : ∀ r, R r → A.re H.length r = r) (hf : Obs.fits H.length 0 H) (hk : ∀ r p', R r → p ≤ p' → p' ≤ p + N → K r ⟨sl, H, loc.set j (Rd c p')⟩) :
    ACalls Tryz.prog f (.c (.ptr (.e (H.length + j)) 0) :: xs) H₂ (CallK K ⟨sl, H, loc⟩) := by
  subst hH
  have hjl : j < loc.length := (List.getElem?_eq_some_iff.1 hj).1
  have h := hd c p (H ++ loc.map (Ob.re H.length)) (H.length + j) hc hp hp1 (by simp; omega)
  have e : ∀ q, (H ++ loc.map (Ob.re H.length)).set (H.length + j) (Rd c q) = H ++ (loc.set j (Rd c q)).map (Ob.re H.length) := fun q => by
    rw [List.set_append_right _ _ (by omega), Nat.add_sub_cancel_left, List.map_set]
    rfl
  have e0 : loc.set j (Rd c p) = loc := by
    apply List.ext_getElem?
    intro k
    rw [List.getElem?_set]
    split
    · rename_i h; subst h; rw [hj]
    · rfl
  rw [e, e0] at h
  refine h.mono fun r H' ⟨h1, p', h2, h3, h4⟩ => ?_
  rw [e] at h4
  exact ⟨H, loc.set j (Rd c p'), r, h4, rfl, by simp, hf, (hr r h1).symm, hk r p' h1 h2 h3⟩
theorem IntIn.re {lo hi : Int} {n : Nat} {r : A} (h : IntIn lo hi r) : A.re n r = r := by
  obtain ⟨k, rfl, _⟩ := h
  rfl

theorem num_draws (l : List Int) (hl : 1 ≤ l.length ∧ l.length ≤ 1000) : Draws 90 [.c (.d (.sl (l.map fun n => [.int .i64 n])))] 1 (fun r => ∃ n ∈ l, r = .c (.d (.int .i64 n))) := fun c p H i hc hp hp1 hi => by
  refine acalls Tryz.func90 (by kernel_rfl) ac90_ok fun hf => ?_
  simp only [List.length_set] at hf
  have hll : inR .i64 (l.length : Int) := small_i64 (by omega) (by omega)
  simp -implicitDefEqProofs [ac90, hll, go_sem, -List.set_cons_succ, -List.set_cons_zero]
  refine call_drawE (pick_draws l.length ⟨by omega, by omega⟩) hc hp hp1 hi (by simp) (fun r => IntIn.re) hf ?_
  rintro _ p' ⟨k, rfl, h1, h2⟩ h3 h4
  simp -implicitDefEqProofs [go_sem, -List.set_cons_succ, -List.set_cons_zero]
  have hk : k.toNat < l.length := by omega
  refine row_int [.int .i64 l[k.toNat]] h1 (by simp [hk]) rfl ?_
  simp -implicitDefEqProofs [go_sem, -List.set_cons_succ, -List.set_cons_zero]
  exact ⟨⟨_, List.getElem_mem hk, rfl⟩, p', h3, h4, rfl⟩
theorem open_calls (c : List UInt8) (hc : c.length ≤ 1048576) (H : Heap) : ACalls Tryz.prog 39 [.c (.d (.sl (bytesRows c)))] H (fun r H' => r = .c (.ptr (.e H.length) 0) ∧ ∃ c' : List UInt8, c'.length ≤ 2000 ∧ H' = H ++ [Rd c' 0]) := by
  refine acallsK Tryz.func39 (by kernel_rfl) ac39_ok fun hf => ?_
  have hl : inR .i64 (c.length : Int) := small_i64 (by omega) (by omega)
  simp -implicitDefEqProofs [ac39, hl, bytesRows_len, go_sem, -List.set_cons_succ, -List.set_cons_zero]
  refine ⟨fun h => ⟨?_, by omega, ?_⟩, fun h => ?_⟩
  · intro r hr
    simp only [bytesRows, List.mem_map] at hr
    obtain ⟨b, _, rfl⟩ := hr
    rfl
  · refine finK_ret _ ⟨trivial, trivial⟩ rfl ⟨rfl, c.take 2000, by simp; omega, ?_⟩
    simp [Rd, bytesRows, Ob.re, C.re]
  · refine finK_ret _ ⟨trivial, trivial⟩ rfl ⟨rfl, c, by omega, ?_⟩
    simp [Rd, Ob.re, C.re]
end Go.Proofs.YtbblefjbgbocoaaGreatDoor

/-
  Terms that are drawn.
  Conditions: none.
-/
open Go Go.AM Go.Proofs
namespace Go.Proofs.YtbblefjbgbocoaaGreatDoor
open Go.ChangeShapes Go.WideShapes Go.ChangeAt Go.RowKit
set_option linter.unusedVariables false
set_option linter.unusedSimpArgs false
set_option maxRecDepth 100000
-- 91 (*loop.example/prologserver/spec.l18Rd).of params 2 ntmps 12
def ac91 : Cd := .seq (.region [⟨(some 4),.mv (.k (.c (.d (.str [])))),none⟩] [4])
 (.seq (.region [⟨(some 5),.mv (.t 1),none⟩,
 ⟨(some 6),.mv (.t 0),none⟩,
 ⟨(some 7),.mv (.t 1),none⟩,
 ⟨(some 8),.len 1 (.t 7),none⟩,
 ⟨(some 9),.call false 43 [(.t 6),(.t 8)],none⟩,
 ⟨(some 10),.indexAddr 1 (.t 5) (.t 9),none⟩,
 ⟨(some 11),.load none (.t 10),none⟩,
 ⟨(some 4),.mv (.t 11),none⟩] [0,1,5,6,7,8,9,10,11])
 (.ret))
theorem ac91_ok : cFunc Tryz.prog [] [(0,[4],[]),(1,[0,1,5,6,7,8,9,10,11],[])] Tryz.f91 = some (ac91,[.tmp 4],12) := by kernel_rfl
-- 73 loop.example/prologserver/spec.l1Draw params 2 ntmps 65
-- loop head live: [0,1,4,5,6]
def ac73 : Cd := .seq (.region [⟨(some 4),.alloc [(.d (.int .i64 0)),(.d (.int .i64 0)),(.d (.str [])),(.full [])],none⟩] [])
 (.seq (.seq (.region [⟨(some 7),.mv (.t 1),none⟩,
 ⟨(some 8),.bin .lss (.t 7) (.k (.c (.d (.int .i64 2)))),none⟩,
 ⟨(some 9),.mv (.t 8),none⟩,
 ⟨(some 10),.mv (.t 0),some (9,false)⟩,
 ⟨(some 11),.call false 43 [(.t 10),(.k (.c (.d (.int .i64 4))))],some (9,false)⟩,
 ⟨(some 12),.bin .eql (.t 11) (.k (.c (.d (.int .i64 0)))),some (9,false)⟩,
 ⟨(some 13),.pick (.t 9) (.k (.c (.d (.bool true)))) (.t 12),none⟩] [7,8,9,10,11,12])
 (.cond (.t 13)
 (.seq (.seq (.region [⟨(some 14),.mv (.t 0),none⟩,
 ⟨(some 15),.call false 43 [(.t 14),(.k (.c (.d (.int .i64 4))))],none⟩] [1,13,14])
 (.block 0 (.seq (.region [⟨(some 17),.bin .eql (.t 15) (.k (.c (.d (.int .i64 0)))),none⟩,
 ⟨(some 16),.mv (.t 17),none⟩] [17])
 (.cond (.t 16)
 (.seq (.region [⟨(some 18),.mv (.t 0),none⟩,
 ⟨(some 19),.call false 43 [(.t 18),(.k (.c (.d (.int .i64 4))))],none⟩,
 ⟨(some 20),.qcall 124 [(.t 19)],none⟩,
 ⟨none,.store 4 (.t 4) (.t 20),none⟩] [0,15,16,18,19,20])
 (.ret))
 (.seq (.region [⟨(some 22),.bin .eql (.t 15) (.k (.c (.d (.int .i64 1)))),none⟩,
 ⟨(some 21),.mv (.t 22),none⟩] [15,16,22])
 (.cond (.t 21)
 (.seq (.region [⟨(some 23),.mv (.t 0),none⟩,
 ⟨(some 24),.buildSlice 1 6 [(.int .i64 0)] [(0,(.k (.c (.d (.int .i64 0))))),(1,(.k (.c (.d (.int .i64 1))))),(2,(.k (.c (.d (.int .i64 7))))),(3,(.k (.c (.d (.int .i64 (-3)))))),(4,(.k (.c (.d (.int .i64 999))))),(5,(.k (.c (.d (.int .i64 (-999))))))],none⟩,
 ⟨(some 25),.call false 90 [(.t 23),(.t 24)],none⟩,
 ⟨(some 26),.qcall 125 [(.t 25)],none⟩,
 ⟨none,.store 4 (.t 4) (.t 26),none⟩] [0,21,23,24,25,26])
 (.ret))
 (.skip)))))))
 (.seq (.region [⟨(some 27),.mv (.t 0),none⟩,
 ⟨(some 28),.buildSlice 1 6 [(.str [])] [(0,(.k (.c (.d (.str [97]))))),(1,(.k (.c (.d (.str [98]))))),(2,(.k (.c (.d (.str [110,105,108]))))),(3,(.k (.c (.d (.str [91,93]))))),(4,(.k (.c (.d (.str [102,111,111]))))),(5,(.k (.c (.d (.str [43])))))],none⟩,
 ⟨(some 29),.call false 91 [(.t 27),(.t 28)],none⟩,
 ⟨(some 30),.call false 96 [(.t 29),(.k (.c (.full [])))],none⟩,
 ⟨none,.store 4 (.t 4) (.t 30),none⟩] [0,21,27,28,29,30])
 (.ret)))
 (.skip)))
 (.seq (.seq (.region [⟨(some 31),.mv (.t 0),none⟩,
 ⟨(some 32),.call false 43 [(.t 31),(.k (.c (.d (.int .i64 3))))],none⟩,
 ⟨(some 33),.bin .eql (.t 32) (.k (.c (.d (.int .i64 0)))),none⟩] [13,31,32])
 (.cond (.t 33)
 (.seq (.region [⟨(some 34),.mv (.t 0),none⟩,
 ⟨(some 35),.mv (.t 1),none⟩,
 ⟨(some 36),.bin .sub (.t 35) (.k (.c (.d (.int .i64 1)))),none⟩,
 ⟨(some 37),.callL false false 73 [(.t 34),(.t 36)],none⟩,
 ⟨(some 38),.mv (.t 0),none⟩,
 ⟨(some 39),.mv (.t 1),none⟩,
 ⟨(some 40),.bin .sub (.t 39) (.k (.c (.d (.int .i64 1)))),none⟩,
 ⟨(some 41),.callL false false 73 [(.t 38),(.t 40)],none⟩,
 ⟨(some 42),.buildSlice 4 2 [(.int .i64 0),(.int .i64 0),(.str []),(.sl [])] [(0,(.t 37)),(1,(.t 41))],none⟩,
 ⟨(some 43),.call false 96 [(.k (.c (.d (.str [46])))),(.t 42)],none⟩,
 ⟨none,.store 4 (.t 4) (.t 43),none⟩] [0,1,33,34,35,36,37,38,39,40,41,42,43])
 (.ret))
 (.skip)))
 (.seq (.region [⟨(some 44),.mv (.t 0),none⟩,
 ⟨(some 45),.buildSlice 1 7 [(.str [])] [(0,(.k (.c (.d (.str [102]))))),(1,(.k (.c (.d (.str [103]))))),(2,(.k (.c (.d (.str [115]))))),(3,(.k (.c (.d (.str [43]))))),(4,(.k (.c (.d (.str [61]))))),(5,(.k (.c (.d (.str [105,115]))))),(6,(.k (.c (.d (.str [102,111,111])))))],none⟩,
 ⟨(some 46),.call false 91 [(.t 44),(.t 45)],none⟩,
 ⟨(some 47),.call false 96 [(.t 46),(.k (.c (.full [])))],none⟩,
 ⟨(some 5),.alloc [(.d (.int .i64 0)),(.d (.int .i64 0)),(.d (.str [])),(.full [])],none⟩,
 ⟨none,.store 4 (.t 5) (.t 47),none⟩] [33,44,45,46,47])
 (.seq (.seq (.region [⟨(some 48),.mv (.t 0),none⟩,
 ⟨(some 49),.buildSlice 1 4 [(.int .i64 0)] [(0,(.k (.c (.d (.int .i64 2))))),(1,(.k (.c (.d (.int .i64 1))))),(2,(.k (.c (.d (.int .i64 3))))),(3,(.k (.c (.d (.int .i64 2)))))],none⟩,
 ⟨(some 50),.call false 90 [(.t 48),(.t 49)],none⟩,
 ⟨(some 6),.mv (.t 50),none⟩] [48,49,50])
 (.block 1 (.loop (.seq (.seq (.region [⟨(some 51),.mv (.t 6),none⟩,
 ⟨(some 52),.bin .gtr (.t 51) (.k (.c (.d (.int .i64 0)))),none⟩] [51])
 (.cond (.t 52)
 (.skip)
 (.exit 1)))
 (.seq (.block 2 (.region [⟨(some 55),.fieldAddr 3 (.t 5),none⟩,
 ⟨(some 57),.mv (.t 0),none⟩,
 ⟨(some 58),.mv (.t 1),none⟩,
 ⟨(some 59),.bin .sub (.t 58) (.k (.c (.d (.int .i64 1)))),none⟩,
 ⟨(some 56),.loadL false none (.t 55),none⟩,
 ⟨(some 60),.callL false false 73 [(.t 57),(.t 59)],none⟩,
 ⟨(some 61),.buildSlice 4 1 [(.int .i64 0),(.int .i64 0),(.str []),(.sl [])] [(0,(.t 60))],none⟩,
 ⟨(some 62),.append false 4 (.t 56) (.t 61),none⟩,
 ⟨(some 63),.fieldAddr 3 (.t 5),none⟩,
 ⟨none,.store 1 (.t 63) (.t 62),none⟩] [52,55,56,57,58,59,60,61,62,63]))
 (.region [⟨(some 53),.mv (.t 6),none⟩,
 ⟨(some 54),.bin .sub (.t 53) (.k (.c (.d (.int .i64 1)))),none⟩,
 ⟨(some 6),.mv (.t 54),none⟩] [53,54]))))))
 (.seq (.region [⟨(some 64),.load (some 4) (.t 5),none⟩,
 ⟨none,.store 4 (.t 4) (.t 64),none⟩] [5,64])
 (.ret))))))
theorem ac73_ok : cFunc Tryz.prog [1000124,1000125,5000055,6000073] [(0,[],[]),(1,[7,8,9,10,11,12],[]),(2,[1,13,14],[]),(3,[17],[]),(4,[0,15,16,18,19,20],[]),(5,[15,16,22],[]),(6,[0,21,23,24,25,26],[]),(7,[0,21,27,28,29,30],[]),(8,[13,31,32],[]),(9,[0,1,33,34,35,36,37,38,39,40,41,42,43],[]),(10,[33,44,45,46,47],[]),(11,[48,49,50],[]),(12,[51],[]),(14,[52,55,56,57,58,59,60,61,62,63],[0,2,3,4,1,5,6,7,8,9]),(13,[53,54],[]),(15,[5,64],[])] Tryz.f73 = some (ac73,[.cell 4 (some 4)],65) := by kernel_rfl
namespace Full
-- 96 loop.example/prologserver/spec.l1Struct params 2 ntmps 10
def ac96 : Cd := .seq (.region [⟨(some 4),.alloc [(.d (.int .i64 0)),(.d (.int .i64 0)),(.d (.str [])),(.full [])],none⟩] [])
 (.seq (.region [⟨(some 5),.mv (.t 0),none⟩,
 ⟨(some 6),.buildSlice 4 0 [(.int .i64 0),(.int .i64 0),(.str []),(.sl [])] [],none⟩,
 ⟨(some 7),.mv (.t 1),none⟩,
 ⟨(some 8),.appendF 4 (.t 6) (.t 7),none⟩,
 ⟨(some 9),.build [(.d (.int .i64 0)),(.d (.int .i64 0)),(.d (.str [])),(.full [])] [(0,1,(.k (.c (.d (.int .i64 3))))),(2,1,(.t 5)),(3,1,(.t 8))],none⟩,
 ⟨none,.store 4 (.t 4) (.t 9),none⟩] [0,1,5,6,7,8,9])
 (.ret))
theorem ac96_ok : cFunc Tryz.prog [3000006] [(0,[],[]),(1,[0,1,5,6,7,8,9],[])] Tryz.f96 = some (ac96,[.cell 4 (some 4)],10) := by kernel_rfl
end Full
theorem of_draws (l : List (List UInt8)) (hl : 1 ≤ l.length ∧ l.length ≤ 1000) : Draws 91 [.c (.d (.sl (l.map fun s => [.str s])))] 1 (fun r => ∃ s ∈ l, r = .c (.d (.str s))) := fun c p H i hc hp hp1 hi => by
  refine acalls Tryz.func91 (by kernel_rfl) ac91_ok fun hf => ?_
  simp only [List.length_set] at hf
  have hll : inR .i64 (l.length : Int) := small_i64 (by omega) (by omega)
  simp -implicitDefEqProofs [ac91, hll, go_sem, -List.set_cons_succ, -List.set_cons_zero]
  refine call_drawE (pick_draws l.length ⟨by omega, by omega⟩) hc hp hp1 hi (by simp) (fun r => IntIn.re) hf ?_
  rintro _ p' ⟨k, rfl, h1, h2⟩ h3 h4
  simp -implicitDefEqProofs [go_sem, -List.set_cons_succ, -List.set_cons_zero]
  have hk : k.toNat < l.length := by omega
  refine row_int [.str l[k.toNat]] h1 (by simp [hk]) rfl ?_
  simp -implicitDefEqProofs [go_sem, -List.set_cons_succ, -List.set_cons_zero]
  exact ⟨⟨_, List.getElem_mem hk, rfl⟩, p', h3, h4, rfl⟩
/-- a structure without arguments: nothing stands behind its arguments -/
theorem struct_full (name : List UInt8) (H : Heap) : ACalls Tryz.prog 96 [.c (.d (.str name)), .c (.d (.sl []))] H (fun r H' => H' = H ++ [.cells [.d (.int .i64 3), .d (.int .i64 0), .d (.str name), .full []]] ∧ r = .agg [.d (.int .i64 3), .d (.int .i64 0), .d (.str name), .full []]) := by
  refine acallsK Tryz.func96 (by kernel_rfl) Full.ac96_ok fun hf => ?_
  simp -implicitDefEqProofs [Full.ac96, hf, go_sem, -List.set_cons_succ, -List.set_cons_zero]
  refine finK_ret _ ⟨trivial, trivial⟩ rfl ?_
  simp [Ob.re, C.re, A.re]
/-- a call that leaves one object more, which looks at no other -/
theorem call_new {P : Program} {f : FuncId} {xs : List A} {sl : List A} {ext loc H₂ : Heap} {o : Ob} {r : A} {K : A → St → Prop} (hc : ∀ H, ACalls P f xs H (fun r' H' => H' = H ++ [o] ∧ r' = r)) (ho : Ob.re ext.length o = o) (hr : A.re ext.length r = r)
    (hf : Obs.fits ext.length 0 ext) (hH : H₂ = ext ++ loc.map (Ob.re ext.length)) (hk : K r ⟨sl, ext, loc ++ [o]⟩) : ACalls P f xs H₂ (CallK K ⟨sl, ext, loc⟩) := by
  subst hH
  exact (hc _).mono fun r' H' ⟨h1, h2⟩ => ⟨ext, loc ++ [o], r, by rw [h1, List.append_assoc, List.map_append]; simp [ho], rfl, by simp, hf, by rw [h2]; exact hr.symm, hk⟩
/-- a term that a law looks at -/
def TmR (r : A) : Prop := ∃ t : Tm, r = .agg (t.row.map .d) ∧ t.fits
theorem TmR.re {n : Nat} {r : A} (h : TmR r) : A.re n r = r := by
  obtain ⟨t, rfl, _⟩ := h
  simp [A.re, re_d]
/-- the names that are drawn -/
def drawNames : List (List UInt8) := [[97], [98], [110, 105, 108], [91, 93], [102, 111, 111], [43], [46], [102], [103], [115], [61], [105, 115]]
theorem draw_names {l : List (List UInt8)} {s : List UInt8} (h : s ∈ l) (hl : l.all (drawNames.contains ·) = true := by decide) : s ∈ drawNames := by
  simp only [List.all_eq_true, List.contains_iff_mem] at hl
  exact hl s h
/-- a term that is drawn -/
def TmP (P : Tm → Prop) (r : A) : Prop := ∃ t : Tm, r = .agg (t.row.map .d) ∧ t.fits ∧ P t
theorem TmP.re {P : Tm → Prop} {n : Nat} {r : A} (h : TmP P r) : A.re n r = r := by
  obtain ⟨t, rfl, _⟩ := h
  simp [A.re, re_d]
theorem draw_of {P Q : Tm → Prop} (hP1 : ∀ n, 0 ≤ n → n ≤ 25 → P (.mk 1 n [] [])) (hP2 : ∀ n, -999 ≤ n → n ≤ 999 → P (.mk 2 n [] [])) (hP3 : ∀ s ∈ drawNames, ∀ l : List Tm, l.length ≤ 3 → (∀ t ∈ l, Q t) → P (.mk 3 0 s l))
    (d : Nat) (hd : d ≤ 6) (M N : Int) (hM : 0 ≤ M) (hN : 4 + 3 * M ≤ N) (ih : 2 ≤ d → Draws 73 [.c (.d (.int .i64 ((d : Int) - 1)))] M (TmP Q)) : Draws 73 [.c (.d (.int .i64 d))] N (TmP P) := fun c p H i hc hp hp1 hi => by
  refine acalls Tryz.func73 (by kernel_rfl) ac73_ok fun hf => ?_
  simp only [List.length_set] at hf
  simp -implicitDefEqProofs [ac73, go_sem, -List.set_cons_succ, -List.set_cons_zero]
  have hf0 : ∀ q, Obs.fits H.length 0 (H.set i (Rd c q)) := fun q => fits_reset (b := Rd c q) hf ⟨trivial, trivial, trivial⟩
  have hf1 : ∀ q, Obs.fits (H.set i (Rd c q)).length 0 (H.set i (Rd c q)) := fun q => by simpa using hf0 q
  have done : ∀ (t : Tm) (q : Int), p ≤ q → q ≤ p + N → t.fits → P t → ∀ r, r = .agg (t.row.map .d) → Drew (TmP P) N c p H i r (H.set i (Rd c q)) := fun t q a1 a2 a3 a4 r hr => ⟨⟨t, hr, a3, a4⟩, q, a1, a2, rfl⟩
  refine ⟨fun h2 => ⟨h2, ?_⟩, fun h2 => ?_⟩
  · refine call_drawE (pick_draws 4 (by omega)) hc hp (by omega) hi (by simp [Ob.re, C.re]) (fun r => IntIn.re) (hf0 _) ?_
    rintro _ p0 ⟨k, rfl, k0, k1⟩ h3 h4
    have hd0 : ¬ ((d : Int) < 2) := by omega
    simp -implicitDefEqProofs [hf0, hd0, go_sem, -List.set_cons_succ, -List.set_cons_zero]
    refine ⟨fun _ => ?_, fun _ => ?_⟩
    · skip
      refine call_drawE (pick_draws 4 (by omega)) hc (by omega) (by omega) hi (by simp [Ob.re, C.re]) (fun r => IntIn.re) (hf0 _) ?_
      rintro _ p1 ⟨k, rfl, k0, k1⟩ h3 h4
      simp -implicitDefEqProofs [hf0, go_sem, -List.set_cons_succ, -List.set_cons_zero]
      refine ⟨fun _ => ?_, fun _ => ⟨fun _ => ?_, fun _ => ?_⟩⟩
      · refine call_drawE (pick_draws 4 (by omega)) hc (by omega) (by omega) hi (by simp [Ob.re, C.re]) (fun r => IntIn.re) (hf0 _) ?_
        rintro _ p2 ⟨n, rfl, n0, n1⟩ h5 h6
        simp -implicitDefEqProofs [hf0, go_sem, -List.set_cons_succ, -List.set_cons_zero]
        refine qcall_pure (var_calls n) (hf1 _) (by simp [A.re, re_d]) ?_
        simp -implicitDefEqProofs [hf0, row_mk, go_sem, -List.set_cons_succ, -List.set_cons_zero]
        exact done (.mk 1 n [] []) p2 (by omega) (by omega) (.mk (small_i64 (by omega) (by omega)) (small_i64 (by omega) (by omega)) (by simp) (by simp) (by simp)) (hP1 n (by omega) (by omega)) _ (by simp [row_mk])
      · refine call_drawE (num_draws [0, 1, 7, -3, 999, -999] (by decide)) hc (by omega) (by omega) hi (by simp [Ob.re, C.re]) (fun r ⟨n, _, hn⟩ => by subst hn; rfl) (hf0 _) ?_
        rintro _ p2 ⟨n, hn, rfl⟩ h5 h6
        have hn : -999 ≤ n ∧ n ≤ 999 := by simp at hn; omega
        simp -implicitDefEqProofs [hf0, go_sem, -List.set_cons_succ, -List.set_cons_zero]
        refine qcall_pure (int_calls n) (hf1 _) (by simp [A.re, re_d]) ?_
        simp -implicitDefEqProofs [hf0, row_mk, go_sem, -List.set_cons_succ, -List.set_cons_zero]
        exact done (.mk 2 n [] []) p2 (by omega) (by omega) (.mk (small_i64 (by omega) (by omega)) (small_i64 (by omega) (by omega)) (by simp) (by simp) (by simp)) (hP2 n (by omega) (by omega)) _ (by simp [row_mk])
      · refine call_drawE (of_draws [[97], [98], [110, 105, 108], [91, 93], [102, 111, 111], [43]] (by decide)) hc (by omega) (by omega) hi (by simp [Ob.re, C.re]) (fun r ⟨n, _, hn⟩ => by subst hn; rfl) (hf0 _) ?_
        rintro _ p2 ⟨s, hs, rfl⟩ h5 h6
        have hsm : s ∈ drawNames := draw_names hs
        have hs : s.length ≤ 3 := by simp at hs; rcases hs with rfl | rfl | rfl | rfl | rfl | rfl <;> decide
        simp -implicitDefEqProofs [hf0, go_sem, -List.set_cons_succ, -List.set_cons_zero]
        refine call_new (struct_full s) (by simp [Ob.re, C.re]) (by simp [A.re, C.re]) (hf1 _) (by simp [Ob.re, C.re]) ?_
        simp -implicitDefEqProofs [hf0, go_sem, -List.set_cons_succ, -List.set_cons_zero]
        exact done (.mk 3 0 s []) p2 (by omega) (by omega) (.mk (small_i64 (by omega) (by omega)) (small_i64 (by omega) (by omega)) (by omega) (by simp) (by simp)) (hP3 s hsm [] (by simp) (by simp)) _ (by simp [row_mk])
    · refine call_drawE (pick_draws 3 (by omega)) hc (by omega) (by omega) hi (by simp [Ob.re, C.re]) (fun r => IntIn.re) (hf0 _) ?_
      rintro _ p1 ⟨k2, rfl, k3, k4⟩ h5 h6
      have hsub : inR .i64 ((d : Int) - 1) := small_i64 (by omega) (by omega)
      simp -implicitDefEqProofs [hf0, hsub, go_sem, -List.set_cons_succ, -List.set_cons_zero]
      refine ⟨fun _ => ?_, fun _ => ?_⟩
      · refine call_drawE (ih (by omega)) hc (by omega) (by omega) hi (by simp [Ob.re, C.re]) (fun r => TmP.re) (hf0 _) ?_
        rintro _ p2 ⟨a, rfl, ha, haQ⟩ h7 h8
        refine ⟨LocSame.refl _, ?_⟩
        simp -implicitDefEqProofs [hf0, hsub, row_len, take_row, go_sem, -List.set_cons_succ, -List.set_cons_zero]
        refine call_drawE (ih (by omega)) hc (by omega) (by omega) hi (by simp [Ob.re, C.re]) (fun r => TmP.re) (hf0 _) ?_
        rintro _ p3 ⟨b, rfl, hb, hbQ⟩ h9 h10
        refine ⟨LocSame.refl _, ?_⟩
        simp -implicitDefEqProofs [hf0, hsub, row_len, take_row, toDs_map, go_sem, -List.set_cons_succ, -List.set_cons_zero]
        have hs := struct_calls [46] [a, b] (by simp)
        simp only [List.map_cons, List.map_nil] at hs
        refine call_same (r := .agg ((Tm.mk 3 0 [46] [a, b]).row.map .d)) (hs _) (by simp [Ob.re, C.re]) (by simp [A.re, re_d]) (hf1 _) ?_
        simp -implicitDefEqProofs [hf0, row_mk, go_sem, -List.set_cons_succ, -List.set_cons_zero]
        exact done (.mk 3 0 [46] [a, b]) p3 (by omega) (by omega) (.mk (small_i64 (by omega) (by omega)) (small_i64 (by omega) (by omega)) (by simp) (by simp) (by simp [ha, hb])) (hP3 [46] (by decide) [a, b] (by simp) (by simp [haQ, hbQ])) _ (by simp [row_mk])
      · refine call_drawE (of_draws [[102], [103], [115], [43], [61], [105, 115], [102, 111, 111]] (by decide)) hc (by omega) (by omega) hi (by simp [Ob.re, C.re]) (fun r ⟨n, _, hn⟩ => by subst hn; rfl) (hf0 _) ?_
        rintro _ p2 ⟨s, hs, rfl⟩ h7 h8
        have hsm : s ∈ drawNames := draw_names hs
        have hs : s.length ≤ 3 := by simp at hs; rcases hs with rfl | rfl | rfl | rfl | rfl | rfl | rfl <;> decide
        simp -implicitDefEqProofs [hf0, go_sem, -List.set_cons_succ, -List.set_cons_zero]
        refine call_new (struct_full s) (by simp [Ob.re, C.re]) (by simp [A.re, C.re]) (hf1 _) (by simp [Ob.re, C.re]) ?_
        simp -implicitDefEqProofs [hf0, go_sem, -List.set_cons_succ, -List.set_cons_zero]
        refine call_drawE (num_draws [2, 1, 3, 2] (by decide)) hc (by omega) (by omega) hi (by simp [Ob.re, C.re]) (fun r ⟨n, _, hn⟩ => by subst hn; rfl) (hf0 _) ?_
        rintro _ p3 ⟨n, hn, rfl⟩ h9 h10
        have hn : 0 ≤ n ∧ n ≤ 3 := by simp at hn; omega
        have hnM : n * M ≤ 3 * M := Int.mul_le_mul_of_nonneg_right hn.2 hM
        simp -implicitDefEqProofs [hf0, go_sem, -List.set_cons_succ, -List.set_cons_zero]
        refine loop_enter (St.le_tokenC 2 3 4 rfl rfl) ?_
        refine loop_set (σ := Int × List Tm × Int) (fun x => [(6, .c (.d (.int .i64 x.1)))]) (fun x => H.set i (Rd c x.2.2)) (fun x => [.cells [.d (.int .i64 0), .d (.int .i64 0), .d (.str []), .full []], .cells [.d (.int .i64 3), .d (.int .i64 0), .d (.str s), .full []], .cells [.d (.int .i64 3), .d (.int .i64 0), .d (.str s), .own (.l 3) x.2.1.length (x.2.1.map Tm.row)], .grow x.2.1.length 4])
          (fun x => 0 ≤ x.1 ∧ x.1 + x.2.1.length ≤ 3 ∧ p ≤ x.2.2 ∧ x.2.2 + x.1 * M ≤ p + N ∧ (∀ t ∈ x.2.1, t.fits) ∧ ∀ t ∈ x.2.1, Q t) (fun x => x.1.toNat) (n, [], p3) rfl ⟨hn.1, by simp; omega, by simp; omega, by simp; omega, by simp, by simp⟩ ?_
        rintro ⟨m, l, q⟩ ⟨i0, i1, i2, i3, i4, i5⟩
        simp only at i0 i1 i2 i3 i4 i5
        have hmM : 0 ≤ m * M := Int.mul_nonneg i0 hM
        simp -implicitDefEqProofs [setAll, hf0, hsub, go_sem, -List.set_cons_succ, -List.set_cons_zero]
        refine ⟨fun hlt => ?_, fun hge => ?_⟩
        · have hm1 : (m - 1) * M = m * M - M := by rw [Int.sub_mul, Int.one_mul]
          have hm2 : 0 ≤ (m - 1) * M := Int.mul_nonneg (by omega) hM
          have hsubm : inR .i64 (m - 1) := small_i64 (by omega) (by omega)
          refine call_drawE (ih (by omega)) hc (by omega) (by omega) hi (by simp [Ob.re, C.re]) (fun r => TmP.re) (hf0 _) ?_
          rintro _ q2 ⟨a, rfl, ha, haQ⟩ h11 h12
          refine ⟨LocSame.refl _, ?_⟩
          simp -implicitDefEqProofs [hf0, hsubm, row_len, take_row, toDs_map, go_sem, -List.set_cons_succ, -List.set_cons_zero]
          refine ⟨allLen_map row_len, by unfold maxApp; omega, ?_⟩
          refine loop_back (m - 1, l ++ [a], q2) (by simp [setAll]) ⟨by simp; omega, by simp; omega, by simp; omega, by simp; omega, fun t ht => ?_, fun t ht => ?_⟩ (by show (m - 1).toNat < m.toNat; omega)
          · rcases List.mem_append.1 ht with ht | ht
            · exact i4 t ht
            · simp at ht; subst ht; exact ha
          · rcases List.mem_append.1 ht with ht | ht
            · exact i5 t ht
            · simp at ht; subst ht; exact haQ
        · exact done (.mk 3 0 s l) q i2 (by omega) (.mk (small_i64 (by omega) (by omega)) (small_i64 (by omega) (by omega)) (by omega) (by omega) i4) (hP3 s hsm l (by omega) i5) _ (by simp [row_mk])
  · skip
    refine call_drawE (pick_draws 4 (by omega)) hc (by omega) (by omega) hi (by simp [Ob.re, C.re]) (fun r => IntIn.re) (hf0 _) ?_
    rintro _ p1 ⟨k, rfl, k0, k1⟩ h3 h4
    simp -implicitDefEqProofs [hf0, go_sem, -List.set_cons_succ, -List.set_cons_zero]
    refine ⟨fun _ => ?_, fun _ => ⟨fun _ => ?_, fun _ => ?_⟩⟩
    · refine call_drawE (pick_draws 4 (by omega)) hc (by omega) (by omega) hi (by simp [Ob.re, C.re]) (fun r => IntIn.re) (hf0 _) ?_
      rintro _ p2 ⟨n, rfl, n0, n1⟩ h5 h6
      simp -implicitDefEqProofs [hf0, go_sem, -List.set_cons_succ, -List.set_cons_zero]
      refine qcall_pure (var_calls n) (hf1 _) (by simp [A.re, re_d]) ?_
      simp -implicitDefEqProofs [hf0, row_mk, go_sem, -List.set_cons_succ, -List.set_cons_zero]
      exact done (.mk 1 n [] []) p2 (by omega) (by omega) (.mk (small_i64 (by omega) (by omega)) (small_i64 (by omega) (by omega)) (by simp) (by simp) (by simp)) (hP1 n (by omega) (by omega)) _ (by simp [row_mk])
    · refine call_drawE (num_draws [0, 1, 7, -3, 999, -999] (by decide)) hc (by omega) (by omega) hi (by simp [Ob.re, C.re]) (fun r ⟨n, _, hn⟩ => by subst hn; rfl) (hf0 _) ?_
      rintro _ p2 ⟨n, hn, rfl⟩ h5 h6
      have hn : -999 ≤ n ∧ n ≤ 999 := by simp at hn; omega
      simp -implicitDefEqProofs [hf0, go_sem, -List.set_cons_succ, -List.set_cons_zero]
      refine qcall_pure (int_calls n) (hf1 _) (by simp [A.re, re_d]) ?_
      simp -implicitDefEqProofs [hf0, row_mk, go_sem, -List.set_cons_succ, -List.set_cons_zero]
      exact done (.mk 2 n [] []) p2 (by omega) (by omega) (.mk (small_i64 (by omega) (by omega)) (small_i64 (by omega) (by omega)) (by simp) (by simp) (by simp)) (hP2 n (by omega) (by omega)) _ (by simp [row_mk])
    · refine call_drawE (of_draws [[97], [98], [110, 105, 108], [91, 93], [102, 111, 111], [43]] (by decide)) hc (by omega) (by omega) hi (by simp [Ob.re, C.re]) (fun r ⟨n, _, hn⟩ => by subst hn; rfl) (hf0 _) ?_
      rintro _ p2 ⟨s, hs, rfl⟩ h5 h6
      have hsm : s ∈ drawNames := draw_names hs
      have hs : s.length ≤ 3 := by simp at hs; rcases hs with rfl | rfl | rfl | rfl | rfl | rfl <;> decide
      simp -implicitDefEqProofs [hf0, go_sem, -List.set_cons_succ, -List.set_cons_zero]
      refine call_new (struct_full s) (by simp [Ob.re, C.re]) (by simp [A.re, C.re]) (hf1 _) (by simp [Ob.re, C.re]) ?_
      simp -implicitDefEqProofs [hf0, go_sem, -List.set_cons_succ, -List.set_cons_zero]
      exact done (.mk 3 0 s []) p2 (by omega) (by omega) (.mk (small_i64 (by omega) (by omega)) (small_i64 (by omega) (by omega)) (by omega) (by simp) (by simp)) (hP3 s hsm [] (by simp) (by simp)) _ (by simp [row_mk])
/-- whatever holds of leaves and is handed on, holds of what is drawn -/
theorem l1DrawP_draws (P : Nat → Tm → Prop) (h1 : ∀ d n, 0 ≤ n → n ≤ 25 → P d (.mk 1 n [] [])) (h2 : ∀ d n, -999 ≤ n → n ≤ 999 → P d (.mk 2 n [] [])) (h30 : ∀ s ∈ drawNames, P 0 (.mk 3 0 s []))
    (h3 : ∀ d, ∀ s ∈ drawNames, ∀ l : List Tm, l.length ≤ 3 → (∀ t ∈ l, P d t) → P (d + 1) (.mk 3 0 s l)) : ∀ d : Nat, d ≤ 6 → Draws 73 [.c (.d (.int .i64 d))] ((5 * 4 ^ d : Nat) : Int) (TmP (P d))
  | 0, h => draw_of (P := P 0) (Q := fun _ => False) (h1 0) (h2 0) (fun s hs l hl hq => by
      cases l with
      | nil => exact h30 s hs
      | cons a l => exact (hq a (by simp)).elim) 0 h 0 _ (by omega) (by decide) (fun h => absurd h (by omega))
  | d + 1, h => by
    refine draw_of (h1 _) (h2 _) (h3 d) (d + 1) h ((5 * 4 ^ d : Nat) : Int) _ (by omega) ?_ fun _ => ?_
    · have : 0 < 4 ^ d := Nat.pos_of_ne_zero (by simp)
      rw [Nat.pow_succ]; omega
    · have := l1DrawP_draws P h1 h2 h30 h3 d (by omega)
      rw [show (((d + 1 : Nat) : Int) - 1) = (d : Int) by omega]
      exact this
theorem l1Draw_draws (d : Nat) (hd : d ≤ 6) : Draws 73 [.c (.d (.int .i64 d))] ((5 * 4 ^ d : Nat) : Int) TmR := fun c p H i hc hp hp1 hi =>
  (l1DrawP_draws (fun _ _ => True) (fun _ _ _ _ => trivial) (fun _ _ _ _ => trivial) (fun _ _ => trivial) (fun _ _ _ _ _ _ => trivial) d hd c p H i hc hp hp1 hi).mono fun r H' ⟨⟨t, h1, h2, _⟩, h3⟩ => ⟨⟨t, h1, h2⟩, h3⟩
end Go.Proofs.YtbblefjbgbocoaaGreatDoor

/-
  Atoms.
  Conditions: none.
-/
open Go Go.AM Go.Proofs
namespace Go.Proofs.YtbblefjbgbocoaaGreatDoor
open Go.ChangeShapes Go.WideShapes Go.ChangeAt Go.RowKit
set_option linter.unusedVariables false
set_option linter.unusedSimpArgs false
set_option maxRecDepth 100000
-- 214 loop.example/prologserver/impl.isAtom params 1 ntmps 12
end Go.Proofs.YtbblefjbgbocoaaGreatDoor

/-
  Goals: which terms are goals, for the program and for the reference.
  Conditions: none.
-/
open Go Go.AM Go.Proofs
namespace Go.Proofs.YtbblefjbgbocoaaGreatDoor
open Go.ChangeShapes Go.WideShapes Go.ChangeAt Go.RowKit
set_option linter.unusedVariables false
set_option linter.unusedSimpArgs false
set_option maxRecDepth 100000
-- 170 loop.example/prologserver/impl.OpLevel params 1 ntmps 22
def ac139 : Cd := .seq (.region [⟨(some 2),.mv (.k (.c (.d (.int .i64 0)))),none⟩] [2])
 (.seq (.seq (.region [⟨(some 3),.mv (.t 0),none⟩] [0])
 (.block 0 (.seq (.seq (.region [⟨(some 5),.bin .eql (.t 3) (.k (.c (.d (.str [61])))),none⟩,
 ⟨(some 4),.mv (.t 5),none⟩] [5])
 (.cond (.t 4)
 (.skip)
 (.seq (.region [⟨(some 6),.bin .eql (.t 3) (.k (.c (.d (.str [92,61])))),none⟩,
 ⟨(some 4),.mv (.t 6),none⟩] [6])
 (.cond (.t 4)
 (.skip)
 (.seq (.region [⟨(some 7),.bin .eql (.t 3) (.k (.c (.d (.str [61,61])))),none⟩,
 ⟨(some 4),.mv (.t 7),none⟩] [7])
 (.cond (.t 4)
 (.skip)
 (.seq (.region [⟨(some 8),.bin .eql (.t 3) (.k (.c (.d (.str [60])))),none⟩,
 ⟨(some 4),.mv (.t 8),none⟩] [8])
 (.cond (.t 4)
 (.skip)
 (.seq (.region [⟨(some 9),.bin .eql (.t 3) (.k (.c (.d (.str [62])))),none⟩,
 ⟨(some 4),.mv (.t 9),none⟩] [9])
 (.cond (.t 4)
 (.skip)
 (.seq (.region [⟨(some 10),.bin .eql (.t 3) (.k (.c (.d (.str [61,60])))),none⟩,
 ⟨(some 4),.mv (.t 10),none⟩] [10])
 (.cond (.t 4)
 (.skip)
 (.seq (.region [⟨(some 11),.bin .eql (.t 3) (.k (.c (.d (.str [62,61])))),none⟩,
 ⟨(some 4),.mv (.t 11),none⟩] [11])
 (.cond (.t 4)
 (.skip)
 (.seq (.region [⟨(some 12),.bin .eql (.t 3) (.k (.c (.d (.str [61,58,61])))),none⟩,
 ⟨(some 4),.mv (.t 12),none⟩] [12])
 (.cond (.t 4)
 (.skip)
 (.region [⟨(some 13),.bin .eql (.t 3) (.k (.c (.d (.str [105,115])))),none⟩,
 ⟨(some 4),.mv (.t 13),none⟩] [13])))))))))))))))))
 (.cond (.t 4)
 (.seq (.region [⟨(some 2),.mv (.k (.c (.d (.int .i64 3)))),none⟩] [3,4])
 (.ret))
 (.seq (.seq (.region [⟨(some 15),.bin .eql (.t 3) (.k (.c (.d (.str [43])))),none⟩,
 ⟨(some 14),.mv (.t 15),none⟩] [4,15])
 (.cond (.t 14)
 (.skip)
 (.region [⟨(some 16),.bin .eql (.t 3) (.k (.c (.d (.str [45])))),none⟩,
 ⟨(some 14),.mv (.t 16),none⟩] [16])))
 (.cond (.t 14)
 (.seq (.region [⟨(some 2),.mv (.k (.c (.d (.int .i64 2)))),none⟩] [3,14])
 (.ret))
 (.seq (.seq (.region [⟨(some 18),.bin .eql (.t 3) (.k (.c (.d (.str [42])))),none⟩,
 ⟨(some 17),.mv (.t 18),none⟩] [14,18])
 (.cond (.t 17)
 (.skip)
 (.seq (.region [⟨(some 19),.bin .eql (.t 3) (.k (.c (.d (.str [47,47])))),none⟩,
 ⟨(some 17),.mv (.t 19),none⟩] [19])
 (.cond (.t 17)
 (.skip)
 (.region [⟨(some 20),.bin .eql (.t 3) (.k (.c (.d (.str [109,111,100])))),none⟩,
 ⟨(some 17),.mv (.t 20),none⟩] [3,20])))))
 (.cond (.t 17)
 (.seq (.region [⟨(some 2),.mv (.k (.c (.d (.int .i64 1)))),none⟩] [3,17])
 (.ret))
 (.skip)))))))))
 (.seq (.region [⟨(some 2),.mv (.k (.c (.d (.int .i64 0)))),none⟩] [3,17])
 (.ret)))
theorem ac139_ok : cFunc Tryz.prog [] [(0,[2],[]),(1,[0],[]),(2,[5],[]),(3,[6],[]),(4,[7],[]),(5,[8],[]),(6,[9],[]),(7,[10],[]),(8,[11],[]),(9,[12],[]),(10,[13],[]),(11,[3,4],[]),(12,[4,15],[]),(13,[16],[]),(14,[3,14],[]),(15,[14,18],[]),(16,[19],[]),(17,[3,20],[]),(18,[3,17],[]),(19,[3,17],[])] Tryz.f139 = some (ac139,[.tmp 2],21) := by kernel_rfl
-- 132 loop.example/prologserver/impl.isOp params 1 ntmps 12
def ac138 : Cd := .seq (.region [⟨(some 4),.mv (.k (.c (.d (.bool false)))),none⟩] [4])
 (.seq (.seq (.region [⟨(some 5),.mv (.t 0),none⟩] [0])
 (.block 0 (.seq (.seq (.region [⟨(some 7),.bin .eql (.t 5) (.k (.c (.d (.str [61])))),none⟩,
 ⟨(some 6),.mv (.t 7),none⟩] [7])
 (.cond (.t 6)
 (.skip)
 (.seq (.region [⟨(some 8),.bin .eql (.t 5) (.k (.c (.d (.str [92,61])))),none⟩,
 ⟨(some 6),.mv (.t 8),none⟩] [8])
 (.cond (.t 6)
 (.skip)
 (.seq (.region [⟨(some 9),.bin .eql (.t 5) (.k (.c (.d (.str [61,61])))),none⟩,
 ⟨(some 6),.mv (.t 9),none⟩] [9])
 (.cond (.t 6)
 (.skip)
 (.seq (.region [⟨(some 10),.bin .eql (.t 5) (.k (.c (.d (.str [60])))),none⟩,
 ⟨(some 6),.mv (.t 10),none⟩] [10])
 (.cond (.t 6)
 (.skip)
 (.seq (.region [⟨(some 11),.bin .eql (.t 5) (.k (.c (.d (.str [62])))),none⟩,
 ⟨(some 6),.mv (.t 11),none⟩] [11])
 (.cond (.t 6)
 (.skip)
 (.seq (.region [⟨(some 12),.bin .eql (.t 5) (.k (.c (.d (.str [61,60])))),none⟩,
 ⟨(some 6),.mv (.t 12),none⟩] [12])
 (.cond (.t 6)
 (.skip)
 (.seq (.region [⟨(some 13),.bin .eql (.t 5) (.k (.c (.d (.str [62,61])))),none⟩,
 ⟨(some 6),.mv (.t 13),none⟩] [13])
 (.cond (.t 6)
 (.skip)
 (.seq (.region [⟨(some 14),.bin .eql (.t 5) (.k (.c (.d (.str [61,58,61])))),none⟩,
 ⟨(some 6),.mv (.t 14),none⟩] [14])
 (.cond (.t 6)
 (.skip)
 (.region [⟨(some 15),.bin .eql (.t 5) (.k (.c (.d (.str [105,115])))),none⟩,
 ⟨(some 6),.mv (.t 15),none⟩] [15])))))))))))))))))
 (.cond (.t 6)
 (.seq (.region [⟨(some 16),.mv (.t 1),none⟩,
 ⟨(some 17),.bin .eql (.t 16) (.k (.c (.d (.int .i64 2)))),none⟩,
 ⟨(some 4),.mv (.t 17),none⟩] [1,5,6,16,17])
 (.ret))
 (.seq (.seq (.region [⟨(some 19),.bin .eql (.t 5) (.k (.c (.d (.str [116,114,117,101])))),none⟩,
 ⟨(some 18),.mv (.t 19),none⟩] [6,19])
 (.cond (.t 18)
 (.skip)
 (.region [⟨(some 20),.bin .eql (.t 5) (.k (.c (.d (.str [102,97,105,108])))),none⟩,
 ⟨(some 18),.mv (.t 20),none⟩] [20])))
 (.cond (.t 18)
 (.seq (.region [⟨(some 21),.mv (.t 1),none⟩,
 ⟨(some 22),.bin .eql (.t 21) (.k (.c (.d (.int .i64 0)))),none⟩,
 ⟨(some 4),.mv (.t 22),none⟩] [1,5,18,21,22])
 (.ret))
 (.seq (.seq (.region [⟨(some 24),.bin .eql (.t 5) (.k (.c (.d (.str [118,97,114])))),none⟩,
 ⟨(some 23),.mv (.t 24),none⟩] [18,24])
 (.cond (.t 23)
 (.skip)
 (.seq (.region [⟨(some 25),.bin .eql (.t 5) (.k (.c (.d (.str [110,111,110,118,97,114])))),none⟩,
 ⟨(some 23),.mv (.t 25),none⟩] [25])
 (.cond (.t 23)
 (.skip)
 (.seq (.region [⟨(some 26),.bin .eql (.t 5) (.k (.c (.d (.str [97,116,111,109])))),none⟩,
 ⟨(some 23),.mv (.t 26),none⟩] [26])
 (.cond (.t 23)
 (.skip)
 (.region [⟨(some 27),.bin .eql (.t 5) (.k (.c (.d (.str [105,110,116])))),none⟩,
 ⟨(some 23),.mv (.t 27),none⟩] [27])))))))
 (.cond (.t 23)
 (.seq (.region [⟨(some 28),.mv (.t 1),none⟩,
 ⟨(some 29),.bin .eql (.t 28) (.k (.c (.d (.int .i64 1)))),none⟩,
 ⟨(some 4),.mv (.t 29),none⟩] [1,5,23,28,29])
 (.ret))
 (.seq (.region [⟨(some 31),.bin .eql (.t 5) (.k (.c (.d (.str [97,114,103])))),none⟩,
 ⟨(some 30),.mv (.t 31),none⟩] [5,23,31])
 (.cond (.t 30)
 (.seq (.region [⟨(some 32),.mv (.t 1),none⟩,
 ⟨(some 33),.bin .eql (.t 32) (.k (.c (.d (.int .i64 3)))),none⟩,
 ⟨(some 4),.mv (.t 33),none⟩] [1,30,32,33])
 (.ret))
 (.skip)))))))))))
 (.seq (.region [⟨(some 4),.mv (.k (.c (.d (.bool false)))),none⟩] [1,30])
 (.ret)))
theorem ac138_ok : cFunc Tryz.prog [] [(0,[4],[]),(1,[0],[]),(2,[7],[]),(3,[8],[]),(4,[9],[]),(5,[10],[]),(6,[11],[]),(7,[12],[]),(8,[13],[]),(9,[14],[]),(10,[15],[]),(11,[1,5,6,16,17],[]),(12,[6,19],[]),(13,[20],[]),(14,[1,5,18,21,22],[]),(15,[18,24],[]),(16,[25],[]),(17,[26],[]),(18,[27],[]),(19,[1,5,23,28,29],[]),(20,[5,23,31],[]),(21,[1,30,32,33],[]),(22,[1,30],[])] Tryz.f138 = some (ac138,[.tmp 4],34) := by kernel_rfl
-- 133 loop.example/prologserver/impl.isBuilt params 1 ntmps 14
def ac147 : Cd := .seq (.region [⟨(some 1),.box (.t 0),none⟩,
 ⟨(some 2),.mv (.k (.c (.d (.bool false)))),none⟩] [0,2])
 (.seq (.region [⟨(some 3),.fieldAddr 0 (.t 1),none⟩,
 ⟨(some 4),.load none (.t 3),none⟩,
 ⟨(some 5),.bin .eql (.t 4) (.k (.c (.d (.int .i64 3)))),none⟩,
 ⟨(some 6),.mv (.t 5),none⟩,
 ⟨(some 7),.fieldAddr 2 (.t 1),some (6,true)⟩,
 ⟨(some 8),.load none (.t 7),some (6,true)⟩,
 ⟨(some 9),.bin .eql (.t 8) (.k (.c (.d (.str [33])))),some (6,true)⟩,
 ⟨(some 10),.pick (.t 6) (.t 9) (.k (.c (.d (.bool false)))),none⟩,
 ⟨(some 11),.mv (.t 10),none⟩,
 ⟨(some 12),.fieldAddr 3 (.t 1),some (11,true)⟩,
 ⟨(some 13),.load none (.t 12),some (11,true)⟩,
 ⟨(some 14),.len 1 (.t 13),some (11,true)⟩,
 ⟨(some 15),.bin .eql (.t 14) (.k (.c (.d (.int .i64 0)))),some (11,true)⟩,
 ⟨(some 16),.pick (.t 11) (.t 15) (.k (.c (.d (.bool false)))),none⟩,
 ⟨(some 2),.mv (.t 16),none⟩] [1,3,4,5,6,7,8,9,10,11,12,13,14,15,16])
 (.ret))
theorem ac147_ok : cFunc Tryz.prog [] [(0,[0,2],[]),(1,[1,3,4,5,6,7,8,9,10,11,12,13,14,15,16],[])] Tryz.f147 = some (ac147,[.tmp 2],17) := by kernel_rfl
-- 81 loop.example/prologserver/spec.l4Plain params 1 ntmps 26
def ac81 : Cd := .seq (.region [⟨(some 1),.box (.t 0),none⟩,
 ⟨(some 2),.mv (.k (.c (.d (.bool false)))),none⟩] [0,2])
 (.seq (.region [⟨(some 3),.fieldAddr 0 (.t 1),none⟩,
 ⟨(some 4),.load none (.t 3),none⟩,
 ⟨(some 5),.bin .eql (.t 4) (.k (.c (.d (.int .i64 3)))),none⟩,
 ⟨(some 6),.mv (.t 5),none⟩,
 ⟨(some 7),.fieldAddr 2 (.t 1),some (6,true)⟩,
 ⟨(some 8),.load none (.t 7),some (6,true)⟩,
 ⟨(some 9),.qcall 137 [(.t 8)],some (6,true)⟩,
 ⟨(some 10),.pick (.t 6) (.t 9) (.k (.c (.d (.bool false)))),none⟩,
 ⟨(some 11),.mv (.t 10),none⟩,
 ⟨(some 12),.fieldAddr 2 (.t 1),some (11,true)⟩,
 ⟨(some 13),.load none (.t 12),some (11,true)⟩,
 ⟨(some 14),.fieldAddr 3 (.t 1),some (11,true)⟩,
 ⟨(some 15),.load none (.t 14),some (11,true)⟩,
 ⟨(some 16),.len 1 (.t 15),some (11,true)⟩,
 ⟨(some 17),.qcall 138 [(.t 13),(.t 16)],some (11,true)⟩,
 ⟨(some 18),.un .not (.t 17),some (11,true)⟩,
 ⟨(some 19),.pick (.t 11) (.t 18) (.k (.c (.d (.bool false)))),none⟩,
 ⟨(some 20),.mv (.t 19),none⟩,
 ⟨(some 21),.fieldAddr 2 (.t 1),some (20,true)⟩,
 ⟨(some 22),.load none (.t 21),some (20,true)⟩,
 ⟨(some 23),.qcall 139 [(.t 22)],some (20,true)⟩,
 ⟨(some 24),.bin .eql (.t 23) (.k (.c (.d (.int .i64 0)))),some (20,true)⟩,
 ⟨(some 25),.pick (.t 20) (.t 24) (.k (.c (.d (.bool false)))),none⟩,
 ⟨(some 2),.mv (.t 25),none⟩] [1,3,4,5,6,7,8,9,10,11,12,13,14,15,16,17,18,19,20,21,22,23,24,25])
 (.ret))
theorem ac81_ok : cFunc Tryz.prog [1000137,1000138,1000139] [(0,[0,2],[]),(1,[1,3,4,5,6,7,8,9,10,11,12,13,14,15,16,17,18,19,20,21,22,23,24,25],[])] Tryz.f81 = some (ac81,[.tmp 2],26) := by kernel_rfl
-- 118 loop.example/prologserver/spec.l4Goal params 1 ntmps 22
def ac118 : Cd := .seq (.region [⟨(some 1),.box (.t 0),none⟩,
 ⟨(some 2),.mv (.k (.c (.d (.bool false)))),none⟩] [0,2])
 (.seq (.region [⟨(some 3),.load (some 4) (.t 1),none⟩,
 ⟨(some 4),.qcall 147 [(.t 3)],none⟩,
 ⟨(some 5),.mv (.t 4),none⟩,
 ⟨(some 6),.load (some 4) (.t 1),some (5,false)⟩,
 ⟨(some 7),.qcall 81 [(.t 6)],some (5,false)⟩,
 ⟨(some 8),.pick (.t 5) (.k (.c (.d (.bool true)))) (.t 7),none⟩,
 ⟨(some 9),.mv (.t 8),none⟩,
 ⟨(some 10),.fieldAddr 0 (.t 1),some (9,false)⟩,
 ⟨(some 11),.load none (.t 10),some (9,false)⟩,
 ⟨(some 12),.bin .eql (.t 11) (.k (.c (.d (.int .i64 3)))),some (9,false)⟩,
 ⟨(some 13),.mv (.t 12),some (9,false)⟩,
 ⟨(some 14),.fieldAddr 2 (.t 1),some (13,true)⟩,
 ⟨(some 15),.load none (.t 14),some (13,true)⟩,
 ⟨(some 16),.fieldAddr 3 (.t 1),some (13,true)⟩,
 ⟨(some 17),.load none (.t 16),some (13,true)⟩,
 ⟨(some 18),.len 1 (.t 17),some (13,true)⟩,
 ⟨(some 19),.qcall 138 [(.t 15),(.t 18)],some (13,true)⟩,
 ⟨(some 20),.pick (.t 13) (.t 19) (.k (.c (.d (.bool false)))),some (9,false)⟩,
 ⟨(some 21),.pick (.t 9) (.k (.c (.d (.bool true)))) (.t 20),none⟩,
 ⟨(some 2),.mv (.t 21),none⟩] [1,3,4,5,6,7,8,9,10,11,12,13,14,15,16,17,18,19,20,21])
 (.ret))
theorem ac118_ok : cFunc Tryz.prog [1000081,1000138,1000147] [(0,[0,2],[]),(1,[1,3,4,5,6,7,8,9,10,11,12,13,14,15,16,17,18,19,20,21],[])] Tryz.f118 = some (ac118,[.tmp 2],22) := by kernel_rfl
-- 117 loop.example/prologserver/impl.GoalValid params 1 ntmps 17
def ac69 : Cd := .seq (.region [⟨(some 1),.box (.t 0),none⟩,
 ⟨(some 2),.mv (.k (.c (.d (.bool false)))),none⟩] [0,2])
 (.seq (.region [⟨(some 3),.load (some 4) (.t 1),none⟩,
 ⟨(some 4),.qcall 80 [(.t 3)],none⟩,
 ⟨(some 5),.mv (.t 4),none⟩,
 ⟨(some 6),.load (some 4) (.t 1),some (5,true)⟩,
 ⟨(some 7),.qcall 118 [(.t 6)],some (5,true)⟩,
 ⟨(some 8),.pick (.t 5) (.t 7) (.k (.c (.d (.bool false)))),none⟩,
 ⟨(some 2),.mv (.t 8),none⟩] [1,3,4,5,6,7,8])
 (.ret))
theorem ac69_ok : cFunc Tryz.prog [1000080,1000118] [(0,[0,2],[]),(1,[1,3,4,5,6,7,8],[])] Tryz.f69 = some (ac69,[.tmp 2],9) := by kernel_rfl
def ops3 : List (List UInt8) := [[61], [92, 61], [61, 61], [60], [62], [61, 60], [62, 61], [61, 58, 61], [105, 115]]
def levelN (s : List UInt8) : Int := if ops3.contains s then 3 else if [[43], [45]].contains s then 2 else if [[42], [47, 47], [109, 111, 100]].contains s then 1 else 0
def leftB (s : List UInt8) : Bool := decide (levelN s = 1) || decide (levelN s = 2)
def builtB (s : List UInt8) (a : Int) : Bool :=
  if ops3.contains s then (a == 2) else if [[116, 114, 117, 101], [102, 97, 105, 108]].contains s then (a == 0)
  else if [[118, 97, 114], [110, 111, 110, 118, 97, 114], [97, 116, 111, 109], [105, 110, 116]].contains s then (a == 1) else if s = [97, 114, 103] then (a == 3) else false
theorem beq_dec {α : Type} [DecidableEq α] (a b : α) : (a == b) = decide (a = b) := by rw [Bool.eq_iff_iff]; simp
theorem level_calls (s : List UInt8) (H : Heap) : ACalls Tryz.prog 139 [.c (.d (.str s))] H (fun r H' => H' = H ∧ r = .c (.d (.int .i64 (levelN s)))) := by
  refine acalls Tryz.func139 (by kernel_rfl) ac139_ok fun hf => ?_
  simp -implicitDefEqProofs [ac139, go_sem, -List.set_cons_succ, -List.set_cons_zero]
  (repeat' (first | (refine And.intro ?_ ?_) | intro _)) <;> simp_all [levelN, leftB, builtB, ops3]
theorem builtSpec_calls (s : List UInt8) (a : Int) (H : Heap) : ACalls Tryz.prog 138 [.c (.d (.str s)), .c (.d (.int .i64 a))] H (fun r H' => H' = H ∧ r = .c (.d (.bool (builtB s a)))) := by
  refine acalls Tryz.func138 (by kernel_rfl) ac138_ok fun hf => ?_
  simp -implicitDefEqProofs [ac138, go_sem, -List.set_cons_succ, -List.set_cons_zero]
  (repeat' (first | (refine And.intro ?_ ?_) | intro _)) <;> simp_all [levelN, leftB, builtB, ops3]
/-- a goal that is built in -/
def Tm.built (t : Tm) : Bool := decide (t.k = 3) && builtB t.s t.kids.length
/-- a goal for clauses -/
def Tm.plain (t : Tm) : Bool := decide (t.k = 3) && (lettersB t.s && ((levelN t.s == 0) && !builtB t.s t.kids.length))
def Tm.cutB (t : Tm) : Bool := decide (t.k = 3) && (t.kids.isEmpty && t.s == [33])
def Tm.goal (t : Tm) : Bool := t.valid && (t.plain || t.built || t.cutB)
theorem cutSpec_calls (t : Tm) (ht : t.fits) (H : Heap) : ACalls Tryz.prog 147 [.agg (t.row.map .d)] H (fun r H' => H' = H ∧ r = .c (.d (.bool t.cutB))) := by
  obtain ⟨k, n, s, l⟩ := t
  obtain ⟨_, _, hs, hl, hkids⟩ := ht
  have hli : inR .i64 (l.length : Int) := small_i64 (by omega) (by omega)
  refine acalls Tryz.func147 (by kernel_rfl) ac147_ok fun hf => ?_
  by_cases hk : k = 3
  · by_cases h2 : s = [33]
    · simp -implicitDefEqProofs [ac147, row_mk, hk, h2, hli, Tm.cutB, Tm.k, Tm.s, Tm.kids, isEmpty_len, go_sem, -List.set_cons_succ, -List.set_cons_zero]
    · have h2b : (s == [33]) = false := by simpa using h2
      simp -implicitDefEqProofs [ac147, row_mk, hk, h2, h2b, hli, Tm.cutB, Tm.k, Tm.s, Tm.kids, go_sem, -List.set_cons_succ, -List.set_cons_zero]
  · simp -implicitDefEqProofs [ac147, row_mk, hk, hli, Tm.cutB, Tm.k, go_sem, -List.set_cons_succ, -List.set_cons_zero]
theorem plainSpec_calls (t : Tm) (ht : t.fits) (H : Heap) : ACalls Tryz.prog 81 [.agg (t.row.map .d)] H (fun r H' => H' = H ∧ r = .c (.d (.bool t.plain))) := by
  obtain ⟨k, n, s, l⟩ := t
  obtain ⟨_, _, hs, hl, hkids⟩ := ht
  have hli : inR .i64 (l.length : Int) := small_i64 (by omega) (by omega)
  refine acalls Tryz.func81 (by kernel_rfl) ac81_ok fun hf => ?_
  by_cases hk : k = 3
  · simp -implicitDefEqProofs [ac81, row_mk, hk, go_sem, -List.set_cons_succ, -List.set_cons_zero]
    refine qcall_pure (l1Word_calls s (by omega)) hf rfl ?_
    cases h1 : lettersB s with
    | false => simp -implicitDefEqProofs [h1, hk, hli, Tm.plain, Tm.k, Tm.s, go_sem, -List.set_cons_succ, -List.set_cons_zero]
    | true =>
      simp -implicitDefEqProofs [h1, hk, hli, go_sem, -List.set_cons_succ, -List.set_cons_zero]
      refine qcall_pure (builtSpec_calls s l.length) hf rfl ?_
      cases h2 : builtB s l.length with
      | true => simp -implicitDefEqProofs [h1, h2, hk, Tm.plain, Tm.k, Tm.s, Tm.kids, go_sem, -List.set_cons_succ, -List.set_cons_zero]
      | false =>
        simp -implicitDefEqProofs [h1, h2, hk, go_sem, -List.set_cons_succ, -List.set_cons_zero]
        refine qcall_pure (level_calls s) hf rfl ?_
        simp -implicitDefEqProofs [h1, h2, hk, Tm.plain, Tm.k, Tm.s, Tm.kids, go_sem, -List.set_cons_succ, -List.set_cons_zero]
  · simp -implicitDefEqProofs [ac81, row_mk, hk, Tm.plain, Tm.k, go_sem, -List.set_cons_succ, -List.set_cons_zero]
theorem l4Goal_calls (t : Tm) (ht : t.fits) (H : Heap) : ACalls Tryz.prog 118 [.agg (t.row.map .d)] H (fun r H' => H' = H ∧ r = .c (.d (.bool (t.plain || t.built || t.cutB)))) := by
  have c1 := cutSpec_calls t ht
  have c2 := plainSpec_calls t ht
  have e : ∀ x y z : Bool, (x || y || z) = (z || x || y) := by decide
  rw [e]
  generalize hc : t.cutB = b1 at c1
  generalize hp : t.plain = b2 at c2
  obtain ⟨k, n, s, l⟩ := t
  obtain ⟨_, _, hs, hl, hkids⟩ := ht
  have hli : inR .i64 (l.length : Int) := small_i64 (by omega) (by omega)
  rw [row_mk] at c1 c2
  simp only [List.map_cons, List.map_nil] at c1 c2
  refine acalls Tryz.func118 (by kernel_rfl) ac118_ok fun hf => ?_
  simp -implicitDefEqProofs [ac118, row_mk, go_sem, -List.set_cons_succ, -List.set_cons_zero]
  refine qcall_pure c1 hf rfl ?_
  cases b1 with
  | true =>
            by_cases hk : k = 3
            · simp -implicitDefEqProofs [hk, hli, go_sem, -List.set_cons_succ, -List.set_cons_zero]
            · have hkb : (k == 3) = false := by simpa using hk
              simp -implicitDefEqProofs [hk, hkb, hli, go_sem, -List.set_cons_succ, -List.set_cons_zero]
  | false =>
    simp -implicitDefEqProofs [go_sem, -List.set_cons_succ, -List.set_cons_zero]
    refine qcall_pure c2 hf rfl ?_
    cases b2 with
    | true =>
            by_cases hk : k = 3
            · simp -implicitDefEqProofs [hk, hli, go_sem, -List.set_cons_succ, -List.set_cons_zero]
            · have hkb : (k == 3) = false := by simpa using hk
              simp -implicitDefEqProofs [hk, hkb, hli, go_sem, -List.set_cons_succ, -List.set_cons_zero]
    | false =>
      by_cases hk : k = 3
      · simp -implicitDefEqProofs [hk, hli, go_sem, -List.set_cons_succ, -List.set_cons_zero]
        refine qcall_pure (builtSpec_calls s l.length) hf rfl ?_
        simp -implicitDefEqProofs [hk, Tm.built, Tm.k, Tm.s, Tm.kids, go_sem, -List.set_cons_succ, -List.set_cons_zero]
      · have hkb : (k == 3) = false := by simpa using hk
        simp -implicitDefEqProofs [hk, hkb, Tm.built, Tm.k, go_sem, -List.set_cons_succ, -List.set_cons_zero]
theorem goalSpec_calls (t : Tm) (ht : t.fits) (H : Heap) : ACalls Tryz.prog 69 [.agg (t.row.map .d)] H (fun r H' => H' = H ∧ r = .c (.d (.bool t.goal))) := by
  refine acalls Tryz.func69 (by kernel_rfl) ac69_ok fun hf => ?_
  simp -implicitDefEqProofs [ac69, row_len, take_row, pure_d, re_d, go_sem, -List.set_cons_succ, -List.set_cons_zero]
  refine qcall_pure (tvSpec_calls t ht) hf rfl ?_
  cases h : t.valid with
  | false => simp -implicitDefEqProofs [h, Tm.goal, row_len, take_row, go_sem, -List.set_cons_succ, -List.set_cons_zero]
  | true =>
    simp -implicitDefEqProofs [h, row_len, take_row, pure_d, re_d, go_sem, -List.set_cons_succ, -List.set_cons_zero]
    refine qcall_pure (l4Goal_calls t ht) hf rfl ?_
    simp -implicitDefEqProofs [h, Tm.goal, go_sem, -List.set_cons_succ, -List.set_cons_zero]
end Go.Proofs.YtbblefjbgbocoaaGreatDoor

/-
  Terms that are well-formed, whatever their depth.
  Conditions: none.
-/
open Go Go.AM Go.Proofs
namespace Go.Proofs.YtbblefjbgbocoaaGreatDoor
open Go.ChangeShapes Go.WideShapes Go.ChangeAt Go.RowKit
set_option linter.unusedVariables false
set_option linter.unusedSimpArgs false
set_option maxRecDepth 100000
/-- well-formed, whatever the depth -/
inductive Tm.good : Tm → Prop
  | mk {k n : Int} {s : List UInt8} {l : List Tm} : (Tm.mk k n s l).ownB = true → (∀ t ∈ l, t.good) → (Tm.mk k n s l).good
theorem shape_good : ∀ t : Tm, ∀ d, t.shape d = true → t.good := by
  refine Tm.ind fun k n s l ih d h => ?_
  simp only [Tm.shape, Bool.and_eq_true] at h
  have h2 := h.2.2
  rw [shapes_all, List.all_eq_true] at h2
  exact .mk h.2.1 fun t ht => ih t ht _ (h2 t ht)
theorem valid_good {t : Tm} (h : t.valid = true) : t.good := by
  simp only [Tm.valid, Bool.and_eq_true] at h
  exact shape_good t _ h.1
theorem name_len {s : List UInt8} (h : nameB s = true) : 1 ≤ s.length ∧ s.length ≤ 6 := by
  simp only [nameB, Bool.or_eq_true] at h
  rcases h with h | h
  · simp only [lettersB, Bool.and_eq_true, decide_eq_true_eq] at h
    omega
  · simp [signs] at h
    rcases h with rfl | rfl | rfl | rfl | rfl | rfl | rfl | rfl | rfl | rfl | rfl | rfl | rfl | rfl | rfl <;> decide
/-- the three kinds of nodes -/
theorem own_cases {k n : Int} {s : List UInt8} {l : List Tm} (h : (Tm.mk k n s l).ownB = true) :
    (k = 1 ∧ 0 ≤ n ∧ n ≤ 25 ∧ s = [] ∧ l = []) ∨ (k = 2 ∧ -999 ≤ n ∧ n ≤ 999 ∧ s = [] ∧ l = []) ∨ (k = 3 ∧ n = 0 ∧ nameB s = true ∧ l.length ≤ 4) := by
  simp only [Tm.ownB] at h
  split at h
  · rename_i hk
    simp at h
    exact .inl ⟨hk, h.1.1.1, h.1.1.2, h.1.2, h.2⟩
  · split at h
    · rename_i hk
      simp at h
      exact .inr (.inl ⟨hk, h.1.1.1, h.1.1.2, h.1.2, h.2⟩)
    · split at h
      · rename_i hk
        simp at h
        exact .inr (.inr ⟨hk, h.1.1, h.1.2, h.2⟩)
      · cases h
end Go.Proofs.YtbblefjbgbocoaaGreatDoor

/-
  Drawn terms are small and have names.
  Conditions: none.
-/
open Go Go.AM Go.Proofs
namespace Go.Proofs.YtbblefjbgbocoaaGreatDoor
open Go.ChangeShapes Go.WideShapes Go.ChangeAt Go.RowKit
set_option linter.unusedVariables false
set_option linter.unusedSimpArgs false
set_option maxRecDepth 100000
def VP (d : Nat) (t : Tm) : Prop := t.shape (d + 1) = true ∧ t.size ≤ 4 ^ d
theorem names_ok : ∀ s ∈ drawNames, nameB s = true := by decide
theorem shapes_of {d : Nat} : ∀ {l : List Tm}, (∀ t ∈ l, t.shape d = true) → shapes d l = true := fun h => by
  rw [shapes_all, List.all_eq_true]
  exact h
theorem sizes_of {n : Nat} : ∀ {l : List Tm}, (∀ t ∈ l, t.size ≤ n) → sizes l ≤ l.length * n
  | [], _ => by simp [sizes]
  | t :: l, h => by
    have h1 := h t (by simp)
    have h2 := sizes_of (l := l) fun u hu => h u (by simp [hu])
    simp only [sizes, List.length_cons, Nat.add_mul, Nat.one_mul]
    omega
theorem struct_shape {d : Nat} {s : List UInt8} {l : List Tm} (hs : nameB s = true) (hl : l.length ≤ 4) (h : ∀ t ∈ l, t.shape d = true) : (Tm.mk 3 0 s l).shape (d + 1) = true := by
  simp [Tm.shape, Tm.ownB, hs, hl, shapes_of h]
theorem leaf_size (d : Nat) {k n : Int} : (Tm.mk k n [] []).size ≤ 4 ^ d := by
  have h4 : 0 < 4 ^ d := Nat.pos_of_ne_zero (by simp)
  simp only [Tm.size, sizes]
  omega
def sz3 : Nat → Nat
  | 0 => 1
  | d + 1 => 3 * sz3 d + 1
theorem sz3_pos (d : Nat) : 1 ≤ sz3 d := by cases d <;> simp [sz3]
def VW (d : Nat) (t : Tm) : Prop := t.shape (d + 1) = true ∧ t.size ≤ sz3 d
theorem drawW (d : Nat) (hd : d ≤ 6) : Draws 73 [.c (.d (.int .i64 d))] ((5 * 4 ^ d : Nat) : Int) (TmP (VW d)) :=
  l1DrawP_draws VW (fun d n h0 h1 => ⟨by simp [Tm.shape, Tm.ownB, shapes, h0, h1], by have := sz3_pos d; simp [Tm.size, sizes]; omega⟩)
    (fun d n h0 h1 => ⟨by simp [Tm.shape, Tm.ownB, shapes, h0, h1], by have := sz3_pos d; simp [Tm.size, sizes]; omega⟩)
    (fun s hs => ⟨struct_shape (names_ok s hs) (by simp) (by simp), by simp [Tm.size, sizes, sz3]⟩)
    (fun d s hs l hl h => ⟨struct_shape (names_ok s hs) (by omega) fun t ht => (h t ht).1, by
      have h1 := sizes_of (l := l) fun t ht => (h t ht).2
      have h2 : l.length * sz3 d ≤ 3 * sz3 d := Nat.mul_le_mul_right _ hl
      rw [Tm.size, sz3]
      omega⟩) d hd
end Go.Proofs.YtbblefjbgbocoaaGreatDoor

/-
  Pairs of lists, and the empty list.
  Conditions: none.
-/
open Go Go.AM Go.Proofs
namespace Go.Proofs.YtbblefjbgbocoaaGreatDoor
open Go.ChangeShapes Go.WideShapes Go.ChangeAt Go.RowKit
set_option linter.unusedVariables false
set_option linter.unusedSimpArgs false
set_option maxRecDepth 100000
-- 251 loop.example/prologserver/spec.l1Nil params 1 ntmps 17
def ac251 : Cd := .seq (.region [⟨(some 1),.box (.t 0),none⟩,
 ⟨(some 2),.mv (.k (.c (.d (.bool false)))),none⟩] [0,2])
 (.seq (.region [⟨(some 3),.fieldAddr 0 (.t 1),none⟩,
 ⟨(some 4),.load none (.t 3),none⟩,
 ⟨(some 5),.bin .eql (.t 4) (.k (.c (.d (.int .i64 3)))),none⟩,
 ⟨(some 6),.mv (.t 5),none⟩,
 ⟨(some 7),.fieldAddr 2 (.t 1),some (6,true)⟩,
 ⟨(some 8),.load none (.t 7),some (6,true)⟩,
 ⟨(some 9),.bin .eql (.t 8) (.k (.c (.d (.str [91,93])))),some (6,true)⟩,
 ⟨(some 10),.pick (.t 6) (.t 9) (.k (.c (.d (.bool false)))),none⟩,
 ⟨(some 11),.mv (.t 10),none⟩,
 ⟨(some 12),.fieldAddr 3 (.t 1),some (11,true)⟩,
 ⟨(some 13),.load none (.t 12),some (11,true)⟩,
 ⟨(some 14),.len 1 (.t 13),some (11,true)⟩,
 ⟨(some 15),.bin .eql (.t 14) (.k (.c (.d (.int .i64 0)))),some (11,true)⟩,
 ⟨(some 16),.pick (.t 11) (.t 15) (.k (.c (.d (.bool false)))),none⟩,
 ⟨(some 2),.mv (.t 16),none⟩] [1,3,4,5,6,7,8,9,10,11,12,13,14,15,16])
 (.ret))
theorem ac251_ok : cFunc Tryz.prog [] [(0,[0,2],[]),(1,[1,3,4,5,6,7,8,9,10,11,12,13,14,15,16],[])] Tryz.f251 = some (ac251,[.tmp 2],17) := by kernel_rfl
-- 243 loop.example/prologserver/spec.l1Pair params 1 ntmps 17
def ac243 : Cd := .seq (.region [⟨(some 1),.box (.t 0),none⟩,
 ⟨(some 2),.mv (.k (.c (.d (.bool false)))),none⟩] [0,2])
 (.seq (.region [⟨(some 3),.fieldAddr 0 (.t 1),none⟩,
 ⟨(some 4),.load none (.t 3),none⟩,
 ⟨(some 5),.bin .eql (.t 4) (.k (.c (.d (.int .i64 3)))),none⟩,
 ⟨(some 6),.mv (.t 5),none⟩,
 ⟨(some 7),.fieldAddr 2 (.t 1),some (6,true)⟩,
 ⟨(some 8),.load none (.t 7),some (6,true)⟩,
 ⟨(some 9),.bin .eql (.t 8) (.k (.c (.d (.str [46])))),some (6,true)⟩,
 ⟨(some 10),.pick (.t 6) (.t 9) (.k (.c (.d (.bool false)))),none⟩,
 ⟨(some 11),.mv (.t 10),none⟩,
 ⟨(some 12),.fieldAddr 3 (.t 1),some (11,true)⟩,
 ⟨(some 13),.load none (.t 12),some (11,true)⟩,
 ⟨(some 14),.len 1 (.t 13),some (11,true)⟩,
 ⟨(some 15),.bin .eql (.t 14) (.k (.c (.d (.int .i64 2)))),some (11,true)⟩,
 ⟨(some 16),.pick (.t 11) (.t 15) (.k (.c (.d (.bool false)))),none⟩,
 ⟨(some 2),.mv (.t 16),none⟩] [1,3,4,5,6,7,8,9,10,11,12,13,14,15,16])
 (.ret))
theorem ac243_ok : cFunc Tryz.prog [] [(0,[0,2],[]),(1,[1,3,4,5,6,7,8,9,10,11,12,13,14,15,16],[])] Tryz.f243 = some (ac243,[.tmp 2],17) := by kernel_rfl
def Tm.nilB (t : Tm) : Bool := (decide (t.k = 3) && t.kids.isEmpty) && t.s == [91, 93]
def Tm.pairB (t : Tm) : Bool := (decide (t.k = 3) && t.s == [46]) && decide ((t.kids.length : Int) = 2)
theorem nilSpec_calls (t : Tm) (ht : t.fits) (H : Heap) : ACalls Tryz.prog 251 [.agg (t.row.map .d)] H (fun r H' => H' = H ∧ r = .c (.d (.bool t.nilB))) := by
  obtain ⟨k, n, s, l⟩ := t
  obtain ⟨_, _, hs, hl, hkids⟩ := ht
  have hli : inR .i64 (l.length : Int) := small_i64 (by omega) (by omega)
  refine acalls Tryz.func251 (by kernel_rfl) ac251_ok fun hf => ?_
  by_cases hk : k = 3
  · simp -implicitDefEqProofs [ac251, row_mk, hk, hli, Tm.nilB, Tm.k, Tm.s, Tm.kids, isEmpty_len, Bool.and_comm, go_sem, -List.set_cons_succ, -List.set_cons_zero]
  · have hkb : (k == 3) = false := by simpa using hk
    simp -implicitDefEqProofs [ac251, row_mk, hk, hkb, hli, Tm.nilB, Tm.k, go_sem, -List.set_cons_succ, -List.set_cons_zero]
theorem pairSpec_calls (t : Tm) (ht : t.fits) (H : Heap) : ACalls Tryz.prog 243 [.agg (t.row.map .d)] H (fun r H' => H' = H ∧ r = .c (.d (.bool t.pairB))) := by
  obtain ⟨k, n, s, l⟩ := t
  obtain ⟨_, _, hs, hl, hkids⟩ := ht
  have hli : inR .i64 (l.length : Int) := small_i64 (by omega) (by omega)
  refine acalls Tryz.func243 (by kernel_rfl) ac243_ok fun hf => ?_
  by_cases hk : k = 3
  · simp -implicitDefEqProofs [ac243, row_mk, hk, hli, Tm.pairB, Tm.k, Tm.s, Tm.kids, go_sem, -List.set_cons_succ, -List.set_cons_zero]
    try rfl
  · have hkb : (k == 3) = false := by simpa using hk
    simp -implicitDefEqProofs [ac243, row_mk, hk, hkb, hli, Tm.pairB, Tm.k, go_sem, -List.set_cons_succ, -List.set_cons_zero]
end Go.Proofs.YtbblefjbgbocoaaGreatDoor

/-
  Lists as terms: copies, chains, MakeList and ListOf of the program and of the reference.
  Conditions: none.
-/
open Go Go.AM Go.Proofs
namespace Go.Proofs.YtbblefjbgbocoaaGreatDoor
open Go.ChangeShapes Go.WideShapes Go.ChangeAt Go.RowKit
set_option linter.unusedVariables false
set_option linter.unusedSimpArgs false
set_option maxRecDepth 100000
-- 241 loop.example/prologserver/impl.pair params 2 ntmps 9
def ac230 : Cd := .seq (.region [⟨(some 3),.box (.t 1),none⟩,
 ⟨(some 4),.alloc [(.d (.int .i64 0)),(.d (.int .i64 0)),(.d (.str [])),(.full [])],none⟩] [1])
 (.seq (.region [⟨(some 7),.load (some 4) (.t 3),none⟩,
 ⟨(some 5),.alloc [(.d (.int .i64 0)),(.d (.int .i64 0)),(.d (.str [])),(.full [])],none⟩,
 ⟨none,.store 4 (.t 5) (.t 7),none⟩] [3,7])
 (.seq (.seq (.region [⟨(some 8),.mv (.t 0),none⟩,
 ⟨(some 9),.len 1 (.t 8),none⟩,
 ⟨(some 10),.bin .sub (.t 9) (.k (.c (.d (.int .i64 1)))),none⟩,
 ⟨(some 6),.mv (.t 10),none⟩] [8,9,10])
 (.block 0 (.loop (.seq (.seq (.region [⟨(some 11),.mv (.t 6),none⟩,
 ⟨(some 12),.bin .geq (.t 11) (.k (.c (.d (.int .i64 0)))),none⟩] [11])
 (.cond (.t 12)
 (.skip)
 (.exit 0)))
 (.seq (.block 1 (.region [⟨(some 15),.mv (.t 0),none⟩,
 ⟨(some 16),.mv (.t 6),none⟩,
 ⟨(some 17),.indexAddr 4 (.t 15) (.t 16),none⟩,
 ⟨(some 18),.load (some 4) (.t 17),none⟩,
 ⟨(some 19),.load (some 4) (.t 5),none⟩,
 ⟨(some 20),.buildSlice 4 2 [(.int .i64 0),(.int .i64 0),(.str []),(.sl [])] [(0,(.t 18)),(1,(.t 19))],none⟩,
 ⟨(some 21),.qcall 96 [(.k (.c (.d (.str [46])))),(.t 20)],none⟩,
 ⟨none,.store 4 (.t 5) (.t 21),none⟩] [12,15,16,17,18,19,20,21]))
 (.region [⟨(some 13),.mv (.t 6),none⟩,
 ⟨(some 14),.bin .sub (.t 13) (.k (.c (.d (.int .i64 1)))),none⟩,
 ⟨(some 6),.mv (.t 14),none⟩] [13,14]))))))
 (.seq (.region [⟨(some 22),.load (some 4) (.t 5),none⟩,
 ⟨none,.store 4 (.t 4) (.t 22),none⟩] [5,22])
 (.ret))))
theorem ac230_ok : cFunc Tryz.prog [1000096] [(0,[1],[]),(1,[3,7],[]),(2,[8,9,10],[]),(3,[11],[]),(5,[12,15,16,17,18,19,20,21],[0,1,2,3,4,5,6,7]),(4,[13,14],[]),(6,[5,22],[])] Tryz.f230 = some (ac230,[.cell 4 (some 4)],23) := by kernel_rfl
def pairT (a b : Tm) : Tm := .mk 3 0 [46] [a, b]
/-- elements in front of a tail -/
def chainT : List Tm → Tm → Tm
  | [], t => t
  | x :: l, t => pairT x (chainT l t)
theorem chain_fits : ∀ (l : List Tm) (t : Tm), (∀ x ∈ l, x.fits) → t.fits → (chainT l t).fits
  | [], t, _, ht => ht
  | x :: l, t, h, ht => .mk (small_i64 (by omega) (by omega)) (small_i64 (by omega) (by omega)) (by simp) (by simp) (by
      have h1 := h x (by simp)
      have h2 := chain_fits l t (fun y hy => h y (by simp [hy])) ht
      simp [h1, h2])
theorem chainSpec_calls (l : List Tm) (hl : l.length ≤ 1048576) (t : Tm) (H : Heap) : ACalls Tryz.prog 230 [.c (.d (.sl (l.map Tm.row))), .agg (t.row.map .d)] H (fun r H' => H' = H ∧ r = .agg ((chainT l t).row.map .d)) := by
  refine acalls Tryz.func230 (by kernel_rfl) ac230_ok fun hf => ?_
  have hli : inR .i64 (l.length : Int) := small_i64 (by omega) (by omega)
  have hli1 : inR .i64 ((l.length : Int) - 1) := small_i64 (by omega) (by omega)
  simp -implicitDefEqProofs [ac230, row_len, take_row, hf, hli, hli1, go_sem, -List.set_cons_succ, -List.set_cons_zero]
  refine loop_set (σ := Nat) (fun j => [(6, .c (.d (.int .i64 ((j : Int) - 1))))]) (fun _ => H) (fun j => [.cells (t.row.map .d), .cells [.d (.int .i64 0), .d (.int .i64 0), .d (.str []), .full []], .cells ((chainT (l.drop j) t).row.map .d)]) (fun j => j ≤ l.length) (fun j => j) l.length (by simp [setAll, chainT]) (Nat.le_refl _) ?_
  intro j hj
  rcases Nat.eq_zero_or_pos j with rfl | hp
  · simp -implicitDefEqProofs [setAll, row_len, take_row, hf, fits_map, go_sem, -List.set_cons_succ, -List.set_cons_zero]
    simp [thaw_d, fits_map]
  · obtain ⟨k, rfl⟩ : ∃ k, j = k + 1 := ⟨j - 1, by omega⟩
    have e : (((k + 1 : Nat) : Int) - 1) = (k : Int) := by omega
    have hlt : k < l.length := by omega
    have hsub : inR .i64 ((k : Int) - 1) := small_i64 (by omega) (by omega)
    have hk0 : (0 : Int) ≤ (k : Int) := by omega
    simp only [e]
    simp -implicitDefEqProofs [setAll, row_len, take_row, hk0, go_sem, -List.set_cons_succ, -List.set_cons_zero]
    refine row_of hlt (row_len _) ?_
    simp -implicitDefEqProofs [row_len, take_row, toDs_map, go_sem, -List.set_cons_succ, -List.set_cons_zero]
    have hs := struct_calls [46] [l[k], chainT (l.drop (k + 1)) t] (by simp)
    simp only [List.map_cons, List.map_nil] at hs
    refine qcall_pure hs hf (by simp [A.re, re_d]) ?_
    simp -implicitDefEqProofs [row_len, take_row, hf, hsub, go_sem, -List.set_cons_succ, -List.set_cons_zero]
    refine loop_back k ?_ (by omega) (by show k < k + 1; omega)
    rw [List.drop_eq_getElem_cons hlt]
    simp [setAll, chainT, pairT, row_len]
end Go.Proofs.YtbblefjbgbocoaaGreatDoor

/-
  A parser of terms with operators, in plain Lean, as the reference's goes.
  Conditions: none.
-/
open Go Go.AM Go.Proofs
namespace Go.Proofs.YtbblefjbgbocoaaGreatDoor
set_option linter.unusedVariables false
set_option linter.unusedSimpArgs false
set_option maxRecDepth 100000
/-- does a byte stand at a place? -/
def sgn (s : List UInt8) (i : Nat) (c : UInt8) : Bool := match s[i]? with
  | some b => b == c
  | none => false
def digB (b : UInt8) : Bool := decide (48 ≤ b.toNat) && decide (b.toNat ≤ 57)
def smaB (b : UInt8) : Bool := decide (97 ≤ b.toNat) && decide (b.toNat ≤ 122)
def bigB (b : UInt8) : Bool := decide (65 ≤ b.toNat) && decide (b.toNat ≤ 90)
def digAt (s : List UInt8) (i : Nat) : Bool := match s[i]? with
  | some b => digB b
  | none => false
def smaAt (s : List UInt8) (i : Nat) : Bool := match s[i]? with
  | some b => smaB b
  | none => false
/-- where a run ends, at most n bytes on -/
def runE (p : List UInt8 → Nat → Bool) (s : List UInt8) : Nat → Nat → Nat
  | 0, i => i
  | n + 1, i => if p s i then runE p s n (i + 1) else i
/-- a numeral's number -/
def numV (l : List UInt8) : Nat := l.foldl (fun n b => n * 10 + (b.toNat - 48)) 0
/-- a canonical numeral -/
def canB (l : List UInt8) : Bool := decide (1 ≤ l.length) && decide (l.length ≤ 17) && (l.headD 0 != 48 || decide (l.length = 1)) && l.all digB
def cutS (s : List UInt8) (i j : Nat) : List UInt8 := (s.take j).drop i
/-- a number at a place, and the place behind it -/
def numR (s : List UInt8) (i : Nat) : Option (Int × Nat) :=
  if canB (cutS s (if sgn s i 45 then i + 1 else i) (runE digAt s 4 (if sgn s i 45 then i + 1 else i))) then
    if (sgn s i 45 && decide (numV (cutS s (if sgn s i 45 then i + 1 else i) (runE digAt s 4 (if sgn s i 45 then i + 1 else i))) = 0)) || decide (999 < numV (cutS s (if sgn s i 45 then i + 1 else i) (runE digAt s 4 (if sgn s i 45 then i + 1 else i)))) then none
    else some (if sgn s i 45 then -(numV (cutS s (i + 1) (runE digAt s 4 (i + 1))) : Int) else (numV (cutS s i (runE digAt s 4 i)) : Int), runE digAt s 4 (if sgn s i 45 then i + 1 else i))
  else none
/-- the longest of some names that stands at a place -/
def bestS (s : List UInt8) (i : Nat) : List (List UInt8) → List UInt8 → List UInt8
  | [], b => b
  | n :: l, b => bestS s i l (if decide (i + n.length ≤ s.length) && cutS s i (i + n.length) == n && decide (b.length < n.length) then n else b)
/-- a name at a place, and the place behind it -/
def nameR (s : List UInt8) (i : Nat) : Option (List UInt8 × Nat) :=
  if i + 6 < runE smaAt s s.length i then none
  else if i < runE smaAt s s.length i then some (cutS s i (runE smaAt s s.length i), runE smaAt s s.length i)
  else if bestS s i signs [] = [] then none
  else some (bestS s i signs [], i + (bestS s i signs []).length)
def wordB (n : List UInt8) : Bool := n == [105, 115] || n == [109, 111, 100]
/-- an operator at a place, and the place behind it -/
def opR (s : List UInt8) (i : Nat) : Option (List UInt8 × Nat) :=
  if s.length ≤ (if sgn s i 32 then i + 1 else i) then none
  else match nameR s (if sgn s i 32 then i + 1 else i) with
    | none => none
    | some (n, j) => if levelN n = 0 then none
      else if wordB n != sgn s i 32 || wordB n && !sgn s j 32 then none
      else some (n, if wordB n then j + 1 else j)
/-- what is to be read -/
inductive Job where
  | read (i d l : Nat)
  | ops (t : Tm) (i d l : Nat)
  | terms (i d : Nat) (e o : UInt8)
  | prime (i d : Nat)
/-- terms and the place behind them, or the place of a failure -/
inductive Rs where
  | ok (l : List Tm) (i : Nat)
  | bad (i : Nat)
def nilT : Tm := .mk 3 0 [91, 93] []
def Rs.tm : List Tm → Tm
  | t :: _ => t
  | [] => .mk 0 0 [] []
/-- one step of the parser; R: what the steps below it give -/
def step (s : List UInt8) (R : Job → Option Rs) : Job → Option Rs
  | .read i d 0 => R (.prime i d)
  | .read i d (l + 1) => match R (.read i d l) with
    | none => none
    | some (.bad e) => some (.bad e)
    | some (.ok ts j) => R (.ops (Rs.tm ts) j d (l + 1))
  | .ops t i d l => match opR s i with
    | none => some (.ok [t] i)
    | some (n, j) => if levelN n = l then match R (.read j d (l - 1)) with
        | none => none
        | some (.bad e) => some (.bad e)
        | some (.ok us k) => if l = 3 then some (.ok [.mk 3 0 n [t, Rs.tm us]] k) else R (.ops (.mk 3 0 n [t, Rs.tm us]) k d l)
      else some (.ok [t] i)
  | .terms i d e o => match R (.read i d 3) with
    | none => none
    | some (.bad x) => some (.bad x)
    | some (.ok ts j) => if sgn s j e || sgn s j o then some (.ok [Rs.tm ts] j)
      else if sgn s j 44 then match R (.terms (j + 1) d e o) with
        | none => none
        | some (.bad x) => some (.bad x)
        | some (.ok us k) => some (.ok (Rs.tm ts :: us) k)
      else some (.bad j)
  | .prime i d => match s[i]? with
    | none => some (.bad i)
    | some b => if d < 1 then some (.bad i)
      else if b = 40 then match R (.read (i + 1) d 3) with
        | none => none
        | some (.bad e) => some (.bad e)
        | some (.ok ts j) => if sgn s j 41 then some (.ok [Rs.tm ts] (j + 1)) else some (.bad j)
      else if b = 91 ∧ sgn s (i + 1) 93 = false then match R (.terms (i + 1) (d - 1) 93 124) with
        | none => none
        | some (.bad e) => some (.bad e)
        | some (.ok ts j) => if sgn s j 93 then some (.ok [chainT ts nilT] (j + 1))
          else match R (.read (j + 1) (d - 1) 3) with
            | none => none
            | some (.bad e) => some (.bad e)
            | some (.ok us k) => if sgn s k 93 then some (.ok [chainT ts (Rs.tm us)] (k + 1)) else some (.bad k)
      else if bigB b then some (.ok [.mk 1 (b.toNat - 65 : Nat) [] []] (i + 1))
      else if digB b || b == 45 && digAt s (i + 1) then match numR s i with
        | none => some (.bad i)
        | some (n, j) => some (.ok [.mk 2 n [] []] j)
      else match nameR s i with
        | none => some (.bad i)
        | some (n, j) => if sgn s j 40 then match R (.terms (j + 1) (d - 1) 41 41) with
            | none => none
            | some (.bad e) => some (.bad e)
            | some (.ok ts k) => some (.ok [.mk 3 0 n ts] (k + 1))
          else some (.ok [.mk 3 0 n []] j)
/-- the parser; none: it needs more steps -/
def rd (s : List UInt8) : Nat → Job → Option Rs
  | 0, _ => none
  | f + 1, j => step s (rd s f) j
theorem step_mono (s : List UInt8) {R R' : Job → Option Rs} (h : ∀ j r, R j = some r → R' j = some r) (j : Job) (r : Rs) (hr : step s R j = some r) : step s R' j = some r := by
  cases j with
  | read i d l =>
    cases l with
    | zero => exact h _ _ hr
    | succ l =>
      simp only [step] at hr ⊢
      cases hx : R (.read i d l) with
      | none => rw [hx] at hr; cases hr
      | some v =>
        rw [hx] at hr
        rw [h _ _ hx]
        cases v with
        | bad e => exact hr
        | ok ts k => exact h _ _ hr
  | ops t i d l =>
    simp only [step] at hr ⊢
    cases ho : opR s i with
    | none => rw [ho] at hr; exact hr
    | some p =>
      obtain ⟨n, j⟩ := p
      rw [ho] at hr
      simp only at hr ⊢
      split
      · rename_i hl
        rw [if_pos hl] at hr
        cases hx : R (.read j d (l - 1)) with
        | none => rw [hx] at hr; cases hr
        | some v =>
          rw [hx] at hr
          rw [h _ _ hx]
          cases v with
          | bad e => exact hr
          | ok us k =>
            simp only at hr ⊢
            split
            · rename_i h3; rw [if_pos h3] at hr; exact hr
            · rename_i h3; rw [if_neg h3] at hr; exact h _ _ hr
      · rename_i hl; rw [if_neg hl] at hr; exact hr
  | terms i d e o =>
    simp only [step] at hr ⊢
    cases hx : R (.read i d 3) with
    | none => rw [hx] at hr; cases hr
    | some v =>
      rw [hx] at hr
      rw [h _ _ hx]
      cases v with
      | bad e => exact hr
      | ok ts k =>
        simp only at hr ⊢
        split
        · rename_i h1; rw [if_pos h1] at hr; exact hr
        · rename_i h1
          rw [if_neg h1] at hr
          split
          · rename_i h2
            rw [if_pos h2] at hr
            cases hy : R (.terms (k + 1) d e o) with
            | none => rw [hy] at hr; cases hr
            | some w => rw [hy] at hr; rw [h _ _ hy]; exact hr
          · rename_i h2; rw [if_neg h2] at hr; exact hr
  | prime i d =>
    simp only [step] at hr ⊢
    cases hb : s[i]? with
    | none => rw [hb] at hr; exact hr
    | some b =>
      rw [hb] at hr
      simp only at hr ⊢
      split
      · rename_i h1; rw [if_pos h1] at hr; exact hr
      · rename_i h1
        rw [if_neg h1] at hr
        split
        · rename_i h2
          rw [if_pos h2] at hr
          cases hx : R (.read (i + 1) d 3) with
          | none => rw [hx] at hr; cases hr
          | some v => rw [hx] at hr; rw [h _ _ hx]; exact hr
        · rename_i h2
          rw [if_neg h2] at hr
          split
          · rename_i h3
            rw [if_pos h3] at hr
            cases hx : R (.terms (i + 1) (d - 1) 93 124) with
            | none => rw [hx] at hr; cases hr
            | some v =>
              rw [hx] at hr
              rw [h _ _ hx]
              cases v with
              | bad e => exact hr
              | ok ts k =>
                simp only at hr ⊢
                split
                · rename_i h4; rw [if_pos h4] at hr; exact hr
                · rename_i h4
                  rw [if_neg h4] at hr
                  cases hy : R (.read (k + 1) (d - 1) 3) with
                  | none => rw [hy] at hr; cases hr
                  | some w => rw [hy] at hr; rw [h _ _ hy]; exact hr
          · rename_i h3
            rw [if_neg h3] at hr
            split
            · rename_i h4; rw [if_pos h4] at hr; exact hr
            · rename_i h4
              rw [if_neg h4] at hr
              split
              · rename_i h5; rw [if_pos h5] at hr; exact hr
              · rename_i h5
                rw [if_neg h5] at hr
                cases hn : nameR s i with
                | none => rw [hn] at hr; exact hr
                | some p =>
                  obtain ⟨n, j⟩ := p
                  rw [hn] at hr
                  simp only at hr ⊢
                  split
                  · rename_i h6
                    rw [if_pos h6] at hr
                    cases hx : R (.terms (j + 1) (d - 1) 41 41) with
                    | none => rw [hx] at hr; cases hr
                    | some v => rw [hx] at hr; rw [h _ _ hx]; exact hr
                  · rename_i h6; rw [if_neg h6] at hr; exact hr
/-- more steps do no harm -/
theorem rd_succ (s : List UInt8) : ∀ (f : Nat) (j : Job) (r : Rs), rd s f j = some r → rd s (f + 1) j = some r
  | 0, j, r, h => by cases h
  | f + 1, j, r, h => step_mono s (rd_succ s f) j r h
theorem rd_le (s : List UInt8) {f g : Nat} (hfg : f ≤ g) (j : Job) (r : Rs) (h : rd s f j = some r) : rd s g j = some r := by
  induction hfg with
  | refl => exact h
  | step _ ih => exact rd_succ s _ j r ih
end Go.Proofs.YtbblefjbgbocoaaGreatDoor
