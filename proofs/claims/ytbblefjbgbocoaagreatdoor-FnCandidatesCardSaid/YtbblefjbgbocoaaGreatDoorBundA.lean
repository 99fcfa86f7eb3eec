/-
  Contracts of functions that the law reaches, and plain lemmas: several texts in one.
  Conditions: none.
-/
import Derived.Test.YtbblefjbgbocoaaGreatDoorRows
import Derived.KernelRfl
import Derived.Test.YtbblefjbgbocoaaGreatDoorAbsN
import Derived.Lib.ItoaNum
import Derived.Shelf.Strconv.Itoa3
import Derived.MakeChecks
import Derived.LaidMore
import Derived.Shelf.LaysM
open Go Go.AM Go.Proofs
attribute [local go_sem] kw ew sw tw a_ b_ c_ A.ok A.val d_ e_ f_ g_ h_ i_ j_ k_ l_ m_ unA unD n_ AOp.total o_ p_ q_ r_ s_ t_ u_ v_ A.thaw C.thaw A.fits As.fits C.fits evs oks w_ A.pure C.pure A.re C.re x_ y_ cut A.cells C.rows? z_ A_ B_ C_ a0_ b0_ D_ Ob.re Cs.fits E_ F_ G_ H_ I_ J_ K_ L_ M_ N_ O_ C.toD P_ Q_ R_ S_ T_ Obs.fits U_ eqD V_ W_ X_ Y_ Z_
/-
  Small facts that the proofs of this seat share.
  Conditions: none.
-/
open Go Go.AM Go.Proofs
namespace Go.Proofs.YtbblefjbgbocoaaGreatDoor
set_option linter.unusedVariables false
set_option linter.unusedSimpArgs false
theorem small_i64 {n : Int} (h : -1000000000000000 ≤ n) (h' : n ≤ 1000000000000000) : inR .i64 n := by
  unfold inR
  simp [IntKind.min, IntKind.max, IntKind.signed, IntKind.bits]
  omega
theorem reach_i64 {n : Nat} (h : n ≤ reachBytes) : inR .i64 (n : Int) := by simp only [inR, IntKind.min, IntKind.max, IntKind.signed, IntKind.bits, reachBytes] at *; omega
theorem i64_def {n : Int} : inR .i64 n ↔ -9223372036854775808 ≤ n ∧ n ≤ 9223372036854775807 := by
  unfold inR
  simp [IntKind.min, IntKind.max, IntKind.signed, IntKind.bits]
/-- the result of a call of a size: how much is left; where something is left, P holds -/
def Left (m : Int) (P : Prop) (r : A) : Prop := ∃ n : Int, r = .c (.d (.int .i64 n)) ∧ -1 ≤ n ∧ n ≤ m ∧ (0 ≤ n → P)
theorem Left.re {m : Int} {P : Prop} {r : A} {n : Nat} (h : Left m P r) : A.re n r = r := by
  obtain ⟨k, rfl, _⟩ := h
  rfl
/-- rows that are laid one by one -/
def fill {α : Type} (f : α → List D) (z : List D) (l : List α) (i : Nat) : List (List D) := (l.take i).map f ++ List.replicate (l.length - i) z
theorem list_of_ty {α : Type} {f : α → List D} {p : α → Prop} : ∀ {rows : List (List D)}, (∀ r ∈ rows, ∃ x : α, r = f x ∧ p x) → ∃ l : List α, rows = l.map f ∧ ∀ x ∈ l, p x
  | [], _ => ⟨[], rfl, fun x h => by cases h⟩
  | r :: rs, h => by
    obtain ⟨x, rfl, hx⟩ := h r (by simp)
    obtain ⟨l, rfl, hl⟩ := list_of_ty (rows := rs) (f := f) (p := p) (fun r hr => h r (by simp [hr]))
    refine ⟨x :: l, rfl, fun y hy => ?_⟩
    rcases List.mem_cons.1 hy with rfl | hy
    · exact hx
    · exact hl y hy
theorem isEmpty_len {α : Type} (l : List α) : ((l.length : Int) == 0) = l.isEmpty := by cases l <;> simp; omega
def intRows (l : List Int) : List (List D) := l.map fun n => [.int .i64 n]
theorem intRows_len (l : List Int) : (intRows l).length = l.length := by simp [intRows]
theorem allLen_ints (l : List Int) : allLen 1 (intRows l) := allLen_map fun _ => rfl
end Go.Proofs.YtbblefjbgbocoaaGreatDoor

/-
  How long a numeral is.
  Conditions: none.
-/
open Go Go.AM Go.Proofs
namespace Go.Proofs.YtbblefjbgbocoaaGreatDoor
set_option linter.unusedVariables false
set_option linter.unusedSimpArgs false
set_option maxRecDepth 100000
theorem itoa_len (n : Int) (h0 : -9223372036854775808 ≤ n) (h1 : n ≤ 9223372036854775807) : (Lib.itoa n).length ≤ 1000000 := by
  have key : ∀ k u : Nat, u < 10 ^ k → 0 < k → (Lib.decDigits u).length ≤ k := by
    intro k
    induction k with
    | zero => omega
    | succ k ih =>
      intro u hu _
      rw [Lib.decDigits]
      split
      · simp
      · rename_i hge
        have hk : 0 < k := by
          rcases Nat.eq_zero_or_pos k with e | e
          · subst e; simp at hu; omega
          · exact e
        have := ih (u / 10) (by rw [Nat.pow_succ] at hu; omega) hk
        simp
        omega
  unfold Lib.itoa
  split
  · have := key 30 n.natAbs (by omega) (by omega)
    simp
    omega
  · have := key 30 n.toNat (by omega) (by omega)
    omega
end Go.Proofs.YtbblefjbgbocoaaGreatDoor

/-
  Numerals of the reference.
  Conditions: none.
-/
open Go Go.AM Go.Proofs
namespace Go.Proofs.YtbblefjbgbocoaaGreatDoor
open Go.ChangeShapes Go.WideShapes Go.ChangeAt Go.RowKit
set_option linter.unusedVariables false
set_option linter.unusedSimpArgs false
set_option maxRecDepth 100000
-- 105 loop.example/prologserver/spec.l18Dec params 1 ntmps 31
-- loop head live: [0,3]
def ac105 : Cd := .seq (.region [⟨(some 2),.mv (.k (.c (.d (.str [])))),none⟩] [2])
 (.seq (.seq (.region [⟨(some 4),.mv (.t 0),none⟩,
 ⟨(some 5),.bin .lss (.t 4) (.k (.c (.d (.int .i64 (-9223372036854775807))))),none⟩] [4])
 (.cond (.t 5)
 (.seq (.region [⟨(some 2),.mv (.k (.c (.d (.str [45,57,50,50,51,51,55,50,48,51,54,56,53,52,55,55,53,56,48,56])))),none⟩] [0,5])
 (.ret))
 (.skip)))
 (.seq (.seq (.region [⟨(some 6),.mv (.t 0),none⟩,
 ⟨(some 7),.bin .lss (.t 6) (.k (.c (.d (.int .i64 0)))),none⟩] [2,5,6])
 (.cond (.t 7)
 (.seq (.region [⟨(some 8),.mv (.t 0),none⟩,
 ⟨(some 9),.un .neg (.t 8),none⟩,
 ⟨(some 10),.qcall 105 [(.t 9)],none⟩,
 ⟨(some 11),.bin .add (.k (.c (.d (.str [45])))) (.t 10),none⟩,
 ⟨(some 2),.mv (.t 11),none⟩] [0,7,8,9,10,11])
 (.ret))
 (.skip)))
 (.seq (.region [⟨(some 3),.mv (.k (.c (.d (.str [])))),none⟩] [2,7])
 (.seq (.block 0 (.loop (.seq (.seq (.region [⟨(some 12),.mv (.t 0),none⟩,
 ⟨(some 13),.bin .gtr (.t 12) (.k (.c (.d (.int .i64 9)))),none⟩] [12])
 (.cond (.t 13)
 (.skip)
 (.exit 0)))
 (.block 1 (.seq (.region [⟨(some 14),.mv (.t 0),none⟩,
 ⟨(some 15),.bin .rem (.t 14) (.k (.c (.d (.int .i64 10)))),none⟩,
 ⟨(some 16),.bin .add (.k (.c (.d (.int .i64 48)))) (.t 15),none⟩,
 ⟨(some 17),.cvInt .u8 (.t 16),none⟩,
 ⟨(some 18),.buildSlice 1 1 [(.int .u8 0)] [(0,(.t 17))],none⟩,
 ⟨(some 19),.cvB2S (.t 18),none⟩,
 ⟨(some 20),.mv (.t 3),none⟩,
 ⟨(some 21),.bin .add (.t 19) (.t 20),none⟩,
 ⟨(some 3),.mv (.t 21),none⟩] [13,14,15,16,17,18,19,20,21])
 (.region [⟨(some 22),.mv (.t 0),none⟩,
 ⟨(some 23),.bin .quo (.t 22) (.k (.c (.d (.int .i64 10)))),none⟩,
 ⟨(some 0),.mv (.t 23),none⟩] [22,23]))))))
 (.seq (.region [⟨(some 24),.mv (.t 0),none⟩,
 ⟨(some 25),.bin .add (.k (.c (.d (.int .i64 48)))) (.t 24),none⟩,
 ⟨(some 26),.cvInt .u8 (.t 25),none⟩,
 ⟨(some 27),.buildSlice 1 1 [(.int .u8 0)] [(0,(.t 26))],none⟩,
 ⟨(some 28),.cvB2S (.t 27),none⟩,
 ⟨(some 29),.mv (.t 3),none⟩,
 ⟨(some 30),.bin .add (.t 28) (.t 29),none⟩,
 ⟨(some 2),.mv (.t 30),none⟩] [0,3,24,25,26,27,28,29,30])
 (.ret))))))
theorem ac105_ok : cFunc Tryz.prog [1000105] [(0,[2],[]),(1,[4],[]),(2,[0,5],[]),(3,[2,5,6],[]),(4,[0,7,8,9,10,11],[]),(5,[2,7],[]),(6,[12],[]),(7,[13,14,15,16,17,18,19,20,21],[]),(8,[22,23],[]),(9,[0,3,24,25,26,27,28,29,30],[])] Tryz.f105 = some (ac105,[.tmp 2],31) := by kernel_rfl
-- 54 loop.example/prologserver/spec.l1Dec params 1 ntmps 11
def ac54 : Cd := .seq (.region [⟨(some 2),.mv (.k (.c (.d (.str [])))),none⟩] [2])
 (.seq (.seq (.region [⟨(some 3),.mv (.t 0),none⟩,
 ⟨(some 4),.bin .lss (.t 3) (.k (.c (.d (.int .i64 0)))),none⟩] [3])
 (.cond (.t 4)
 (.seq (.region [⟨(some 5),.mv (.t 0),none⟩,
 ⟨(some 6),.un .neg (.t 5),none⟩,
 ⟨(some 7),.qcall 105 [(.t 6)],none⟩,
 ⟨(some 8),.bin .add (.k (.c (.d (.str [45])))) (.t 7),none⟩,
 ⟨(some 2),.mv (.t 8),none⟩] [0,4,5,6,7,8])
 (.ret))
 (.skip)))
 (.seq (.region [⟨(some 9),.mv (.t 0),none⟩,
 ⟨(some 10),.qcall 105 [(.t 9)],none⟩,
 ⟨(some 2),.mv (.t 10),none⟩] [0,4,9,10])
 (.ret)))
theorem ac54_ok : cFunc Tryz.prog [1000105] [(0,[2],[]),(1,[3],[]),(2,[0,4,5,6,7,8],[]),(3,[0,4,9,10],[])] Tryz.f54 = some (ac54,[.tmp 2],11) := by kernel_rfl
theorem dd_small {n : Nat} (h : n < 10) : Lib.decDigits n = [UInt8.ofNat (48 + n)] := by rw [Lib.decDigits, dif_pos h]
theorem dd_big {n : Nat} (h : 10 ≤ n) : Lib.decDigits n = Lib.decDigits (n / 10) ++ [UInt8.ofNat (48 + n % 10)] := by rw [Lib.decDigits, dif_neg (by omega)]
theorem b2s_one {m : Nat} {K : A → St → Prop} {st : St} (h : m < 10) (hk : K (.c (.d (.str [UInt8.ofNat (48 + m)]))) st) : B2SK true [[.int .u8 (IntKind.wrap .u8 (48 + (m : Int)))]] K st := by
  refine ⟨[UInt8.ofNat (48 + m)], fun _ => ?_, hk⟩
  have : m = 0 ∨ m = 1 ∨ m = 2 ∨ m = 3 ∨ m = 4 ∨ m = 5 ∨ m = 6 ∨ m = 7 ∨ m = 8 ∨ m = 9 := by omega
  rcases this with rfl | rfl | rfl | rfl | rfl | rfl | rfl | rfl | rfl | rfl <;> rfl
theorem dec_pos (n : Nat) (hn : (n : Int) ≤ 9223372036854775807) (H : Heap) : ACalls Tryz.prog 105 [.c (.d (.int .i64 n))] H (fun r H' => H' = H ∧ r = .c (.d (.str (Lib.itoa n)))) := by
  refine acalls Tryz.func105 (by kernel_rfl) ac105_ok fun hf => ?_
  have h0 : ¬ ((n : Int) < -9223372036854775807) := by omega
  have h1 : ¬ ((n : Int) < 0) := by omega
  simp -implicitDefEqProofs [ac105, h0, h1, go_sem, -List.set_cons_succ, -List.set_cons_zero]
  have hlen : (Lib.decDigits n).length ≤ 1000000 := by
    have := itoa_len n (by omega) (by omega)
    rwa [Lib.itoa_nonneg] at this
  rw [Lib.itoa_nonneg]
  refine loop_set (σ := Nat × List UInt8) (fun x => [(0, .c (.d (.int .i64 x.1))), (3, .c (.d (.str x.2)))]) (fun _ => H) (fun _ => []) (fun x => x.1 ≤ n ∧ Lib.decDigits n = Lib.decDigits x.1 ++ x.2) (fun x => x.1) (n, []) rfl ⟨Nat.le_refl _, by simp⟩ ?_
  rintro ⟨m, out⟩ ⟨hm, hd⟩
  have hm1 : inR .i64 ((m : Int)) := i64_def.2 (by simp at hm; omega)
  have hol : out.length ≤ 1000000 := by rw [hd] at hlen; simp at hlen; omega
  simp only at hm hd
  simp -implicitDefEqProofs [setAll, go_sem, -List.set_cons_succ, -List.set_cons_zero]
  have hmod : (m : Int).tmod 10 = ((m % 10 : Nat) : Int) := by rw [Int.tmod_eq_emod_of_nonneg (by omega)]; omega
  have hquo : (m : Int).tdiv 10 = ((m / 10 : Nat) : Int) := by rw [Int.tdiv_eq_ediv_of_nonneg (by omega)]; omega
  have hq : inR .i64 ((m / 10 : Nat) : Int) := i64_def.2 (by omega)
  refine ⟨fun hgt => ?_, fun hle => ?_⟩
  · rw [hmod]
    refine ⟨small_i64 (by omega) (by omega), b2s_one (by omega) ?_⟩
    simp -implicitDefEqProofs [setAll, hquo, hq, maxStr, go_sem, -List.set_cons_succ, -List.set_cons_zero]
    refine ⟨by omega, ?_⟩
    refine ⟨by simpa using hq, ?_⟩
    refine loop_back (m / 10, UInt8.ofNat (48 + m % 10) :: out) (by simp [setAll]) ⟨by simp only; omega, ?_⟩ (by show m / 10 < m; omega)
    rw [hd, dd_big (n := m) (by omega)]
    simp
  · refine ⟨small_i64 (by omega) (by omega), b2s_one (by omega) ?_⟩
    simp -implicitDefEqProofs [setAll, maxStr, go_sem, -List.set_cons_succ, -List.set_cons_zero]
    rw [hd, dd_small (n := m) (by omega)]
    simp
    omega
theorem dec_calls (n : Int) (hn : inR .i64 n) (H : Heap) : ACalls Tryz.prog 105 [.c (.d (.int .i64 n))] H (fun r H' => H' = H ∧ r = .c (.d (.str (Lib.itoa n)))) := by
  obtain ⟨hn1, hn2⟩ := i64_def.1 hn
  rcases Int.lt_or_le n 0 with hneg | hpos
  · refine acalls Tryz.func105 (by kernel_rfl) ac105_ok fun hf => ?_
    simp -implicitDefEqProofs [ac105, go_sem, -List.set_cons_succ, -List.set_cons_zero]
    refine ⟨fun h => ?_, fun h => ?_⟩
    · have : n = -9223372036854775808 := by omega
      subst this
      decide +kernel
    · refine ⟨fun _ => ?_, fun h => by omega⟩
      have hi : inR .i64 (-n) := i64_def.2 (by omega)
      have h2 := dec_pos n.natAbs (by omega)
      have e : ((n.natAbs : Nat) : Int) = -n := by omega
      have e2 : Lib.itoa n = 45 :: Lib.itoa (-n) := by
        rw [← e, Lib.itoa_nonneg]
        unfold Lib.itoa
        rw [if_pos hneg]
      rw [e] at h2
      have h3 := itoa_len (-n) (by omega) (by omega)
      refine ⟨hi, qcall_pure h2 hf rfl ?_⟩
      simp -implicitDefEqProofs [e2, maxStr, go_sem, -List.set_cons_succ, -List.set_cons_zero]
      omega
  · have := dec_pos n.toNat (by omega) H
    rwa [Int.toNat_of_nonneg hpos] at this
theorem dec1_calls (n : Int) (hn1 : -9223372036854775807 ≤ n) (hn2 : n ≤ 9223372036854775807) (H : Heap) : ACalls Tryz.prog 54 [.c (.d (.int .i64 n))] H (fun r H' => H' = H ∧ r = .c (.d (.str (Lib.itoa n)))) := by
  refine acalls Tryz.func54 (by kernel_rfl) ac54_ok fun hf => ?_
  simp -implicitDefEqProofs [ac54, go_sem, -List.set_cons_succ, -List.set_cons_zero]
  refine ⟨fun hneg => ?_, fun hpos => ?_⟩
  · have e2 : Lib.itoa n = 45 :: Lib.itoa (-n) := by
      have e : ((n.natAbs : Nat) : Int) = -n := by omega
      rw [← e, Lib.itoa_nonneg]
      unfold Lib.itoa
      rw [if_pos hneg]
    have h3 := itoa_len (-n) (by omega) (by omega)
    refine ⟨i64_def.2 (by omega), qcall_pure (dec_calls (-n) (i64_def.2 (by omega))) hf rfl ?_⟩
    simp -implicitDefEqProofs [e2, maxStr, go_sem, -List.set_cons_succ, -List.set_cons_zero]
    omega
  · refine qcall_pure (dec_calls n (i64_def.2 (by omega))) hf rfl ?_
    simp -implicitDefEqProofs [go_sem, -List.set_cons_succ, -List.set_cons_zero]
end Go.Proofs.YtbblefjbgbocoaaGreatDoor

/-
  strconv.Itoa as a call of the abstract machine, where the table that it reads is told.
  Conditions: none.
-/
open Go Go.AM Go.Proofs
namespace Go.Proofs
open Go.Shelf
def Tryz.laysM171_ren : Go.Shelf.Ren := ⟨fun | 171 => 47 | 243 => 100 | 246 => 155 | 283 => 187 | 284 => 188 | 285 => 189 | 286 => 190 | 129 => 219 | 317 => 218 | 318 => 220 | 319 => 221 | 320 => 222 | 337 => 237 | 338 => 238 | n => n, fun | 3 => 3 | 9 => 9 | 2 => 2 | 4 => 4 | 171 => 193 | 0 => 0 | 53 => 194 | 37 => 22 | 5 => 5 | 173 => 197 | 212 => 218 | 51 => 219 | 20 => 20 | 213 => 220 | 46 => 204 | 232 => 237 | 233 => 238 | n => n, fun | 17 => 2 | 18 => 6 | 19 => 7 | n => n⟩
theorem Tryz.laysM171 : Go.Proofs.LaysM.n171 Tryz.prog Tryz.laysM171_ren := {
  mixed := by kernel_rfl
  f129 := Tryz.func219.trans (congrArg some (by kernel_rfl))
  f171 := Tryz.func47.trans (congrArg some (by kernel_rfl))
  f243 := Tryz.func100.trans (congrArg some (by kernel_rfl))
  f246 := Tryz.func155.trans (congrArg some (by kernel_rfl))
  f283 := Tryz.func187.trans (congrArg some (by kernel_rfl))
  f284 := Tryz.func188.trans (congrArg some (by kernel_rfl))
  f285 := Tryz.func189.trans (congrArg some (by kernel_rfl))
  f286 := Tryz.func190.trans (congrArg some (by kernel_rfl))
  f317 := Tryz.func218.trans (congrArg some (by kernel_rfl))
  f318 := Tryz.func220.trans (congrArg some (by kernel_rfl))
  f319 := Tryz.func221.trans (congrArg some (by kernel_rfl))
  f320 := Tryz.func222.trans (congrArg some (by kernel_rfl))
  f337 := Tryz.func237.trans (congrArg some (by kernel_rfl))
  f338 := Tryz.func238.trans (congrArg some (by kernel_rfl))
  t0 := Tryz.underlying0
  a0 := Tryz.isAgg0
  z0 := Tryz.sizeOf0
  v0 := Tryz.zeroValue0
  t2 := Tryz.underlying2
  a2 := Tryz.isAgg2
  z2 := Tryz.sizeOf2
  v2 := Tryz.zeroValue2
  t3 := Tryz.underlying3
  a3 := Tryz.isAgg3
  z3 := Tryz.sizeOf3
  v3 := Tryz.zeroValue3
  t4 := Tryz.underlying4
  a4 := Tryz.isAgg4
  z4 := Tryz.sizeOf4
  v4 := Tryz.zeroValue4
  t5 := Tryz.underlying5
  a5 := Tryz.isAgg5
  z5 := Tryz.sizeOf5
  v5 := Tryz.zeroValue5
  t9 := Tryz.underlying9
  a9 := Tryz.isAgg9
  z9 := Tryz.sizeOf9
  v9 := Tryz.zeroValue9
  t20 := Tryz.underlying20
  a20 := Tryz.isAgg20
  z20 := Tryz.sizeOf20
  v20 := Tryz.zeroValue20
  t37 := Tryz.underlying22
  a37 := Tryz.isAgg22
  z37 := Tryz.sizeOf22
  v37 := Tryz.zeroValue22
  t46 := Tryz.underlying204
  a46 := Tryz.isAgg204
  z46 := Tryz.sizeOf204
  v46 := Tryz.zeroValue204
  t51 := Tryz.underlying219
  a51 := Tryz.isAgg219
  z51 := Tryz.sizeOf219
  v51 := Tryz.zeroValue219
  t53 := Tryz.underlying194
  a53 := Tryz.isAgg194
  z53 := Tryz.sizeOf194
  v53 := Tryz.zeroValue194
  t171 := Tryz.underlying193
  a171 := Tryz.isAgg193
  z171 := Tryz.sizeOf193
  v171 := Tryz.zeroValue193
  t173 := Tryz.underlying197
  a173 := Tryz.isAgg197
  z173 := Tryz.sizeOf197
  v173 := Tryz.zeroValue197
  t212 := Tryz.underlying218
  a212 := Tryz.isAgg218
  z212 := Tryz.sizeOf218
  v212 := Tryz.zeroValue218
  t213 := Tryz.underlying220
  a213 := Tryz.isAgg220
  z213 := Tryz.sizeOf220
  t232 := Tryz.underlying237
  a232 := Tryz.isAgg237
  z232 := Tryz.sizeOf237
  v232 := Tryz.zeroValue237
  t233 := Tryz.underlying238
  a233 := Tryz.isAgg238
  z233 := Tryz.sizeOf238
  v233 := Tryz.zeroValue238
  g17 := by kernel_rfl
  g18 := by kernel_rfl
  g19 := by kernel_rfl
  i0 := by kernel_rfl
  i2 := by kernel_rfl
  i3 := by kernel_rfl
  i4 := by kernel_rfl
  i5 := by kernel_rfl
  i9 := by kernel_rfl
  i20 := by kernel_rfl
  i37 := by kernel_rfl
  i46 := by kernel_rfl
  i51 := by kernel_rfl
  i53 := by kernel_rfl
  i171 := by kernel_rfl
  i173 := by kernel_rfl
  i212 := by kernel_rfl
  i232 := by kernel_rfl
  i233 := by kernel_rfl
  m17 := by kernel_rfl
  m18 := by kernel_rfl
  m19 := by kernel_rfl }
end Go.Proofs
namespace Go.Proofs.YtbblefjbgbocoaaGreatDoor
open Go.Lib
set_option linter.unusedVariables false
set_option linter.unusedSimpArgs false
set_option maxRecDepth 100000
/-- block g holds the table -/
def Tab (g : Nat) (o : Obj) : Prop := ∀ (w : World), w.heap[g]? = some o → ∀ n : Int, -9223372036854775808 ≤ n → n ≤ 9223372036854775807 →
  Calls Tryz.prog 47 #[.int .i64 n] w fun e w' => e = .returned (.string ⟨(Lib.itoa n).toArray⟩) ∧ ∃ k os, w' = Sort.grow (w.drewN k) os
theorem tab_mk {W : World} {name : String} (h : Lib.TabIs Tryz.prog W name .u64 Lib.pow10Tab) (hc : ∀ n : Int, -9223372036854775808 ≤ n → n ≤ 9223372036854775807 → ∀ w, Lib.TabIs Tryz.prog w name .u64 Lib.pow10Tab →
    Calls Tryz.prog 47 #[.int .i64 n] w fun e w' => e = .returned (.string ⟨(Lib.itoa n).toArray⟩) ∧ ∃ k os, w' = Sort.grow (w.drewN k) os) : ∃ (g : Nat) (o : Obj), W.heap[g]? = some o ∧ Tab g o := by
  obtain ⟨g, o, h1, h2⟩ := tab_of h
  exact ⟨g, o, h1, fun w hw n h3 h4 => hc n h3 h4 w (h2 w hw)⟩
/-- what the law's rows list -/
def laid : List (String × DataW Unit) := Rows.fnExactParseQueryRow.laid
theorem itoa_call {g : Nat} {o : Obj} (hT : Tab g o) (n : Int) (hn : inR .i64 n) (H : Heap) (hH : H[0]? = some (.tab g o)) : ACalls Tryz.prog 47 [.c (.d (.int .i64 n))] H (fun r H' => H' = H ∧ r = .c (.d (.str (Lib.itoa n)))) := by
  have hb := i64_def.1 hn
  refine acalls_tab_str hH ⟨_, Tryz.func47, by kernel_rfl, by decide⟩ (by have := itoa_len n hb.1 hb.2; unfold maxStr; omega) ?_
  intro w ι k cargs hw hl ha
  obtain ⟨v, rfl⟩ : ∃ v, cargs = [v] := by
    match cargs, hl with
    | [v], _ => exact ⟨v, rfl⟩
  have h1 := ha 0 _ _ rfl rfl
  cases h1 with
  | c h => cases h with
    | d h => cases h with
      | int => exact hT w hw n hb.1 hb.2
end Go.Proofs.YtbblefjbgbocoaaGreatDoor

/-
  Terms as data: what the laws' sizes, copies and comparisons of terms answer, and TermSame.
  Conditions: none.
-/
open Go Go.AM Go.Proofs
namespace Go.Proofs.YtbblefjbgbocoaaGreatDoor
open Go.ChangeShapes Go.WideShapes Go.ChangeAt Go.RowKit
set_option linter.unusedVariables false
set_option linter.unusedSimpArgs false
set_option maxRecDepth 100000
/-- a term -/
inductive Tm where
  | mk (k n : Int) (s : List UInt8) (kids : List Tm)
  deriving Inhabited
def Tm.k : Tm → Int | .mk k _ _ _ => k
def Tm.n : Tm → Int | .mk _ n _ _ => n
def Tm.s : Tm → List UInt8 | .mk _ _ s _ => s
def Tm.kids : Tm → List Tm | .mk _ _ _ l => l
noncomputable instance : DecidableEq Tm := fun a b => Classical.propDecidable (a = b)
mutual
def Tm.row : Tm → List D
  | .mk k n s l => [.int .i64 k, .int .i64 n, .str s, .sl (Tm.rows l)]
def Tm.rows : List Tm → List (List D)
  | [] => []
  | t :: l => t.row :: Tm.rows l
end
theorem rows_map : ∀ l : List Tm, Tm.rows l = l.map Tm.row
  | [] => rfl
  | t :: l => by rw [Tm.rows, rows_map l]; rfl
theorem row_mk (k n : Int) (s : List UInt8) (l : List Tm) : (Tm.mk k n s l).row = [.int .i64 k, .int .i64 n, .str s, .sl (l.map Tm.row)] := by rw [Tm.row, rows_map]
theorem row_eq (t : Tm) : t.row = [.int .i64 t.k, .int .i64 t.n, .str t.s, .sl (t.kids.map Tm.row)] := by
  obtain ⟨k, n, s, l⟩ := t
  exact row_mk k n s l
theorem row_len (t : Tm) : t.row.length = 4 := by cases t; rfl
theorem Tm.ind {p : Tm → Prop} (h : ∀ k n s l, (∀ t ∈ l, p t) → p (.mk k n s l)) : ∀ t, p t := by
  intro t
  induction hs : SizeOf.sizeOf t using Nat.strongRecOn generalizing t with
  | ind m ih =>
    obtain ⟨k, n, s, l⟩ := t
    refine h k n s l fun t ht => ih (SizeOf.sizeOf t) ?_ t rfl
    have := List.sizeOf_lt_of_mem ht
    simp at hs
    omega
/-- a term that a law looks at -/
inductive Tm.fits : Tm → Prop
  | mk {k n : Int} {s : List UInt8} {l : List Tm} : inR .i64 k → inR .i64 n → s.length ≤ 1048576 → l.length ≤ 1048576 → (∀ t ∈ l, t.fits) → (Tm.mk k n s l).fits
theorem take_row (t : Tm) : List.take 4 (List.map C.d t.row) = List.map C.d t.row := List.take_of_length_le (by simp [row_len])
end Go.Proofs.YtbblefjbgbocoaaGreatDoor

/-
  A number in a range.
  Conditions: none.
-/
open Go Go.AM Go.Proofs
namespace Go.Proofs.YtbblefjbgbocoaaGreatDoor
open Go.ChangeShapes Go.WideShapes Go.ChangeAt Go.RowKit
set_option linter.unusedVariables false
set_option linter.unusedSimpArgs false
set_option maxRecDepth 100000
-- 45 loop.example/prologserver/impl.within params 3 ntmps 15
def ac45 : Cd := .seq (.region [⟨(some 6),.mv (.k (.c (.d (.bool false)))),none⟩] [6])
 (.seq (.region [⟨(some 7),.mv (.t 1),none⟩,
 ⟨(some 8),.mv (.t 0),none⟩,
 ⟨(some 9),.bin .leq (.t 7) (.t 8),none⟩,
 ⟨(some 10),.mv (.t 9),none⟩,
 ⟨(some 11),.mv (.t 0),some (10,true)⟩,
 ⟨(some 12),.mv (.t 2),some (10,true)⟩,
 ⟨(some 13),.bin .leq (.t 11) (.t 12),some (10,true)⟩,
 ⟨(some 14),.pick (.t 10) (.t 13) (.k (.c (.d (.bool false)))),none⟩,
 ⟨(some 6),.mv (.t 14),none⟩] [0,1,2,7,8,9,10,11,12,13,14])
 (.ret))
theorem ac45_ok : cFunc Tryz.prog [] [(0,[6],[]),(1,[0,1,2,7,8,9,10,11,12,13,14],[])] Tryz.f45 = some (ac45,[.tmp 6],15) := by kernel_rfl
theorem within_calls (x lo hi : Int) (H : Heap) : ACalls Tryz.prog 45 [.c (.d (.int .i64 x)), .c (.d (.int .i64 lo)), .c (.d (.int .i64 hi))] H (fun r H' => H' = H ∧ r = .c (.d (.bool (decide (lo ≤ x) && decide (x ≤ hi))))) := by
  refine acalls Tryz.func45 (by kernel_rfl) ac45_ok fun hf => ?_
  simp -implicitDefEqProofs [ac45, go_sem, -List.set_cons_succ, -List.set_cons_zero]
end Go.Proofs.YtbblefjbgbocoaaGreatDoor

/-
  Names: letters and signs.
  Conditions: none.
-/
open Go Go.AM Go.Proofs
namespace Go.Proofs.YtbblefjbgbocoaaGreatDoor
open Go.ChangeShapes Go.WideShapes Go.ChangeAt Go.RowKit
set_option linter.unusedVariables false
set_option linter.unusedSimpArgs false
set_option maxRecDepth 100000
-- 97 loop.example/prologserver/impl.isLetters params 1 ntmps 23
-- loop head live: [0,5,6]
def ac97 : Cd := .seq (.region [⟨(some 2),.mv (.k (.c (.d (.bool false)))),none⟩] [2])
 (.seq (.seq (.region [⟨(some 4),.mv (.t 0),none⟩,
 ⟨(some 5),.len 0 (.t 4),none⟩,
 ⟨(some 6),.mv (.k (.c (.d (.int .i64 0)))),none⟩] [4])
 (.block 0 (.loop (.seq (.region [⟨(some 7),.bin .lss (.t 6) (.t 5),none⟩] [])
 (.seq (.cond (.t 7)
 (.skip)
 (.exit 0))
 (.seq (.block 1 (.seq (.region [⟨(some 8),.mv (.t 6),none⟩,
 ⟨(some 3),.mv (.t 8),none⟩] [7,8])
 (.seq (.region [⟨(some 9),.mv (.t 0),none⟩,
 ⟨(some 10),.mv (.t 3),none⟩,
 ⟨(some 11),.index (.t 9) (.t 10),none⟩,
 ⟨(some 12),.bin .lss (.t 11) (.k (.c (.d (.int .u8 97)))),none⟩,
 ⟨(some 13),.mv (.t 12),none⟩,
 ⟨(some 14),.mv (.t 0),some (13,false)⟩,
 ⟨(some 15),.mv (.t 3),some (13,false)⟩,
 ⟨(some 16),.index (.t 14) (.t 15),some (13,false)⟩,
 ⟨(some 17),.bin .gtr (.t 16) (.k (.c (.d (.int .u8 122)))),some (13,false)⟩,
 ⟨(some 18),.pick (.t 13) (.k (.c (.d (.bool true)))) (.t 17),none⟩] [3,9,10,11,12,13,14,15,16,17])
 (.cond (.t 18)
 (.seq (.region [⟨(some 2),.mv (.k (.c (.d (.bool false)))),none⟩] [0,5,6,18])
 (.ret))
 (.skip)))))
 (.region [⟨(some 19),.bin .add (.t 6) (.k (.c (.d (.int .i64 1)))),none⟩,
 ⟨(some 6),.mv (.t 19),none⟩] [2,18,19])))))))
 (.seq (.region [⟨(some 20),.mv (.t 0),none⟩,
 ⟨(some 21),.len 0 (.t 20),none⟩,
 ⟨(some 22),.qcall 45 [(.t 21),(.k (.c (.d (.int .i64 1)))),(.k (.c (.d (.int .i64 6))))],none⟩,
 ⟨(some 2),.mv (.t 22),none⟩] [0,20,21,22])
 (.ret)))
theorem ac97_ok : cFunc Tryz.prog [1000045] [(0,[2],[]),(1,[4],[]),(2,[],[]),(3,[7,8],[]),(4,[3,9,10,11,12,13,14,15,16,17],[]),(5,[0,5,6,18],[]),(6,[2,18,19],[]),(7,[0,20,21,22],[])] Tryz.f97 = some (ac97,[.tmp 2],23) := by kernel_rfl
-- 137 loop.example/prologserver/spec.l1Word params 1 ntmps 28
-- loop head live: [0,3]
def ac137 : Cd := .seq (.region [⟨(some 2),.mv (.k (.c (.d (.bool false)))),none⟩] [2])
 (.seq (.seq (.region [⟨(some 3),.mv (.k (.c (.d (.int .i64 0)))),none⟩] [])
 (.block 0 (.loop (.seq (.seq (.region [⟨(some 4),.mv (.t 3),none⟩,
 ⟨(some 5),.mv (.t 0),none⟩,
 ⟨(some 6),.len 0 (.t 5),none⟩,
 ⟨(some 7),.bin .lss (.t 4) (.t 6),none⟩] [4,5,6])
 (.cond (.t 7)
 (.skip)
 (.exit 0)))
 (.seq (.block 1 (.seq (.region [⟨(some 10),.mv (.t 0),none⟩,
 ⟨(some 11),.mv (.t 3),none⟩,
 ⟨(some 12),.index (.t 10) (.t 11),none⟩,
 ⟨(some 13),.bin .lss (.t 12) (.k (.c (.d (.int .u8 97)))),none⟩,
 ⟨(some 14),.mv (.t 13),none⟩,
 ⟨(some 15),.mv (.t 0),some (14,false)⟩,
 ⟨(some 16),.mv (.t 3),some (14,false)⟩,
 ⟨(some 17),.index (.t 15) (.t 16),some (14,false)⟩,
 ⟨(some 18),.bin .gtr (.t 17) (.k (.c (.d (.int .u8 122)))),some (14,false)⟩,
 ⟨(some 19),.pick (.t 14) (.k (.c (.d (.bool true)))) (.t 18),none⟩] [7,10,11,12,13,14,15,16,17,18])
 (.cond (.t 19)
 (.seq (.region [⟨(some 2),.mv (.k (.c (.d (.bool false)))),none⟩] [0,3,19])
 (.ret))
 (.skip))))
 (.region [⟨(some 8),.mv (.t 3),none⟩,
 ⟨(some 9),.bin .add (.t 8) (.k (.c (.d (.int .i64 1)))),none⟩,
 ⟨(some 3),.mv (.t 9),none⟩] [2,8,9,19]))))))
 (.seq (.region [⟨(some 20),.mv (.t 0),none⟩,
 ⟨(some 21),.len 0 (.t 20),none⟩,
 ⟨(some 22),.bin .geq (.t 21) (.k (.c (.d (.int .i64 1)))),none⟩,
 ⟨(some 23),.mv (.t 22),none⟩,
 ⟨(some 24),.mv (.t 0),some (23,true)⟩,
 ⟨(some 25),.len 0 (.t 24),some (23,true)⟩,
 ⟨(some 26),.bin .leq (.t 25) (.k (.c (.d (.int .i64 6)))),some (23,true)⟩,
 ⟨(some 27),.pick (.t 23) (.t 26) (.k (.c (.d (.bool false)))),none⟩,
 ⟨(some 2),.mv (.t 27),none⟩] [0,20,21,22,23,24,25,26,27])
 (.ret)))
theorem ac137_ok : cFunc Tryz.prog [] [(0,[2],[]),(1,[],[]),(2,[4,5,6],[]),(4,[7,10,11,12,13,14,15,16,17,18],[]),(5,[0,3,19],[]),(3,[2,8,9,19],[]),(6,[0,20,21,22,23,24,25,26,27],[])] Tryz.f137 = some (ac137,[.tmp 2],28) := by kernel_rfl
-- 99 loop.example/prologserver/impl.symbols params 0 ntmps 2
def ac99 : Cd := .seq (.region [⟨(some 0),.mv (.k (.c (.full []))),none⟩] [0])
 (.seq (.region [⟨(some 1),.buildSlice 1 15 [(.str [])] [(0,(.k (.c (.d (.str [43]))))),(1,(.k (.c (.d (.str [45]))))),(2,(.k (.c (.d (.str [42]))))),(3,(.k (.c (.d (.str [47,47]))))),(4,(.k (.c (.d (.str [61]))))),(5,(.k (.c (.d (.str [92,61]))))),(6,(.k (.c (.d (.str [61,61]))))),(7,(.k (.c (.d (.str [60]))))),(8,(.k (.c (.d (.str [62]))))),(9,(.k (.c (.d (.str [61,60]))))),(10,(.k (.c (.d (.str [62,61]))))),(11,(.k (.c (.d (.str [61,58,61]))))),(12,(.k (.c (.d (.str [46]))))),(13,(.k (.c (.d (.str [91,93]))))),(14,(.k (.c (.d (.str [33])))))],none⟩,
 ⟨(some 0),.mv (.t 1),none⟩] [1])
 (.ret))
theorem ac99_ok : cFunc Tryz.prog [] [(0,[0],[]),(1,[1],[])] Tryz.f99 = some (ac99,[.tmp 0],2) := by kernel_rfl
-- 165 loop.example/prologserver/spec.l1Signs params 0 ntmps 2
def ac165 : Cd := .seq (.region [⟨(some 0),.mv (.k (.c (.full []))),none⟩] [0])
 (.seq (.region [⟨(some 1),.buildSlice 1 15 [(.str [])] [(0,(.k (.c (.d (.str [43]))))),(1,(.k (.c (.d (.str [45]))))),(2,(.k (.c (.d (.str [42]))))),(3,(.k (.c (.d (.str [47,47]))))),(4,(.k (.c (.d (.str [61]))))),(5,(.k (.c (.d (.str [92,61]))))),(6,(.k (.c (.d (.str [61,61]))))),(7,(.k (.c (.d (.str [60]))))),(8,(.k (.c (.d (.str [62]))))),(9,(.k (.c (.d (.str [61,60]))))),(10,(.k (.c (.d (.str [62,61]))))),(11,(.k (.c (.d (.str [61,58,61]))))),(12,(.k (.c (.d (.str [46]))))),(13,(.k (.c (.d (.str [91,93]))))),(14,(.k (.c (.d (.str [33])))))],none⟩,
 ⟨(some 0),.mv (.t 1),none⟩] [1])
 (.ret))
theorem ac165_ok : cFunc Tryz.prog [] [(0,[0],[]),(1,[1],[])] Tryz.f165 = some (ac165,[.tmp 0],2) := by kernel_rfl
-- 154 slices.Index[[]string,string] params 2 ntmps 19
-- loop head live: [0,1,7,8]
def ac154 : Cd := .seq (.region [⟨(some 4),.mv (.k (.c (.d (.int .i64 0)))),none⟩] [4])
 (.seq (.seq (.region [⟨(some 6),.mv (.t 0),none⟩,
 ⟨(some 7),.len 1 (.t 6),none⟩,
 ⟨(some 8),.mv (.k (.c (.d (.int .i64 0)))),none⟩] [6])
 (.block 0 (.loop (.seq (.region [⟨(some 9),.bin .lss (.t 8) (.t 7),none⟩] [])
 (.seq (.cond (.t 9)
 (.skip)
 (.exit 0))
 (.seq (.block 1 (.seq (.region [⟨(some 10),.mv (.t 8),none⟩,
 ⟨(some 5),.mv (.t 10),none⟩] [9,10])
 (.seq (.region [⟨(some 11),.mv (.t 1),none⟩,
 ⟨(some 12),.mv (.t 0),none⟩,
 ⟨(some 13),.mv (.t 5),none⟩,
 ⟨(some 14),.indexAddr 1 (.t 12) (.t 13),none⟩,
 ⟨(some 15),.load none (.t 14),none⟩,
 ⟨(some 16),.bin .eql (.t 11) (.t 15),none⟩] [11,12,13,14,15])
 (.cond (.t 16)
 (.seq (.region [⟨(some 17),.mv (.t 5),none⟩,
 ⟨(some 4),.mv (.t 17),none⟩] [0,1,5,7,8,16,17])
 (.ret))
 (.skip)))))
 (.region [⟨(some 18),.bin .add (.t 8) (.k (.c (.d (.int .i64 1)))),none⟩,
 ⟨(some 8),.mv (.t 18),none⟩] [4,5,16,18])))))))
 (.seq (.region [⟨(some 4),.mv (.k (.c (.d (.int .i64 (-1))))),none⟩] [])
 (.ret)))
theorem ac154_ok : cFunc Tryz.prog [] [(0,[4],[]),(1,[6],[]),(2,[],[]),(3,[9,10],[]),(4,[11,12,13,14,15],[]),(5,[0,1,5,7,8,16,17],[]),(6,[4,5,16,18],[]),(7,[],[])] Tryz.f154 = some (ac154,[.tmp 4],19) := by kernel_rfl
-- 98 slices.Contains[[]string,string] params 2 ntmps 9
def ac98 : Cd := .seq (.region [⟨(some 4),.mv (.k (.c (.d (.bool false)))),none⟩] [4])
 (.seq (.region [⟨(some 5),.mv (.t 0),none⟩,
 ⟨(some 6),.mv (.t 1),none⟩,
 ⟨(some 7),.call false 154 [(.t 5),(.t 6)],none⟩,
 ⟨(some 8),.bin .geq (.t 7) (.k (.c (.d (.int .i64 0)))),none⟩,
 ⟨(some 4),.mv (.t 8),none⟩] [0,1,5,6,7,8])
 (.ret))
theorem ac98_ok : cFunc Tryz.prog [] [(0,[4],[]),(1,[0,1,5,6,7,8],[])] Tryz.f98 = some (ac98,[.tmp 4],9) := by kernel_rfl
-- 164 loop.example/prologserver/spec.l1Has params 2 ntmps 18
-- loop head live: [0,1,5]
def ac164 : Cd := .seq (.region [⟨(some 4),.mv (.k (.c (.d (.bool false)))),none⟩] [4])
 (.seq (.seq (.region [⟨(some 5),.mv (.k (.c (.d (.int .i64 0)))),none⟩] [])
 (.block 0 (.loop (.seq (.seq (.region [⟨(some 6),.mv (.t 5),none⟩,
 ⟨(some 7),.mv (.t 0),none⟩,
 ⟨(some 8),.len 1 (.t 7),none⟩,
 ⟨(some 9),.bin .lss (.t 6) (.t 8),none⟩] [6,7,8])
 (.cond (.t 9)
 (.skip)
 (.exit 0)))
 (.seq (.block 1 (.seq (.region [⟨(some 12),.mv (.t 0),none⟩,
 ⟨(some 13),.mv (.t 5),none⟩,
 ⟨(some 14),.indexAddr 1 (.t 12) (.t 13),none⟩,
 ⟨(some 15),.load none (.t 14),none⟩,
 ⟨(some 16),.mv (.t 1),none⟩,
 ⟨(some 17),.bin .eql (.t 15) (.t 16),none⟩] [9,12,13,14,15,16])
 (.cond (.t 17)
 (.seq (.region [⟨(some 4),.mv (.k (.c (.d (.bool true)))),none⟩] [0,1,5,17])
 (.ret))
 (.skip))))
 (.region [⟨(some 10),.mv (.t 5),none⟩,
 ⟨(some 11),.bin .add (.t 10) (.k (.c (.d (.int .i64 1)))),none⟩,
 ⟨(some 5),.mv (.t 11),none⟩] [4,10,11,17]))))))
 (.seq (.region [⟨(some 4),.mv (.k (.c (.d (.bool false)))),none⟩] [])
 (.ret)))
theorem ac164_ok : cFunc Tryz.prog [] [(0,[4],[]),(1,[],[]),(2,[6,7,8],[]),(4,[9,12,13,14,15,16],[]),(5,[0,1,5,17],[]),(3,[4,10,11,17],[]),(6,[],[])] Tryz.f164 = some (ac164,[.tmp 4],18) := by kernel_rfl
-- 46 loop.example/prologserver/impl.NameValid params 1 ntmps 10
def ac46 : Cd := .seq (.region [⟨(some 2),.mv (.k (.c (.d (.bool false)))),none⟩] [2])
 (.seq (.region [⟨(some 3),.mv (.t 0),none⟩,
 ⟨(some 4),.qcall 97 [(.t 3)],none⟩,
 ⟨(some 5),.mv (.t 4),none⟩,
 ⟨(some 6),.qcall 99 [],some (5,false)⟩,
 ⟨(some 7),.mv (.t 0),some (5,false)⟩,
 ⟨(some 8),.qcall 98 [(.t 6),(.t 7)],some (5,false)⟩,
 ⟨(some 9),.pick (.t 5) (.k (.c (.d (.bool true)))) (.t 8),none⟩,
 ⟨(some 2),.mv (.t 9),none⟩] [0,3,4,5,6,7,8,9])
 (.ret))
theorem ac46_ok : cFunc Tryz.prog [1000097,1000098,1000099] [(0,[2],[]),(1,[0,3,4,5,6,7,8,9],[])] Tryz.f46 = some (ac46,[.tmp 2],10) := by kernel_rfl
-- 104 loop.example/prologserver/spec.NameValid params 1 ntmps 10
def ac104 : Cd := .seq (.region [⟨(some 2),.mv (.k (.c (.d (.bool false)))),none⟩] [2])
 (.seq (.region [⟨(some 3),.mv (.t 0),none⟩,
 ⟨(some 4),.qcall 137 [(.t 3)],none⟩,
 ⟨(some 5),.mv (.t 4),none⟩,
 ⟨(some 6),.qcall 165 [],some (5,false)⟩,
 ⟨(some 7),.mv (.t 0),some (5,false)⟩,
 ⟨(some 8),.qcall 164 [(.t 6),(.t 7)],some (5,false)⟩,
 ⟨(some 9),.pick (.t 5) (.k (.c (.d (.bool true)))) (.t 8),none⟩,
 ⟨(some 2),.mv (.t 9),none⟩] [0,3,4,5,6,7,8,9])
 (.ret))
theorem ac104_ok : cFunc Tryz.prog [1000137,1000164,1000165] [(0,[2],[]),(1,[0,3,4,5,6,7,8,9],[])] Tryz.f104 = some (ac104,[.tmp 2],10) := by kernel_rfl
def lowB (b : UInt8) : Bool := decide ((97 : Int) ≤ b.toNat) && decide ((b.toNat : Int) ≤ 122)
/-- a name of letters -/
def lettersB (s : List UInt8) : Bool := s.all lowB && (decide ((1 : Int) ≤ s.length) && decide ((s.length : Int) ≤ 6))
def signs : List (List UInt8) := [[43], [45], [42], [47, 47], [61], [92, 61], [61, 61], [60], [62], [61, 60], [62, 61], [61, 58, 61], [46], [91, 93], [33]]
def strRow (s : List UInt8) : List D := [.str s]
theorem low_take_succ {p : UInt8 → Bool} {s : List UInt8} {i : Nat} (h : i < s.length) (ha : ∀ b ∈ s.take i, p b = true) (hb : p s[i] = true) : ∀ b ∈ s.take (i + 1), p b = true := by
  intro b h'
  rw [List.take_add_one, List.mem_append] at h'
  rcases h' with h' | h'
  · exact ha b h'
  · rw [List.getElem?_eq_getElem h] at h'
    simp at h'; subst h'; exact hb
set_option maxHeartbeats 3200000 in
theorem isLetters_calls (s : List UInt8) (hs : s.length ≤ 1000000000000) (H : Heap) : ACalls Tryz.prog 97 [.c (.d (.str s))] H (fun r H' => H' = H ∧ r = .c (.d (.bool (lettersB s)))) := by
  refine acalls Tryz.func97 (by kernel_rfl) ac97_ok fun hf => ?_
  have hlen : inR .i64 (s.length : Int) := small_i64 (by omega) (by omega)
  simp -implicitDefEqProofs [ac97, hlen, go_sem, -List.set_cons_succ, -List.set_cons_zero]
  refine loop_set (σ := Nat) (fun i => [(6, .c (.d (.int .i64 i)))]) (fun _ => H) (fun _ => []) (fun i => i ≤ s.length ∧ ∀ b ∈ s.take i, lowB b = true) (fun i => s.length - i) 0 rfl ⟨Nat.zero_le _, by simp⟩ ?_
  rintro i ⟨hi, hall⟩
  simp -implicitDefEqProofs [setAll, hlen, go_sem, -List.set_cons_succ, -List.set_cons_zero]
  refine ⟨fun hlt => byte_nat hlt ?_, fun hge => ?_⟩
  · have hadd : inR .i64 ((i : Int) + 1) := small_i64 (by omega) (by omega)
    have bad : lowB s[i] = false → lettersB s = false := fun h => by
      have : s.all lowB = false := by
        rw [List.all_eq_false]
        exact ⟨s[i], List.getElem_mem hlt, by simp [h]⟩
      simp [lettersB, this]
    by_cases h97 : (s[i].toNat : Int) < 97
    · simp -implicitDefEqProofs [h97, go_sem, -List.set_cons_succ, -List.set_cons_zero]
      refine byte_off 0 ?_
      simp -implicitDefEqProofs [go_sem, -List.set_cons_succ, -List.set_cons_zero]
      rw [bad (by simp [lowB]; omega)]
    · simp -implicitDefEqProofs [h97, go_sem, -List.set_cons_succ, -List.set_cons_zero]
      refine byte_nat hlt ?_
      simp -implicitDefEqProofs [hadd, go_sem, -List.set_cons_succ, -List.set_cons_zero]
      refine ⟨fun h => by rw [bad (by simp [lowB]; omega)], fun h => ?_⟩
      exact loop_back (i + 1) (by simp [setAll]) ⟨hlt, low_take_succ hlt hall (by simp [lowB]; omega)⟩ (by show s.length - (i + 1) < s.length - i; omega)
  · have hil : i = s.length := by omega
    subst hil
    rw [List.take_length] at hall
    have hok : s.all lowB = true := List.all_eq_true.2 hall
    refine qcall_pure (within_calls s.length 1 6) hf rfl ?_
    simp -implicitDefEqProofs [lettersB, hok, go_sem, -List.set_cons_succ, -List.set_cons_zero]
set_option maxHeartbeats 3200000 in
theorem l1Word_calls (s : List UInt8) (hs : s.length ≤ 1000000000000) (H : Heap) : ACalls Tryz.prog 137 [.c (.d (.str s))] H (fun r H' => H' = H ∧ r = .c (.d (.bool (lettersB s)))) := by
  refine acalls Tryz.func137 (by kernel_rfl) ac137_ok fun hf => ?_
  have hlen : inR .i64 (s.length : Int) := small_i64 (by omega) (by omega)
  simp -implicitDefEqProofs [ac137, hlen, go_sem, -List.set_cons_succ, -List.set_cons_zero]
  refine loop_set (σ := Nat) (fun i => [(3, .c (.d (.int .i64 i)))]) (fun _ => H) (fun _ => []) (fun i => i ≤ s.length ∧ ∀ b ∈ s.take i, lowB b = true) (fun i => s.length - i) 0 rfl ⟨Nat.zero_le _, by simp⟩ ?_
  rintro i ⟨hi, hall⟩
  simp -implicitDefEqProofs [setAll, hlen, go_sem, -List.set_cons_succ, -List.set_cons_zero]
  refine ⟨fun hlt => byte_nat hlt ?_, fun hge => ?_⟩
  · have hadd : inR .i64 ((i : Int) + 1) := small_i64 (by omega) (by omega)
    have bad : lowB s[i] = false → lettersB s = false := fun h => by
      have : s.all lowB = false := by
        rw [List.all_eq_false]
        exact ⟨s[i], List.getElem_mem hlt, by simp [h]⟩
      simp [lettersB, this]
    by_cases h97 : (s[i].toNat : Int) < 97
    · simp -implicitDefEqProofs [h97, go_sem, -List.set_cons_succ, -List.set_cons_zero]
      refine byte_off 0 ?_
      simp -implicitDefEqProofs [go_sem, -List.set_cons_succ, -List.set_cons_zero]
      rw [bad (by simp [lowB]; omega)]
    · simp -implicitDefEqProofs [h97, go_sem, -List.set_cons_succ, -List.set_cons_zero]
      refine byte_nat hlt ?_
      simp -implicitDefEqProofs [hadd, go_sem, -List.set_cons_succ, -List.set_cons_zero]
      refine ⟨fun h => by rw [bad (by simp [lowB]; omega)], fun h => ?_⟩
      exact loop_back (i + 1) (by simp [setAll]) ⟨hlt, low_take_succ hlt hall (by simp [lowB]; omega)⟩ (by show s.length - (i + 1) < s.length - i; omega)
  · have hil : i = s.length := by omega
    subst hil
    rw [List.take_length] at hall
    have hok : s.all lowB = true := List.all_eq_true.2 hall
    simp [lettersB, hok]
set_option maxHeartbeats 3200000 in
theorem symbols_calls (H : Heap) : ACalls Tryz.prog 99 [] H (fun r H' => H' = H ∧ r = .c (.d (.sl (signs.map strRow)))) := by
  refine acalls Tryz.func99 (by kernel_rfl) ac99_ok fun hf => ?_
  simp -implicitDefEqProofs [ac99, signs, strRow, go_sem, -List.set_cons_succ, -List.set_cons_zero]
set_option maxHeartbeats 3200000 in
theorem l1Signs_calls (H : Heap) : ACalls Tryz.prog 165 [] H (fun r H' => H' = H ∧ r = .c (.d (.sl (signs.map strRow)))) := by
  refine acalls Tryz.func165 (by kernel_rfl) ac165_ok fun hf => ?_
  simp -implicitDefEqProofs [ac165, signs, strRow, go_sem, -List.set_cons_succ, -List.set_cons_zero]
set_option maxHeartbeats 3200000 in
theorem index_calls (l : List (List UInt8)) (hl : l.length ≤ 1048576) (s : List UInt8) (H : Heap) : ACalls Tryz.prog 154 [.c (.d (.sl (l.map strRow))), .c (.d (.str s))] H (fun r H' => H' = H ∧ ∃ k : Int, r = .c (.d (.int .i64 k)) ∧ decide (0 ≤ k) = l.contains s) := by
  refine acalls Tryz.func154 (by kernel_rfl) ac154_ok fun hf => ?_
  have hli : inR .i64 (l.length : Int) := small_i64 (by omega) (by omega)
  simp -implicitDefEqProofs [ac154, hli, go_sem, -List.set_cons_succ, -List.set_cons_zero]
  refine loop_set (σ := Nat) (fun i => [(8, .c (.d (.int .i64 i)))]) (fun _ => H) (fun _ => []) (fun i => i ≤ l.length ∧ s ∉ l.take i) (fun i => l.length - i) 0 rfl ⟨Nat.zero_le _, by simp⟩ ?_
  rintro i ⟨hi, hno⟩
  simp -implicitDefEqProofs [setAll, hli, go_sem, -List.set_cons_succ, -List.set_cons_zero]
  refine ⟨fun hlt => ?_, fun hge => ?_⟩
  · refine row_of hlt rfl ?_
    have hadd : inR .i64 ((i : Int) + 1) := small_i64 (by omega) (by omega)
    simp -implicitDefEqProofs [strRow, hadd, go_sem, -List.set_cons_succ, -List.set_cons_zero]
    refine ⟨fun h => ?_, fun h => ?_⟩
    · subst h; exact List.getElem_mem hlt
    · refine loop_back (i + 1) (by simp [setAll]) ⟨hlt, ?_⟩ (by show l.length - (i + 1) < l.length - i; omega)
      rw [List.take_succ_eq_append_getElem hlt, List.mem_append]
      rintro (h' | h')
      · exact hno h'
      · simp at h'; exact h h'
  · rw [List.take_of_length_le hge] at hno
    simp [hno]
set_option maxHeartbeats 3200000 in
theorem contains_calls (l : List (List UInt8)) (hl : l.length ≤ 1048576) (s : List UInt8) (H : Heap) : ACalls Tryz.prog 98 [.c (.d (.sl (l.map strRow))), .c (.d (.str s))] H (fun r H' => H' = H ∧ r = .c (.d (.bool (l.contains s)))) := by
  refine acalls Tryz.func98 (by kernel_rfl) ac98_ok fun hf => ?_
  simp -implicitDefEqProofs [ac98, go_sem, -List.set_cons_succ, -List.set_cons_zero]
  refine call_some (index_calls l hl s _) (by simp) (fun r ⟨k, hk, _⟩ => by subst hk; rfl) hf ?_
  rintro _ ⟨k, rfl, hk⟩
  simp -implicitDefEqProofs [go_sem, -List.set_cons_succ, -List.set_cons_zero]
  simpa using hk
set_option maxHeartbeats 3200000 in
theorem l1Has_calls (l : List (List UInt8)) (hl : l.length ≤ 1048576) (s : List UInt8) (H : Heap) : ACalls Tryz.prog 164 [.c (.d (.sl (l.map strRow))), .c (.d (.str s))] H (fun r H' => H' = H ∧ r = .c (.d (.bool (l.contains s)))) := by
  refine acalls Tryz.func164 (by kernel_rfl) ac164_ok fun hf => ?_
  have hli : inR .i64 (l.length : Int) := small_i64 (by omega) (by omega)
  simp -implicitDefEqProofs [ac164, hli, go_sem, -List.set_cons_succ, -List.set_cons_zero]
  refine loop_set (σ := Nat) (fun i => [(5, .c (.d (.int .i64 i)))]) (fun _ => H) (fun _ => []) (fun i => i ≤ l.length ∧ s ∉ l.take i) (fun i => l.length - i) 0 rfl ⟨Nat.zero_le _, by simp⟩ ?_
  rintro i ⟨hi, hno⟩
  simp -implicitDefEqProofs [setAll, hli, go_sem, -List.set_cons_succ, -List.set_cons_zero]
  refine ⟨fun hlt => ?_, fun hge => ?_⟩
  · refine row_of hlt rfl ?_
    have hadd : inR .i64 ((i : Int) + 1) := small_i64 (by omega) (by omega)
    simp -implicitDefEqProofs [strRow, hadd, go_sem, -List.set_cons_succ, -List.set_cons_zero]
    refine ⟨fun h => ?_, fun h => ?_⟩
    · subst h; exact List.getElem_mem hlt
    · refine loop_back (i + 1) (by simp [setAll]) ⟨hlt, ?_⟩ (by show l.length - (i + 1) < l.length - i; omega)
      rw [List.take_succ_eq_append_getElem hlt, List.mem_append]
      rintro (h' | h')
      · exact hno h'
      · simp at h'; exact h h'.symm
  · rw [List.take_of_length_le hge] at hno
    simpa using hno
/-- a name -/
def nameB (s : List UInt8) : Bool := lettersB s || signs.contains s
set_option maxHeartbeats 3200000 in
theorem nvImpl_calls (s : List UInt8) (hs : s.length ≤ 1000000000000) (H : Heap) : ACalls Tryz.prog 46 [.c (.d (.str s))] H (fun r H' => H' = H ∧ r = .c (.d (.bool (nameB s)))) := by
  refine acalls Tryz.func46 (by kernel_rfl) ac46_ok fun hf => ?_
  simp -implicitDefEqProofs [ac46, go_sem, -List.set_cons_succ, -List.set_cons_zero]
  refine qcall_pure (isLetters_calls s hs) hf rfl ?_
  cases h : lettersB s with
  | true => simp -implicitDefEqProofs [h, nameB, go_sem, -List.set_cons_succ, -List.set_cons_zero]
  | false =>
    simp -implicitDefEqProofs [h, go_sem, -List.set_cons_succ, -List.set_cons_zero]
    refine qcall_pure symbols_calls hf rfl ?_
    simp -implicitDefEqProofs [go_sem, -List.set_cons_succ, -List.set_cons_zero]
    refine qcall_pure (contains_calls signs (by decide) s) hf rfl ?_
    simp -implicitDefEqProofs [h, nameB, go_sem, -List.set_cons_succ, -List.set_cons_zero]
set_option maxHeartbeats 3200000 in
theorem nvSpec_calls (s : List UInt8) (hs : s.length ≤ 1000000000000) (H : Heap) : ACalls Tryz.prog 104 [.c (.d (.str s))] H (fun r H' => H' = H ∧ r = .c (.d (.bool (nameB s)))) := by
  refine acalls Tryz.func104 (by kernel_rfl) ac104_ok fun hf => ?_
  simp -implicitDefEqProofs [ac104, go_sem, -List.set_cons_succ, -List.set_cons_zero]
  refine qcall_pure (l1Word_calls s hs) hf rfl ?_
  cases h : lettersB s with
  | true => simp -implicitDefEqProofs [h, nameB, go_sem, -List.set_cons_succ, -List.set_cons_zero]
  | false =>
    simp -implicitDefEqProofs [h, go_sem, -List.set_cons_succ, -List.set_cons_zero]
    refine qcall_pure l1Signs_calls hf rfl ?_
    simp -implicitDefEqProofs [go_sem, -List.set_cons_succ, -List.set_cons_zero]
    refine qcall_pure (l1Has_calls signs (by decide) s) hf rfl ?_
    simp -implicitDefEqProofs [h, nameB, go_sem, -List.set_cons_succ, -List.set_cons_zero]
end Go.Proofs.YtbblefjbgbocoaaGreatDoor

/-
  Valid terms: TermValid of the program and of the reference.
  Conditions: none.
-/
open Go Go.AM Go.Proofs
namespace Go.Proofs.YtbblefjbgbocoaaGreatDoor
open Go.ChangeShapes Go.WideShapes Go.ChangeAt Go.RowKit
set_option linter.unusedVariables false
set_option linter.unusedSimpArgs false
set_option maxRecDepth 100000
-- 173 slices.IndexFunc[[]loop.example/prologserver/impl.Term,loop.example/prologserver/impl.Term] params 2 ntmps 19
-- loop head live: [0,1,7,8]
def ac173 : Cd := .seq (.region [⟨(some 4),.mv (.k (.c (.d (.int .i64 0)))),none⟩] [4])
 (.seq (.seq (.region [⟨(some 6),.mv (.t 0),none⟩,
 ⟨(some 7),.len 1 (.t 6),none⟩,
 ⟨(some 8),.mv (.k (.c (.d (.int .i64 0)))),none⟩] [6])
 (.block 0 (.loop (.seq (.region [⟨(some 9),.bin .lss (.t 8) (.t 7),none⟩] [])
 (.seq (.cond (.t 9)
 (.skip)
 (.exit 0))
 (.seq (.block 1 (.seq (.region [⟨(some 10),.mv (.t 8),none⟩,
 ⟨(some 5),.mv (.t 10),none⟩] [9,10])
 (.seq (.region [⟨(some 11),.mv (.t 1),none⟩,
 ⟨(some 12),.mv (.t 0),none⟩,
 ⟨(some 13),.mv (.t 5),none⟩,
 ⟨(some 14),.indexAddr 4 (.t 12) (.t 13),none⟩,
 ⟨(some 15),.load (some 4) (.t 14),none⟩,
 ⟨(some 16),.callv (.t 11) [(.t 15)],none⟩] [11,12,13,14,15])
 (.cond (.t 16)
 (.seq (.region [⟨(some 17),.mv (.t 5),none⟩,
 ⟨(some 4),.mv (.t 17),none⟩] [0,1,5,7,8,16,17])
 (.ret))
 (.skip)))))
 (.region [⟨(some 18),.bin .add (.t 8) (.k (.c (.d (.int .i64 1)))),none⟩,
 ⟨(some 8),.mv (.t 18),none⟩] [4,5,16,18])))))))
 (.seq (.region [⟨(some 4),.mv (.k (.c (.d (.int .i64 (-1))))),none⟩] [])
 (.ret)))
theorem ac173_ok : cFunc Tryz.prog [] [(0,[4],[]),(1,[6],[]),(2,[],[]),(3,[9,10],[]),(4,[11,12,13,14,15],[]),(5,[0,1,5,7,8,16,17],[]),(6,[4,5,16,18],[]),(7,[],[])] Tryz.f173 = some (ac173,[.tmp 4],19) := by kernel_rfl
-- 115 slices.ContainsFunc[[]loop.example/prologserver/impl.Term,loop.example/prologserver/impl.Term] params 2 ntmps 9
def ac115 : Cd := .seq (.region [⟨(some 4),.mv (.k (.c (.d (.bool false)))),none⟩] [4])
 (.seq (.region [⟨(some 5),.mv (.t 0),none⟩,
 ⟨(some 6),.mv (.t 1),none⟩,
 ⟨(some 7),.call false 173 [(.t 5),(.t 6)],none⟩,
 ⟨(some 8),.bin .geq (.t 7) (.k (.c (.d (.int .i64 0)))),none⟩,
 ⟨(some 4),.mv (.t 8),none⟩] [0,1,5,6,7,8])
 (.ret))
theorem ac115_ok : cFunc Tryz.prog [] [(0,[4],[]),(1,[0,1,5,6,7,8],[])] Tryz.f115 = some (ac115,[.tmp 4],9) := by kernel_rfl
theorem tmF_idx {σ : Type} (Hp : σ → Heap) (n : Nat) (hn : ∀ s, (Hp s).length = n) (hfit : ∀ s, Obs.fits n 0 (Hp s)) (g : FuncId) (caps : List (Nat × Nat)) (step : σ → Tm → Bool × σ) (P : σ → Prop) (l : List Tm) (hl : l.length ≤ 1048576)
    (h : ∀ s, P s → ∀ t ∈ l, ACalls Tryz.prog g (.agg ((Tm.row t).map .d) :: caps.map fun x => .c (.ptr (.e x.1) x.2)) (Hp s) (fun r H' => r = .c (.d (.bool (step s t).1)) ∧ H' = Hp (step s t).2)) (hP : ∀ s, P s → ∀ t ∈ l, (step s t).1 = false → P (step s t).2) (s : σ) (h0 : P s) :
    ACalls Tryz.prog 173 [.c (.d (.sl (l.map Tm.row))), .c (.fn g (caps.map fun x => (.e x.1, x.2)))] (Hp s) (fun r H' => (∃ k : Int, r = .c (.d (.int .i64 k)) ∧ decide (0 ≤ k) = (anyS step l s).1) ∧ H' = Hp (anyS step l s).2) := by
  refine acalls Tryz.func173 (by kernel_rfl) ac173_ok fun hf => ?_
  have hli : inR .i64 (l.length : Int) := small_i64 (by omega) (by omega)
  simp -implicitDefEqProofs [ac173, hli, go_sem, -List.set_cons_succ, -List.set_cons_zero]
  refine loop_set (σ := Nat × σ) (fun x => [(8, .c (.d (.int .i64 x.1)))]) (fun x => Hp x.2) (fun _ => []) (fun x => x.1 ≤ l.length ∧ P x.2 ∧ anyS step (l.drop x.1) x.2 = anyS step l s) (fun x => l.length - x.1) (0, s) rfl ⟨Nat.zero_le _, h0, rfl⟩ ?_
  rintro ⟨i, q⟩ ⟨hi, hq, hrun⟩
  simp only at hi hq hrun
  simp -implicitDefEqProofs [setAll, hli, go_sem, -List.set_cons_succ, -List.set_cons_zero]
  refine ⟨fun hlt => ?_, fun hge => ?_⟩
  · refine row_of hlt (row_len _) ?_
    simp -implicitDefEqProofs [row_len, take_row, pure_d, re_d, callArgs_ptrs, go_sem, -List.set_cons_succ, -List.set_cons_zero]
    have hd : l.drop i = l[i] :: l.drop (i + 1) := List.drop_eq_getElem_cons hlt
    rw [hd, anyS] at hrun
    have hadd : inR .i64 ((i : Int) + 1) := small_i64 (by omega) (by omega)
    refine (h q hq l[i] (List.getElem_mem hlt)).mono fun r H' ⟨h1, h2⟩ => ⟨Hp (step q l[i]).2, [], .c (.d (.bool (step q l[i]).1)), by simpa using h2, by simp only [hn], Nat.le_refl _, by simp only [hn]; exact hfit _, h1, ?_⟩
    cases hs : (step q l[i]).1 with
    | true =>
      rw [if_pos hs] at hrun
      simp -implicitDefEqProofs [hs, go_sem, -List.set_cons_succ, -List.set_cons_zero]
      rw [← hrun]
      exact ⟨by simp, rfl⟩
    | false =>
      rw [if_neg (by simp [hs])] at hrun
      simp -implicitDefEqProofs [hs, hadd, go_sem, -List.set_cons_succ, -List.set_cons_zero]
      exact loop_back (i + 1, (step q l[i]).2) (by simp [setAll]) ⟨hlt, hP q hq _ (List.getElem_mem hlt) hs, hrun⟩ (by show l.length - (i + 1) < l.length - i; omega)
  · rw [List.drop_of_length_le hge] at hrun
    simp only [anyS] at hrun
    rw [← hrun]
    exact ⟨by simp, rfl⟩
theorem tmF_con {σ : Type} (Hp : σ → Heap) (n : Nat) (hn : ∀ s, (Hp s).length = n) (hfit : ∀ s, Obs.fits n 0 (Hp s)) (g : FuncId) (caps : List (Nat × Nat)) (step : σ → Tm → Bool × σ) (P : σ → Prop) (l : List Tm) (hl : l.length ≤ 1048576)
    (h : ∀ s, P s → ∀ t ∈ l, ACalls Tryz.prog g (.agg ((Tm.row t).map .d) :: caps.map fun x => .c (.ptr (.e x.1) x.2)) (Hp s) (fun r H' => r = .c (.d (.bool (step s t).1)) ∧ H' = Hp (step s t).2)) (hP : ∀ s, P s → ∀ t ∈ l, (step s t).1 = false → P (step s t).2) (s : σ) (h0 : P s) :
    ACalls Tryz.prog 115 [.c (.d (.sl (l.map Tm.row))), .c (.fn g (caps.map fun x => (.e x.1, x.2)))] (Hp s) (fun r H' => r = .c (.d (.bool (anyS step l s).1)) ∧ H' = Hp (anyS step l s).2) := by
  refine acalls Tryz.func115 (by kernel_rfl) ac115_ok fun hf => ?_
  simp -implicitDefEqProofs [ac115, go_sem, -List.set_cons_succ, -List.set_cons_zero]
  simp only [List.map_map, Function.comp_def, Ref.re]
  refine (tmF_idx Hp n hn hfit g caps step P l hl h hP s h0).mono fun r H' ⟨⟨k, h1, h2⟩, h3⟩ => ⟨Hp (anyS step l s).2, [], .c (.d (.int .i64 k)), by simpa using h3, by simp only [hn], Nat.le_refl _, by simp only [hn]; exact hfit _, h1, ?_⟩
  simp -implicitDefEqProofs [go_sem, -List.set_cons_succ, -List.set_cons_zero]
  rw [← h2]
/-- .. where the function looks at what it is given alone -/
theorem tmF_any (g : FuncId) (p : Tm → Bool) (l : List Tm) (hl : l.length ≤ 1048576) (h : ∀ t ∈ l, ∀ H, ACalls Tryz.prog g [.agg ((Tm.row t).map .d)] H (fun r H' => H' = H ∧ r = .c (.d (.bool (p t))))) (H : Heap) :
    ACalls Tryz.prog 115 [.c (.d (.sl (l.map Tm.row))), .c (.fn g [])] H (fun r H' => H' = H ∧ r = .c (.d (.bool (l.any p)))) := by
  refine acalls_fits Tryz.func115 (by kernel_rfl) (by kernel_rfl) fun hf => ?_
  have := tmF_con (σ := Unit) (fun _ => H) H.length (fun _ => rfl) (fun _ => hf) g [] (fun _ t => (p t, ())) (fun _ => True) l hl (fun s _ t ht => (h t ht H).mono fun r H' ⟨h1, h2⟩ => ⟨h2, h1⟩) (fun _ _ _ _ _ => trivial) () trivial
  rw [anyS_const] at this
  exact this.mono fun r H' ⟨h1, h2⟩ => ⟨h2, h1⟩

/-- a node's own fields -/
def Tm.ownB : Tm → Bool
  | .mk k n s l => if k = 1 then ((decide (0 ≤ n) && decide (n ≤ 25)) && s == []) && l.isEmpty
    else if k = 2 then ((decide (-999 ≤ n) && decide (n ≤ 999)) && s == []) && l.isEmpty
    else if k = 3 then (decide (n = 0) && nameB s) && decide (l.length ≤ 4)
    else false
mutual
/-- well-formed, down to a depth -/
def Tm.shape : Nat → Tm → Bool
  | d, .mk k n s l => decide (1 ≤ d) && ((Tm.mk k n s l).ownB && shapes (d - 1) l)
def shapes : Nat → List Tm → Bool
  | _, [] => true
  | d, t :: l => t.shape d && shapes d l
end
mutual
/-- the number of nodes -/
def Tm.size : Tm → Nat
  | .mk _ _ _ l => 1 + sizes l
def sizes : List Tm → Nat
  | [] => 0
  | t :: l => t.size + sizes l
end
def Tm.valid (t : Tm) : Bool := t.shape 30 && decide (t.size ≤ 120)
mutual
/-- the program's check: nodes are counted -/
def scanT : Nat → Tm → Nat → Bool × Nat
  | deep, .mk k n s l, c => if 120 < c + 1 ∨ 30 < deep then (false, c + 1) else if !(Tm.mk k n s l).ownB then (false, c + 1) else scanL (deep + 1) l (c + 1)
def scanL : Nat → List Tm → Nat → Bool × Nat
  | _, [], c => (true, c)
  | deep, t :: l, c => if (scanT deep t c).1 = true then scanL deep l (scanT deep t c).2 else (false, (scanT deep t c).2)
end
theorem shapes_all : ∀ (l : List Tm) (d : Nat), shapes d l = l.all fun t => t.shape d
  | [], _ => rfl
  | t :: l, d => by rw [shapes, shapes_all l d]; rfl
theorem own_leaf {k n : Int} {s : List UInt8} {l : List Tm} (hk : k ≠ 3) (h : (Tm.mk k n s l).ownB = true) : l = [] := by
  simp only [Tm.ownB] at h
  by_cases k1 : k = 1
  · rw [if_pos k1] at h; simp at h; exact h.2
  · rw [if_neg k1] at h
    by_cases k2 : k = 2
    · rw [if_pos k2] at h; simp at h; exact h.2
    · rw [if_neg k2, if_neg hk] at h; cases h
/-- what the program's check answers -/
theorem scan_spec : ∀ t : Tm, ∀ (deep c : Nat), c ≤ 120 → ((scanT deep t c).1 = true → (scanT deep t c).2 = c + t.size ∧ (scanT deep t c).2 ≤ 120) ∧ ((scanT deep t c).1 = (t.shape (31 - deep) && decide (c + t.size ≤ 120))) := by
  refine Tm.ind fun k n s l ih deep c hc => ?_
  have hl : ∀ (l : List Tm), (∀ t ∈ l, ∀ (deep c : Nat), c ≤ 120 → ((scanT deep t c).1 = true → (scanT deep t c).2 = c + t.size ∧ (scanT deep t c).2 ≤ 120) ∧ ((scanT deep t c).1 = (t.shape (31 - deep) && decide (c + t.size ≤ 120)))) →
      ∀ (deep c : Nat), c ≤ 120 → ((scanL deep l c).1 = true → (scanL deep l c).2 = c + sizes l ∧ (scanL deep l c).2 ≤ 120) ∧ ((scanL deep l c).1 = (shapes (31 - deep) l && decide (c + sizes l ≤ 120))) := by
    intro l
    induction l with
    | nil => intro _ deep c hc; simp [scanL, shapes, sizes, hc]
    | cons t l ih2 =>
      intro h deep c hc
      obtain ⟨h1, h2⟩ := h t (by simp) deep c hc
      rw [scanL, shapes, sizes]
      cases hs : (scanT deep t c).1 with
      | true =>
        obtain ⟨h3, h4⟩ := h1 hs
        obtain ⟨h5, h6⟩ := ih2 (fun x hx => h x (by simp [hx])) deep (scanT deep t c).2 h4
        rw [hs] at h2
        simp only [if_true]
        rw [h3] at h5 h6 ⊢
        have h7 := h2.symm
        simp only [Bool.and_eq_true] at h7
        rw [h7.1, Bool.true_and]
        refine ⟨fun h => ⟨by have := (h5 h).1; omega, (h5 h).2⟩, ?_⟩
        rw [h6, show c + t.size + sizes l = c + (t.size + sizes l) by omega]
      | false =>
        rw [hs] at h2
        simp only [Bool.false_eq_true, if_false]
        refine ⟨fun h => (by cases h), ?_⟩
        have h7 := h2.symm
        rw [Bool.and_eq_false_iff] at h7
        symm
        rcases h7 with h7 | h7
        · simp [h7]
        · simp only [decide_eq_false_iff_not] at h7
          have : ¬ c + (t.size + sizes l) ≤ 120 := by omega
          simp [this]
  rw [scanT, Tm.shape, Tm.size]
  by_cases h1 : 120 < c + 1 ∨ 30 < deep
  · rw [if_pos h1]
    refine ⟨fun h => (by cases h), ?_⟩
    symm
    rcases h1 with h1 | h1
    · have : ¬ c + (1 + sizes l) ≤ 120 := by omega
      simp [this]
    · have : ¬ 1 ≤ 31 - deep := by omega
      simp [this]
  · rw [if_neg h1]
    have hd : 1 ≤ 31 - deep := by omega
    cases ho : (Tm.mk k n s l).ownB with
    | false => exact ⟨fun h => (by simp at h), by simp⟩
    | true =>
      simp only [Bool.not_true, Bool.false_eq_true, if_false]
      obtain ⟨h3, h4⟩ := hl l ih (deep + 1) (c + 1) (by omega)
      refine ⟨fun h => ⟨by have := (h3 h).1; omega, (h3 h).2⟩, ?_⟩
      rw [h4, show 31 - (deep + 1) = 31 - deep - 1 by omega, show c + 1 + sizes l = c + (1 + sizes l) by omega]
      simp [hd]
theorem scan_valid (t : Tm) : (scanT 1 t 0).1 = t.valid := by
  have := (scan_spec t 1 0 (by omega)).2
  rw [this, Tm.valid]
  simp
end Go.Proofs.YtbblefjbgbocoaaGreatDoor

/-
  TermValid: the functions of the program and of the reference.
  Conditions: none.
-/
open Go Go.AM Go.Proofs
namespace Go.Proofs.YtbblefjbgbocoaaGreatDoor
open Go.ChangeShapes Go.WideShapes Go.ChangeAt Go.RowKit
set_option linter.unusedVariables false
set_option linter.unusedSimpArgs false
set_option maxRecDepth 100000
-- 119 loop.example/prologserver/impl.scan params 3 ntmps 76
def ac119 : Cd := .seq (.region [⟨(some 3),.box (.t 0),none⟩,
 ⟨(some 4),.box (.t 1),none⟩,
 ⟨(some 5),.box (.t 2),none⟩,
 ⟨(some 6),.mv (.k (.c (.d (.bool false)))),none⟩] [0,1,2,6])
 (.seq (.region [⟨(some 7),.load none (.t 5),none⟩,
 ⟨(some 8),.nilCheck (.t 7),none⟩,
 ⟨(some 9),.load none (.t 8),none⟩,
 ⟨(some 10),.bin .add (.t 9) (.k (.c (.d (.int .i64 1)))),none⟩,
 ⟨(some 11),.nilCheck (.t 7),none⟩,
 ⟨none,.store 1 (.t 11) (.t 10),none⟩] [7,8,9,10,11])
 (.seq (.seq (.region [⟨(some 12),.load none (.t 5),none⟩,
 ⟨(some 13),.nilCheck (.t 12),none⟩,
 ⟨(some 14),.load none (.t 13),none⟩,
 ⟨(some 15),.bin .gtr (.t 14) (.k (.c (.d (.int .i64 120)))),none⟩,
 ⟨(some 16),.mv (.t 15),none⟩,
 ⟨(some 17),.load none (.t 4),some (16,false)⟩,
 ⟨(some 18),.bin .gtr (.t 17) (.k (.c (.d (.int .i64 30)))),some (16,false)⟩,
 ⟨(some 19),.pick (.t 16) (.k (.c (.d (.bool true)))) (.t 18),none⟩] [12,13,14,15,16,17,18])
 (.cond (.t 19)
 (.seq (.region [⟨(some 6),.mv (.k (.c (.d (.bool false)))),none⟩] [3,4,5,19])
 (.ret))
 (.skip)))
 (.seq (.seq (.region [⟨(some 20),.fieldAddr 0 (.t 3),none⟩,
 ⟨(some 21),.load none (.t 20),none⟩] [6,19,20])
 (.block 0 (.seq (.region [⟨(some 23),.bin .eql (.t 21) (.k (.c (.d (.int .i64 1)))),none⟩,
 ⟨(some 22),.mv (.t 23),none⟩] [23])
 (.cond (.t 22)
 (.seq (.region [⟨(some 24),.fieldAddr 1 (.t 3),none⟩,
 ⟨(some 25),.load none (.t 24),none⟩,
 ⟨(some 26),.qcall 45 [(.t 25),(.k (.c (.d (.int .i64 0)))),(.k (.c (.d (.int .i64 25))))],none⟩,
 ⟨(some 27),.mv (.t 26),none⟩,
 ⟨(some 28),.fieldAddr 2 (.t 3),some (27,true)⟩,
 ⟨(some 29),.load none (.t 28),some (27,true)⟩,
 ⟨(some 30),.bin .eql (.t 29) (.k (.c (.d (.str [])))),some (27,true)⟩,
 ⟨(some 31),.pick (.t 27) (.t 30) (.k (.c (.d (.bool false)))),none⟩,
 ⟨(some 32),.mv (.t 31),none⟩,
 ⟨(some 33),.fieldAddr 3 (.t 3),some (32,true)⟩,
 ⟨(some 34),.load none (.t 33),some (32,true)⟩,
 ⟨(some 35),.len 1 (.t 34),some (32,true)⟩,
 ⟨(some 36),.bin .eql (.t 35) (.k (.c (.d (.int .i64 0)))),some (32,true)⟩,
 ⟨(some 37),.pick (.t 32) (.t 36) (.k (.c (.d (.bool false)))),none⟩,
 ⟨(some 6),.mv (.t 37),none⟩] [3,4,5,21,22,24,25,26,27,28,29,30,31,32,33,34,35,36,37])
 (.ret))
 (.seq (.region [⟨(some 39),.bin .eql (.t 21) (.k (.c (.d (.int .i64 2)))),none⟩,
 ⟨(some 38),.mv (.t 39),none⟩] [22,39])
 (.cond (.t 38)
 (.seq (.region [⟨(some 40),.fieldAddr 1 (.t 3),none⟩,
 ⟨(some 41),.load none (.t 40),none⟩,
 ⟨(some 42),.qcall 45 [(.t 41),(.k (.c (.d (.int .i64 (-999))))),(.k (.c (.d (.int .i64 999))))],none⟩,
 ⟨(some 43),.mv (.t 42),none⟩,
 ⟨(some 44),.fieldAddr 2 (.t 3),some (43,true)⟩,
 ⟨(some 45),.load none (.t 44),some (43,true)⟩,
 ⟨(some 46),.bin .eql (.t 45) (.k (.c (.d (.str [])))),some (43,true)⟩,
 ⟨(some 47),.pick (.t 43) (.t 46) (.k (.c (.d (.bool false)))),none⟩,
 ⟨(some 48),.mv (.t 47),none⟩,
 ⟨(some 49),.fieldAddr 3 (.t 3),some (48,true)⟩,
 ⟨(some 50),.load none (.t 49),some (48,true)⟩,
 ⟨(some 51),.len 1 (.t 50),some (48,true)⟩,
 ⟨(some 52),.bin .eql (.t 51) (.k (.c (.d (.int .i64 0)))),some (48,true)⟩,
 ⟨(some 53),.pick (.t 48) (.t 52) (.k (.c (.d (.bool false)))),none⟩,
 ⟨(some 6),.mv (.t 53),none⟩] [3,4,5,21,38,40,41,42,43,44,45,46,47,48,49,50,51,52,53])
 (.ret))
 (.seq (.region [⟨(some 55),.bin .eql (.t 21) (.k (.c (.d (.int .i64 3)))),none⟩,
 ⟨(some 54),.mv (.t 55),none⟩] [21,38,55])
 (.cond (.t 54)
 (.seq (.seq (.region [⟨(some 56),.fieldAddr 1 (.t 3),none⟩,
 ⟨(some 57),.load none (.t 56),none⟩,
 ⟨(some 58),.bin .neq (.t 57) (.k (.c (.d (.int .i64 0)))),none⟩,
 ⟨(some 59),.mv (.t 58),none⟩,
 ⟨(some 60),.fieldAddr 2 (.t 3),some (59,false)⟩,
 ⟨(some 61),.load none (.t 60),some (59,false)⟩,
 ⟨(some 62),.qcall 46 [(.t 61)],some (59,false)⟩,
 ⟨(some 63),.un .not (.t 62),some (59,false)⟩,
 ⟨(some 64),.pick (.t 59) (.k (.c (.d (.bool true)))) (.t 63),none⟩,
 ⟨(some 65),.mv (.t 64),none⟩,
 ⟨(some 66),.fieldAddr 3 (.t 3),some (65,false)⟩,
 ⟨(some 67),.load none (.t 66),some (65,false)⟩,
 ⟨(some 68),.len 1 (.t 67),some (65,false)⟩,
 ⟨(some 69),.bin .gtr (.t 68) (.k (.c (.d (.int .i64 4)))),some (65,false)⟩,
 ⟨(some 70),.pick (.t 65) (.k (.c (.d (.bool true)))) (.t 69),none⟩] [54,56,57,58,59,60,61,62,63,64,65,66,67,68,69])
 (.cond (.t 70)
 (.seq (.region [⟨(some 6),.mv (.k (.c (.d (.bool false)))),none⟩] [3,4,5,70])
 (.ret))
 (.skip)))
 (.seq (.region [⟨(some 71),.fieldAddr 3 (.t 3),none⟩,
 ⟨(some 72),.load none (.t 71),none⟩,
 ⟨(some 73),.mkFunc 175 [(.t 4),(.t 5)],none⟩,
 ⟨(some 74),.call false 115 [(.t 72),(.t 73)],none⟩,
 ⟨(some 75),.un .not (.t 74),none⟩,
 ⟨(some 6),.mv (.t 75),none⟩] [3,4,5,70,71,72,73,74,75])
 (.ret)))
 (.skip)))))))))
 (.seq (.region [⟨(some 6),.mv (.k (.c (.d (.bool false)))),none⟩] [3,4,5,54])
 (.ret)))))
theorem ac119_ok : cFunc Tryz.prog [1000045,1000046] [(0,[0,1,2,6],[]),(1,[7,8,9,10,11],[]),(2,[12,13,14,15,16,17,18],[]),(3,[3,4,5,19],[]),(4,[6,19,20],[]),(5,[23],[]),(6,[3,4,5,21,22,24,25,26,27,28,29,30,31,32,33,34,35,36,37],[]),(7,[22,39],[]),(8,[3,4,5,21,38,40,41,42,43,44,45,46,47,48,49,50,51,52,53],[]),(9,[21,38,55],[]),(10,[54,56,57,58,59,60,61,62,63,64,65,66,67,68,69],[]),(11,[3,4,5,70],[]),(12,[3,4,5,70,71,72,73,74,75],[]),(13,[3,4,5,54],[])] Tryz.f119 = some (ac119,[.tmp 6],76) := by kernel_rfl
-- 175 loop.example/prologserver/impl.scan$1 params 1 ntmps 11
def ac175 : Cd := .seq (.region [⟨(some 3),.box (.t 0),none⟩,
 ⟨(some 4),.mv (.k (.c (.d (.bool false)))),none⟩] [0,4])
 (.seq (.region [⟨(some 5),.load (some 4) (.t 3),none⟩,
 ⟨(some 6),.load none (.t 1),none⟩,
 ⟨(some 7),.bin .add (.t 6) (.k (.c (.d (.int .i64 1)))),none⟩,
 ⟨(some 8),.load none (.t 2),none⟩,
 ⟨(some 9),.call false 119 [(.t 5),(.t 7),(.t 8)],none⟩,
 ⟨(some 10),.un .not (.t 9),none⟩,
 ⟨(some 4),.mv (.t 10),none⟩] [3,5,6,7,8,9,10])
 (.ret))
theorem ac175_ok : cFunc Tryz.prog [] [(0,[0,4],[]),(1,[3,5,6,7,8,9,10],[])] Tryz.f175 = some (ac175,[.tmp 4],11) := by kernel_rfl
-- 70 loop.example/prologserver/impl.TermValid params 1 ntmps 6
def ac70 : Cd := .seq (.region [⟨(some 1),.box (.t 0),none⟩,
 ⟨(some 2),.mv (.k (.c (.d (.bool false)))),none⟩] [0,2])
 (.seq (.region [⟨(some 3),.alloc [(.d (.int .i64 0))],none⟩,
 ⟨none,.store 1 (.t 3) (.k (.c (.d (.int .i64 0)))),none⟩] [])
 (.seq (.region [⟨(some 4),.load (some 4) (.t 1),none⟩,
 ⟨(some 5),.call false 119 [(.t 4),(.k (.c (.d (.int .i64 1)))),(.t 3)],none⟩,
 ⟨(some 2),.mv (.t 5),none⟩] [1,3,4,5])
 (.ret)))
theorem ac70_ok : cFunc Tryz.prog [] [(0,[0,2],[]),(1,[],[]),(2,[1,3,4,5],[])] Tryz.f70 = some (ac70,[.tmp 2],6) := by kernel_rfl
-- 181 loop.example/prologserver/spec.l1Own params 1 ntmps 63
def ac181 : Cd := .seq (.region [⟨(some 1),.box (.t 0),none⟩,
 ⟨(some 2),.mv (.k (.c (.d (.bool false)))),none⟩] [0,2])
 (.seq (.seq (.region [⟨(some 3),.fieldAddr 0 (.t 1),none⟩,
 ⟨(some 4),.load none (.t 3),none⟩] [3])
 (.block 0 (.seq (.region [⟨(some 6),.bin .eql (.t 4) (.k (.c (.d (.int .i64 1)))),none⟩,
 ⟨(some 5),.mv (.t 6),none⟩] [6])
 (.cond (.t 5)
 (.seq (.region [⟨(some 7),.fieldAddr 1 (.t 1),none⟩,
 ⟨(some 8),.load none (.t 7),none⟩,
 ⟨(some 9),.bin .geq (.t 8) (.k (.c (.d (.int .i64 0)))),none⟩,
 ⟨(some 10),.mv (.t 9),none⟩,
 ⟨(some 11),.fieldAddr 1 (.t 1),some (10,true)⟩,
 ⟨(some 12),.load none (.t 11),some (10,true)⟩,
 ⟨(some 13),.bin .leq (.t 12) (.k (.c (.d (.int .i64 25)))),some (10,true)⟩,
 ⟨(some 14),.pick (.t 10) (.t 13) (.k (.c (.d (.bool false)))),none⟩,
 ⟨(some 15),.mv (.t 14),none⟩,
 ⟨(some 16),.fieldAddr 2 (.t 1),some (15,true)⟩,
 ⟨(some 17),.load none (.t 16),some (15,true)⟩,
 ⟨(some 18),.bin .eql (.t 17) (.k (.c (.d (.str [])))),some (15,true)⟩,
 ⟨(some 19),.pick (.t 15) (.t 18) (.k (.c (.d (.bool false)))),none⟩,
 ⟨(some 20),.mv (.t 19),none⟩,
 ⟨(some 21),.fieldAddr 3 (.t 1),some (20,true)⟩,
 ⟨(some 22),.load none (.t 21),some (20,true)⟩,
 ⟨(some 23),.len 1 (.t 22),some (20,true)⟩,
 ⟨(some 24),.bin .eql (.t 23) (.k (.c (.d (.int .i64 0)))),some (20,true)⟩,
 ⟨(some 25),.pick (.t 20) (.t 24) (.k (.c (.d (.bool false)))),none⟩,
 ⟨(some 2),.mv (.t 25),none⟩] [1,4,5,7,8,9,10,11,12,13,14,15,16,17,18,19,20,21,22,23,24,25])
 (.ret))
 (.seq (.region [⟨(some 27),.bin .eql (.t 4) (.k (.c (.d (.int .i64 2)))),none⟩,
 ⟨(some 26),.mv (.t 27),none⟩] [5,27])
 (.cond (.t 26)
 (.seq (.region [⟨(some 28),.fieldAddr 1 (.t 1),none⟩,
 ⟨(some 29),.load none (.t 28),none⟩,
 ⟨(some 30),.bin .geq (.t 29) (.k (.c (.d (.int .i64 (-999))))),none⟩,
 ⟨(some 31),.mv (.t 30),none⟩,
 ⟨(some 32),.fieldAddr 1 (.t 1),some (31,true)⟩,
 ⟨(some 33),.load none (.t 32),some (31,true)⟩,
 ⟨(some 34),.bin .leq (.t 33) (.k (.c (.d (.int .i64 999)))),some (31,true)⟩,
 ⟨(some 35),.pick (.t 31) (.t 34) (.k (.c (.d (.bool false)))),none⟩,
 ⟨(some 36),.mv (.t 35),none⟩,
 ⟨(some 37),.fieldAddr 2 (.t 1),some (36,true)⟩,
 ⟨(some 38),.load none (.t 37),some (36,true)⟩,
 ⟨(some 39),.bin .eql (.t 38) (.k (.c (.d (.str [])))),some (36,true)⟩,
 ⟨(some 40),.pick (.t 36) (.t 39) (.k (.c (.d (.bool false)))),none⟩,
 ⟨(some 41),.mv (.t 40),none⟩,
 ⟨(some 42),.fieldAddr 3 (.t 1),some (41,true)⟩,
 ⟨(some 43),.load none (.t 42),some (41,true)⟩,
 ⟨(some 44),.len 1 (.t 43),some (41,true)⟩,
 ⟨(some 45),.bin .eql (.t 44) (.k (.c (.d (.int .i64 0)))),some (41,true)⟩,
 ⟨(some 46),.pick (.t 41) (.t 45) (.k (.c (.d (.bool false)))),none⟩,
 ⟨(some 2),.mv (.t 46),none⟩] [1,4,26,28,29,30,31,32,33,34,35,36,37,38,39,40,41,42,43,44,45,46])
 (.ret))
 (.seq (.region [⟨(some 48),.bin .eql (.t 4) (.k (.c (.d (.int .i64 3)))),none⟩,
 ⟨(some 47),.mv (.t 48),none⟩] [4,26,48])
 (.cond (.t 47)
 (.seq (.region [⟨(some 49),.fieldAddr 1 (.t 1),none⟩,
 ⟨(some 50),.load none (.t 49),none⟩,
 ⟨(some 51),.bin .eql (.t 50) (.k (.c (.d (.int .i64 0)))),none⟩,
 ⟨(some 52),.mv (.t 51),none⟩,
 ⟨(some 53),.fieldAddr 2 (.t 1),some (52,true)⟩,
 ⟨(some 54),.load none (.t 53),some (52,true)⟩,
 ⟨(some 55),.qcall 104 [(.t 54)],some (52,true)⟩,
 ⟨(some 56),.pick (.t 52) (.t 55) (.k (.c (.d (.bool false)))),none⟩,
 ⟨(some 57),.mv (.t 56),none⟩,
 ⟨(some 58),.fieldAddr 3 (.t 1),some (57,true)⟩,
 ⟨(some 59),.load none (.t 58),some (57,true)⟩,
 ⟨(some 60),.len 1 (.t 59),some (57,true)⟩,
 ⟨(some 61),.bin .leq (.t 60) (.k (.c (.d (.int .i64 4)))),some (57,true)⟩,
 ⟨(some 62),.pick (.t 57) (.t 61) (.k (.c (.d (.bool false)))),none⟩,
 ⟨(some 2),.mv (.t 62),none⟩] [1,47,49,50,51,52,53,54,55,56,57,58,59,60,61,62])
 (.ret))
 (.skip)))))))))
 (.seq (.region [⟨(some 2),.mv (.k (.c (.d (.bool false)))),none⟩] [1,47])
 (.ret)))
theorem ac181_ok : cFunc Tryz.prog [1000104] [(0,[0,2],[]),(1,[3],[]),(2,[6],[]),(3,[1,4,5,7,8,9,10,11,12,13,14,15,16,17,18,19,20,21,22,23,24,25],[]),(4,[5,27],[]),(5,[1,4,26,28,29,30,31,32,33,34,35,36,37,38,39,40,41,42,43,44,45,46],[]),(6,[4,26,48],[]),(7,[1,47,49,50,51,52,53,54,55,56,57,58,59,60,61,62],[]),(8,[1,47],[])] Tryz.f181 = some (ac181,[.tmp 2],63) := by kernel_rfl
-- 135 loop.example/prologserver/spec.l1Shape params 2 ntmps 29
-- loop head live: [1,2,5]
def ac135 : Cd := .seq (.region [⟨(some 2),.box (.t 0),none⟩,
 ⟨(some 4),.mv (.k (.c (.d (.bool false)))),none⟩] [0,4])
 (.seq (.seq (.region [⟨(some 6),.mv (.t 1),none⟩,
 ⟨(some 7),.bin .lss (.t 6) (.k (.c (.d (.int .i64 1)))),none⟩,
 ⟨(some 8),.mv (.t 7),none⟩,
 ⟨(some 9),.load (some 4) (.t 2),some (8,false)⟩,
 ⟨(some 10),.qcall 181 [(.t 9)],some (8,false)⟩,
 ⟨(some 11),.un .not (.t 10),some (8,false)⟩,
 ⟨(some 12),.pick (.t 8) (.k (.c (.d (.bool true)))) (.t 11),none⟩] [6,7,8,9,10,11])
 (.cond (.t 12)
 (.seq (.region [⟨(some 4),.mv (.k (.c (.d (.bool false)))),none⟩] [1,2,12])
 (.ret))
 (.skip)))
 (.seq (.seq (.region [⟨(some 5),.mv (.k (.c (.d (.int .i64 0)))),none⟩] [4,12])
 (.block 0 (.loop (.seq (.seq (.region [⟨(some 13),.mv (.t 5),none⟩,
 ⟨(some 14),.fieldAddr 3 (.t 2),none⟩,
 ⟨(some 15),.load none (.t 14),none⟩,
 ⟨(some 16),.len 1 (.t 15),none⟩,
 ⟨(some 17),.bin .lss (.t 13) (.t 16),none⟩] [13,14,15,16])
 (.cond (.t 17)
 (.skip)
 (.exit 0)))
 (.seq (.block 1 (.seq (.region [⟨(some 20),.fieldAddr 3 (.t 2),none⟩,
 ⟨(some 21),.load none (.t 20),none⟩,
 ⟨(some 22),.mv (.t 5),none⟩,
 ⟨(some 23),.indexAddr 4 (.t 21) (.t 22),none⟩,
 ⟨(some 24),.load (some 4) (.t 23),none⟩,
 ⟨(some 25),.mv (.t 1),none⟩,
 ⟨(some 26),.bin .sub (.t 25) (.k (.c (.d (.int .i64 1)))),none⟩,
 ⟨(some 27),.qcall 135 [(.t 24),(.t 26)],none⟩,
 ⟨(some 28),.un .not (.t 27),none⟩] [17,20,21,22,23,24,25,26,27])
 (.cond (.t 28)
 (.seq (.region [⟨(some 4),.mv (.k (.c (.d (.bool false)))),none⟩] [1,2,5,28])
 (.ret))
 (.skip))))
 (.region [⟨(some 18),.mv (.t 5),none⟩,
 ⟨(some 19),.bin .add (.t 18) (.k (.c (.d (.int .i64 1)))),none⟩,
 ⟨(some 5),.mv (.t 19),none⟩] [4,18,19,28]))))))
 (.seq (.region [⟨(some 4),.mv (.k (.c (.d (.bool true)))),none⟩] [])
 (.ret))))
theorem ac135_ok : cFunc Tryz.prog [1000135,1000181] [(0,[0,4],[]),(1,[6,7,8,9,10,11],[]),(2,[1,2,12],[]),(3,[4,12],[]),(4,[13,14,15,16],[]),(6,[17,20,21,22,23,24,25,26,27],[]),(7,[1,2,5,28],[]),(5,[4,18,19,28],[]),(8,[],[])] Tryz.f135 = some (ac135,[.tmp 4],29) := by kernel_rfl
-- 136 loop.example/prologserver/spec.l1Count params 2 ntmps 31
-- loop head live: [1,2,5,6]
def ac136 : Cd := .seq (.region [⟨(some 2),.box (.t 0),none⟩,
 ⟨(some 4),.mv (.k (.c (.d (.int .i64 0)))),none⟩] [0,4])
 (.seq (.region [⟨(some 5),.mv (.k (.c (.d (.int .i64 1)))),none⟩] [])
 (.seq (.seq (.region [⟨(some 6),.mv (.k (.c (.d (.int .i64 0)))),none⟩] [])
 (.block 0 (.loop (.seq (.seq (.region [⟨(some 7),.mv (.t 6),none⟩,
 ⟨(some 8),.fieldAddr 3 (.t 2),none⟩,
 ⟨(some 9),.load none (.t 8),none⟩,
 ⟨(some 10),.len 1 (.t 9),none⟩,
 ⟨(some 11),.bin .lss (.t 7) (.t 10),none⟩,
 ⟨(some 12),.mv (.t 11),none⟩,
 ⟨(some 13),.mv (.t 5),some (12,true)⟩,
 ⟨(some 14),.mv (.t 1),some (12,true)⟩,
 ⟨(some 15),.bin .leq (.t 13) (.t 14),some (12,true)⟩,
 ⟨(some 16),.pick (.t 12) (.t 15) (.k (.c (.d (.bool false)))),none⟩] [7,8,9,10,11,12,13,14,15])
 (.cond (.t 16)
 (.skip)
 (.exit 0)))
 (.seq (.block 1 (.region [⟨(some 19),.mv (.t 5),none⟩,
 ⟨(some 20),.fieldAddr 3 (.t 2),none⟩,
 ⟨(some 21),.load none (.t 20),none⟩,
 ⟨(some 22),.mv (.t 6),none⟩,
 ⟨(some 23),.indexAddr 4 (.t 21) (.t 22),none⟩,
 ⟨(some 24),.load (some 4) (.t 23),none⟩,
 ⟨(some 25),.mv (.t 1),none⟩,
 ⟨(some 26),.mv (.t 5),none⟩,
 ⟨(some 27),.bin .sub (.t 25) (.t 26),none⟩,
 ⟨(some 28),.qcall 136 [(.t 24),(.t 27)],none⟩,
 ⟨(some 29),.bin .add (.t 19) (.t 28),none⟩,
 ⟨(some 5),.mv (.t 29),none⟩] [16,19,20,21,22,23,24,25,26,27,28,29]))
 (.region [⟨(some 17),.mv (.t 6),none⟩,
 ⟨(some 18),.bin .add (.t 17) (.k (.c (.d (.int .i64 1)))),none⟩,
 ⟨(some 6),.mv (.t 18),none⟩] [17,18]))))))
 (.seq (.region [⟨(some 30),.mv (.t 5),none⟩,
 ⟨(some 4),.mv (.t 30),none⟩] [5,30])
 (.ret))))
theorem ac136_ok : cFunc Tryz.prog [1000136] [(0,[0,4],[]),(1,[],[]),(2,[],[]),(3,[7,8,9,10,11,12,13,14,15],[]),(5,[16,19,20,21,22,23,24,25,26,27,28,29],[]),(4,[17,18],[]),(6,[5,30],[])] Tryz.f136 = some (ac136,[.tmp 4],31) := by kernel_rfl
-- 80 loop.example/prologserver/spec.TermValid params 1 ntmps 10
def ac80 : Cd := .seq (.region [⟨(some 1),.box (.t 0),none⟩,
 ⟨(some 2),.mv (.k (.c (.d (.bool false)))),none⟩] [0,2])
 (.seq (.region [⟨(some 3),.load (some 4) (.t 1),none⟩,
 ⟨(some 4),.qcall 135 [(.t 3),(.k (.c (.d (.int .i64 30))))],none⟩,
 ⟨(some 5),.mv (.t 4),none⟩,
 ⟨(some 6),.load (some 4) (.t 1),some (5,true)⟩,
 ⟨(some 7),.qcall 136 [(.t 6),(.k (.c (.d (.int .i64 120))))],some (5,true)⟩,
 ⟨(some 8),.bin .leq (.t 7) (.k (.c (.d (.int .i64 120)))),some (5,true)⟩,
 ⟨(some 9),.pick (.t 5) (.t 8) (.k (.c (.d (.bool false)))),none⟩,
 ⟨(some 2),.mv (.t 9),none⟩] [1,3,4,5,6,7,8,9])
 (.ret))
theorem ac80_ok : cFunc Tryz.prog [1000135,1000136] [(0,[0,2],[]),(1,[1,3,4,5,6,7,8,9],[])] Tryz.f80 = some (ac80,[.tmp 2],10) := by kernel_rfl
def Cn (c : Nat) : Ob := .cells [.d (.int .i64 c)]
def ScanOk (t : Tm) : Prop := ∀ (deep c : Nat) (H : Heap) (i : Nat), deep ≤ 31 → c ≤ 120 → i < H.length →
  ACalls Tryz.prog 119 [.agg (t.row.map .d), .c (.d (.int .i64 deep)), .c (.ptr (.e i) 0)] (H.set i (Cn c)) (fun r H' => r = .c (.d (.bool (scanT deep t c).1)) ∧ H' = H.set i (Cn (scanT deep t c).2))
theorem anyS_scan (d : Nat) : ∀ (l : List Tm) (c : Nat), anyS (fun c t => (!(scanT d t c).1, (scanT d t c).2)) l c = (!(scanL d l c).1, (scanL d l c).2)
  | [], _ => rfl
  | t :: l, c => by
    rw [anyS, scanL]
    cases h : (scanT d t c).1 with
    | true => simp [anyS_scan d l]
    | false => simp
def scanHeap (H : Heap) (i deep : Nat) (x : Ob) (c : Nat) : Heap := H.set i (Cn c) ++ [x, .cells [.d (.int .i64 deep)], .cells [.ptr (.e i) 0]]
theorem scan1_calls (t : Tm) (h : ScanOk t) (deep c : Nat) (H : Heap) (i : Nat) (x : Ob) (hd : deep ≤ 30) (hc : c ≤ 120) (hi : i < H.length) (hfit : ∀ c, Obs.fits (H.length + 3) 0 (scanHeap H i deep x c)) :
    ACalls Tryz.prog 175 [.agg (t.row.map .d), .c (.ptr (.e (H.length + 1)) 0), .c (.ptr (.e (H.length + 2)) 0)] (scanHeap H i deep x c) (fun r H' => r = .c (.d (.bool (!(scanT (deep + 1) t c).1))) ∧ H' = scanHeap H i deep x (scanT (deep + 1) t c).2) := by
  refine acalls Tryz.func175 (by kernel_rfl) ac175_ok fun hf => ?_
  have hlen : ∀ c, (scanHeap H i deep x c).length = H.length + 3 := fun c => by simp [scanHeap]
  have g1 : (scanHeap H i deep x c)[H.length + 1]? = some (.cells [.d (.int .i64 deep)]) := by
    rw [scanHeap, List.getElem?_append_right (by simp)]; simp
  have g2 : (scanHeap H i deep x c)[H.length + 2]? = some (.cells [.ptr (.e i) 0]) := by
    rw [scanHeap, List.getElem?_append_right (by simp)]; simp
  have hadd : inR .i64 ((deep : Int) + 1) := small_i64 (by omega) (by omega)
  simp -implicitDefEqProofs [ac175, g1, g2, hadd, row_len, take_row, go_sem, -List.set_cons_succ, -List.set_cons_zero]
  have hset : ∀ c, (H ++ ([x, .cells [.d (.int .i64 deep)], .cells [.ptr (.e i) 0]] ++ [Ob.cells (t.row.map C.d)])).set i (Cn c) = scanHeap H i deep x c ++ [Ob.cells (t.row.map C.d)] := fun c => by
    rw [List.set_append_left _ _ hi, scanHeap, List.append_assoc]
  have h2 := h (deep + 1) c (H ++ ([x, .cells [.d (.int .i64 deep)], .cells [.ptr (.e i) 0]] ++ [Ob.cells (t.row.map C.d)])) i (by omega) hc (by simp; omega)
  rw [hset] at h2
  simp -implicitDefEqProofs [pure_d, re_d, Ref.re, go_sem, -List.set_cons_succ, -List.set_cons_zero]
  refine h2.mono fun r H' ⟨h3, h4⟩ => ⟨scanHeap H i deep x (scanT (deep + 1) t c).2, [Ob.cells (t.row.map C.d)], .c (.d (.bool (scanT (deep + 1) t c).1)), ?_, ?_, Nat.le_refl _, ?_, h3, ?_⟩
  · rw [h4, hset]; simp [Ob.re, re_d]
  · simp only [hlen]
  · simp only [hlen]; exact hfit _
  · simp -implicitDefEqProofs [go_sem, -List.set_cons_succ, -List.set_cons_zero]
theorem scanT_bad {deep c : Nat} {t : Tm} (h : 120 < c + 1 ∨ 30 < deep) : scanT deep t c = (false, c + 1) := by
  obtain ⟨k, n, s, l⟩ := t
  rw [scanT, if_pos h]
theorem scanT_own {deep c : Nat} {t : Tm} (h1 : c + 1 ≤ 120) (h2 : deep ≤ 30) (h : t.ownB = false) : scanT deep t c = (false, c + 1) := by
  obtain ⟨k, n, s, l⟩ := t
  rw [scanT, if_neg (by omega), h]; rfl
theorem scanT_go {deep c : Nat} {t : Tm} (h1 : c + 1 ≤ 120) (h2 : deep ≤ 30) (h : t.ownB = true) : scanT deep t c = scanL (deep + 1) t.kids (c + 1) := by
  obtain ⟨k, n, s, l⟩ := t
  rw [scanT, if_neg (by omega), h]; rfl
theorem scanT_leaf {deep c : Nat} {k n : Int} {s : List UInt8} {l : List Tm} (h1 : c + 1 ≤ 120) (h2 : deep ≤ 30) (h : k ≠ 3) : scanT deep (.mk k n s l) c = ((Tm.mk k n s l).ownB, c + 1) := by
  cases ho : (Tm.mk k n s l).ownB with
  | false => exact scanT_own h1 h2 ho
  | true =>
    rw [scanT_go h1 h2 ho, Tm.kids, own_leaf h ho]
    rfl
theorem scan_calls : ∀ t : Tm, t.fits → ScanOk t := by
  refine Tm.ind fun k n s l ih hfits deep c H i hd hc hi => ?_
  obtain ⟨hk, hn, hs, hl, hkids⟩ := hfits
  refine acalls Tryz.func119 (by kernel_rfl) ac119_ok fun hf => ?_
  simp only [List.length_set] at hf
  have hadd : inR .i64 ((c : Int) + 1) := small_i64 (by omega) (by omega)
  have hli : inR .i64 (l.length : Int) := small_i64 (by omega) (by omega)
  have hf1 : Obs.fits H.length 0 (H.set i (.cells [.d (.int .i64 ((c : Int) + 1))])) := fits_reset hf ⟨trivial, trivial⟩
  simp -implicitDefEqProofs [ac119, Cn, row_mk, hadd, hi, hf1, hli, List.getElem?_set, go_sem, -List.set_cons_succ, -List.set_cons_zero]
  have done : ∀ b : Bool, scanT deep (.mk k n s l) c = (b, c + 1) → b = (scanT deep (.mk k n s l) c).1 ∧ H.set i (Ob.cells [C.d (D.int IntKind.i64 ((c : Int) + 1))]) = H.set i (Ob.cells [C.d (D.int IntKind.i64 ((scanT deep (.mk k n s l) c).2 : Nat))]) := fun b h => by rw [h]; exact ⟨rfl, rfl⟩
  refine ⟨fun h => ?_, fun h1 h2 => ⟨fun k1 => ?_, fun k1 => ⟨fun k2 => ?_, fun k2 => ⟨fun k3 => ⟨fun n0 => ⟨n0, ?_⟩, fun n0 => ?_⟩, fun k3 => ?_⟩⟩⟩⟩
  · have := done false (scanT_bad (by omega))
    exact ⟨this.1.symm, this.2⟩
  · subst k1
    refine qcall_pure (within_calls n 0 25) (by simpa using hf1) rfl ?_
    have hd := done _ (scanT_leaf (by omega) (by omega) (by omega))
    simp -implicitDefEqProofs [hi, hli, isEmpty_len, List.getElem?_set, go_sem, -List.set_cons_succ, -List.set_cons_zero]
    rw [← hd.1]
    refine ⟨?_, hd.2⟩
    simp [Tm.ownB]
  · subst k2
    refine qcall_pure (within_calls n (-999) 999) (by simpa using hf1) rfl ?_
    have hd := done _ (scanT_leaf (by omega) (by omega) (by omega))
    simp -implicitDefEqProofs [hi, hli, isEmpty_len, List.getElem?_set, go_sem, -List.set_cons_succ, -List.set_cons_zero]
    rw [← hd.1]
    refine ⟨?_, hd.2⟩
    simp [Tm.ownB]
  · subst n0 k3
    refine qcall_pure (nvImpl_calls s (by omega)) (by simpa using hf1) rfl ?_
    cases hnm : nameB s with
    | false =>
      have hd := done _ (scanT_own (by omega) (by omega) (by simp [Tm.ownB, hnm]))
      simp -implicitDefEqProofs [hnm, hi, hli, List.getElem?_set, go_sem, -List.set_cons_succ, -List.set_cons_zero]
      exact ⟨hd.1.symm, hd.2⟩
    | true =>
      by_cases h4 : 4 < l.length
      · have h4' : ¬ l.length ≤ 4 := by omega
        have hd := done _ (scanT_own (by omega) (by omega) (by simp [Tm.ownB, hnm, h4']))
        simp -implicitDefEqProofs [hnm, hi, hli, h4, List.getElem?_set, go_sem, -List.set_cons_succ, -List.set_cons_zero]
        exact ⟨fun _ => ⟨hd.1.symm, hd.2⟩, fun h => by omega⟩
      · have h4' : l.length ≤ 4 := by omega
        have hgo := scanT_go (t := .mk 3 0 s l) (show c + 1 ≤ 120 by omega) (show deep ≤ 30 by omega) (by simp [Tm.ownB, hnm, h4'])
        simp -implicitDefEqProofs [hnm, hi, hli, h4, List.getElem?_set, go_sem, -List.set_cons_succ, -List.set_cons_zero]
        refine ⟨fun h => by omega, fun _ => ?_⟩
        have hfit : ∀ c, Obs.fits (H.length + 3) 0 (scanHeap H i deep (Ob.cells [C.d (D.int IntKind.i64 3), C.d (D.int IntKind.i64 0), C.d (D.str s), C.d (D.sl (List.map Tm.row l))]) c) := fun c =>
          fits_append (fits_mono (by omega) (fits_reset (b := Cn c) hf ⟨trivial, trivial⟩)) ⟨⟨trivial, trivial, trivial, trivial, trivial⟩, ⟨trivial, trivial⟩, ⟨by show i < H.length + 3 + 0; omega, trivial⟩, trivial⟩
        have con := tmF_con (fun c => scanHeap H i deep (Ob.cells [C.d (D.int IntKind.i64 3), C.d (D.int IntKind.i64 0), C.d (D.str s), C.d (D.sl (List.map Tm.row l))]) c) (H.length + 3) (fun c => by simp [scanHeap]) hfit 175 [(H.length + 1, 0), (H.length + 2, 0)]
          (fun c t => (!(scanT (deep + 1) t c).1, (scanT (deep + 1) t c).2)) (fun c => c ≤ 120) l (by omega) (fun c hc t ht => scan1_calls t (ih t ht (hkids t ht)) deep c H i _ (by omega) hc hi hfit)
          (fun c hc t ht h => ((scan_spec t (deep + 1) c hc).1 (by simpa using h)).2) (c + 1) (by omega)
        rw [anyS_scan] at con
        simp only [Tm.kids] at hgo
        rw [← hgo] at con
        refine con.mono fun r H' ⟨h5, h6⟩ => ⟨H.set i (Cn (scanT deep (Tm.mk 3 0 s l) c).2), [Ob.cells [C.d (D.int IntKind.i64 3), C.d (D.int IntKind.i64 0), C.d (D.str s), C.d (D.sl (List.map Tm.row l))], Ob.cells [C.d (D.int IntKind.i64 deep)], Ob.cells [C.ptr (.e i) 0]], .c (.d (.bool (!(scanT deep (Tm.mk 3 0 s l) c).1))), by rw [h6]; rfl, by simp, Nat.le_refl _, by simpa using fits_reset (b := Cn (scanT deep (Tm.mk 3 0 s l) c).2) hf ⟨trivial, trivial⟩, h5, ?_⟩
        simp -implicitDefEqProofs [go_sem, -List.set_cons_succ, -List.set_cons_zero]
        rfl
  · have := done false (scanT_own (by omega) (by omega) (by simp [Tm.ownB, k3, n0]))
    exact ⟨this.1.symm, this.2⟩
  · have := done false (scanT_own (by omega) (by omega) (by simp [Tm.ownB, k1, k2, k3]))
    exact ⟨this.1.symm, this.2⟩
theorem tvImpl_calls (t : Tm) (ht : t.fits) (H : Heap) : ACalls Tryz.prog 70 [.agg (t.row.map .d)] H (fun r H' => H' = H ∧ r = .c (.d (.bool t.valid))) := by
  refine acalls Tryz.func70 (by kernel_rfl) ac70_ok fun hf => ?_
  simp -implicitDefEqProofs [ac70, hf, row_len, take_row, go_sem, -List.set_cons_succ, -List.set_cons_zero]
  have h := scan_calls t ht 1 0 (H ++ [Ob.cells (t.row.map C.d), Cn 0]) (H.length + 1) (by omega) (by omega) (by simp)
  have hset : ∀ c, (H ++ [Ob.cells (t.row.map C.d), Cn 0]).set (H.length + 1) (Cn c) = H ++ [Ob.cells (t.row.map C.d), Cn c] := fun c => by
    rw [List.set_append_right _ _ (by omega)]; simp
  rw [hset, scan_valid, hset] at h
  simp -implicitDefEqProofs [pure_d, re_d, Ref.re, go_sem, -List.set_cons_succ, -List.set_cons_zero]
  refine h.mono fun r H' ⟨h3, h4⟩ => ⟨H, [Ob.cells (t.row.map C.d), Cn (scanT 1 t 0).2], .c (.d (.bool t.valid)), ?_, rfl, Nat.le_refl _, hf, h3, ?_⟩
  · rw [h4]; simp [Cn, Ob.re, C.re, re_d]
  · simp -implicitDefEqProofs [go_sem, -List.set_cons_succ, -List.set_cons_zero]
theorem sizes_take : ∀ {l : List Tm} {i : Nat} (h : i < l.length), sizes (l.take (i + 1)) = sizes (l.take i) + l[i].size
  | [], i, h => by simp at h
  | t :: l, 0, h => by simp [sizes]
  | t :: l, i + 1, h => by
    have := sizes_take (l := l) (i := i) (by simpa using h)
    simp only [List.take_succ_cons, sizes, List.getElem_cons_succ, this]
    omega
theorem sizes_le : ∀ (l : List Tm) (i : Nat), sizes (l.take i) ≤ sizes l
  | [], i => by simp
  | t :: l, 0 => by simp [sizes]
  | t :: l, i + 1 => by
    have := sizes_le l i
    simp only [List.take_succ_cons, sizes]
    omega
theorem own_calls (t : Tm) (ht : t.fits) (H : Heap) : ACalls Tryz.prog 181 [.agg (t.row.map .d)] H (fun r H' => H' = H ∧ r = .c (.d (.bool t.ownB))) := by
  obtain ⟨k, n, s, l⟩ := t
  obtain ⟨hk, hn, hs, hl, hkids⟩ := ht
  refine acalls Tryz.func181 (by kernel_rfl) ac181_ok fun hf => ?_
  have hli : inR .i64 (l.length : Int) := small_i64 (by omega) (by omega)
  by_cases k1 : k = 1
  · subst k1
    simp -implicitDefEqProofs [ac181, row_mk, hli, Tm.ownB, isEmpty_len, go_sem, -List.set_cons_succ, -List.set_cons_zero]
  · by_cases k2 : k = 2
    · subst k2
      simp -implicitDefEqProofs [ac181, row_mk, hli, Tm.ownB, isEmpty_len, go_sem, -List.set_cons_succ, -List.set_cons_zero]
    · by_cases k3 : k = 3
      · subst k3
        by_cases n0 : n = 0
        · simp -implicitDefEqProofs [ac181, row_mk, hli, n0, go_sem, -List.set_cons_succ, -List.set_cons_zero]
          refine qcall_pure (nvSpec_calls s (by omega)) hf rfl ?_
          simp -implicitDefEqProofs [hli, n0, Tm.ownB, go_sem, -List.set_cons_succ, -List.set_cons_zero]
          congr 1
          simp
          omega
        · simp -implicitDefEqProofs [ac181, row_mk, hli, n0, Tm.ownB, go_sem, -List.set_cons_succ, -List.set_cons_zero]
      · simp -implicitDefEqProofs [ac181, row_mk, hli, k1, k2, k3, Tm.ownB, go_sem, -List.set_cons_succ, -List.set_cons_zero]
theorem shape_calls : ∀ t : Tm, t.fits → ∀ (d : Nat), d ≤ 30 → ∀ H, ACalls Tryz.prog 135 [.agg (t.row.map .d), .c (.d (.int .i64 d))] H (fun r H' => H' = H ∧ r = .c (.d (.bool (t.shape d)))) := by
  refine Tm.ind fun k n s l ih hfits d hd H => ?_
  have how := own_calls _ hfits
  obtain ⟨hk, hn, hs, hl, hkids⟩ := hfits
  rw [row_mk] at how
  simp only [List.map_cons, List.map_nil] at how
  refine acalls Tryz.func135 (by kernel_rfl) ac135_ok fun hf => ?_
  have hli : inR .i64 (l.length : Int) := small_i64 (by omega) (by omega)
  have hsub : 1 ≤ d → inR .i64 ((d : Int) - 1) := fun h => small_i64 (by omega) (by omega)
  simp -implicitDefEqProofs [ac135, row_mk, hli, go_sem, -List.set_cons_succ, -List.set_cons_zero]
  refine ⟨fun h1 => ⟨h1, ?_⟩, fun h1 => ?_⟩
  · have hd1 : 1 ≤ d := by omega
    refine qcall_pure how hf rfl ?_
    cases ho : (Tm.mk k n s l).ownB with
    | false => simp -implicitDefEqProofs [ho, Tm.shape, go_sem, -List.set_cons_succ, -List.set_cons_zero]
    | true =>
      simp -implicitDefEqProofs [ho, go_sem, -List.set_cons_succ, -List.set_cons_zero]
      refine loop_set (σ := Nat) (fun i => [(5, .c (.d (.int .i64 i)))]) (fun _ => H) (fun _ => [_]) (fun i => i ≤ l.length ∧ ∀ t ∈ l.take i, t.shape (d - 1) = true) (fun i => l.length - i) 0 rfl ⟨Nat.zero_le _, by simp⟩ ?_
      rintro i ⟨hi, hall⟩
      simp -implicitDefEqProofs [setAll, hli, go_sem, -List.set_cons_succ, -List.set_cons_zero]
      refine ⟨fun hlt => ?_, fun hge => ?_⟩
      · refine row_of hlt (row_len _) ?_
        simp -implicitDefEqProofs [row_len, take_row, pure_d, re_d, hsub hd1, go_sem, -List.set_cons_succ, -List.set_cons_zero]
        have hc := ih l[i] (List.getElem_mem hlt) (hkids _ (List.getElem_mem hlt)) (d - 1) (by omega)
        rw [show ((d - 1 : Nat) : Int) = (d : Int) - 1 by omega] at hc
        refine qcall_pure hc hf rfl ?_
        have hadd : inR .i64 ((i : Int) + 1) := small_i64 (by omega) (by omega)
        simp -implicitDefEqProofs [hadd, go_sem, -List.set_cons_succ, -List.set_cons_zero]
        refine ⟨fun hg => ?_, fun hg => loop_back (i + 1) (by simp [setAll]) ⟨hlt, fun t ht => ?_⟩ (by show l.length - (i + 1) < l.length - i; omega)⟩
        · rw [Tm.shape, shapes_all]
          have : (l.all fun t => t.shape (d - 1)) = false := by
            rw [List.all_eq_false]
            exact ⟨l[i], List.getElem_mem hlt, by simp [hg]⟩
          simp [this]
        · rw [List.take_succ_eq_append_getElem hlt, List.mem_append] at ht
          rcases ht with ht | ht
          · exact hall t ht
          · simp at ht; subst ht; exact hg
      · rw [List.take_of_length_le hge] at hall
        rw [Tm.shape, shapes_all, ho, List.all_eq_true.2 hall]
        simp [hd1]
  · rw [Tm.shape]
    have : ¬ 1 ≤ d := by omega
    simp [this]
theorem count_calls : ∀ t : Tm, t.fits → ∀ (m : Nat), m ≤ 1000 → ∀ H, ACalls Tryz.prog 136 [.agg (t.row.map .d), .c (.d (.int .i64 m))] H (fun r H' => H' = H ∧ r = .c (.d (.int .i64 (min t.size (m + 1) : Nat)))) := by
  refine Tm.ind fun k n s l ih hfits m hm H => ?_
  obtain ⟨hk, hn, hs, hl, hkids⟩ := hfits
  refine acalls Tryz.func136 (by kernel_rfl) ac136_ok fun hf => ?_
  have hli : inR .i64 (l.length : Int) := small_i64 (by omega) (by omega)
  simp -implicitDefEqProofs [ac136, row_mk, hli, go_sem, -List.set_cons_succ, -List.set_cons_zero]
  refine loop_set (σ := Nat × Nat) (fun x => [(6, .c (.d (.int .i64 x.1))), (5, .c (.d (.int .i64 x.2)))]) (fun _ => H) (fun _ => [_]) (fun x => x.1 ≤ l.length ∧ x.2 = min (1 + sizes (l.take x.1)) (m + 1)) (fun x => l.length - x.1) (0, 1) rfl ⟨Nat.zero_le _, by simp [sizes]⟩ ?_
  rintro ⟨i, c⟩ ⟨hi, hcnt⟩
  simp only at hi hcnt
  have htk : ∀ h : i < l.length, sizes (l.take (i + 1)) = sizes (l.take i) + (l[i]'h).size := fun h => sizes_take h
  by_cases hlt : i < l.length
  · by_cases hcm : c ≤ m
    · have hsub : inR .i64 ((m : Int) - (c : Int)) := small_i64 (by omega) (by omega)
      have hadd : inR .i64 ((i : Int) + 1) := small_i64 (by omega) (by omega)
      simp -implicitDefEqProofs [setAll, hli, hlt, hcm, hsub, go_sem, -List.set_cons_succ, -List.set_cons_zero]
      refine row_of hlt (row_len _) ?_
      simp -implicitDefEqProofs [row_len, take_row, pure_d, re_d, hsub, go_sem, -List.set_cons_succ, -List.set_cons_zero]
      have hc := ih l[i] (List.getElem_mem hlt) (hkids _ (List.getElem_mem hlt)) (m - c) (by omega)
      rw [show ((m - c : Nat) : Int) = (m : Int) - c by omega] at hc
      refine qcall_pure hc hf rfl ?_
      have e := htk hlt
      have hcs : c + min l[i].size (m - c + 1) = min (1 + sizes (l.take (i + 1))) (m + 1) := by omega
      have hadd2 : inR .i64 ((c : Int) + ((min l[i].size (m - c + 1) : Nat) : Int)) := small_i64 (by omega) (by omega)
      simp -implicitDefEqProofs [hadd, hadd2, go_sem, -List.set_cons_succ, -List.set_cons_zero]
      refine loop_back (i + 1, c + min l[i].size (m - c + 1)) (by simp [setAll]) ⟨hlt, hcs⟩ (by show l.length - (i + 1) < l.length - i; omega)
    · simp -implicitDefEqProofs [setAll, hli, hlt, hcm, go_sem, -List.set_cons_succ, -List.set_cons_zero]
      have h1 := sizes_le l i
      rw [Tm.size]
      omega
  · have hil : i = l.length := by omega
    subst hil
    rw [List.take_length] at hcnt
    simp -implicitDefEqProofs [setAll, hli, go_sem, -List.set_cons_succ, -List.set_cons_zero]
    rw [Tm.size, hcnt]
theorem tvSpec_calls (t : Tm) (ht : t.fits) (H : Heap) : ACalls Tryz.prog 80 [.agg (t.row.map .d)] H (fun r H' => H' = H ∧ r = .c (.d (.bool t.valid))) := by
  refine acalls Tryz.func80 (by kernel_rfl) ac80_ok fun hf => ?_
  simp -implicitDefEqProofs [ac80, row_len, take_row, pure_d, re_d, go_sem, -List.set_cons_succ, -List.set_cons_zero]
  refine qcall_pure (shape_calls t ht 30 (by omega)) hf rfl ?_
  cases h : t.shape 30 with
  | false => simp -implicitDefEqProofs [h, Tm.valid, row_len, take_row, go_sem, -List.set_cons_succ, -List.set_cons_zero]
  | true =>
    simp -implicitDefEqProofs [h, Tm.valid, row_len, take_row, pure_d, re_d, go_sem, -List.set_cons_succ, -List.set_cons_zero]
    refine qcall_pure (count_calls t ht 120 (by omega)) hf rfl ?_
    simp -implicitDefEqProofs [go_sem, -List.set_cons_succ, -List.set_cons_zero]
    omega
end Go.Proofs.YtbblefjbgbocoaaGreatDoor

/-
  First keys, of the program and of the reference.
  Conditions: none.
-/
open Go Go.AM Go.Proofs
namespace Go.Proofs.YtbblefjbgbocoaaGreatDoor
open Go.ChangeShapes Go.WideShapes Go.ChangeAt Go.RowKit
set_option linter.unusedVariables false
set_option linter.unusedSimpArgs false
set_option maxRecDepth 100000
/-- the key of a term -/
def Tm.key (t : Tm) : List UInt8 :=
  match t.kids with
  | [] => []
  | x :: _ => if x.k = 1 then [] else if x.k = 2 then Lib.itoa x.n else x.s ++ 47 :: Lib.itoa x.kids.length
-- 89 loop.example/prologserver/spec.l7Key params 1 ntmps 29
def ac89 : Cd := .seq (.region [⟨(some 1),.box (.t 0),none⟩,
 ⟨(some 2),.mv (.k (.c (.d (.str [])))),none⟩] [0,2])
 (.seq (.seq (.region [⟨(some 4),.fieldAddr 3 (.t 1),none⟩,
 ⟨(some 5),.load none (.t 4),none⟩,
 ⟨(some 6),.len 1 (.t 5),none⟩,
 ⟨(some 7),.bin .eql (.t 6) (.k (.c (.d (.int .i64 0)))),none⟩] [4,5,6])
 (.cond (.t 7)
 (.seq (.region [⟨(some 2),.mv (.k (.c (.d (.str [])))),none⟩] [1,7])
 (.ret))
 (.skip)))
 (.seq (.region [⟨(some 8),.fieldAddr 3 (.t 1),none⟩,
 ⟨(some 9),.load none (.t 8),none⟩,
 ⟨(some 10),.indexAddr 4 (.t 9) (.k (.c (.d (.int .i64 0)))),none⟩,
 ⟨(some 11),.load (some 4) (.t 10),none⟩,
 ⟨(some 3),.alloc [(.d (.int .i64 0)),(.d (.int .i64 0)),(.d (.str [])),(.full [])],none⟩,
 ⟨none,.store 4 (.t 3) (.t 11),none⟩] [1,2,7,8,9,10,11])
 (.seq (.seq (.region [⟨(some 12),.fieldAddr 0 (.t 3),none⟩,
 ⟨(some 13),.load none (.t 12),none⟩] [12])
 (.block 0 (.seq (.region [⟨(some 15),.bin .eql (.t 13) (.k (.c (.d (.int .i64 1)))),none⟩,
 ⟨(some 14),.mv (.t 15),none⟩] [15])
 (.cond (.t 14)
 (.seq (.region [⟨(some 2),.mv (.k (.c (.d (.str [])))),none⟩] [3,13,14])
 (.ret))
 (.seq (.region [⟨(some 17),.bin .eql (.t 13) (.k (.c (.d (.int .i64 2)))),none⟩,
 ⟨(some 16),.mv (.t 17),none⟩] [13,14,17])
 (.cond (.t 16)
 (.seq (.region [⟨(some 18),.fieldAddr 1 (.t 3),none⟩,
 ⟨(some 19),.load none (.t 18),none⟩,
 ⟨(some 20),.qcall 54 [(.t 19)],none⟩,
 ⟨(some 2),.mv (.t 20),none⟩] [3,16,18,19,20])
 (.ret))
 (.skip)))))))
 (.seq (.region [⟨(some 21),.fieldAddr 2 (.t 3),none⟩,
 ⟨(some 24),.fieldAddr 3 (.t 3),none⟩,
 ⟨(some 22),.load none (.t 21),none⟩,
 ⟨(some 23),.bin .add (.t 22) (.k (.c (.d (.str [47])))),none⟩,
 ⟨(some 25),.load none (.t 24),none⟩,
 ⟨(some 26),.len 1 (.t 25),none⟩,
 ⟨(some 27),.qcall 105 [(.t 26)],none⟩,
 ⟨(some 28),.bin .add (.t 23) (.t 27),none⟩,
 ⟨(some 2),.mv (.t 28),none⟩] [3,16,21,22,23,24,25,26,27,28])
 (.ret)))))
theorem ac89_ok : cFunc Tryz.prog [1000054,1000105] [(0,[0,2],[]),(1,[4,5,6],[]),(2,[1,7],[]),(3,[1,2,7,8,9,10,11],[]),(4,[12],[]),(5,[15],[]),(6,[3,13,14],[]),(7,[13,14,17],[]),(8,[3,16,18,19,20],[]),(9,[3,16,21,22,23,24,25,26,27,28],[0,3,1,2,4,5,6,7,8])] Tryz.f89 = some (ac89,[.tmp 2],29) := by kernel_rfl
-- 86 loop.example/prologserver/impl.firstKey params 1 ntmps 29
def ac86 : Cd := .seq (.region [⟨(some 1),.box (.t 0),none⟩,
 ⟨(some 2),.mv (.k (.c (.d (.str [])))),none⟩] [0,2])
 (.seq (.seq (.region [⟨(some 4),.fieldAddr 3 (.t 1),none⟩,
 ⟨(some 5),.load none (.t 4),none⟩,
 ⟨(some 6),.len 1 (.t 5),none⟩,
 ⟨(some 7),.bin .eql (.t 6) (.k (.c (.d (.int .i64 0)))),none⟩] [4,5,6])
 (.cond (.t 7)
 (.seq (.region [⟨(some 2),.mv (.k (.c (.d (.str [])))),none⟩] [1,7])
 (.ret))
 (.skip)))
 (.seq (.region [⟨(some 8),.fieldAddr 3 (.t 1),none⟩,
 ⟨(some 9),.load none (.t 8),none⟩,
 ⟨(some 10),.indexAddr 4 (.t 9) (.k (.c (.d (.int .i64 0)))),none⟩,
 ⟨(some 11),.load (some 4) (.t 10),none⟩,
 ⟨(some 3),.alloc [(.d (.int .i64 0)),(.d (.int .i64 0)),(.d (.str [])),(.full [])],none⟩,
 ⟨none,.store 4 (.t 3) (.t 11),none⟩] [1,2,7,8,9,10,11])
 (.seq (.region [⟨(some 12),.fieldAddr 0 (.t 3),none⟩,
 ⟨(some 13),.load none (.t 12),none⟩] [12])
 (.block 0 (.seq (.region [⟨(some 23),.bin .eql (.t 13) (.k (.c (.d (.int .i64 1)))),none⟩,
 ⟨(some 22),.mv (.t 23),none⟩] [23])
 (.cond (.t 22)
 (.seq (.region [⟨(some 2),.mv (.k (.c (.d (.str [])))),none⟩] [3,13,22])
 (.ret))
 (.seq (.region [⟨(some 25),.bin .eql (.t 13) (.k (.c (.d (.int .i64 2)))),none⟩,
 ⟨(some 24),.mv (.t 25),none⟩] [13,22,25])
 (.cond (.t 24)
 (.seq (.region [⟨(some 26),.fieldAddr 1 (.t 3),none⟩,
 ⟨(some 27),.load none (.t 26),none⟩,
 ⟨(some 28),.qcall 47 [(.t 27)],none⟩,
 ⟨(some 2),.mv (.t 28),none⟩] [3,24,26,27,28])
 (.ret))
 (.seq (.region [⟨(some 14),.fieldAddr 2 (.t 3),none⟩,
 ⟨(some 17),.fieldAddr 3 (.t 3),none⟩,
 ⟨(some 15),.load none (.t 14),none⟩,
 ⟨(some 16),.bin .add (.t 15) (.k (.c (.d (.str [47])))),none⟩,
 ⟨(some 18),.load none (.t 17),none⟩,
 ⟨(some 19),.len 1 (.t 18),none⟩,
 ⟨(some 20),.qcall 47 [(.t 19)],none⟩,
 ⟨(some 21),.bin .add (.t 16) (.t 20),none⟩,
 ⟨(some 2),.mv (.t 21),none⟩] [3,14,15,16,17,18,19,20,21,24])
 (.ret))))))))))
theorem ac86_ok : cFunc Tryz.prog [1000047] [(0,[0,2],[]),(1,[4,5,6],[]),(2,[1,7],[]),(3,[1,2,7,8,9,10,11],[]),(4,[12],[]),(6,[23],[]),(7,[3,13,22],[]),(8,[13,22,25],[]),(9,[3,24,26,27,28],[]),(5,[3,14,15,16,17,18,19,20,21,24],[0,3,1,2,4,5,6,7,8])] Tryz.f86 = some (ac86,[.tmp 2],29) := by kernel_rfl
-- 38 loop.example/prologserver/spec.FirstKey params 1 ntmps 8
def ac35 : Cd := .seq (.region [⟨(some 1),.box (.t 0),none⟩,
 ⟨(some 2),.mv (.k (.c (.d (.str [])))),none⟩] [0,2])
 (.seq (.seq (.region [⟨(some 3),.load (some 4) (.t 1),none⟩,
 ⟨(some 4),.qcall 70 [(.t 3)],none⟩,
 ⟨(some 5),.un .not (.t 4),none⟩] [3,4])
 (.cond (.t 5)
 (.seq (.region [⟨(some 2),.mv (.k (.c (.d (.str [])))),none⟩] [1,5])
 (.ret))
 (.skip)))
 (.seq (.region [⟨(some 6),.load (some 4) (.t 1),none⟩,
 ⟨(some 7),.qcall 86 [(.t 6)],none⟩,
 ⟨(some 2),.mv (.t 7),none⟩] [1,5,6,7])
 (.ret)))
theorem ac35_ok : cFunc Tryz.prog [1000070,1000086] [(0,[0,2],[]),(1,[3,4],[]),(2,[1,5],[]),(3,[1,5,6,7],[])] Tryz.f35 = some (ac35,[.tmp 2],8) := by kernel_rfl
theorem l7Key_calls (t : Tm) (ht : t.fits) (hv : ∀ x ∈ t.kids, -9223372036854775807 ≤ x.n) (H : Heap) : ACalls Tryz.prog 89 [.agg (t.row.map .d)] H (fun r H' => H' = H ∧ r = .c (.d (.str t.key))) := by
  obtain ⟨k, n, s, l⟩ := t
  obtain ⟨_, _, _, hl, hk⟩ := ht
  refine acalls Tryz.func89 (by kernel_rfl) ac89_ok fun hf => ?_
  have hli : inR .i64 (l.length : Int) := small_i64 (by omega) (by omega)
  cases l with
  | nil =>
    have h00 : inR .i64 0 := small_i64 (by omega) (by omega)
    simp -implicitDefEqProofs [ac89, row_mk, h00, Tm.key, Tm.kids, go_sem, -List.set_cons_succ, -List.set_cons_zero]
  | cons x l =>
    obtain ⟨xk, xn, xs, xl⟩ := x
    have hx := hk _ (List.mem_cons_self ..)
    obtain ⟨hx1, hx2, hx3, hx4, _⟩ := hx
    have hxl : inR .i64 (xl.length : Int) := small_i64 (by omega) (by omega)
    have hxn := hv _ (List.mem_cons_self ..)
    have hxn2 := (i64_def.1 hx2).2
    have hd := itoa_len (xl.length : Int) (by omega) (by omega)
    simp -implicitDefEqProofs [ac89, row_mk, hli, go_sem, -List.set_cons_succ, -List.set_cons_zero]
    refine ⟨by simpa using hli, fun h => by omega, fun _ => ?_⟩
    refine row_int (i := 0) (Tm.mk xk xn xs xl).row (by omega) (by simp [row_mk]) (row_len _) ?_
    simp -implicitDefEqProofs [row_mk, go_sem, -List.set_cons_succ, -List.set_cons_zero]
    refine ⟨hf, fun h1 => by simp [h1, Tm.key, Tm.kids, Tm.k], fun h1 => ⟨fun h2 => ?_, fun h2 => ⟨by unfold maxStr; omega, hxl, ?_⟩⟩⟩
    · refine qcall_pure (dec1_calls xn hxn hxn2) hf rfl ?_
      simp -implicitDefEqProofs [h1, h2, Tm.key, Tm.kids, Tm.k, Tm.n, go_sem, -List.set_cons_succ, -List.set_cons_zero]
    · refine qcall_pure (dec_calls _ hxl) hf rfl ?_
      simp -implicitDefEqProofs [h1, h2, Tm.key, Tm.kids, Tm.k, Tm.s, maxStr, go_sem, -List.set_cons_succ, -List.set_cons_zero]
      omega
theorem key_calls {g : Nat} {o : Obj} (hT : Tab g o) (t : Tm) (ht : t.fits) (H : Heap) (hH : H[0]? = some (.tab g o)) : ACalls Tryz.prog 86 [.agg (t.row.map .d)] H (fun r H' => H' = H ∧ r = .c (.d (.str t.key))) := by
  obtain ⟨k, n, s, l⟩ := t
  obtain ⟨_, _, _, hl, hk⟩ := ht
  refine acalls Tryz.func86 (by kernel_rfl) ac86_ok fun hf => ?_
  have hli : inR .i64 (l.length : Int) := small_i64 (by omega) (by omega)
  cases l with
  | nil =>
    have h00 : inR .i64 0 := small_i64 (by omega) (by omega)
    simp -implicitDefEqProofs [ac86, row_mk, h00, Tm.key, Tm.kids, go_sem, -List.set_cons_succ, -List.set_cons_zero]
  | cons x l =>
    obtain ⟨xk, xn, xs, xl⟩ := x
    have hx := hk _ (List.mem_cons_self ..)
    obtain ⟨hx1, hx2, hx3, hx4, _⟩ := hx
    have hxl : inR .i64 (xl.length : Int) := small_i64 (by omega) (by omega)
    have hxn2 := (i64_def.1 hx2).2
    have hd := itoa_len (xl.length : Int) (by omega) (by omega)
    simp -implicitDefEqProofs [ac86, row_mk, hli, go_sem, -List.set_cons_succ, -List.set_cons_zero]
    refine ⟨by simpa using hli, fun h => by omega, fun _ => ?_⟩
    refine row_int (i := 0) (Tm.mk xk xn xs xl).row (by omega) (by simp [row_mk]) (row_len _) ?_
    simp -implicitDefEqProofs [row_mk, go_sem, -List.set_cons_succ, -List.set_cons_zero]
    refine ⟨hf, fun h1 => by simp [h1, Tm.key, Tm.kids, Tm.k], fun h1 => ⟨fun h2 => ?_, fun h2 => ⟨by unfold maxStr; omega, hxl, ?_⟩⟩⟩
    · refine qcall_tab (itoa_call hT xn hx2) hf hH rfl ?_
      simp -implicitDefEqProofs [h1, h2, Tm.key, Tm.kids, Tm.k, Tm.n, go_sem, -List.set_cons_succ, -List.set_cons_zero]
    · refine qcall_tab (itoa_call hT _ hxl) hf hH rfl ?_
      simp -implicitDefEqProofs [h1, h2, Tm.key, Tm.kids, Tm.k, Tm.s, maxStr, go_sem, -List.set_cons_succ, -List.set_cons_zero]
      omega
theorem valid_kids {t : Tm} (h : t.valid = true) : ∀ x ∈ t.kids, -9223372036854775807 ≤ x.n := by
  obtain ⟨k, n, s, l⟩ := t
  intro x hx
  simp only [Tm.valid, Tm.shape, shapes_all, Bool.and_eq_true, List.all_eq_true] at h
  have h1 := h.1.2.2 x hx
  obtain ⟨xk, xn, xs, xl⟩ := x
  simp only [Tm.shape, Bool.and_eq_true] at h1
  have h2 := h1.2.1
  simp only [Tm.ownB] at h2
  simp only [Tm.n]
  split at h2
  · simp at h2; omega
  · split at h2
    · simp at h2; omega
    · split at h2
      · simp at h2; omega
      · simp at h2
end Go.Proofs.YtbblefjbgbocoaaGreatDoor

/-
  Atoms.
  Conditions: none.
-/
open Go Go.AM Go.Proofs
namespace Go.Proofs.YtbblefjbgbocoaaGreatDoor
open Go.ChangeShapes Go.WideShapes Go.ChangeAt Go.RowKit
set_option linter.unusedVariables false
set_option linter.unusedSimpArgs false
set_option maxRecDepth 100000
-- 214 loop.example/prologserver/impl.isAtom params 1 ntmps 12
def ac214 : Cd := .seq (.region [⟨(some 1),.box (.t 0),none⟩,
 ⟨(some 2),.mv (.k (.c (.d (.bool false)))),none⟩] [0,2])
 (.seq (.region [⟨(some 3),.fieldAddr 0 (.t 1),none⟩,
 ⟨(some 4),.load none (.t 3),none⟩,
 ⟨(some 5),.bin .eql (.t 4) (.k (.c (.d (.int .i64 3)))),none⟩,
 ⟨(some 6),.mv (.t 5),none⟩,
 ⟨(some 7),.fieldAddr 3 (.t 1),some (6,true)⟩,
 ⟨(some 8),.load none (.t 7),some (6,true)⟩,
 ⟨(some 9),.len 1 (.t 8),some (6,true)⟩,
 ⟨(some 10),.bin .eql (.t 9) (.k (.c (.d (.int .i64 0)))),some (6,true)⟩,
 ⟨(some 11),.pick (.t 6) (.t 10) (.k (.c (.d (.bool false)))),none⟩,
 ⟨(some 2),.mv (.t 11),none⟩] [1,3,4,5,6,7,8,9,10,11])
 (.ret))
theorem ac214_ok : cFunc Tryz.prog [] [(0,[0,2],[]),(1,[1,3,4,5,6,7,8,9,10,11],[])] Tryz.f214 = some (ac214,[.tmp 2],12) := by kernel_rfl
theorem isAtom_calls (t : Tm) (ht : t.fits) (H : Heap) : ACalls Tryz.prog 214 [.agg (t.row.map .d)] H (fun r H' => H' = H ∧ r = .c (.d (.bool (decide (t.k = 3) && t.kids.isEmpty)))) := by
  obtain ⟨k, n, s, l⟩ := t
  obtain ⟨_, _, hs, hl, hkids⟩ := ht
  have hli : inR .i64 (l.length : Int) := small_i64 (by omega) (by omega)
  refine acalls Tryz.func214 (by kernel_rfl) ac214_ok fun hf => ?_
  by_cases hk : k = 3
  · simp -implicitDefEqProofs [ac214, row_mk, hk, hli, Tm.k, Tm.kids, isEmpty_len, go_sem, -List.set_cons_succ, -List.set_cons_zero]
  · simp -implicitDefEqProofs [ac214, row_mk, hk, hli, Tm.k, go_sem, -List.set_cons_succ, -List.set_cons_zero]
end Go.Proofs.YtbblefjbgbocoaaGreatDoor

/-
  Goals: which terms are goals, for the program and for the reference.
  Conditions: none.
-/
open Go Go.AM Go.Proofs
namespace Go.Proofs.YtbblefjbgbocoaaGreatDoor
open Go.ChangeShapes Go.WideShapes Go.ChangeAt Go.RowKit
set_option linter.unusedVariables false
set_option linter.unusedSimpArgs false
set_option maxRecDepth 100000
-- 170 loop.example/prologserver/impl.OpLevel params 1 ntmps 22
def ac170 : Cd := .seq (.region [⟨(some 2),.mv (.k (.c (.d (.int .i64 0)))),none⟩,
 ⟨(some 3),.mv (.k (.c (.d (.bool false)))),none⟩] [2,3])
 (.seq (.seq (.region [⟨(some 4),.mv (.t 0),none⟩] [0])
 (.block 0 (.seq (.seq (.region [⟨(some 6),.bin .eql (.t 4) (.k (.c (.d (.str [61])))),none⟩,
 ⟨(some 5),.mv (.t 6),none⟩] [6])
 (.cond (.t 5)
 (.skip)
 (.seq (.region [⟨(some 7),.bin .eql (.t 4) (.k (.c (.d (.str [92,61])))),none⟩,
 ⟨(some 5),.mv (.t 7),none⟩] [7])
 (.cond (.t 5)
 (.skip)
 (.seq (.region [⟨(some 8),.bin .eql (.t 4) (.k (.c (.d (.str [61,61])))),none⟩,
 ⟨(some 5),.mv (.t 8),none⟩] [8])
 (.cond (.t 5)
 (.skip)
 (.seq (.region [⟨(some 9),.bin .eql (.t 4) (.k (.c (.d (.str [60])))),none⟩,
 ⟨(some 5),.mv (.t 9),none⟩] [9])
 (.cond (.t 5)
 (.skip)
 (.seq (.region [⟨(some 10),.bin .eql (.t 4) (.k (.c (.d (.str [62])))),none⟩,
 ⟨(some 5),.mv (.t 10),none⟩] [10])
 (.cond (.t 5)
 (.skip)
 (.seq (.region [⟨(some 11),.bin .eql (.t 4) (.k (.c (.d (.str [61,60])))),none⟩,
 ⟨(some 5),.mv (.t 11),none⟩] [11])
 (.cond (.t 5)
 (.skip)
 (.seq (.region [⟨(some 12),.bin .eql (.t 4) (.k (.c (.d (.str [62,61])))),none⟩,
 ⟨(some 5),.mv (.t 12),none⟩] [12])
 (.cond (.t 5)
 (.skip)
 (.seq (.region [⟨(some 13),.bin .eql (.t 4) (.k (.c (.d (.str [61,58,61])))),none⟩,
 ⟨(some 5),.mv (.t 13),none⟩] [13])
 (.cond (.t 5)
 (.skip)
 (.region [⟨(some 14),.bin .eql (.t 4) (.k (.c (.d (.str [105,115])))),none⟩,
 ⟨(some 5),.mv (.t 14),none⟩] [14])))))))))))))))))
 (.cond (.t 5)
 (.seq (.region [⟨(some 2),.mv (.k (.c (.d (.int .i64 3)))),none⟩,
 ⟨(some 3),.mv (.k (.c (.d (.bool false)))),none⟩] [4,5])
 (.ret))
 (.seq (.seq (.region [⟨(some 16),.bin .eql (.t 4) (.k (.c (.d (.str [43])))),none⟩,
 ⟨(some 15),.mv (.t 16),none⟩] [5,16])
 (.cond (.t 15)
 (.skip)
 (.region [⟨(some 17),.bin .eql (.t 4) (.k (.c (.d (.str [45])))),none⟩,
 ⟨(some 15),.mv (.t 17),none⟩] [17])))
 (.cond (.t 15)
 (.seq (.region [⟨(some 2),.mv (.k (.c (.d (.int .i64 2)))),none⟩,
 ⟨(some 3),.mv (.k (.c (.d (.bool true)))),none⟩] [4,15])
 (.ret))
 (.seq (.seq (.region [⟨(some 19),.bin .eql (.t 4) (.k (.c (.d (.str [42])))),none⟩,
 ⟨(some 18),.mv (.t 19),none⟩] [15,19])
 (.cond (.t 18)
 (.skip)
 (.seq (.region [⟨(some 20),.bin .eql (.t 4) (.k (.c (.d (.str [47,47])))),none⟩,
 ⟨(some 18),.mv (.t 20),none⟩] [20])
 (.cond (.t 18)
 (.skip)
 (.region [⟨(some 21),.bin .eql (.t 4) (.k (.c (.d (.str [109,111,100])))),none⟩,
 ⟨(some 18),.mv (.t 21),none⟩] [4,21])))))
 (.cond (.t 18)
 (.seq (.region [⟨(some 2),.mv (.k (.c (.d (.int .i64 1)))),none⟩,
 ⟨(some 3),.mv (.k (.c (.d (.bool true)))),none⟩] [4,18])
 (.ret))
 (.skip)))))))))
 (.seq (.region [⟨(some 2),.mv (.k (.c (.d (.int .i64 0)))),none⟩,
 ⟨(some 3),.mv (.k (.c (.d (.bool false)))),none⟩] [4,18])
 (.ret)))
theorem ac170_ok : cFunc Tryz.prog [] [(0,[2,3],[]),(1,[0],[]),(2,[6],[]),(3,[7],[]),(4,[8],[]),(5,[9],[]),(6,[10],[]),(7,[11],[]),(8,[12],[]),(9,[13],[]),(10,[14],[]),(11,[4,5],[]),(12,[5,16],[]),(13,[17],[]),(14,[4,15],[]),(15,[15,19],[]),(16,[20],[]),(17,[4,21],[]),(18,[4,18],[]),(19,[4,18],[])] Tryz.f170 = some (ac170,[.tmp 2,.tmp 3],22) := by kernel_rfl
-- 139 loop.example/prologserver/spec.l2Level params 1 ntmps 21
def ac139 : Cd := .seq (.region [⟨(some 2),.mv (.k (.c (.d (.int .i64 0)))),none⟩] [2])
 (.seq (.seq (.region [⟨(some 3),.mv (.t 0),none⟩] [0])
 (.block 0 (.seq (.seq (.region [⟨(some 5),.bin .eql (.t 3) (.k (.c (.d (.str [61])))),none⟩,
 ⟨(some 4),.mv (.t 5),none⟩] [5])
 (.cond (.t 4)
 (.skip)
 (.seq (.region [⟨(some 6),.bin .eql (.t 3) (.k (.c (.d (.str [92,61])))),none⟩,
 ⟨(some 4),.mv (.t 6),none⟩] [6])
 (.cond (.t 4)
 (.skip)
 (.seq (.region [⟨(some 7),.bin .eql (.t 3) (.k (.c (.d (.str [61,61])))),none⟩,
 ⟨(some 4),.mv (.t 7),none⟩] [7])
 (.cond (.t 4)
 (.skip)
 (.seq (.region [⟨(some 8),.bin .eql (.t 3) (.k (.c (.d (.str [60])))),none⟩,
 ⟨(some 4),.mv (.t 8),none⟩] [8])
 (.cond (.t 4)
 (.skip)
 (.seq (.region [⟨(some 9),.bin .eql (.t 3) (.k (.c (.d (.str [62])))),none⟩,
 ⟨(some 4),.mv (.t 9),none⟩] [9])
 (.cond (.t 4)
 (.skip)
 (.seq (.region [⟨(some 10),.bin .eql (.t 3) (.k (.c (.d (.str [61,60])))),none⟩,
 ⟨(some 4),.mv (.t 10),none⟩] [10])
 (.cond (.t 4)
 (.skip)
 (.seq (.region [⟨(some 11),.bin .eql (.t 3) (.k (.c (.d (.str [62,61])))),none⟩,
 ⟨(some 4),.mv (.t 11),none⟩] [11])
 (.cond (.t 4)
 (.skip)
 (.seq (.region [⟨(some 12),.bin .eql (.t 3) (.k (.c (.d (.str [61,58,61])))),none⟩,
 ⟨(some 4),.mv (.t 12),none⟩] [12])
 (.cond (.t 4)
 (.skip)
 (.region [⟨(some 13),.bin .eql (.t 3) (.k (.c (.d (.str [105,115])))),none⟩,
 ⟨(some 4),.mv (.t 13),none⟩] [13])))))))))))))))))
 (.cond (.t 4)
 (.seq (.region [⟨(some 2),.mv (.k (.c (.d (.int .i64 3)))),none⟩] [3,4])
 (.ret))
 (.seq (.seq (.region [⟨(some 15),.bin .eql (.t 3) (.k (.c (.d (.str [43])))),none⟩,
 ⟨(some 14),.mv (.t 15),none⟩] [4,15])
 (.cond (.t 14)
 (.skip)
 (.region [⟨(some 16),.bin .eql (.t 3) (.k (.c (.d (.str [45])))),none⟩,
 ⟨(some 14),.mv (.t 16),none⟩] [16])))
 (.cond (.t 14)
 (.seq (.region [⟨(some 2),.mv (.k (.c (.d (.int .i64 2)))),none⟩] [3,14])
 (.ret))
 (.seq (.seq (.region [⟨(some 18),.bin .eql (.t 3) (.k (.c (.d (.str [42])))),none⟩,
 ⟨(some 17),.mv (.t 18),none⟩] [14,18])
 (.cond (.t 17)
 (.skip)
 (.seq (.region [⟨(some 19),.bin .eql (.t 3) (.k (.c (.d (.str [47,47])))),none⟩,
 ⟨(some 17),.mv (.t 19),none⟩] [19])
 (.cond (.t 17)
 (.skip)
 (.region [⟨(some 20),.bin .eql (.t 3) (.k (.c (.d (.str [109,111,100])))),none⟩,
 ⟨(some 17),.mv (.t 20),none⟩] [3,20])))))
 (.cond (.t 17)
 (.seq (.region [⟨(some 2),.mv (.k (.c (.d (.int .i64 1)))),none⟩] [3,17])
 (.ret))
 (.skip)))))))))
 (.seq (.region [⟨(some 2),.mv (.k (.c (.d (.int .i64 0)))),none⟩] [3,17])
 (.ret)))
theorem ac139_ok : cFunc Tryz.prog [] [(0,[2],[]),(1,[0],[]),(2,[5],[]),(3,[6],[]),(4,[7],[]),(5,[8],[]),(6,[9],[]),(7,[10],[]),(8,[11],[]),(9,[12],[]),(10,[13],[]),(11,[3,4],[]),(12,[4,15],[]),(13,[16],[]),(14,[3,14],[]),(15,[14,18],[]),(16,[19],[]),(17,[3,20],[]),(18,[3,17],[]),(19,[3,17],[])] Tryz.f139 = some (ac139,[.tmp 2],21) := by kernel_rfl
-- 132 loop.example/prologserver/impl.isOp params 1 ntmps 12
def ac132 : Cd := .seq (.region [⟨(some 2),.mv (.k (.c (.d (.bool false)))),none⟩] [2])
 (.seq (.region [⟨(some 6),.mv (.t 0),none⟩,
 ⟨(some 7),.qcall 170 [(.t 6)],none⟩,
 ⟨(some 5),.mv (.t 7),none⟩,
 ⟨(some 8),.extract 0 (.t 5),none⟩,
 ⟨(some 9),.extract 1 (.t 5),none⟩,
 ⟨(some 3),.mv (.t 8),none⟩,
 ⟨(some 4),.mv (.t 9),none⟩] [0,4,5,6,7,8,9])
 (.seq (.region [⟨(some 10),.mv (.t 3),none⟩,
 ⟨(some 11),.bin .gtr (.t 10) (.k (.c (.d (.int .i64 0)))),none⟩,
 ⟨(some 2),.mv (.t 11),none⟩] [3,10,11])
 (.ret)))
theorem ac132_ok : cFunc Tryz.prog [1000170] [(0,[2],[]),(1,[0,4,5,6,7,8,9],[]),(2,[3,10,11],[])] Tryz.f132 = some (ac132,[.tmp 2],12) := by kernel_rfl
-- 180 loop.example/prologserver/impl.IsBuiltin params 2 ntmps 34
def ac180 : Cd := .seq (.region [⟨(some 4),.mv (.k (.c (.d (.bool false)))),none⟩] [4])
 (.seq (.seq (.region [⟨(some 5),.mv (.t 0),none⟩] [0])
 (.block 0 (.seq (.seq (.region [⟨(some 7),.bin .eql (.t 5) (.k (.c (.d (.str [61])))),none⟩,
 ⟨(some 6),.mv (.t 7),none⟩] [7])
 (.cond (.t 6)
 (.skip)
 (.seq (.region [⟨(some 8),.bin .eql (.t 5) (.k (.c (.d (.str [92,61])))),none⟩,
 ⟨(some 6),.mv (.t 8),none⟩] [8])
 (.cond (.t 6)
 (.skip)
 (.seq (.region [⟨(some 9),.bin .eql (.t 5) (.k (.c (.d (.str [61,61])))),none⟩,
 ⟨(some 6),.mv (.t 9),none⟩] [9])
 (.cond (.t 6)
 (.skip)
 (.seq (.region [⟨(some 10),.bin .eql (.t 5) (.k (.c (.d (.str [60])))),none⟩,
 ⟨(some 6),.mv (.t 10),none⟩] [10])
 (.cond (.t 6)
 (.skip)
 (.seq (.region [⟨(some 11),.bin .eql (.t 5) (.k (.c (.d (.str [62])))),none⟩,
 ⟨(some 6),.mv (.t 11),none⟩] [11])
 (.cond (.t 6)
 (.skip)
 (.seq (.region [⟨(some 12),.bin .eql (.t 5) (.k (.c (.d (.str [61,60])))),none⟩,
 ⟨(some 6),.mv (.t 12),none⟩] [12])
 (.cond (.t 6)
 (.skip)
 (.seq (.region [⟨(some 13),.bin .eql (.t 5) (.k (.c (.d (.str [62,61])))),none⟩,
 ⟨(some 6),.mv (.t 13),none⟩] [13])
 (.cond (.t 6)
 (.skip)
 (.seq (.region [⟨(some 14),.bin .eql (.t 5) (.k (.c (.d (.str [61,58,61])))),none⟩,
 ⟨(some 6),.mv (.t 14),none⟩] [14])
 (.cond (.t 6)
 (.skip)
 (.region [⟨(some 15),.bin .eql (.t 5) (.k (.c (.d (.str [105,115])))),none⟩,
 ⟨(some 6),.mv (.t 15),none⟩] [15])))))))))))))))))
 (.cond (.t 6)
 (.seq (.region [⟨(some 16),.mv (.t 1),none⟩,
 ⟨(some 17),.bin .eql (.t 16) (.k (.c (.d (.int .i64 2)))),none⟩,
 ⟨(some 4),.mv (.t 17),none⟩] [1,5,6,16,17])
 (.ret))
 (.seq (.seq (.region [⟨(some 19),.bin .eql (.t 5) (.k (.c (.d (.str [116,114,117,101])))),none⟩,
 ⟨(some 18),.mv (.t 19),none⟩] [6,19])
 (.cond (.t 18)
 (.skip)
 (.region [⟨(some 20),.bin .eql (.t 5) (.k (.c (.d (.str [102,97,105,108])))),none⟩,
 ⟨(some 18),.mv (.t 20),none⟩] [20])))
 (.cond (.t 18)
 (.seq (.region [⟨(some 21),.mv (.t 1),none⟩,
 ⟨(some 22),.bin .eql (.t 21) (.k (.c (.d (.int .i64 0)))),none⟩,
 ⟨(some 4),.mv (.t 22),none⟩] [1,5,18,21,22])
 (.ret))
 (.seq (.seq (.region [⟨(some 24),.bin .eql (.t 5) (.k (.c (.d (.str [118,97,114])))),none⟩,
 ⟨(some 23),.mv (.t 24),none⟩] [18,24])
 (.cond (.t 23)
 (.skip)
 (.seq (.region [⟨(some 25),.bin .eql (.t 5) (.k (.c (.d (.str [110,111,110,118,97,114])))),none⟩,
 ⟨(some 23),.mv (.t 25),none⟩] [25])
 (.cond (.t 23)
 (.skip)
 (.seq (.region [⟨(some 26),.bin .eql (.t 5) (.k (.c (.d (.str [97,116,111,109])))),none⟩,
 ⟨(some 23),.mv (.t 26),none⟩] [26])
 (.cond (.t 23)
 (.skip)
 (.region [⟨(some 27),.bin .eql (.t 5) (.k (.c (.d (.str [105,110,116])))),none⟩,
 ⟨(some 23),.mv (.t 27),none⟩] [27])))))))
 (.cond (.t 23)
 (.seq (.region [⟨(some 28),.mv (.t 1),none⟩,
 ⟨(some 29),.bin .eql (.t 28) (.k (.c (.d (.int .i64 1)))),none⟩,
 ⟨(some 4),.mv (.t 29),none⟩] [1,5,23,28,29])
 (.ret))
 (.seq (.region [⟨(some 31),.bin .eql (.t 5) (.k (.c (.d (.str [97,114,103])))),none⟩,
 ⟨(some 30),.mv (.t 31),none⟩] [5,23,31])
 (.cond (.t 30)
 (.seq (.region [⟨(some 32),.mv (.t 1),none⟩,
 ⟨(some 33),.bin .eql (.t 32) (.k (.c (.d (.int .i64 3)))),none⟩,
 ⟨(some 4),.mv (.t 33),none⟩] [1,30,32,33])
 (.ret))
 (.skip)))))))))))
 (.seq (.region [⟨(some 4),.mv (.k (.c (.d (.bool false)))),none⟩] [1,30])
 (.ret)))
theorem ac180_ok : cFunc Tryz.prog [] [(0,[4],[]),(1,[0],[]),(2,[7],[]),(3,[8],[]),(4,[9],[]),(5,[10],[]),(6,[11],[]),(7,[12],[]),(8,[13],[]),(9,[14],[]),(10,[15],[]),(11,[1,5,6,16,17],[]),(12,[6,19],[]),(13,[20],[]),(14,[1,5,18,21,22],[]),(15,[18,24],[]),(16,[25],[]),(17,[26],[]),(18,[27],[]),(19,[1,5,23,28,29],[]),(20,[5,23,31],[]),(21,[1,30,32,33],[]),(22,[1,30],[])] Tryz.f180 = some (ac180,[.tmp 4],34) := by kernel_rfl
-- 138 loop.example/prologserver/spec.IsBuiltin params 2 ntmps 34
def ac138 : Cd := .seq (.region [⟨(some 4),.mv (.k (.c (.d (.bool false)))),none⟩] [4])
 (.seq (.seq (.region [⟨(some 5),.mv (.t 0),none⟩] [0])
 (.block 0 (.seq (.seq (.region [⟨(some 7),.bin .eql (.t 5) (.k (.c (.d (.str [61])))),none⟩,
 ⟨(some 6),.mv (.t 7),none⟩] [7])
 (.cond (.t 6)
 (.skip)
 (.seq (.region [⟨(some 8),.bin .eql (.t 5) (.k (.c (.d (.str [92,61])))),none⟩,
 ⟨(some 6),.mv (.t 8),none⟩] [8])
 (.cond (.t 6)
 (.skip)
 (.seq (.region [⟨(some 9),.bin .eql (.t 5) (.k (.c (.d (.str [61,61])))),none⟩,
 ⟨(some 6),.mv (.t 9),none⟩] [9])
 (.cond (.t 6)
 (.skip)
 (.seq (.region [⟨(some 10),.bin .eql (.t 5) (.k (.c (.d (.str [60])))),none⟩,
 ⟨(some 6),.mv (.t 10),none⟩] [10])
 (.cond (.t 6)
 (.skip)
 (.seq (.region [⟨(some 11),.bin .eql (.t 5) (.k (.c (.d (.str [62])))),none⟩,
 ⟨(some 6),.mv (.t 11),none⟩] [11])
 (.cond (.t 6)
 (.skip)
 (.seq (.region [⟨(some 12),.bin .eql (.t 5) (.k (.c (.d (.str [61,60])))),none⟩,
 ⟨(some 6),.mv (.t 12),none⟩] [12])
 (.cond (.t 6)
 (.skip)
 (.seq (.region [⟨(some 13),.bin .eql (.t 5) (.k (.c (.d (.str [62,61])))),none⟩,
 ⟨(some 6),.mv (.t 13),none⟩] [13])
 (.cond (.t 6)
 (.skip)
 (.seq (.region [⟨(some 14),.bin .eql (.t 5) (.k (.c (.d (.str [61,58,61])))),none⟩,
 ⟨(some 6),.mv (.t 14),none⟩] [14])
 (.cond (.t 6)
 (.skip)
 (.region [⟨(some 15),.bin .eql (.t 5) (.k (.c (.d (.str [105,115])))),none⟩,
 ⟨(some 6),.mv (.t 15),none⟩] [15])))))))))))))))))
 (.cond (.t 6)
 (.seq (.region [⟨(some 16),.mv (.t 1),none⟩,
 ⟨(some 17),.bin .eql (.t 16) (.k (.c (.d (.int .i64 2)))),none⟩,
 ⟨(some 4),.mv (.t 17),none⟩] [1,5,6,16,17])
 (.ret))
 (.seq (.seq (.region [⟨(some 19),.bin .eql (.t 5) (.k (.c (.d (.str [116,114,117,101])))),none⟩,
 ⟨(some 18),.mv (.t 19),none⟩] [6,19])
 (.cond (.t 18)
 (.skip)
 (.region [⟨(some 20),.bin .eql (.t 5) (.k (.c (.d (.str [102,97,105,108])))),none⟩,
 ⟨(some 18),.mv (.t 20),none⟩] [20])))
 (.cond (.t 18)
 (.seq (.region [⟨(some 21),.mv (.t 1),none⟩,
 ⟨(some 22),.bin .eql (.t 21) (.k (.c (.d (.int .i64 0)))),none⟩,
 ⟨(some 4),.mv (.t 22),none⟩] [1,5,18,21,22])
 (.ret))
 (.seq (.seq (.region [⟨(some 24),.bin .eql (.t 5) (.k (.c (.d (.str [118,97,114])))),none⟩,
 ⟨(some 23),.mv (.t 24),none⟩] [18,24])
 (.cond (.t 23)
 (.skip)
 (.seq (.region [⟨(some 25),.bin .eql (.t 5) (.k (.c (.d (.str [110,111,110,118,97,114])))),none⟩,
 ⟨(some 23),.mv (.t 25),none⟩] [25])
 (.cond (.t 23)
 (.skip)
 (.seq (.region [⟨(some 26),.bin .eql (.t 5) (.k (.c (.d (.str [97,116,111,109])))),none⟩,
 ⟨(some 23),.mv (.t 26),none⟩] [26])
 (.cond (.t 23)
 (.skip)
 (.region [⟨(some 27),.bin .eql (.t 5) (.k (.c (.d (.str [105,110,116])))),none⟩,
 ⟨(some 23),.mv (.t 27),none⟩] [27])))))))
 (.cond (.t 23)
 (.seq (.region [⟨(some 28),.mv (.t 1),none⟩,
 ⟨(some 29),.bin .eql (.t 28) (.k (.c (.d (.int .i64 1)))),none⟩,
 ⟨(some 4),.mv (.t 29),none⟩] [1,5,23,28,29])
 (.ret))
 (.seq (.region [⟨(some 31),.bin .eql (.t 5) (.k (.c (.d (.str [97,114,103])))),none⟩,
 ⟨(some 30),.mv (.t 31),none⟩] [5,23,31])
 (.cond (.t 30)
 (.seq (.region [⟨(some 32),.mv (.t 1),none⟩,
 ⟨(some 33),.bin .eql (.t 32) (.k (.c (.d (.int .i64 3)))),none⟩,
 ⟨(some 4),.mv (.t 33),none⟩] [1,30,32,33])
 (.ret))
 (.skip)))))))))))
 (.seq (.region [⟨(some 4),.mv (.k (.c (.d (.bool false)))),none⟩] [1,30])
 (.ret)))
theorem ac138_ok : cFunc Tryz.prog [] [(0,[4],[]),(1,[0],[]),(2,[7],[]),(3,[8],[]),(4,[9],[]),(5,[10],[]),(6,[11],[]),(7,[12],[]),(8,[13],[]),(9,[14],[]),(10,[15],[]),(11,[1,5,6,16,17],[]),(12,[6,19],[]),(13,[20],[]),(14,[1,5,18,21,22],[]),(15,[18,24],[]),(16,[25],[]),(17,[26],[]),(18,[27],[]),(19,[1,5,23,28,29],[]),(20,[5,23,31],[]),(21,[1,30,32,33],[]),(22,[1,30],[])] Tryz.f138 = some (ac138,[.tmp 4],34) := by kernel_rfl
-- 133 loop.example/prologserver/impl.isBuilt params 1 ntmps 14
def ac133 : Cd := .seq (.region [⟨(some 1),.box (.t 0),none⟩,
 ⟨(some 2),.mv (.k (.c (.d (.bool false)))),none⟩] [0,2])
 (.seq (.region [⟨(some 3),.fieldAddr 0 (.t 1),none⟩,
 ⟨(some 4),.load none (.t 3),none⟩,
 ⟨(some 5),.bin .eql (.t 4) (.k (.c (.d (.int .i64 3)))),none⟩,
 ⟨(some 6),.mv (.t 5),none⟩,
 ⟨(some 7),.fieldAddr 2 (.t 1),some (6,true)⟩,
 ⟨(some 8),.load none (.t 7),some (6,true)⟩,
 ⟨(some 9),.fieldAddr 3 (.t 1),some (6,true)⟩,
 ⟨(some 10),.load none (.t 9),some (6,true)⟩,
 ⟨(some 11),.len 1 (.t 10),some (6,true)⟩,
 ⟨(some 12),.qcall 180 [(.t 8),(.t 11)],some (6,true)⟩,
 ⟨(some 13),.pick (.t 6) (.t 12) (.k (.c (.d (.bool false)))),none⟩,
 ⟨(some 2),.mv (.t 13),none⟩] [1,3,4,5,6,7,8,9,10,11,12,13])
 (.ret))
theorem ac133_ok : cFunc Tryz.prog [1000180] [(0,[0,2],[]),(1,[1,3,4,5,6,7,8,9,10,11,12,13],[])] Tryz.f133 = some (ac133,[.tmp 2],14) := by kernel_rfl
-- 76 loop.example/prologserver/impl.isPlain params 1 ntmps 22
def ac76 : Cd := .seq (.region [⟨(some 1),.box (.t 0),none⟩,
 ⟨(some 2),.mv (.k (.c (.d (.bool false)))),none⟩] [0,2])
 (.seq (.region [⟨(some 3),.fieldAddr 0 (.t 1),none⟩,
 ⟨(some 4),.load none (.t 3),none⟩,
 ⟨(some 5),.bin .eql (.t 4) (.k (.c (.d (.int .i64 3)))),none⟩,
 ⟨(some 6),.mv (.t 5),none⟩,
 ⟨(some 7),.fieldAddr 2 (.t 1),some (6,true)⟩,
 ⟨(some 8),.load none (.t 7),some (6,true)⟩,
 ⟨(some 9),.qcall 97 [(.t 8)],some (6,true)⟩,
 ⟨(some 10),.pick (.t 6) (.t 9) (.k (.c (.d (.bool false)))),none⟩,
 ⟨(some 11),.mv (.t 10),none⟩,
 ⟨(some 12),.fieldAddr 2 (.t 1),some (11,true)⟩,
 ⟨(some 13),.load none (.t 12),some (11,true)⟩,
 ⟨(some 14),.qcall 132 [(.t 13)],some (11,true)⟩,
 ⟨(some 15),.un .not (.t 14),some (11,true)⟩,
 ⟨(some 16),.pick (.t 11) (.t 15) (.k (.c (.d (.bool false)))),none⟩,
 ⟨(some 17),.mv (.t 16),none⟩,
 ⟨(some 18),.load (some 4) (.t 1),some (17,true)⟩,
 ⟨(some 19),.qcall 133 [(.t 18)],some (17,true)⟩,
 ⟨(some 20),.un .not (.t 19),some (17,true)⟩,
 ⟨(some 21),.pick (.t 17) (.t 20) (.k (.c (.d (.bool false)))),none⟩,
 ⟨(some 2),.mv (.t 21),none⟩] [1,3,4,5,6,7,8,9,10,11,12,13,14,15,16,17,18,19,20,21])
 (.ret))
theorem ac76_ok : cFunc Tryz.prog [1000097,1000132,1000133] [(0,[0,2],[]),(1,[1,3,4,5,6,7,8,9,10,11,12,13,14,15,16,17,18,19,20,21],[])] Tryz.f76 = some (ac76,[.tmp 2],22) := by kernel_rfl
-- 174 loop.example/prologserver/impl.isCut params 1 ntmps 10
def ac174 : Cd := .seq (.region [⟨(some 1),.box (.t 0),none⟩,
 ⟨(some 2),.mv (.k (.c (.d (.bool false)))),none⟩] [0,2])
 (.seq (.region [⟨(some 3),.load (some 4) (.t 1),none⟩,
 ⟨(some 4),.qcall 214 [(.t 3)],none⟩,
 ⟨(some 5),.mv (.t 4),none⟩,
 ⟨(some 6),.fieldAddr 2 (.t 1),some (5,true)⟩,
 ⟨(some 7),.load none (.t 6),some (5,true)⟩,
 ⟨(some 8),.bin .eql (.t 7) (.k (.c (.d (.str [33])))),some (5,true)⟩,
 ⟨(some 9),.pick (.t 5) (.t 8) (.k (.c (.d (.bool false)))),none⟩,
 ⟨(some 2),.mv (.t 9),none⟩] [1,3,4,5,6,7,8,9])
 (.ret))
theorem ac174_ok : cFunc Tryz.prog [1000214] [(0,[0,2],[]),(1,[1,3,4,5,6,7,8,9],[])] Tryz.f174 = some (ac174,[.tmp 2],10) := by kernel_rfl
-- 147 loop.example/prologserver/spec.l4Cut params 1 ntmps 17
def ac147 : Cd := .seq (.region [⟨(some 1),.box (.t 0),none⟩,
 ⟨(some 2),.mv (.k (.c (.d (.bool false)))),none⟩] [0,2])
 (.seq (.region [⟨(some 3),.fieldAddr 0 (.t 1),none⟩,
 ⟨(some 4),.load none (.t 3),none⟩,
 ⟨(some 5),.bin .eql (.t 4) (.k (.c (.d (.int .i64 3)))),none⟩,
 ⟨(some 6),.mv (.t 5),none⟩,
 ⟨(some 7),.fieldAddr 2 (.t 1),some (6,true)⟩,
 ⟨(some 8),.load none (.t 7),some (6,true)⟩,
 ⟨(some 9),.bin .eql (.t 8) (.k (.c (.d (.str [33])))),some (6,true)⟩,
 ⟨(some 10),.pick (.t 6) (.t 9) (.k (.c (.d (.bool false)))),none⟩,
 ⟨(some 11),.mv (.t 10),none⟩,
 ⟨(some 12),.fieldAddr 3 (.t 1),some (11,true)⟩,
 ⟨(some 13),.load none (.t 12),some (11,true)⟩,
 ⟨(some 14),.len 1 (.t 13),some (11,true)⟩,
 ⟨(some 15),.bin .eql (.t 14) (.k (.c (.d (.int .i64 0)))),some (11,true)⟩,
 ⟨(some 16),.pick (.t 11) (.t 15) (.k (.c (.d (.bool false)))),none⟩,
 ⟨(some 2),.mv (.t 16),none⟩] [1,3,4,5,6,7,8,9,10,11,12,13,14,15,16])
 (.ret))
theorem ac147_ok : cFunc Tryz.prog [] [(0,[0,2],[]),(1,[1,3,4,5,6,7,8,9,10,11,12,13,14,15,16],[])] Tryz.f147 = some (ac147,[.tmp 2],17) := by kernel_rfl
-- 81 loop.example/prologserver/spec.l4Plain params 1 ntmps 26
def ac81 : Cd := .seq (.region [⟨(some 1),.box (.t 0),none⟩,
 ⟨(some 2),.mv (.k (.c (.d (.bool false)))),none⟩] [0,2])
 (.seq (.region [⟨(some 3),.fieldAddr 0 (.t 1),none⟩,
 ⟨(some 4),.load none (.t 3),none⟩,
 ⟨(some 5),.bin .eql (.t 4) (.k (.c (.d (.int .i64 3)))),none⟩,
 ⟨(some 6),.mv (.t 5),none⟩,
 ⟨(some 7),.fieldAddr 2 (.t 1),some (6,true)⟩,
 ⟨(some 8),.load none (.t 7),some (6,true)⟩,
 ⟨(some 9),.qcall 137 [(.t 8)],some (6,true)⟩,
 ⟨(some 10),.pick (.t 6) (.t 9) (.k (.c (.d (.bool false)))),none⟩,
 ⟨(some 11),.mv (.t 10),none⟩,
 ⟨(some 12),.fieldAddr 2 (.t 1),some (11,true)⟩,
 ⟨(some 13),.load none (.t 12),some (11,true)⟩,
 ⟨(some 14),.fieldAddr 3 (.t 1),some (11,true)⟩,
 ⟨(some 15),.load none (.t 14),some (11,true)⟩,
 ⟨(some 16),.len 1 (.t 15),some (11,true)⟩,
 ⟨(some 17),.qcall 138 [(.t 13),(.t 16)],some (11,true)⟩,
 ⟨(some 18),.un .not (.t 17),some (11,true)⟩,
 ⟨(some 19),.pick (.t 11) (.t 18) (.k (.c (.d (.bool false)))),none⟩,
 ⟨(some 20),.mv (.t 19),none⟩,
 ⟨(some 21),.fieldAddr 2 (.t 1),some (20,true)⟩,
 ⟨(some 22),.load none (.t 21),some (20,true)⟩,
 ⟨(some 23),.qcall 139 [(.t 22)],some (20,true)⟩,
 ⟨(some 24),.bin .eql (.t 23) (.k (.c (.d (.int .i64 0)))),some (20,true)⟩,
 ⟨(some 25),.pick (.t 20) (.t 24) (.k (.c (.d (.bool false)))),none⟩,
 ⟨(some 2),.mv (.t 25),none⟩] [1,3,4,5,6,7,8,9,10,11,12,13,14,15,16,17,18,19,20,21,22,23,24,25])
 (.ret))
theorem ac81_ok : cFunc Tryz.prog [1000137,1000138,1000139] [(0,[0,2],[]),(1,[1,3,4,5,6,7,8,9,10,11,12,13,14,15,16,17,18,19,20,21,22,23,24,25],[])] Tryz.f81 = some (ac81,[.tmp 2],26) := by kernel_rfl
-- 118 loop.example/prologserver/spec.l4Goal params 1 ntmps 22
def ac118 : Cd := .seq (.region [⟨(some 1),.box (.t 0),none⟩,
 ⟨(some 2),.mv (.k (.c (.d (.bool false)))),none⟩] [0,2])
 (.seq (.region [⟨(some 3),.load (some 4) (.t 1),none⟩,
 ⟨(some 4),.qcall 147 [(.t 3)],none⟩,
 ⟨(some 5),.mv (.t 4),none⟩,
 ⟨(some 6),.load (some 4) (.t 1),some (5,false)⟩,
 ⟨(some 7),.qcall 81 [(.t 6)],some (5,false)⟩,
 ⟨(some 8),.pick (.t 5) (.k (.c (.d (.bool true)))) (.t 7),none⟩,
 ⟨(some 9),.mv (.t 8),none⟩,
 ⟨(some 10),.fieldAddr 0 (.t 1),some (9,false)⟩,
 ⟨(some 11),.load none (.t 10),some (9,false)⟩,
 ⟨(some 12),.bin .eql (.t 11) (.k (.c (.d (.int .i64 3)))),some (9,false)⟩,
 ⟨(some 13),.mv (.t 12),some (9,false)⟩,
 ⟨(some 14),.fieldAddr 2 (.t 1),some (13,true)⟩,
 ⟨(some 15),.load none (.t 14),some (13,true)⟩,
 ⟨(some 16),.fieldAddr 3 (.t 1),some (13,true)⟩,
 ⟨(some 17),.load none (.t 16),some (13,true)⟩,
 ⟨(some 18),.len 1 (.t 17),some (13,true)⟩,
 ⟨(some 19),.qcall 138 [(.t 15),(.t 18)],some (13,true)⟩,
 ⟨(some 20),.pick (.t 13) (.t 19) (.k (.c (.d (.bool false)))),some (9,false)⟩,
 ⟨(some 21),.pick (.t 9) (.k (.c (.d (.bool true)))) (.t 20),none⟩,
 ⟨(some 2),.mv (.t 21),none⟩] [1,3,4,5,6,7,8,9,10,11,12,13,14,15,16,17,18,19,20,21])
 (.ret))
theorem ac118_ok : cFunc Tryz.prog [1000081,1000138,1000147] [(0,[0,2],[]),(1,[1,3,4,5,6,7,8,9,10,11,12,13,14,15,16,17,18,19,20,21],[])] Tryz.f118 = some (ac118,[.tmp 2],22) := by kernel_rfl
-- 117 loop.example/prologserver/impl.GoalValid params 1 ntmps 17
def ac117 : Cd := .seq (.region [⟨(some 1),.box (.t 0),none⟩,
 ⟨(some 2),.mv (.k (.c (.d (.bool false)))),none⟩] [0,2])
 (.seq (.region [⟨(some 3),.load (some 4) (.t 1),none⟩,
 ⟨(some 4),.qcall 70 [(.t 3)],none⟩,
 ⟨(some 5),.mv (.t 4),none⟩,
 ⟨(some 6),.load (some 4) (.t 1),some (5,true)⟩,
 ⟨(some 7),.qcall 76 [(.t 6)],some (5,true)⟩,
 ⟨(some 8),.mv (.t 7),some (5,true)⟩,
 ⟨(some 9),.load (some 4) (.t 1),some (8,false)⟩,
 ⟨(some 10),.qcall 133 [(.t 9)],some (8,false)⟩,
 ⟨(some 11),.pick (.t 8) (.k (.c (.d (.bool true)))) (.t 10),some (5,true)⟩,
 ⟨(some 12),.mv (.t 11),some (5,true)⟩,
 ⟨(some 13),.load (some 4) (.t 1),some (12,false)⟩,
 ⟨(some 14),.qcall 174 [(.t 13)],some (12,false)⟩,
 ⟨(some 15),.pick (.t 12) (.k (.c (.d (.bool true)))) (.t 14),some (5,true)⟩,
 ⟨(some 16),.pick (.t 5) (.t 15) (.k (.c (.d (.bool false)))),none⟩,
 ⟨(some 2),.mv (.t 16),none⟩] [1,3,4,5,6,7,8,9,10,11,12,13,14,15,16])
 (.ret))
theorem ac117_ok : cFunc Tryz.prog [1000070,1000076,1000133,1000174] [(0,[0,2],[]),(1,[1,3,4,5,6,7,8,9,10,11,12,13,14,15,16],[])] Tryz.f117 = some (ac117,[.tmp 2],17) := by kernel_rfl
-- 69 loop.example/prologserver/spec.GoalValid params 1 ntmps 9
def ac69 : Cd := .seq (.region [⟨(some 1),.box (.t 0),none⟩,
 ⟨(some 2),.mv (.k (.c (.d (.bool false)))),none⟩] [0,2])
 (.seq (.region [⟨(some 3),.load (some 4) (.t 1),none⟩,
 ⟨(some 4),.qcall 80 [(.t 3)],none⟩,
 ⟨(some 5),.mv (.t 4),none⟩,
 ⟨(some 6),.load (some 4) (.t 1),some (5,true)⟩,
 ⟨(some 7),.qcall 118 [(.t 6)],some (5,true)⟩,
 ⟨(some 8),.pick (.t 5) (.t 7) (.k (.c (.d (.bool false)))),none⟩,
 ⟨(some 2),.mv (.t 8),none⟩] [1,3,4,5,6,7,8])
 (.ret))
theorem ac69_ok : cFunc Tryz.prog [1000080,1000118] [(0,[0,2],[]),(1,[1,3,4,5,6,7,8],[])] Tryz.f69 = some (ac69,[.tmp 2],9) := by kernel_rfl
def ops3 : List (List UInt8) := [[61], [92, 61], [61, 61], [60], [62], [61, 60], [62, 61], [61, 58, 61], [105, 115]]
def levelN (s : List UInt8) : Int := if ops3.contains s then 3 else if [[43], [45]].contains s then 2 else if [[42], [47, 47], [109, 111, 100]].contains s then 1 else 0
def leftB (s : List UInt8) : Bool := decide (levelN s = 1) || decide (levelN s = 2)
def builtB (s : List UInt8) (a : Int) : Bool :=
  if ops3.contains s then (a == 2) else if [[116, 114, 117, 101], [102, 97, 105, 108]].contains s then (a == 0)
  else if [[118, 97, 114], [110, 111, 110, 118, 97, 114], [97, 116, 111, 109], [105, 110, 116]].contains s then (a == 1) else if s = [97, 114, 103] then (a == 3) else false
theorem beq_dec {α : Type} [DecidableEq α] (a b : α) : (a == b) = decide (a = b) := by rw [Bool.eq_iff_iff]; simp
theorem level_calls (s : List UInt8) (H : Heap) : ACalls Tryz.prog 139 [.c (.d (.str s))] H (fun r H' => H' = H ∧ r = .c (.d (.int .i64 (levelN s)))) := by
  refine acalls Tryz.func139 (by kernel_rfl) ac139_ok fun hf => ?_
  simp -implicitDefEqProofs [ac139, go_sem, -List.set_cons_succ, -List.set_cons_zero]
  (repeat' (first | (refine And.intro ?_ ?_) | intro _)) <;> simp_all [levelN, leftB, builtB, ops3]
theorem opLevel_calls (s : List UInt8) (H : Heap) : ACalls Tryz.prog 170 [.c (.d (.str s))] H (fun r H' => H' = H ∧ r = .tup [.c (.d (.int .i64 (levelN s))), .c (.d (.bool (leftB s)))]) := by
  refine acalls Tryz.func170 (by kernel_rfl) ac170_ok fun hf => ?_
  simp -implicitDefEqProofs [ac170, go_sem, -List.set_cons_succ, -List.set_cons_zero]
  (repeat' (first | (refine And.intro ?_ ?_) | intro _)) <;> simp_all [levelN, leftB, builtB, ops3]
theorem isOp_calls (s : List UInt8) (H : Heap) : ACalls Tryz.prog 132 [.c (.d (.str s))] H (fun r H' => H' = H ∧ r = .c (.d (.bool (decide (0 < levelN s))))) := by
  refine acalls Tryz.func132 (by kernel_rfl) ac132_ok fun hf => ?_
  simp -implicitDefEqProofs [ac132, go_sem, -List.set_cons_succ, -List.set_cons_zero]
  refine qcall_pure (opLevel_calls s) hf rfl ?_
  simp -implicitDefEqProofs [go_sem, -List.set_cons_succ, -List.set_cons_zero]
theorem builtImpl_calls (s : List UInt8) (a : Int) (H : Heap) : ACalls Tryz.prog 180 [.c (.d (.str s)), .c (.d (.int .i64 a))] H (fun r H' => H' = H ∧ r = .c (.d (.bool (builtB s a)))) := by
  refine acalls Tryz.func180 (by kernel_rfl) ac180_ok fun hf => ?_
  simp -implicitDefEqProofs [ac180, go_sem, -List.set_cons_succ, -List.set_cons_zero]
  (repeat' (first | (refine And.intro ?_ ?_) | intro _)) <;> simp_all [levelN, leftB, builtB, ops3]
theorem builtSpec_calls (s : List UInt8) (a : Int) (H : Heap) : ACalls Tryz.prog 138 [.c (.d (.str s)), .c (.d (.int .i64 a))] H (fun r H' => H' = H ∧ r = .c (.d (.bool (builtB s a)))) := by
  refine acalls Tryz.func138 (by kernel_rfl) ac138_ok fun hf => ?_
  simp -implicitDefEqProofs [ac138, go_sem, -List.set_cons_succ, -List.set_cons_zero]
  (repeat' (first | (refine And.intro ?_ ?_) | intro _)) <;> simp_all [levelN, leftB, builtB, ops3]
theorem level_nonneg (s : List UInt8) : 0 ≤ levelN s := by
  unfold levelN
  (repeat' split) <;> omega
/-- a goal that is built in -/
def Tm.built (t : Tm) : Bool := decide (t.k = 3) && builtB t.s t.kids.length
/-- a goal for clauses -/
def Tm.plain (t : Tm) : Bool := decide (t.k = 3) && (lettersB t.s && ((levelN t.s == 0) && !builtB t.s t.kids.length))
def Tm.cutB (t : Tm) : Bool := decide (t.k = 3) && (t.kids.isEmpty && t.s == [33])
def Tm.goal (t : Tm) : Bool := t.valid && (t.plain || t.built || t.cutB)
theorem isBuilt_calls (t : Tm) (ht : t.fits) (H : Heap) : ACalls Tryz.prog 133 [.agg (t.row.map .d)] H (fun r H' => H' = H ∧ r = .c (.d (.bool t.built))) := by
  obtain ⟨k, n, s, l⟩ := t
  obtain ⟨_, _, hs, hl, hkids⟩ := ht
  have hli : inR .i64 (l.length : Int) := small_i64 (by omega) (by omega)
  refine acalls Tryz.func133 (by kernel_rfl) ac133_ok fun hf => ?_
  by_cases hk : k = 3
  · simp -implicitDefEqProofs [ac133, row_mk, hk, hli, go_sem, -List.set_cons_succ, -List.set_cons_zero]
    refine qcall_pure (builtImpl_calls s l.length) hf rfl ?_
    simp -implicitDefEqProofs [Tm.built, Tm.k, Tm.s, Tm.kids, hk, go_sem, -List.set_cons_succ, -List.set_cons_zero]
  · simp -implicitDefEqProofs [ac133, row_mk, hk, hli, Tm.built, Tm.k, go_sem, -List.set_cons_succ, -List.set_cons_zero]
theorem plainImpl_calls (t : Tm) (ht : t.fits) (H : Heap) : ACalls Tryz.prog 76 [.agg (t.row.map .d)] H (fun r H' => H' = H ∧ r = .c (.d (.bool t.plain))) := by
  have c3 := isBuilt_calls t ht
  obtain ⟨k, n, s, l⟩ := t
  obtain ⟨_, _, hs, hl, hkids⟩ := ht
  rw [row_mk] at c3
  simp only [List.map_cons, List.map_nil] at c3
  have hnn := level_nonneg s
  refine acalls Tryz.func76 (by kernel_rfl) ac76_ok fun hf => ?_
  by_cases hk : k = 3
  · simp -implicitDefEqProofs [ac76, row_mk, hk, go_sem, -List.set_cons_succ, -List.set_cons_zero]
    refine qcall_pure (isLetters_calls s (by omega)) hf rfl ?_
    cases h1 : lettersB s with
    | false => simp -implicitDefEqProofs [h1, hk, Tm.plain, Tm.k, Tm.s, go_sem, -List.set_cons_succ, -List.set_cons_zero]
    | true =>
      simp -implicitDefEqProofs [h1, hk, go_sem, -List.set_cons_succ, -List.set_cons_zero]
      refine qcall_pure (isOp_calls s) hf rfl ?_
      by_cases h2 : levelN s = 0
      · simp -implicitDefEqProofs [h1, h2, hk, go_sem, -List.set_cons_succ, -List.set_cons_zero]
        rw [hk] at c3
        refine qcall_pure c3 hf rfl ?_
        simp -implicitDefEqProofs [h1, h2, hk, Tm.plain, Tm.built, Tm.k, Tm.s, Tm.kids, go_sem, -List.set_cons_succ, -List.set_cons_zero]
      · have h3 : 0 < levelN s := by omega
        simp -implicitDefEqProofs [h1, h2, h3, hk, Tm.plain, Tm.k, Tm.s, go_sem, -List.set_cons_succ, -List.set_cons_zero]
  · simp -implicitDefEqProofs [ac76, row_mk, hk, Tm.plain, Tm.k, go_sem, -List.set_cons_succ, -List.set_cons_zero]
theorem cutImpl_calls (t : Tm) (ht : t.fits) (H : Heap) : ACalls Tryz.prog 174 [.agg (t.row.map .d)] H (fun r H' => H' = H ∧ r = .c (.d (.bool t.cutB))) := by
  have c3 := isAtom_calls t ht
  obtain ⟨k, n, s, l⟩ := t
  obtain ⟨_, _, hs, hl, hkids⟩ := ht
  rw [row_mk] at c3
  simp only [List.map_cons, List.map_nil] at c3
  refine acalls Tryz.func174 (by kernel_rfl) ac174_ok fun hf => ?_
  simp -implicitDefEqProofs [ac174, row_mk, go_sem, -List.set_cons_succ, -List.set_cons_zero]
  refine qcall_pure c3 hf rfl ?_
  simp -implicitDefEqProofs [Tm.cutB, Tm.k, Tm.s, Tm.kids, Bool.and_assoc, go_sem, -List.set_cons_succ, -List.set_cons_zero]
theorem cutSpec_calls (t : Tm) (ht : t.fits) (H : Heap) : ACalls Tryz.prog 147 [.agg (t.row.map .d)] H (fun r H' => H' = H ∧ r = .c (.d (.bool t.cutB))) := by
  obtain ⟨k, n, s, l⟩ := t
  obtain ⟨_, _, hs, hl, hkids⟩ := ht
  have hli : inR .i64 (l.length : Int) := small_i64 (by omega) (by omega)
  refine acalls Tryz.func147 (by kernel_rfl) ac147_ok fun hf => ?_
  by_cases hk : k = 3
  · by_cases h2 : s = [33]
    · simp -implicitDefEqProofs [ac147, row_mk, hk, h2, hli, Tm.cutB, Tm.k, Tm.s, Tm.kids, isEmpty_len, go_sem, -List.set_cons_succ, -List.set_cons_zero]
    · have h2b : (s == [33]) = false := by simpa using h2
      simp -implicitDefEqProofs [ac147, row_mk, hk, h2, h2b, hli, Tm.cutB, Tm.k, Tm.s, Tm.kids, go_sem, -List.set_cons_succ, -List.set_cons_zero]
  · simp -implicitDefEqProofs [ac147, row_mk, hk, hli, Tm.cutB, Tm.k, go_sem, -List.set_cons_succ, -List.set_cons_zero]
theorem plainSpec_calls (t : Tm) (ht : t.fits) (H : Heap) : ACalls Tryz.prog 81 [.agg (t.row.map .d)] H (fun r H' => H' = H ∧ r = .c (.d (.bool t.plain))) := by
  obtain ⟨k, n, s, l⟩ := t
  obtain ⟨_, _, hs, hl, hkids⟩ := ht
  have hli : inR .i64 (l.length : Int) := small_i64 (by omega) (by omega)
  refine acalls Tryz.func81 (by kernel_rfl) ac81_ok fun hf => ?_
  by_cases hk : k = 3
  · simp -implicitDefEqProofs [ac81, row_mk, hk, go_sem, -List.set_cons_succ, -List.set_cons_zero]
    refine qcall_pure (l1Word_calls s (by omega)) hf rfl ?_
    cases h1 : lettersB s with
    | false => simp -implicitDefEqProofs [h1, hk, hli, Tm.plain, Tm.k, Tm.s, go_sem, -List.set_cons_succ, -List.set_cons_zero]
    | true =>
      simp -implicitDefEqProofs [h1, hk, hli, go_sem, -List.set_cons_succ, -List.set_cons_zero]
      refine qcall_pure (builtSpec_calls s l.length) hf rfl ?_
      cases h2 : builtB s l.length with
      | true => simp -implicitDefEqProofs [h1, h2, hk, Tm.plain, Tm.k, Tm.s, Tm.kids, go_sem, -List.set_cons_succ, -List.set_cons_zero]
      | false =>
        simp -implicitDefEqProofs [h1, h2, hk, go_sem, -List.set_cons_succ, -List.set_cons_zero]
        refine qcall_pure (level_calls s) hf rfl ?_
        simp -implicitDefEqProofs [h1, h2, hk, Tm.plain, Tm.k, Tm.s, Tm.kids, go_sem, -List.set_cons_succ, -List.set_cons_zero]
  · simp -implicitDefEqProofs [ac81, row_mk, hk, Tm.plain, Tm.k, go_sem, -List.set_cons_succ, -List.set_cons_zero]
theorem l4Goal_calls (t : Tm) (ht : t.fits) (H : Heap) : ACalls Tryz.prog 118 [.agg (t.row.map .d)] H (fun r H' => H' = H ∧ r = .c (.d (.bool (t.plain || t.built || t.cutB)))) := by
  have c1 := cutSpec_calls t ht
  have c2 := plainSpec_calls t ht
  have e : ∀ x y z : Bool, (x || y || z) = (z || x || y) := by decide
  rw [e]
  generalize hc : t.cutB = b1 at c1
  generalize hp : t.plain = b2 at c2
  obtain ⟨k, n, s, l⟩ := t
  obtain ⟨_, _, hs, hl, hkids⟩ := ht
  have hli : inR .i64 (l.length : Int) := small_i64 (by omega) (by omega)
  rw [row_mk] at c1 c2
  simp only [List.map_cons, List.map_nil] at c1 c2
  refine acalls Tryz.func118 (by kernel_rfl) ac118_ok fun hf => ?_
  simp -implicitDefEqProofs [ac118, row_mk, go_sem, -List.set_cons_succ, -List.set_cons_zero]
  refine qcall_pure c1 hf rfl ?_
  cases b1 with
  | true =>
            by_cases hk : k = 3
            · simp -implicitDefEqProofs [hk, hli, go_sem, -List.set_cons_succ, -List.set_cons_zero]
            · have hkb : (k == 3) = false := by simpa using hk
              simp -implicitDefEqProofs [hk, hkb, hli, go_sem, -List.set_cons_succ, -List.set_cons_zero]
  | false =>
    simp -implicitDefEqProofs [go_sem, -List.set_cons_succ, -List.set_cons_zero]
    refine qcall_pure c2 hf rfl ?_
    cases b2 with
    | true =>
            by_cases hk : k = 3
            · simp -implicitDefEqProofs [hk, hli, go_sem, -List.set_cons_succ, -List.set_cons_zero]
            · have hkb : (k == 3) = false := by simpa using hk
              simp -implicitDefEqProofs [hk, hkb, hli, go_sem, -List.set_cons_succ, -List.set_cons_zero]
    | false =>
      by_cases hk : k = 3
      · simp -implicitDefEqProofs [hk, hli, go_sem, -List.set_cons_succ, -List.set_cons_zero]
        refine qcall_pure (builtSpec_calls s l.length) hf rfl ?_
        simp -implicitDefEqProofs [hk, Tm.built, Tm.k, Tm.s, Tm.kids, go_sem, -List.set_cons_succ, -List.set_cons_zero]
      · have hkb : (k == 3) = false := by simpa using hk
        simp -implicitDefEqProofs [hk, hkb, Tm.built, Tm.k, go_sem, -List.set_cons_succ, -List.set_cons_zero]
theorem goalSpec_calls (t : Tm) (ht : t.fits) (H : Heap) : ACalls Tryz.prog 69 [.agg (t.row.map .d)] H (fun r H' => H' = H ∧ r = .c (.d (.bool t.goal))) := by
  refine acalls Tryz.func69 (by kernel_rfl) ac69_ok fun hf => ?_
  simp -implicitDefEqProofs [ac69, row_len, take_row, pure_d, re_d, go_sem, -List.set_cons_succ, -List.set_cons_zero]
  refine qcall_pure (tvSpec_calls t ht) hf rfl ?_
  cases h : t.valid with
  | false => simp -implicitDefEqProofs [h, Tm.goal, row_len, take_row, go_sem, -List.set_cons_succ, -List.set_cons_zero]
  | true =>
    simp -implicitDefEqProofs [h, row_len, take_row, pure_d, re_d, go_sem, -List.set_cons_succ, -List.set_cons_zero]
    refine qcall_pure (l4Goal_calls t ht) hf rfl ?_
    simp -implicitDefEqProofs [h, Tm.goal, go_sem, -List.set_cons_succ, -List.set_cons_zero]
theorem goalImpl_calls (t : Tm) (ht : t.fits) (H : Heap) : ACalls Tryz.prog 117 [.agg (t.row.map .d)] H (fun r H' => H' = H ∧ r = .c (.d (.bool t.goal))) := by
  refine acalls Tryz.func117 (by kernel_rfl) ac117_ok fun hf => ?_
  simp -implicitDefEqProofs [ac117, row_len, take_row, pure_d, re_d, go_sem, -List.set_cons_succ, -List.set_cons_zero]
  refine qcall_pure (tvImpl_calls t ht) hf rfl ?_
  cases h : t.valid with
  | false => simp -implicitDefEqProofs [h, Tm.goal, row_len, take_row, go_sem, -List.set_cons_succ, -List.set_cons_zero]
  | true =>
    simp -implicitDefEqProofs [h, row_len, take_row, pure_d, re_d, go_sem, -List.set_cons_succ, -List.set_cons_zero]
    refine qcall_pure (plainImpl_calls t ht) hf rfl ?_
    cases h1 : t.plain with
    | true => simp -implicitDefEqProofs [h, h1, Tm.goal, row_len, take_row, go_sem, -List.set_cons_succ, -List.set_cons_zero]
    | false =>
      simp -implicitDefEqProofs [h, h1, row_len, take_row, pure_d, re_d, go_sem, -List.set_cons_succ, -List.set_cons_zero]
      refine qcall_pure (isBuilt_calls t ht) hf rfl ?_
      cases h2 : t.built with
      | true => simp -implicitDefEqProofs [h, h1, h2, Tm.goal, row_len, take_row, go_sem, -List.set_cons_succ, -List.set_cons_zero]
      | false =>
        simp -implicitDefEqProofs [h, h1, h2, row_len, take_row, pure_d, re_d, go_sem, -List.set_cons_succ, -List.set_cons_zero]
        refine qcall_pure (cutImpl_calls t ht) hf rfl ?_
        simp -implicitDefEqProofs [h, h1, h2, Tm.goal, go_sem, -List.set_cons_succ, -List.set_cons_zero]
end Go.Proofs.YtbblefjbgbocoaaGreatDoor

/-
  Lists of goals, for the program.
  Conditions: none.
-/
open Go Go.AM Go.Proofs
namespace Go.Proofs.YtbblefjbgbocoaaGreatDoor
open Go.ChangeShapes Go.WideShapes Go.ChangeAt Go.RowKit
set_option linter.unusedVariables false
set_option linter.unusedSimpArgs false
set_option maxRecDepth 100000
-- 116 loop.example/prologserver/impl.goalsValid$1 params 1 ntmps 6
def ac116 : Cd := .seq (.region [⟨(some 1),.box (.t 0),none⟩,
 ⟨(some 2),.mv (.k (.c (.d (.bool false)))),none⟩] [0,2])
 (.seq (.region [⟨(some 3),.load (some 4) (.t 1),none⟩,
 ⟨(some 4),.qcall 117 [(.t 3)],none⟩,
 ⟨(some 5),.un .not (.t 4),none⟩,
 ⟨(some 2),.mv (.t 5),none⟩] [1,3,4,5])
 (.ret))
theorem ac116_ok : cFunc Tryz.prog [1000117] [(0,[0,2],[]),(1,[1,3,4,5],[])] Tryz.f116 = some (ac116,[.tmp 2],6) := by kernel_rfl
-- 68 loop.example/prologserver/impl.goalsValid params 1 ntmps 11
def ac68 : Cd := .seq (.region [⟨(some 2),.mv (.k (.c (.d (.bool false)))),none⟩] [2])
 (.seq (.region [⟨(some 3),.mv (.t 0),none⟩,
 ⟨(some 4),.len 1 (.t 3),none⟩,
 ⟨(some 5),.bin .leq (.t 4) (.k (.c (.d (.int .i64 6)))),none⟩,
 ⟨(some 6),.mv (.t 5),none⟩,
 ⟨(some 7),.mv (.t 0),some (6,true)⟩,
 ⟨(some 8),.qcall 115 [(.t 7),(.k (.c (.fn 116 [])))],some (6,true)⟩,
 ⟨(some 9),.un .not (.t 8),some (6,true)⟩,
 ⟨(some 10),.pick (.t 6) (.t 9) (.k (.c (.d (.bool false)))),none⟩,
 ⟨(some 2),.mv (.t 10),none⟩] [0,3,4,5,6,7,8,9,10])
 (.ret))
theorem ac68_ok : cFunc Tryz.prog [1000115] [(0,[2],[]),(1,[0,3,4,5,6,7,8,9,10],[])] Tryz.f68 = some (ac68,[.tmp 2],11) := by kernel_rfl
/-- as many goals as a body may have -/
def goalsB (l : List Tm) : Bool := decide (l.length ≤ 6) && l.all Tm.goal
theorem any_not (l : List Tm) : (l.any fun t => !t.goal) = !l.all Tm.goal := by
  induction l with
  | nil => rfl
  | cons t l ih => simp only [List.any_cons, List.all_cons, ih, Bool.not_and]
theorem notGoal_calls (t : Tm) (ht : t.fits) (H : Heap) : ACalls Tryz.prog 116 [.agg (t.row.map .d)] H (fun r H' => H' = H ∧ r = .c (.d (.bool (!t.goal)))) := by
  refine acalls Tryz.func116 (by kernel_rfl) ac116_ok fun hf => ?_
  simp -implicitDefEqProofs [ac116, row_len, take_row, pure_d, re_d, go_sem, -List.set_cons_succ, -List.set_cons_zero]
  refine qcall_pure (goalImpl_calls t ht) hf rfl ?_
  simp -implicitDefEqProofs [go_sem, -List.set_cons_succ, -List.set_cons_zero]
theorem goalsImpl_calls (l : List Tm) (hl : l.length ≤ 1048576) (h : ∀ t ∈ l, t.fits) (H : Heap) : ACalls Tryz.prog 68 [.c (.d (.sl (l.map Tm.row)))] H (fun r H' => H' = H ∧ r = .c (.d (.bool (goalsB l)))) := by
  refine acalls Tryz.func68 (by kernel_rfl) ac68_ok fun hf => ?_
  have hli : inR .i64 (l.length : Int) := small_i64 (by omega) (by omega)
  by_cases h6 : l.length ≤ 6
  · have h6' : (l.length : Int) ≤ 6 := by omega
    simp -implicitDefEqProofs [ac68, hli, h6', go_sem, -List.set_cons_succ, -List.set_cons_zero]
    refine qcall_pure (tmF_any 116 (fun t => !t.goal) l hl fun t ht => notGoal_calls t (h t ht)) hf rfl ?_
    rw [any_not]
    simp -implicitDefEqProofs [h6, goalsB, go_sem, -List.set_cons_succ, -List.set_cons_zero]
  · have h6' : ¬ (l.length : Int) ≤ 6 := by omega
    simp -implicitDefEqProofs [ac68, hli, h6', h6, goalsB, go_sem, -List.set_cons_succ, -List.set_cons_zero]
theorem goal_take {l : List Tm} {i : Nat} (h : i < l.length) (ha : ∀ t ∈ l.take i, t.goal = true) (hb : l[i].goal = true) : ∀ t ∈ l.take (i + 1), t.goal = true := by
  intro t h'
  rw [List.take_succ_eq_append_getElem h, List.mem_append] at h'
  rcases h' with h' | h'
  · exact ha t h'
  · simp at h'; subst h'; exact hb
end Go.Proofs.YtbblefjbgbocoaaGreatDoor

/-
  Terms that are handed to a law.
  Conditions: none.
-/
open Go Go.AM Go.Proofs
namespace Go.Proofs.YtbblefjbgbocoaaGreatDoor
open Go.ChangeShapes Go.WideShapes Go.ChangeAt Go.RowKit
set_option linter.unusedVariables false
set_option linter.unusedSimpArgs false
set_option maxRecDepth 100000
end Go.Proofs.YtbblefjbgbocoaaGreatDoor

/-
  Clauses as data: what the laws' sizes, copies and comparisons of clauses answer, and ClauseSame.
  Conditions: none.
-/
open Go Go.AM Go.Proofs
namespace Go.Proofs.YtbblefjbgbocoaaGreatDoor
open Go.ChangeShapes Go.WideShapes Go.ChangeAt Go.RowKit
set_option linter.unusedVariables false
set_option linter.unusedSimpArgs false
set_option maxRecDepth 100000
/-- a clause -/
structure Cl where
  head : Tm
  body : List Tm
noncomputable instance : DecidableEq Cl := fun a b => Classical.propDecidable (a = b)
def Cl.row (c : Cl) : List D := [.int .i64 c.head.k, .int .i64 c.head.n, .str c.head.s, .sl (c.head.kids.map Tm.row), .sl (c.body.map Tm.row)]
theorem crow_len (c : Cl) : c.row.length = 5 := rfl
theorem take_crow (c : Cl) : List.take 5 (List.map C.d c.row) = List.map C.d c.row := List.take_of_length_le (by simp [crow_len])
structure Cl.fits (c : Cl) : Prop where
  head : c.head.fits
  len : c.body.length ≤ 1048576
  body : ∀ t ∈ c.body, t.fits
/-- clauses that a law looks at -/
def FitsC (l : List Cl) : Prop := l.length ≤ 1048576 ∧ ∀ c ∈ l, c.fits
end Go.Proofs.YtbblefjbgbocoaaGreatDoor

/-
  Valid clauses and programs.
  Conditions: none.
-/
open Go Go.AM Go.Proofs
namespace Go.Proofs.YtbblefjbgbocoaaGreatDoor
open Go.ChangeShapes Go.WideShapes Go.ChangeAt Go.RowKit
set_option linter.unusedVariables false
set_option linter.unusedSimpArgs false
set_option maxRecDepth 100000
-- 131 loop.example/prologserver/impl.ClauseValid params 1 ntmps 16
def ac131 : Cd := .seq (.region [⟨(some 1),.box (.t 0),none⟩,
 ⟨(some 2),.mv (.k (.c (.d (.bool false)))),none⟩] [0,2])
 (.seq (.region [⟨(some 3),.fieldAddr 0 (.t 1),none⟩,
 ⟨(some 4),.load (some 4) (.t 3),none⟩,
 ⟨(some 5),.qcall 70 [(.t 4)],none⟩,
 ⟨(some 6),.mv (.t 5),none⟩,
 ⟨(some 7),.fieldAddr 0 (.t 1),some (6,true)⟩,
 ⟨(some 8),.load (some 4) (.t 7),some (6,true)⟩,
 ⟨(some 9),.qcall 76 [(.t 8)],some (6,true)⟩,
 ⟨(some 10),.pick (.t 6) (.t 9) (.k (.c (.d (.bool false)))),none⟩,
 ⟨(some 11),.mv (.t 10),none⟩,
 ⟨(some 12),.fieldAddr 4 (.t 1),some (11,true)⟩,
 ⟨(some 13),.load none (.t 12),some (11,true)⟩,
 ⟨(some 14),.qcall 68 [(.t 13)],some (11,true)⟩,
 ⟨(some 15),.pick (.t 11) (.t 14) (.k (.c (.d (.bool false)))),none⟩,
 ⟨(some 2),.mv (.t 15),none⟩] [1,3,4,5,6,7,8,9,10,11,12,13,14,15])
 (.ret))
theorem ac131_ok : cFunc Tryz.prog [1000068,1000070,1000076] [(0,[0,2],[]),(1,[1,3,4,5,6,7,8,9,10,11,12,13,14,15],[])] Tryz.f131 = some (ac131,[.tmp 2],16) := by kernel_rfl
-- 134 loop.example/prologserver/spec.ClauseValid params 1 ntmps 36
-- loop head live: [1,3]
def ac134 : Cd := .seq (.region [⟨(some 1),.box (.t 0),none⟩,
 ⟨(some 2),.mv (.k (.c (.d (.bool false)))),none⟩] [0,2])
 (.seq (.seq (.region [⟨(some 3),.mv (.k (.c (.d (.int .i64 0)))),none⟩] [])
 (.block 0 (.loop (.seq (.seq (.region [⟨(some 4),.mv (.t 3),none⟩,
 ⟨(some 5),.fieldAddr 4 (.t 1),none⟩,
 ⟨(some 6),.load none (.t 5),none⟩,
 ⟨(some 7),.len 1 (.t 6),none⟩,
 ⟨(some 8),.bin .lss (.t 4) (.t 7),none⟩,
 ⟨(some 9),.mv (.t 8),none⟩,
 ⟨(some 10),.mv (.t 3),some (9,true)⟩,
 ⟨(some 11),.bin .leq (.t 10) (.k (.c (.d (.int .i64 6)))),some (9,true)⟩,
 ⟨(some 12),.pick (.t 9) (.t 11) (.k (.c (.d (.bool false)))),none⟩] [4,5,6,7,8,9,10,11])
 (.cond (.t 12)
 (.skip)
 (.exit 0)))
 (.seq (.block 1 (.seq (.region [⟨(some 15),.fieldAddr 4 (.t 1),none⟩,
 ⟨(some 16),.load none (.t 15),none⟩,
 ⟨(some 17),.mv (.t 3),none⟩,
 ⟨(some 18),.indexAddr 4 (.t 16) (.t 17),none⟩,
 ⟨(some 19),.load (some 4) (.t 18),none⟩,
 ⟨(some 20),.qcall 69 [(.t 19)],none⟩,
 ⟨(some 21),.un .not (.t 20),none⟩] [12,15,16,17,18,19,20])
 (.cond (.t 21)
 (.seq (.region [⟨(some 2),.mv (.k (.c (.d (.bool false)))),none⟩] [1,3,21])
 (.ret))
 (.skip))))
 (.region [⟨(some 13),.mv (.t 3),none⟩,
 ⟨(some 14),.bin .add (.t 13) (.k (.c (.d (.int .i64 1)))),none⟩,
 ⟨(some 3),.mv (.t 14),none⟩] [2,13,14,21]))))))
 (.seq (.region [⟨(some 22),.fieldAddr 4 (.t 1),none⟩,
 ⟨(some 23),.load none (.t 22),none⟩,
 ⟨(some 24),.len 1 (.t 23),none⟩,
 ⟨(some 25),.bin .leq (.t 24) (.k (.c (.d (.int .i64 6)))),none⟩,
 ⟨(some 26),.mv (.t 25),none⟩,
 ⟨(some 27),.fieldAddr 0 (.t 1),some (26,true)⟩,
 ⟨(some 28),.load (some 4) (.t 27),some (26,true)⟩,
 ⟨(some 29),.qcall 80 [(.t 28)],some (26,true)⟩,
 ⟨(some 30),.pick (.t 26) (.t 29) (.k (.c (.d (.bool false)))),none⟩,
 ⟨(some 31),.mv (.t 30),none⟩,
 ⟨(some 32),.fieldAddr 0 (.t 1),some (31,true)⟩,
 ⟨(some 33),.load (some 4) (.t 32),some (31,true)⟩,
 ⟨(some 34),.qcall 81 [(.t 33)],some (31,true)⟩,
 ⟨(some 35),.pick (.t 31) (.t 34) (.k (.c (.d (.bool false)))),none⟩,
 ⟨(some 2),.mv (.t 35),none⟩] [1,22,23,24,25,26,27,28,29,30,31,32,33,34,35])
 (.ret)))
theorem ac134_ok : cFunc Tryz.prog [1000069,1000080,1000081] [(0,[0,2],[]),(1,[],[]),(2,[4,5,6,7,8,9,10,11],[]),(4,[12,15,16,17,18,19,20],[]),(5,[1,3,21],[]),(3,[2,13,14,21],[]),(6,[1,22,23,24,25,26,27,28,29,30,31,32,33,34,35],[])] Tryz.f134 = some (ac134,[.tmp 2],36) := by kernel_rfl
-- 130 loop.example/prologserver/impl.ProgramValid$1 params 1 ntmps 6
def ac130 : Cd := .seq (.region [⟨(some 1),.box (.t 0),none⟩,
 ⟨(some 2),.mv (.k (.c (.d (.bool false)))),none⟩] [0,2])
 (.seq (.region [⟨(some 3),.load (some 5) (.t 1),none⟩,
 ⟨(some 4),.qcall 131 [(.t 3)],none⟩,
 ⟨(some 5),.un .not (.t 4),none⟩,
 ⟨(some 2),.mv (.t 5),none⟩] [1,3,4,5])
 (.ret))
theorem ac130_ok : cFunc Tryz.prog [1000131] [(0,[0,2],[]),(1,[1,3,4,5],[])] Tryz.f130 = some (ac130,[.tmp 2],6) := by kernel_rfl
-- 75 loop.example/prologserver/impl.ProgramValid params 1 ntmps 11
def ac75 : Cd := .seq (.region [⟨(some 2),.mv (.k (.c (.d (.bool false)))),none⟩] [2])
 (.seq (.region [⟨(some 3),.mv (.t 0),none⟩,
 ⟨(some 4),.len 1 (.t 3),none⟩,
 ⟨(some 5),.bin .leq (.t 4) (.k (.c (.d (.int .i64 20)))),none⟩,
 ⟨(some 6),.mv (.t 5),none⟩,
 ⟨(some 7),.mv (.t 0),some (6,true)⟩,
 ⟨(some 8),.qcall 129 [(.t 7),(.k (.c (.fn 130 [])))],some (6,true)⟩,
 ⟨(some 9),.un .not (.t 8),some (6,true)⟩,
 ⟨(some 10),.pick (.t 6) (.t 9) (.k (.c (.d (.bool false)))),none⟩,
 ⟨(some 2),.mv (.t 10),none⟩] [0,3,4,5,6,7,8,9,10])
 (.ret))
theorem ac75_ok : cFunc Tryz.prog [1000129] [(0,[2],[]),(1,[0,3,4,5,6,7,8,9,10],[])] Tryz.f75 = some (ac75,[.tmp 2],11) := by kernel_rfl
-- 79 loop.example/prologserver/spec.ProgramValid params 1 ntmps 23
-- loop head live: [0,3]
def ac79 : Cd := .seq (.region [⟨(some 2),.mv (.k (.c (.d (.bool false)))),none⟩] [2])
 (.seq (.seq (.region [⟨(some 3),.mv (.k (.c (.d (.int .i64 0)))),none⟩] [])
 (.block 0 (.loop (.seq (.seq (.region [⟨(some 4),.mv (.t 3),none⟩,
 ⟨(some 5),.mv (.t 0),none⟩,
 ⟨(some 6),.len 1 (.t 5),none⟩,
 ⟨(some 7),.bin .lss (.t 4) (.t 6),none⟩,
 ⟨(some 8),.mv (.t 7),none⟩,
 ⟨(some 9),.mv (.t 3),some (8,true)⟩,
 ⟨(some 10),.bin .leq (.t 9) (.k (.c (.d (.int .i64 20)))),some (8,true)⟩,
 ⟨(some 11),.pick (.t 8) (.t 10) (.k (.c (.d (.bool false)))),none⟩] [4,5,6,7,8,9,10])
 (.cond (.t 11)
 (.skip)
 (.exit 0)))
 (.seq (.block 1 (.seq (.region [⟨(some 14),.mv (.t 0),none⟩,
 ⟨(some 15),.mv (.t 3),none⟩,
 ⟨(some 16),.indexAddr 5 (.t 14) (.t 15),none⟩,
 ⟨(some 17),.load (some 5) (.t 16),none⟩,
 ⟨(some 18),.qcall 134 [(.t 17)],none⟩,
 ⟨(some 19),.un .not (.t 18),none⟩] [11,14,15,16,17,18])
 (.cond (.t 19)
 (.seq (.region [⟨(some 2),.mv (.k (.c (.d (.bool false)))),none⟩] [0,3,19])
 (.ret))
 (.skip))))
 (.region [⟨(some 12),.mv (.t 3),none⟩,
 ⟨(some 13),.bin .add (.t 12) (.k (.c (.d (.int .i64 1)))),none⟩,
 ⟨(some 3),.mv (.t 13),none⟩] [2,12,13,19]))))))
 (.seq (.region [⟨(some 20),.mv (.t 0),none⟩,
 ⟨(some 21),.len 1 (.t 20),none⟩,
 ⟨(some 22),.bin .leq (.t 21) (.k (.c (.d (.int .i64 20)))),none⟩,
 ⟨(some 2),.mv (.t 22),none⟩] [0,20,21,22])
 (.ret)))
theorem ac79_ok : cFunc Tryz.prog [1000134] [(0,[2],[]),(1,[],[]),(2,[4,5,6,7,8,9,10],[]),(4,[11,14,15,16,17,18],[]),(5,[0,3,19],[]),(3,[2,12,13,19],[]),(6,[0,20,21,22],[])] Tryz.f79 = some (ac79,[.tmp 2],23) := by kernel_rfl
-- 179 slices.IndexFunc[[]loop.example/prologserver/impl.Clause,loop.example/prologserver/impl.Clause] params 2 ntmps 19
-- loop head live: [0,1,7,8]
def ac179 : Cd := .seq (.region [⟨(some 4),.mv (.k (.c (.d (.int .i64 0)))),none⟩] [4])
 (.seq (.seq (.region [⟨(some 6),.mv (.t 0),none⟩,
 ⟨(some 7),.len 1 (.t 6),none⟩,
 ⟨(some 8),.mv (.k (.c (.d (.int .i64 0)))),none⟩] [6])
 (.block 0 (.loop (.seq (.region [⟨(some 9),.bin .lss (.t 8) (.t 7),none⟩] [])
 (.seq (.cond (.t 9)
 (.skip)
 (.exit 0))
 (.seq (.block 1 (.seq (.region [⟨(some 10),.mv (.t 8),none⟩,
 ⟨(some 5),.mv (.t 10),none⟩] [9,10])
 (.seq (.region [⟨(some 11),.mv (.t 1),none⟩,
 ⟨(some 12),.mv (.t 0),none⟩,
 ⟨(some 13),.mv (.t 5),none⟩,
 ⟨(some 14),.indexAddr 5 (.t 12) (.t 13),none⟩,
 ⟨(some 15),.load (some 5) (.t 14),none⟩,
 ⟨(some 16),.callv (.t 11) [(.t 15)],none⟩] [11,12,13,14,15])
 (.cond (.t 16)
 (.seq (.region [⟨(some 17),.mv (.t 5),none⟩,
 ⟨(some 4),.mv (.t 17),none⟩] [0,1,5,7,8,16,17])
 (.ret))
 (.skip)))))
 (.region [⟨(some 18),.bin .add (.t 8) (.k (.c (.d (.int .i64 1)))),none⟩,
 ⟨(some 8),.mv (.t 18),none⟩] [4,5,16,18])))))))
 (.seq (.region [⟨(some 4),.mv (.k (.c (.d (.int .i64 (-1))))),none⟩] [])
 (.ret)))
theorem ac179_ok : cFunc Tryz.prog [] [(0,[4],[]),(1,[6],[]),(2,[],[]),(3,[9,10],[]),(4,[11,12,13,14,15],[]),(5,[0,1,5,7,8,16,17],[]),(6,[4,5,16,18],[]),(7,[],[])] Tryz.f179 = some (ac179,[.tmp 4],19) := by kernel_rfl
-- 129 slices.ContainsFunc[[]loop.example/prologserver/impl.Clause,loop.example/prologserver/impl.Clause] params 2 ntmps 9
def ac129 : Cd := .seq (.region [⟨(some 4),.mv (.k (.c (.d (.bool false)))),none⟩] [4])
 (.seq (.region [⟨(some 5),.mv (.t 0),none⟩,
 ⟨(some 6),.mv (.t 1),none⟩,
 ⟨(some 7),.call false 179 [(.t 5),(.t 6)],none⟩,
 ⟨(some 8),.bin .geq (.t 7) (.k (.c (.d (.int .i64 0)))),none⟩,
 ⟨(some 4),.mv (.t 8),none⟩] [0,1,5,6,7,8])
 (.ret))
theorem ac129_ok : cFunc Tryz.prog [] [(0,[4],[]),(1,[0,1,5,6,7,8],[])] Tryz.f129 = some (ac129,[.tmp 4],9) := by kernel_rfl
theorem clF_idx {σ : Type} (Hp : σ → Heap) (n : Nat) (hn : ∀ s, (Hp s).length = n) (hfit : ∀ s, Obs.fits n 0 (Hp s)) (g : FuncId) (caps : List (Nat × Nat)) (step : σ → Cl → Bool × σ) (P : σ → Prop) (l : List Cl) (hl : l.length ≤ 1048576)
    (h : ∀ s, P s → ∀ t ∈ l, ACalls Tryz.prog g (.agg ((Cl.row t).map .d) :: caps.map fun x => .c (.ptr (.e x.1) x.2)) (Hp s) (fun r H' => r = .c (.d (.bool (step s t).1)) ∧ H' = Hp (step s t).2)) (hP : ∀ s, P s → ∀ t ∈ l, (step s t).1 = false → P (step s t).2) (s : σ) (h0 : P s) :
    ACalls Tryz.prog 179 [.c (.d (.sl (l.map Cl.row))), .c (.fn g (caps.map fun x => (.e x.1, x.2)))] (Hp s) (fun r H' => (∃ k : Int, r = .c (.d (.int .i64 k)) ∧ decide (0 ≤ k) = (anyS step l s).1) ∧ H' = Hp (anyS step l s).2) := by
  refine acalls Tryz.func179 (by kernel_rfl) ac179_ok fun hf => ?_
  have hli : inR .i64 (l.length : Int) := small_i64 (by omega) (by omega)
  simp -implicitDefEqProofs [ac179, hli, go_sem, -List.set_cons_succ, -List.set_cons_zero]
  refine loop_set (σ := Nat × σ) (fun x => [(8, .c (.d (.int .i64 x.1)))]) (fun x => Hp x.2) (fun _ => []) (fun x => x.1 ≤ l.length ∧ P x.2 ∧ anyS step (l.drop x.1) x.2 = anyS step l s) (fun x => l.length - x.1) (0, s) rfl ⟨Nat.zero_le _, h0, rfl⟩ ?_
  rintro ⟨i, q⟩ ⟨hi, hq, hrun⟩
  simp only at hi hq hrun
  simp -implicitDefEqProofs [setAll, hli, go_sem, -List.set_cons_succ, -List.set_cons_zero]
  refine ⟨fun hlt => ?_, fun hge => ?_⟩
  · refine row_of hlt (crow_len _) ?_
    simp -implicitDefEqProofs [crow_len, take_crow, pure_d, re_d, callArgs_ptrs, go_sem, -List.set_cons_succ, -List.set_cons_zero]
    have hd : l.drop i = l[i] :: l.drop (i + 1) := List.drop_eq_getElem_cons hlt
    rw [hd, anyS] at hrun
    have hadd : inR .i64 ((i : Int) + 1) := small_i64 (by omega) (by omega)
    refine (h q hq l[i] (List.getElem_mem hlt)).mono fun r H' ⟨h1, h2⟩ => ⟨Hp (step q l[i]).2, [], .c (.d (.bool (step q l[i]).1)), by simpa using h2, by simp only [hn], Nat.le_refl _, by simp only [hn]; exact hfit _, h1, ?_⟩
    cases hs : (step q l[i]).1 with
    | true =>
      rw [if_pos hs] at hrun
      simp -implicitDefEqProofs [hs, go_sem, -List.set_cons_succ, -List.set_cons_zero]
      rw [← hrun]
      exact ⟨by simp, rfl⟩
    | false =>
      rw [if_neg (by simp [hs])] at hrun
      simp -implicitDefEqProofs [hs, hadd, go_sem, -List.set_cons_succ, -List.set_cons_zero]
      exact loop_back (i + 1, (step q l[i]).2) (by simp [setAll]) ⟨hlt, hP q hq _ (List.getElem_mem hlt) hs, hrun⟩ (by show l.length - (i + 1) < l.length - i; omega)
  · rw [List.drop_of_length_le hge] at hrun
    simp only [anyS] at hrun
    rw [← hrun]
    exact ⟨by simp, rfl⟩
theorem clF_con {σ : Type} (Hp : σ → Heap) (n : Nat) (hn : ∀ s, (Hp s).length = n) (hfit : ∀ s, Obs.fits n 0 (Hp s)) (g : FuncId) (caps : List (Nat × Nat)) (step : σ → Cl → Bool × σ) (P : σ → Prop) (l : List Cl) (hl : l.length ≤ 1048576)
    (h : ∀ s, P s → ∀ t ∈ l, ACalls Tryz.prog g (.agg ((Cl.row t).map .d) :: caps.map fun x => .c (.ptr (.e x.1) x.2)) (Hp s) (fun r H' => r = .c (.d (.bool (step s t).1)) ∧ H' = Hp (step s t).2)) (hP : ∀ s, P s → ∀ t ∈ l, (step s t).1 = false → P (step s t).2) (s : σ) (h0 : P s) :
    ACalls Tryz.prog 129 [.c (.d (.sl (l.map Cl.row))), .c (.fn g (caps.map fun x => (.e x.1, x.2)))] (Hp s) (fun r H' => r = .c (.d (.bool (anyS step l s).1)) ∧ H' = Hp (anyS step l s).2) := by
  refine acalls Tryz.func129 (by kernel_rfl) ac129_ok fun hf => ?_
  simp -implicitDefEqProofs [ac129, go_sem, -List.set_cons_succ, -List.set_cons_zero]
  simp only [List.map_map, Function.comp_def, Ref.re]
  refine (clF_idx Hp n hn hfit g caps step P l hl h hP s h0).mono fun r H' ⟨⟨k, h1, h2⟩, h3⟩ => ⟨Hp (anyS step l s).2, [], .c (.d (.int .i64 k)), by simpa using h3, by simp only [hn], Nat.le_refl _, by simp only [hn]; exact hfit _, h1, ?_⟩
  simp -implicitDefEqProofs [go_sem, -List.set_cons_succ, -List.set_cons_zero]
  rw [← h2]
/-- .. where the function looks at what it is given alone -/
theorem clF_any (g : FuncId) (p : Cl → Bool) (l : List Cl) (hl : l.length ≤ 1048576) (h : ∀ t ∈ l, ∀ H, ACalls Tryz.prog g [.agg ((Cl.row t).map .d)] H (fun r H' => H' = H ∧ r = .c (.d (.bool (p t))))) (H : Heap) :
    ACalls Tryz.prog 129 [.c (.d (.sl (l.map Cl.row))), .c (.fn g [])] H (fun r H' => H' = H ∧ r = .c (.d (.bool (l.any p)))) := by
  refine acalls_fits Tryz.func129 (by kernel_rfl) (by kernel_rfl) fun hf => ?_
  have := clF_con (σ := Unit) (fun _ => H) H.length (fun _ => rfl) (fun _ => hf) g [] (fun _ t => (p t, ())) (fun _ => True) l hl (fun s _ t ht => (h t ht H).mono fun r H' ⟨h1, h2⟩ => ⟨h2, h1⟩) (fun _ _ _ _ _ => trivial) () trivial
  rw [anyS_const] at this
  exact this.mono fun r H' ⟨h1, h2⟩ => ⟨h2, h1⟩

def Cl.validB (c : Cl) : Bool := (c.head.valid && c.head.plain) && goalsB c.body
/-- as many valid clauses as a program may have -/
def progB (p : List Cl) : Bool := decide (p.length ≤ 20) && p.all Cl.validB
theorem cvImpl_calls (c : Cl) (hc : c.fits) (H : Heap) : ACalls Tryz.prog 131 [.agg (c.row.map .d)] H (fun r H' => H' = H ∧ r = .c (.d (.bool c.validB))) := by
  obtain ⟨h, b⟩ := c
  obtain ⟨hh, hl, hb⟩ := hc
  simp only at hh hl hb
  have c1 := tvImpl_calls h hh
  have c2 := plainImpl_calls h hh
  rw [row_eq] at c1 c2
  simp only [List.map_cons, List.map_nil] at c1 c2
  refine acalls Tryz.func131 (by kernel_rfl) ac131_ok fun hf => ?_
  simp -implicitDefEqProofs [ac131, Cl.row, go_sem, -List.set_cons_succ, -List.set_cons_zero]
  refine qcall_pure c1 hf rfl ?_
  cases h1 : h.valid with
  | false => simp -implicitDefEqProofs [h1, Cl.validB, go_sem, -List.set_cons_succ, -List.set_cons_zero]
  | true =>
    simp -implicitDefEqProofs [h1, go_sem, -List.set_cons_succ, -List.set_cons_zero]
    refine qcall_pure c2 hf rfl ?_
    cases h2 : h.plain with
    | false => simp -implicitDefEqProofs [h1, h2, Cl.validB, go_sem, -List.set_cons_succ, -List.set_cons_zero]
    | true =>
      simp -implicitDefEqProofs [h1, h2, go_sem, -List.set_cons_succ, -List.set_cons_zero]
      refine qcall_pure (goalsImpl_calls b hl hb) hf rfl ?_
      simp -implicitDefEqProofs [h1, h2, Cl.validB, go_sem, -List.set_cons_succ, -List.set_cons_zero]
theorem cvSpec_calls (c : Cl) (hc : c.fits) (H : Heap) : ACalls Tryz.prog 134 [.agg (c.row.map .d)] H (fun r H' => H' = H ∧ r = .c (.d (.bool c.validB))) := by
  obtain ⟨h, b⟩ := c
  obtain ⟨hh, hl, hb⟩ := hc
  simp only at hh hl hb
  have c1 := tvSpec_calls h hh
  have c2 := plainSpec_calls h hh
  rw [row_eq] at c1 c2
  simp only [List.map_cons, List.map_nil] at c1 c2
  have hli : inR .i64 (b.length : Int) := small_i64 (by omega) (by omega)
  refine acalls Tryz.func134 (by kernel_rfl) ac134_ok fun hf => ?_
  simp -implicitDefEqProofs [ac134, Cl.row, hli, go_sem, -List.set_cons_succ, -List.set_cons_zero]
  refine loop_set (σ := Nat) (fun i => [(3, .c (.d (.int .i64 i)))]) (fun _ => H) (fun _ => [_]) (fun i => i ≤ b.length ∧ ∀ t ∈ b.take i, t.goal = true) (fun i => b.length - i) 0 rfl ⟨Nat.zero_le _, by simp⟩ ?_
  rintro i ⟨hi, hall⟩
  by_cases hlt : i < b.length
  · by_cases hi6 : i ≤ 6
    · have hi6' : (i : Int) ≤ 6 := by omega
      simp -implicitDefEqProofs [setAll, hli, hlt, hi6, hi6', go_sem, -List.set_cons_succ, -List.set_cons_zero]
      refine row_of hlt (row_len _) ?_
      simp -implicitDefEqProofs [row_len, take_row, pure_d, re_d, go_sem, -List.set_cons_succ, -List.set_cons_zero]
      refine qcall_pure (goalSpec_calls b[i] (hb _ (List.getElem_mem hlt))) hf rfl ?_
      have hadd : inR .i64 ((i : Int) + 1) := small_i64 (by omega) (by omega)
      simp -implicitDefEqProofs [hadd, go_sem, -List.set_cons_succ, -List.set_cons_zero]
      refine ⟨fun hg => ?_, fun hg => loop_back (i + 1) (by simp [setAll]) ⟨hlt, goal_take hlt hall hg⟩ (by show b.length - (i + 1) < b.length - i; omega)⟩
      have : b.all Tm.goal = false := by
        rw [List.all_eq_false]
        exact ⟨b[i], List.getElem_mem hlt, by simp [hg]⟩
      simp [Cl.validB, goalsB, this]
    · have hl6 : ¬ b.length ≤ 6 := by omega
      have hl6' : ¬ (b.length : Int) ≤ 6 := by omega
      have hi6' : ¬ (i : Int) ≤ 6 := by omega
      simp -implicitDefEqProofs [setAll, hli, hlt, hi6, hi6', hl6, hl6', goalsB, Cl.validB, go_sem, -List.set_cons_succ, -List.set_cons_zero]
  · have hil : i = b.length := by omega
    subst hil
    rw [List.take_length] at hall
    have hal : b.all Tm.goal = true := List.all_eq_true.2 hall
    by_cases h6 : b.length ≤ 6
    · have h6' : (b.length : Int) ≤ 6 := by omega
      simp -implicitDefEqProofs [setAll, hli, h6', go_sem, -List.set_cons_succ, -List.set_cons_zero]
      refine qcall_pure c1 hf rfl ?_
      cases h1 : h.valid with
      | false => simp -implicitDefEqProofs [h1, Cl.validB, go_sem, -List.set_cons_succ, -List.set_cons_zero]
      | true =>
        simp -implicitDefEqProofs [h1, go_sem, -List.set_cons_succ, -List.set_cons_zero]
        refine qcall_pure c2 hf rfl ?_
        simp -implicitDefEqProofs [h1, h6, hal, goalsB, Cl.validB, go_sem, -List.set_cons_succ, -List.set_cons_zero]
    · have h6' : ¬ (b.length : Int) ≤ 6 := by omega
      simp -implicitDefEqProofs [setAll, hli, h6', h6, goalsB, Cl.validB, go_sem, -List.set_cons_succ, -List.set_cons_zero]
theorem any_notC (l : List Cl) : (l.any fun t => !t.validB) = !l.all Cl.validB := by
  induction l with
  | nil => rfl
  | cons t l ih => simp only [List.any_cons, List.all_cons, ih, Bool.not_and]
theorem notClause_calls (c : Cl) (hc : c.fits) (H : Heap) : ACalls Tryz.prog 130 [.agg (c.row.map .d)] H (fun r H' => H' = H ∧ r = .c (.d (.bool (!c.validB)))) := by
  refine acalls Tryz.func130 (by kernel_rfl) ac130_ok fun hf => ?_
  simp -implicitDefEqProofs [ac130, crow_len, take_crow, pure_d, re_d, go_sem, -List.set_cons_succ, -List.set_cons_zero]
  refine qcall_pure (cvImpl_calls c hc) hf rfl ?_
  simp -implicitDefEqProofs [go_sem, -List.set_cons_succ, -List.set_cons_zero]
theorem pvImpl_calls (p : List Cl) (hp : FitsC p) (H : Heap) : ACalls Tryz.prog 75 [.c (.d (.sl (p.map Cl.row)))] H (fun r H' => H' = H ∧ r = .c (.d (.bool (progB p)))) := by
  obtain ⟨hl, h⟩ := hp
  refine acalls Tryz.func75 (by kernel_rfl) ac75_ok fun hf => ?_
  have hli : inR .i64 (p.length : Int) := small_i64 (by omega) (by omega)
  by_cases h6 : p.length ≤ 20
  · have h6' : (p.length : Int) ≤ 20 := by omega
    simp -implicitDefEqProofs [ac75, hli, h6', go_sem, -List.set_cons_succ, -List.set_cons_zero]
    refine qcall_pure (clF_any 130 (fun t => !t.validB) p hl fun t ht => notClause_calls t (h t ht)) hf rfl ?_
    rw [any_notC]
    simp -implicitDefEqProofs [h6, progB, go_sem, -List.set_cons_succ, -List.set_cons_zero]
  · have h6' : ¬ (p.length : Int) ≤ 20 := by omega
    simp -implicitDefEqProofs [ac75, hli, h6', h6, progB, go_sem, -List.set_cons_succ, -List.set_cons_zero]
theorem valid_take {l : List Cl} {i : Nat} (h : i < l.length) (ha : ∀ t ∈ l.take i, t.validB = true) (hb : l[i].validB = true) : ∀ t ∈ l.take (i + 1), t.validB = true := by
  intro t h'
  rw [List.take_succ_eq_append_getElem h, List.mem_append] at h'
  rcases h' with h' | h'
  · exact ha t h'
  · simp at h'; subst h'; exact hb
theorem pvSpec_calls (p : List Cl) (hp : FitsC p) (H : Heap) : ACalls Tryz.prog 79 [.c (.d (.sl (p.map Cl.row)))] H (fun r H' => H' = H ∧ r = .c (.d (.bool (progB p)))) := by
  obtain ⟨hl, h⟩ := hp
  refine acalls Tryz.func79 (by kernel_rfl) ac79_ok fun hf => ?_
  have hli : inR .i64 (p.length : Int) := small_i64 (by omega) (by omega)
  simp -implicitDefEqProofs [ac79, hli, go_sem, -List.set_cons_succ, -List.set_cons_zero]
  refine loop_set (σ := Nat) (fun i => [(3, .c (.d (.int .i64 i)))]) (fun _ => H) (fun _ => []) (fun i => i ≤ p.length ∧ ∀ t ∈ p.take i, t.validB = true) (fun i => p.length - i) 0 rfl ⟨Nat.zero_le _, by simp⟩ ?_
  rintro i ⟨hi, hall⟩
  by_cases hlt : i < p.length
  · by_cases hi6 : i ≤ 20
    · have hi6' : (i : Int) ≤ 20 := by omega
      simp -implicitDefEqProofs [setAll, hli, hlt, hi6, hi6', go_sem, -List.set_cons_succ, -List.set_cons_zero]
      refine row_of hlt (crow_len _) ?_
      simp -implicitDefEqProofs [crow_len, take_crow, pure_d, re_d, go_sem, -List.set_cons_succ, -List.set_cons_zero]
      refine qcall_pure (cvSpec_calls p[i] (h _ (List.getElem_mem hlt))) hf rfl ?_
      have hadd : inR .i64 ((i : Int) + 1) := small_i64 (by omega) (by omega)
      simp -implicitDefEqProofs [hadd, go_sem, -List.set_cons_succ, -List.set_cons_zero]
      refine ⟨fun hg => ?_, fun hg => loop_back (i + 1) (by simp [setAll]) ⟨hlt, valid_take hlt hall hg⟩ (by show p.length - (i + 1) < p.length - i; omega)⟩
      have : p.all Cl.validB = false := by
        rw [List.all_eq_false]
        exact ⟨p[i], List.getElem_mem hlt, by simp [hg]⟩
      simp [progB, this]
    · have hl6 : ¬ p.length ≤ 20 := by omega
      have hl6' : ¬ (p.length : Int) ≤ 20 := by omega
      have hi6' : ¬ (i : Int) ≤ 20 := by omega
      simp -implicitDefEqProofs [setAll, hli, hlt, hi6, hi6', hl6, hl6', progB, go_sem, -List.set_cons_succ, -List.set_cons_zero]
  · have hil : i = p.length := by omega
    subst hil
    rw [List.take_length] at hall
    have hal : p.all Cl.validB = true := List.all_eq_true.2 hall
    simp -implicitDefEqProofs [setAll, hli, progB, hal, go_sem, -List.set_cons_succ, -List.set_cons_zero]
    all_goals omega
end Go.Proofs.YtbblefjbgbocoaaGreatDoor

/-
  The clauses for a goal.
  Conditions: none.
-/
open Go Go.AM Go.Proofs
namespace Go.Proofs.YtbblefjbgbocoaaGreatDoor
open Go.ChangeShapes Go.WideShapes Go.ChangeAt Go.RowKit
set_option linter.unusedVariables false
set_option linter.unusedSimpArgs false
set_option maxRecDepth 100000
-- 78 loop.example/prologserver/impl.pred params 1 ntmps 9
def ac78 : Cd := .seq (.region [⟨(some 1),.box (.t 0),none⟩,
 ⟨(some 2),.alloc [(.d (.str [])),(.d (.int .i64 0))],none⟩] [0])
 (.seq (.region [⟨(some 3),.fieldAddr 2 (.t 1),none⟩,
 ⟨(some 4),.load none (.t 3),none⟩,
 ⟨(some 5),.fieldAddr 3 (.t 1),none⟩,
 ⟨(some 6),.load none (.t 5),none⟩,
 ⟨(some 7),.len 1 (.t 6),none⟩,
 ⟨(some 8),.build [(.d (.str [])),(.d (.int .i64 0))] [(0,1,(.t 4)),(1,1,(.t 7))],none⟩,
 ⟨none,.store 2 (.t 2) (.t 8),none⟩] [1,3,4,5,6,7,8])
 (.ret))
theorem ac78_ok : cFunc Tryz.prog [] [(0,[0],[]),(1,[1,3,4,5,6,7,8],[])] Tryz.f78 = some (ac78,[.cell 2 (some 2)],9) := by kernel_rfl
-- 77 loop.example/prologserver/impl.clausesFor params 2 ntmps 26
-- loop head live: [3,5,8,9,10]
def ac77 : Cd := .seq (.region [⟨(some 3),.box (.t 1),none⟩,
 ⟨(some 4),.mv (.k (.c (.full []))),none⟩] [1,4])
 (.seq (.region [⟨(some 5),.mv (.k (.c (.full []))),none⟩] [])
 (.seq (.seq (.region [⟨(some 8),.mv (.t 0),none⟩,
 ⟨(some 9),.len 1 (.t 8),none⟩,
 ⟨(some 10),.mv (.k (.c (.d (.int .i64 0)))),none⟩] [0])
 (.block 0 (.loop (.seq (.region [⟨(some 11),.bin .lss (.t 10) (.t 9),none⟩] [])
 (.seq (.cond (.t 11)
 (.skip)
 (.exit 0))
 (.seq (.block 1 (.seq (.region [⟨(some 12),.mv (.t 10),none⟩,
 ⟨(some 13),.indexAddr 5 (.t 8) (.t 10),none⟩,
 ⟨(some 14),.load (some 5) (.t 13),none⟩,
 ⟨(some 7),.alloc [(.d (.int .i64 0)),(.d (.int .i64 0)),(.d (.str [])),(.full []),(.full [])],none⟩,
 ⟨(some 6),.mv (.t 12),none⟩,
 ⟨none,.store 5 (.t 7) (.t 14),none⟩] [11,12,13,14])
 (.seq (.region [⟨(some 15),.fieldAddr 0 (.t 7),none⟩,
 ⟨(some 16),.load (some 4) (.t 15),none⟩,
 ⟨(some 17),.qcall 78 [(.t 16)],none⟩,
 ⟨(some 18),.load (some 2) (.t 3),none⟩,
 ⟨(some 19),.eqAgg false [.str,.int] (.t 17) (.t 18),none⟩] [7,15,16,17,18])
 (.cond (.t 19)
 (.region [⟨(some 20),.mv (.t 5),none⟩,
 ⟨(some 21),.mv (.t 6),none⟩,
 ⟨(some 22),.buildSlice 1 1 [(.int .i64 0)] [(0,(.t 21))],none⟩,
 ⟨(some 23),.append false 1 (.t 20) (.t 22),none⟩,
 ⟨(some 5),.mv (.t 23),none⟩] [6,19,20,21,22,23])
 (.skip)))))
 (.region [⟨(some 24),.bin .add (.t 10) (.k (.c (.d (.int .i64 1)))),none⟩,
 ⟨(some 10),.mv (.t 24),none⟩] [6,19,24])))))))
 (.seq (.region [⟨(some 25),.mv (.t 5),none⟩,
 ⟨(some 4),.mv (.t 25),none⟩] [5,25])
 (.ret))))
theorem ac77_ok : cFunc Tryz.prog [1000078] [(0,[1,4],[]),(1,[],[]),(2,[0],[]),(3,[],[]),(4,[11,12,13,14],[]),(5,[7,15,16,17,18],[0,1,2,3,4]),(6,[6,19,20,21,22,23],[]),(7,[6,19,24],[]),(8,[5,25],[])] Tryz.f77 = some (ac77,[.tmp 4],26) := by kernel_rfl
-- 140 loop.example/prologserver/spec.l4For params 2 ntmps 41
-- loop head live: [0,3,5,6]
def ac140 : Cd := .seq (.region [⟨(some 3),.box (.t 1),none⟩,
 ⟨(some 4),.mv (.k (.c (.full []))),none⟩] [1,4])
 (.seq (.region [⟨(some 7),.buildSlice 1 0 [(.int .i64 0)] [],none⟩,
 ⟨(some 5),.mv (.t 7),none⟩] [7])
 (.seq (.seq (.region [⟨(some 6),.mv (.k (.c (.d (.int .i64 0)))),none⟩] [])
 (.block 0 (.loop (.seq (.seq (.region [⟨(some 8),.mv (.t 6),none⟩,
 ⟨(some 9),.mv (.t 0),none⟩,
 ⟨(some 10),.len 1 (.t 9),none⟩,
 ⟨(some 11),.bin .lss (.t 8) (.t 10),none⟩] [8,9,10])
 (.cond (.t 11)
 (.skip)
 (.exit 0)))
 (.seq (.block 1 (.seq (.region [⟨(some 14),.mv (.t 0),none⟩,
 ⟨(some 15),.mv (.t 6),none⟩,
 ⟨(some 16),.indexAddr 5 (.t 14) (.t 15),none⟩,
 ⟨(some 17),.fieldAddr 0 (.t 16),none⟩,
 ⟨(some 18),.fieldAddr 2 (.t 17),none⟩,
 ⟨(some 20),.fieldAddr 2 (.t 3),none⟩,
 ⟨(some 19),.load none (.t 18),none⟩,
 ⟨(some 21),.load none (.t 20),none⟩,
 ⟨(some 22),.bin .eql (.t 19) (.t 21),none⟩,
 ⟨(some 23),.mv (.t 22),none⟩,
 ⟨(some 24),.mv (.t 0),some (23,true)⟩,
 ⟨(some 25),.mv (.t 6),some (23,true)⟩,
 ⟨(some 26),.indexAddr 5 (.t 24) (.t 25),some (23,true)⟩,
 ⟨(some 27),.fieldAddr 0 (.t 26),some (23,true)⟩,
 ⟨(some 28),.fieldAddr 3 (.t 27),some (23,true)⟩,
 ⟨(some 31),.fieldAddr 3 (.t 3),some (23,true)⟩,
 ⟨(some 29),.load none (.t 28),some (23,true)⟩,
 ⟨(some 30),.len 1 (.t 29),some (23,true)⟩,
 ⟨(some 32),.load none (.t 31),some (23,true)⟩,
 ⟨(some 33),.len 1 (.t 32),some (23,true)⟩,
 ⟨(some 34),.bin .eql (.t 30) (.t 33),some (23,true)⟩,
 ⟨(some 35),.pick (.t 23) (.t 34) (.k (.c (.d (.bool false)))),none⟩] [11,14,15,16,17,18,19,20,21,22,23,24,25,26,27,28,29,30,31,32,33,34])
 (.cond (.t 35)
 (.region [⟨(some 36),.mv (.t 5),none⟩,
 ⟨(some 37),.mv (.t 6),none⟩,
 ⟨(some 38),.buildSlice 1 1 [(.int .i64 0)] [(0,(.t 37))],none⟩,
 ⟨(some 39),.append false 1 (.t 36) (.t 38),none⟩,
 ⟨(some 5),.mv (.t 39),none⟩] [35,36,37,38,39])
 (.skip))))
 (.region [⟨(some 12),.mv (.t 6),none⟩,
 ⟨(some 13),.bin .add (.t 12) (.k (.c (.d (.int .i64 1)))),none⟩,
 ⟨(some 6),.mv (.t 13),none⟩] [12,13,35]))))))
 (.seq (.region [⟨(some 40),.mv (.t 5),none⟩,
 ⟨(some 4),.mv (.t 40),none⟩] [5,40])
 (.ret))))
theorem ac140_ok : cFunc Tryz.prog [] [(0,[1,4],[]),(1,[7],[]),(2,[],[]),(3,[8,9,10],[]),(5,[11,14,15,16,17,18,19,20,21,22,23,24,25,26,27,28,29,30,31,32,33,34],[0,1,2,3,4,6,5,7,8,9,10,11,12,13,14,17,15,16,18,19,20,21]),(6,[35,36,37,38,39],[]),(4,[12,13,35],[]),(7,[5,40],[])] Tryz.f140 = some (ac140,[.tmp 4],41) := by kernel_rfl
def hits (c : Cl) (g : Tm) : Bool := decide (c.head.s = g.s) && decide ((c.head.kids.length : Int) = g.kids.length)
/-- the places of the clauses for a goal -/
def forI (p : List Cl) (g : Tm) : Nat → List Int
  | 0 => []
  | i + 1 => forI p g i ++ (match p[i]? with | some c => if hits c g then [(i : Int)] else [] | none => [])
theorem forI_len (p : List Cl) (g : Tm) : ∀ i, (forI p g i).length ≤ i
  | 0 => by simp [forI]
  | i + 1 => by
    have := forI_len p g i
    rw [forI, List.length_append]
    split
    · split <;> simp <;> omega
    · simp; omega
theorem forI_hit {p : List Cl} {g : Tm} {i : Nat} (hi : i < p.length) (h : hits p[i] g = true) : forI p g (i + 1) = forI p g i ++ [(i : Int)] := by
  rw [forI, List.getElem?_eq_getElem hi]; simp [h]
theorem forI_miss {p : List Cl} {g : Tm} {i : Nat} (hi : i < p.length) (h : hits p[i] g = false) : forI p g (i + 1) = forI p g i := by
  rw [forI, List.getElem?_eq_getElem hi]; simp [h]
theorem pred_calls (t : Tm) (ht : t.fits) (H : Heap) : ACalls Tryz.prog 78 [.agg (t.row.map .d)] H (fun r H' => H' = H ∧ r = .agg [.d (.str t.s), .d (.int .i64 t.kids.length)]) := by
  obtain ⟨k, n, s, l⟩ := t
  obtain ⟨_, _, _, hl, _⟩ := ht
  have hli : inR .i64 (l.length : Int) := small_i64 (by omega) (by omega)
  refine acalls Tryz.func78 (by kernel_rfl) ac78_ok fun hf => ?_
  simp -implicitDefEqProofs [ac78, row_mk, hf, hli, Tm.s, Tm.kids, go_sem, -List.set_cons_succ, -List.set_cons_zero]
theorem cfor_calls (p : List Cl) (hp : FitsC p) (g : Tm) (hg : g.fits) (H : Heap) : ACalls Tryz.prog 77 [.c (.d (.sl (p.map Cl.row))), .agg [.d (.str g.s), .d (.int .i64 g.kids.length)]] H (fun r H' => H' = H ∧ r = .c (.d (.sl (intRows (forI p g p.length))))) := by
  have hl := hp.1
  have hli : inR .i64 (p.length : Int) := small_i64 (by omega) (by omega)
  refine acalls Tryz.func77 (by kernel_rfl) ac77_ok fun hf => ?_
  simp -implicitDefEqProofs [ac77, hli, go_sem, -List.set_cons_succ, -List.set_cons_zero]
  refine loop_enter (St.le_token 5 1 rfl) ?_
  refine loop_set (σ := Nat) (fun i => [(10, .c (.d (.int .i64 i))), (5, .c (.own (.l 1) (forI p g i).length (intRows (forI p g i))))]) (fun _ => H) (fun i => [.cells [.d (.str g.s), .d (.int .i64 g.kids.length)], .grow (forI p g i).length 1]) (fun i => i ≤ p.length) (fun i => p.length - i) 0 rfl (Nat.zero_le _) ?_
  intro i hi
  have hfl := forI_len p g i
  simp -implicitDefEqProofs [setAll, hli, go_sem, -List.set_cons_succ, -List.set_cons_zero]
  refine ⟨fun hlt => ?_, fun hge => ?_⟩
  · have hc := hp.2 p[i] (List.getElem_mem hlt)
    have hadd : inR .i64 ((i : Int) + 1) := small_i64 (by omega) (by omega)
    refine row_of hlt rfl ?_
    simp -implicitDefEqProofs [Cl.row, hf, go_sem, -List.set_cons_succ, -List.set_cons_zero]
    have hpc := pred_calls p[i].head hc.head
    rw [row_eq] at hpc
    simp only [List.map_cons, List.map_nil] at hpc
    refine qcall_pure hpc hf rfl ?_
    simp -implicitDefEqProofs [hf, hadd, go_sem, -List.set_cons_succ, -List.set_cons_zero]
    refine ⟨fun e1 e2 => ?_, fun h => ?_⟩
    · have hh : hits p[i] g = true := by simp [hits, e1]; omega
      have hnx := forI_hit hlt hh
      simp -implicitDefEqProofs [hadd, allLen_ints, go_sem, -List.set_cons_succ, -List.set_cons_zero]
      refine ⟨by rw [intRows_len]; unfold maxApp; omega, ?_⟩
      have hr : intRows (forI p g i) ++ [[D.int IntKind.i64 (i : Int)]] = intRows (forI p g (i + 1)) := by rw [hnx]; simp [intRows]
      have hn : (forI p g i).length + 1 = (forI p g (i + 1)).length := by rw [hnx]; simp
      rw [hr, hn]
      refine loop_less (i + 1) (St.le_cut [_] ?_ (by simp [Sl.le, A.le_refl_iff, A.le_u_iff, As.lo, A.lo, C.lo, Ref.lo, Cs.lo, Obs.lo, Ob.lo, setAll, and_true, true_and, List.length_nil, List.length_cons]) rfl ⟨⟨trivial, trivial, trivial⟩, trivial, trivial⟩) hlt (by show p.length - (i + 1) < p.length - i; omega)
      simp [Sl.le, A.le_refl_iff, A.le_u_iff, As.lo, A.lo, C.lo, Ref.lo, Cs.lo, Obs.lo, Ob.lo, setAll, and_true, true_and, List.length_nil, List.length_cons]
    · have hh : hits p[i] g = false := by
        simp only [hits, Bool.and_eq_false_iff, decide_eq_false_iff_not]
        by_cases e : p[i].head.s = g.s
        · exact .inr (h e)
        · exact .inl e
      have hnx := forI_miss hlt hh
      refine loop_less (i + 1) (St.le_cut [_] ?_ (by simp [Sl.le, A.le_refl_iff, A.le_u_iff, As.lo, A.lo, C.lo, Ref.lo, Cs.lo, Obs.lo, Ob.lo, setAll, and_true, true_and, List.length_nil, List.length_cons]) (by simp only [hnx]; rfl) ⟨⟨trivial, trivial, trivial⟩, trivial, trivial⟩) hlt (by show p.length - (i + 1) < p.length - i; omega)
      simp [hnx, Sl.le, A.le_refl_iff, A.le_u_iff, As.lo, A.lo, C.lo, Ref.lo, Cs.lo, Obs.lo, Ob.lo, setAll, and_true, true_and, List.length_nil, List.length_cons]
  · obtain rfl : i = p.length := by omega
    simp
theorem l4For_calls (p : List Cl) (hp : FitsC p) (g : Tm) (hg : g.fits) (H : Heap) : ACalls Tryz.prog 140 [.c (.d (.sl (p.map Cl.row))), .agg (g.row.map .d)] H (fun r H' => H' = H ∧ r = .c (.d (.sl (intRows (forI p g p.length))))) := by
  have hl := hp.1
  have hli : inR .i64 (p.length : Int) := small_i64 (by omega) (by omega)
  obtain ⟨gk, gn, gs, gl⟩ := g
  obtain ⟨_, _, _, hgl, _⟩ := hg
  have hgi : inR .i64 (gl.length : Int) := small_i64 (by omega) (by omega)
  generalize hG : Tm.mk gk gn gs gl = G
  have es : G.s = gs := by rw [← hG]; rfl
  have el : G.kids = gl := by rw [← hG]; rfl
  have er : G.row = [.int .i64 gk, .int .i64 gn, .str gs, .sl (gl.map Tm.row)] := by rw [← hG]; exact row_mk _ _ _ _
  refine acalls Tryz.func140 (by kernel_rfl) ac140_ok fun hf => ?_
  rw [er]
  simp -implicitDefEqProofs [ac140, hli, go_sem, -List.set_cons_succ, -List.set_cons_zero]
  refine loop_enter (St.le_token 5 1 rfl) ?_
  refine loop_set (σ := Nat) (fun i => [(6, .c (.d (.int .i64 i))), (5, .c (.own (.l 1) (forI p G i).length (intRows (forI p G i))))]) (fun _ => H) (fun i => [.cells [.d (.int .i64 gk), .d (.int .i64 gn), .d (.str gs), .d (.sl (gl.map Tm.row))], .grow (forI p G i).length 1]) (fun i => i ≤ p.length) (fun i => p.length - i) 0 rfl (Nat.zero_le _) ?_
  intro i hi
  have hfl := forI_len p G i
  simp -implicitDefEqProofs [setAll, hli, go_sem, -List.set_cons_succ, -List.set_cons_zero]
  refine ⟨fun hlt => ?_, fun hge => ?_⟩
  · have hc := hp.2 p[i] (List.getElem_mem hlt)
    have hkl : p[i].head.kids.length ≤ 1048576 := by
      have := hc.head
      cases hh : p[i].head with
      | mk a b c d => rw [hh] at this; obtain ⟨_, _, _, h4, _⟩ := this; exact h4
    have hki : inR .i64 (p[i].head.kids.length : Int) := small_i64 (by omega) (by omega)
    have hadd : inR .i64 ((i : Int) + 1) := small_i64 (by omega) (by omega)
    refine row_of hlt rfl ?_
    simp -implicitDefEqProofs [Cl.row, hf, hki, hgi, hadd, go_sem, -List.set_cons_succ, -List.set_cons_zero]
    refine ⟨fun _ => by omega, p[i].row, fun _ => ⟨by simp [hlt], rfl⟩, ?_⟩
    simp -implicitDefEqProofs [Cl.row, hf, hki, hgi, hadd, go_sem, -List.set_cons_succ, -List.set_cons_zero]
    refine ⟨fun e1 e2 => ?_, fun h => ?_⟩
    · have hh : hits p[i] G = true := by simp [hits, es, el, e1]; omega
      have hnx := forI_hit hlt hh
      have hr : intRows (forI p G i) ++ [[D.int IntKind.i64 (i : Int)]] = intRows (forI p G (i + 1)) := by rw [hnx]; simp [intRows]
      have hn : (forI p G i).length + 1 = (forI p G (i + 1)).length := by rw [hnx]; simp
      simp -implicitDefEqProofs [allLen_ints, go_sem, -List.set_cons_succ, -List.set_cons_zero]
      refine ⟨by rw [intRows_len]; unfold maxApp; omega, ?_⟩
      rw [hr, hn]
      exact loop_back (i + 1) (by simp [setAll]) hlt (by show p.length - (i + 1) < p.length - i; omega)
    · have hh : hits p[i] G = false := by
        simp only [hits, es, el, Bool.and_eq_false_iff, decide_eq_false_iff_not]
        by_cases e : p[i].head.s = gs
        · exact .inr (h e)
        · exact .inl e
      have hnx := forI_miss hlt hh
      exact loop_back (i + 1) (by simp [setAll, hnx]) hlt (by show p.length - (i + 1) < p.length - i; omega)
  · obtain rfl : i = p.length := by omega
    simp
end Go.Proofs.YtbblefjbgbocoaaGreatDoor

/-
  Determinate predicates, of the program and of the reference.
  Conditions: none.
-/
open Go Go.AM Go.Proofs
namespace Go.Proofs.YtbblefjbgbocoaaGreatDoor
open Go.ChangeShapes Go.WideShapes Go.ChangeAt Go.RowKit
set_option linter.unusedVariables false
set_option linter.unusedSimpArgs false
set_option maxRecDepth 100000
-- 141 loop.example/prologserver/spec.KeysFit params 2 ntmps 16
def ac141 : Cd := .seq (.region [⟨(some 4),.mv (.k (.c (.d (.bool false)))),none⟩] [4])
 (.seq (.region [⟨(some 5),.mv (.t 0),none⟩,
 ⟨(some 6),.bin .eql (.t 5) (.k (.c (.d (.str [])))),none⟩,
 ⟨(some 7),.mv (.t 6),none⟩,
 ⟨(some 8),.mv (.t 1),some (7,false)⟩,
 ⟨(some 9),.bin .eql (.t 8) (.k (.c (.d (.str [])))),some (7,false)⟩,
 ⟨(some 10),.pick (.t 7) (.k (.c (.d (.bool true)))) (.t 9),none⟩,
 ⟨(some 11),.mv (.t 10),none⟩,
 ⟨(some 12),.mv (.t 0),some (11,false)⟩,
 ⟨(some 13),.mv (.t 1),some (11,false)⟩,
 ⟨(some 14),.bin .eql (.t 12) (.t 13),some (11,false)⟩,
 ⟨(some 15),.pick (.t 11) (.k (.c (.d (.bool true)))) (.t 14),none⟩,
 ⟨(some 4),.mv (.t 15),none⟩] [0,1,5,6,7,8,9,10,11,12,13,14,15])
 (.ret))
theorem ac141_ok : cFunc Tryz.prog [] [(0,[4],[]),(1,[0,1,5,6,7,8,9,10,11,12,13,14,15],[])] Tryz.f141 = some (ac141,[.tmp 4],16) := by kernel_rfl
-- 34 loop.example/prologserver/impl.KeysFit params 2 ntmps 16
def ac34 : Cd := .seq (.region [⟨(some 4),.mv (.k (.c (.d (.bool false)))),none⟩] [4])
 (.seq (.region [⟨(some 5),.mv (.t 0),none⟩,
 ⟨(some 6),.bin .eql (.t 5) (.k (.c (.d (.str [])))),none⟩,
 ⟨(some 7),.mv (.t 6),none⟩,
 ⟨(some 8),.mv (.t 1),some (7,false)⟩,
 ⟨(some 9),.bin .eql (.t 8) (.k (.c (.d (.str [])))),some (7,false)⟩,
 ⟨(some 10),.pick (.t 7) (.k (.c (.d (.bool true)))) (.t 9),none⟩,
 ⟨(some 11),.mv (.t 10),none⟩,
 ⟨(some 12),.mv (.t 0),some (11,false)⟩,
 ⟨(some 13),.mv (.t 1),some (11,false)⟩,
 ⟨(some 14),.bin .eql (.t 12) (.t 13),some (11,false)⟩,
 ⟨(some 15),.pick (.t 11) (.k (.c (.d (.bool true)))) (.t 14),none⟩,
 ⟨(some 4),.mv (.t 15),none⟩] [0,1,5,6,7,8,9,10,11,12,13,14,15])
 (.ret))
theorem ac34_ok : cFunc Tryz.prog [] [(0,[4],[]),(1,[0,1,5,6,7,8,9,10,11,12,13,14,15],[])] Tryz.f34 = some (ac34,[.tmp 4],16) := by kernel_rfl
/-- whether keys fit -/
def kfit (x y : List UInt8) : Bool := x.isEmpty || y.isEmpty || x == y
theorem kfSpec_calls (x y : List UInt8) (H : Heap) : ACalls Tryz.prog 141 [.c (.d (.str x)), .c (.d (.str y))] H (fun r H' => H' = H ∧ r = .c (.d (.bool (kfit x y)))) := by
  refine acalls Tryz.func141 (by kernel_rfl) ac141_ok fun hf => ?_
  simp -implicitDefEqProofs [ac141, kfit, go_sem, -List.set_cons_succ, -List.set_cons_zero]
theorem kfImpl_calls (x y : List UInt8) (H : Heap) : ACalls Tryz.prog 34 [.c (.d (.str x)), .c (.d (.str y))] H (fun r H' => H' = H ∧ r = .c (.d (.bool (kfit x y)))) := by
  refine acalls Tryz.func34 (by kernel_rfl) ac34_ok fun hf => ?_
  simp -implicitDefEqProofs [ac34, kfit, go_sem, -List.set_cons_succ, -List.set_cons_zero]
/-- the key of a clause's head -/
def keyAt (p : List Cl) (x : Int) : List UInt8 := match p[x.toNat]? with
  | some c => c.head.key
  | none => []
theorem forI_mem (p : List Cl) (g : Tm) : ∀ i, ∀ x ∈ forI p g i, 0 ≤ x ∧ x < p.length
  | 0, x, h => by simp [forI] at h
  | i + 1, x, h => by
    simp only [forI, List.mem_append] at h
    rcases h with h | h
    · exact forI_mem p g i x h
    · cases hi : p[i]? with
      | none => simp [hi] at h
      | some c =>
        have := (List.getElem?_eq_some_iff.1 hi).1
        simp only [hi] at h
        split at h
        · simp at h; omega
        · simp at h
theorem head_calls {p : List Cl} (hp : FitsC p) (hv : progB p = true) {x : Int} (h : 0 ≤ x ∧ x < p.length) : ∃ c : Cl, p[x.toNat]? = some c ∧ c.head.fits ∧ c.head.valid = true ∧ keyAt p x = c.head.key := by
  have hlt : x.toNat < p.length := by omega
  refine ⟨p[x.toNat], List.getElem?_eq_getElem hlt, (hp.2 _ (List.getElem_mem hlt)).head, ?_, by simp [keyAt, List.getElem?_eq_getElem hlt]⟩
  simp only [progB, Bool.and_eq_true, List.all_eq_true] at hv
  have := hv.2 _ (List.getElem_mem hlt)
  simp only [Cl.validB, Bool.and_eq_true] at this
  exact this.1.1
end Go.Proofs.YtbblefjbgbocoaaGreatDoor

/-
  The candidates of a goal: a list is copied, and what does not fit is deleted.
  Conditions: none.
-/
open Go Go.AM Go.Proofs
namespace Go.Proofs.YtbblefjbgbocoaaGreatDoor
open Go.ChangeShapes Go.WideShapes Go.ChangeAt Go.RowKit
set_option linter.unusedVariables false
set_option linter.unusedSimpArgs false
set_option maxRecDepth 100000
-- 127 slices.Clone[[]int,int] params 1 ntmps 8
def ac127 : Cd := .seq (.region [⟨(some 2),.mv (.k (.c (.full []))),none⟩] [2])
 (.seq (.seq (.region [⟨(some 3),.mv (.t 0),none⟩,
 ⟨(some 4),.nilSl false (.t 3),none⟩] [3])
 (.cond (.t 4)
 (.seq (.region [⟨(some 2),.mv (.k (.c (.full []))),none⟩] [0,4])
 (.ret))
 (.skip)))
 (.seq (.region [⟨(some 5),.buildSlice 1 0 [(.int .i64 0)] [],none⟩,
 ⟨(some 6),.mv (.t 0),none⟩,
 ⟨(some 7),.appendF 1 (.t 5) (.t 6),none⟩,
 ⟨(some 2),.mv (.t 7),none⟩] [0,4,5,6,7])
 (.ret)))
theorem ac127_ok : cFunc Tryz.prog [3000005] [(0,[2],[]),(1,[3],[]),(2,[0,4],[]),(3,[0,4,5,6,7],[])] Tryz.f127 = some (ac127,[.tmp 2],8) := by kernel_rfl
-- 178 slices.IndexFunc[[]int,int] params 2 ntmps 19
-- loop head live: [0,1,7,8]
def ac178 : Cd := .seq (.region [⟨(some 4),.mv (.k (.c (.d (.int .i64 0)))),none⟩] [4])
 (.seq (.seq (.region [⟨(some 6),.mv (.t 0),none⟩,
 ⟨(some 7),.len 1 (.t 6),none⟩,
 ⟨(some 8),.mv (.k (.c (.d (.int .i64 0)))),none⟩] [6])
 (.block 0 (.loop (.seq (.region [⟨(some 9),.bin .lss (.t 8) (.t 7),none⟩] [])
 (.seq (.cond (.t 9)
 (.skip)
 (.exit 0))
 (.seq (.block 1 (.seq (.region [⟨(some 10),.mv (.t 8),none⟩,
 ⟨(some 5),.mv (.t 10),none⟩] [9,10])
 (.seq (.region [⟨(some 11),.mv (.t 1),none⟩,
 ⟨(some 12),.mv (.t 0),none⟩,
 ⟨(some 13),.mv (.t 5),none⟩,
 ⟨(some 14),.indexAddr 1 (.t 12) (.t 13),none⟩,
 ⟨(some 15),.load none (.t 14),none⟩,
 ⟨(some 16),.callv (.t 11) [(.t 15)],none⟩] [11,12,13,14,15])
 (.cond (.t 16)
 (.seq (.region [⟨(some 17),.mv (.t 5),none⟩,
 ⟨(some 4),.mv (.t 17),none⟩] [0,1,5,7,8,16,17])
 (.ret))
 (.skip)))))
 (.region [⟨(some 18),.bin .add (.t 8) (.k (.c (.d (.int .i64 1)))),none⟩,
 ⟨(some 8),.mv (.t 18),none⟩] [4,5,16,18])))))))
 (.seq (.region [⟨(some 4),.mv (.k (.c (.d (.int .i64 (-1))))),none⟩] [])
 (.ret)))
theorem ac178_ok : cFunc Tryz.prog [] [(0,[4],[]),(1,[6],[]),(2,[],[]),(3,[9,10],[]),(4,[11,12,13,14,15],[]),(5,[0,1,5,7,8,16,17],[]),(6,[4,5,16,18],[]),(7,[],[])] Tryz.f178 = some (ac178,[.tmp 4],19) := by kernel_rfl
-- 126 slices.DeleteFunc[[]int,int] params 2 ntmps 42
-- loop head live: [0,1,5,6]
def ac126 : Cd := .seq (.region [⟨(some 4),.mv (.k (.c (.full []))),none⟩] [4])
 (.seq (.region [⟨(some 8),.mv (.t 0),none⟩,
 ⟨(some 9),.mv (.t 1),none⟩,
 ⟨(some 10),.call false 178 [(.t 8),(.t 9)],none⟩,
 ⟨(some 5),.mv (.t 10),none⟩] [8,9,10])
 (.seq (.seq (.region [⟨(some 11),.mv (.t 5),none⟩,
 ⟨(some 12),.bin .eql (.t 11) (.k (.c (.d (.int .i64 (-1))))),none⟩] [11])
 (.cond (.t 12)
 (.seq (.region [⟨(some 13),.mv (.t 0),none⟩,
 ⟨(some 4),.mv (.t 13),none⟩] [0,1,5,12,13])
 (.ret))
 (.skip)))
 (.seq (.seq (.region [⟨(some 14),.mv (.t 5),none⟩,
 ⟨(some 15),.bin .add (.t 14) (.k (.c (.d (.int .i64 1)))),none⟩,
 ⟨(some 6),.mv (.t 15),none⟩] [4,12,14,15])
 (.block 0 (.loop (.seq (.seq (.region [⟨(some 16),.mv (.t 6),none⟩,
 ⟨(some 17),.mv (.t 0),none⟩,
 ⟨(some 18),.len 1 (.t 17),none⟩,
 ⟨(some 19),.bin .lss (.t 16) (.t 18),none⟩] [16,17,18])
 (.cond (.t 19)
 (.skip)
 (.exit 0)))
 (.seq (.block 1 (.seq (.region [⟨(some 22),.mv (.t 0),none⟩,
 ⟨(some 23),.mv (.t 6),none⟩,
 ⟨(some 24),.indexAddr 1 (.t 22) (.t 23),none⟩,
 ⟨(some 25),.load none (.t 24),none⟩,
 ⟨(some 7),.mv (.t 25),none⟩] [19,22,23,24,25])
 (.seq (.region [⟨(some 26),.mv (.t 1),none⟩,
 ⟨(some 27),.mv (.t 7),none⟩,
 ⟨(some 28),.callv (.t 26) [(.t 27)],none⟩,
 ⟨(some 29),.un .not (.t 28),none⟩] [26,27,28])
 (.cond (.t 29)
 (.seq (.region [⟨(some 30),.mv (.t 0),none⟩,
 ⟨(some 31),.mv (.t 5),none⟩,
 ⟨(some 32),.mv (.t 7),none⟩,
 ⟨(some 33),.indexAddr 1 (.t 30) (.t 31),none⟩,
 ⟨none,.store 1 (.t 33) (.t 32),none⟩] [7,29,30,31,32,33])
 (.region [⟨(some 34),.mv (.t 5),none⟩,
 ⟨(some 35),.bin .add (.t 34) (.k (.c (.d (.int .i64 1)))),none⟩,
 ⟨(some 5),.mv (.t 35),none⟩] [34,35]))
 (.skip)))))
 (.region [⟨(some 20),.mv (.t 6),none⟩,
 ⟨(some 21),.bin .add (.t 20) (.k (.c (.d (.int .i64 1)))),none⟩,
 ⟨(some 6),.mv (.t 21),none⟩] [7,20,21,29]))))))
 (.seq (.region [⟨(some 36),.mv (.t 0),none⟩,
 ⟨(some 37),.mv (.t 5),none⟩,
 ⟨(some 38),.slice 1 (.t 36) (some (.t 37)) none none,none⟩,
 ⟨none,.clear [(.int .i64 0)] (.t 38),none⟩] [36,37,38])
 (.seq (.region [⟨(some 39),.mv (.t 0),none⟩,
 ⟨(some 40),.mv (.t 5),none⟩,
 ⟨(some 41),.slice 1 (.t 39) none (some (.t 40)) none,none⟩,
 ⟨(some 4),.mv (.t 41),none⟩] [0,5,39,40,41])
 (.ret))))))
theorem ac126_ok : cFunc Tryz.prog [] [(0,[4],[]),(1,[8,9,10],[]),(2,[11],[]),(3,[0,1,5,12,13],[]),(4,[4,12,14,15],[]),(5,[16,17,18],[]),(7,[19,22,23,24,25],[]),(8,[26,27,28],[]),(9,[7,29,30,31,32,33],[]),(10,[34,35],[]),(6,[7,20,21,29],[]),(11,[36,37,38],[]),(12,[0,5,39,40,41],[])] Tryz.f126 = some (ac126,[.tmp 4],42) := by kernel_rfl
-- 128 loop.example/prologserver/impl.fitting$1 params 1 ntmps 14
def ac128 : Cd := .seq (.region [⟨(some 4),.mv (.k (.c (.d (.bool false)))),none⟩] [4])
 (.seq (.region [⟨(some 6),.mv (.t 0),none⟩,
 ⟨(some 5),.load none (.t 1),none⟩,
 ⟨(some 7),.indexAddr 5 (.t 5) (.t 6),none⟩,
 ⟨(some 8),.fieldAddr 0 (.t 7),none⟩,
 ⟨(some 9),.load (some 4) (.t 8),none⟩,
 ⟨(some 10),.qcall 86 [(.t 9)],none⟩,
 ⟨(some 11),.load none (.t 2),none⟩,
 ⟨(some 12),.qcall 34 [(.t 10),(.t 11)],none⟩,
 ⟨(some 13),.un .not (.t 12),none⟩,
 ⟨(some 4),.mv (.t 13),none⟩] [0,5,6,7,8,9,10,11,12,13])
 (.ret))
theorem ac128_ok : cFunc Tryz.prog [1000034,1000086] [(0,[4],[]),(1,[0,5,6,7,8,9,10,11,12,13],[1,0,2,3,4,5,6,7,8,9])] Tryz.f128 = some (ac128,[.tmp 4],14) := by kernel_rfl
-- 74 loop.example/prologserver/impl.fitting params 3 ntmps 14
def ac74 : Cd := .seq (.region [⟨(some 3),.box (.t 0),none⟩,
 ⟨(some 5),.box (.t 2),none⟩,
 ⟨(some 6),.mv (.k (.c (.full []))),none⟩] [0,2,6])
 (.seq (.region [⟨(some 8),.load (some 4) (.t 5),none⟩,
 ⟨(some 9),.qcall 86 [(.t 8)],none⟩,
 ⟨(some 7),.alloc [(.d (.str []))],none⟩,
 ⟨none,.store 1 (.t 7) (.t 9),none⟩] [5,8,9])
 (.seq (.region [⟨(some 10),.mv (.t 1),none⟩,
 ⟨(some 11),.call false 127 [(.t 10)],none⟩,
 ⟨(some 12),.mkFunc 128 [(.t 3),(.t 7)],none⟩,
 ⟨(some 13),.call false 126 [(.t 11),(.t 12)],none⟩,
 ⟨(some 6),.mv (.t 13),none⟩] [1,3,7,10,11,12,13])
 (.ret)))
theorem ac74_ok : cFunc Tryz.prog [1000086] [(0,[0,2,6],[]),(1,[5,8,9],[]),(2,[1,3,7,10,11,12,13],[])] Tryz.f74 = some (ac74,[.tmp 6],14) := by kernel_rfl
-- 82 loop.example/prologserver/spec.l7Candidates params 2 ntmps 38
-- loop head live: [0,3,5,6,7]
def ac82 : Cd := .seq (.region [⟨(some 3),.box (.t 1),none⟩,
 ⟨(some 4),.mv (.k (.c (.full []))),none⟩] [1,4])
 (.seq (.region [⟨(some 8),.buildSlice 1 0 [(.int .i64 0)] [],none⟩,
 ⟨(some 5),.mv (.t 8),none⟩] [8])
 (.seq (.region [⟨(some 9),.mv (.t 0),none⟩,
 ⟨(some 10),.load (some 4) (.t 3),none⟩,
 ⟨(some 11),.qcall 140 [(.t 9),(.t 10)],none⟩,
 ⟨(some 6),.mv (.t 11),none⟩] [9,10,11])
 (.seq (.seq (.region [⟨(some 7),.mv (.k (.c (.d (.int .i64 0)))),none⟩] [])
 (.block 0 (.loop (.seq (.seq (.region [⟨(some 12),.mv (.t 7),none⟩,
 ⟨(some 13),.mv (.t 6),none⟩,
 ⟨(some 14),.len 1 (.t 13),none⟩,
 ⟨(some 15),.bin .lss (.t 12) (.t 14),none⟩] [12,13,14])
 (.cond (.t 15)
 (.skip)
 (.exit 0)))
 (.seq (.block 1 (.seq (.region [⟨(some 18),.mv (.t 0),none⟩,
 ⟨(some 19),.mv (.t 6),none⟩,
 ⟨(some 20),.mv (.t 7),none⟩,
 ⟨(some 21),.indexAddr 1 (.t 19) (.t 20),none⟩,
 ⟨(some 22),.load none (.t 21),none⟩,
 ⟨(some 23),.indexAddr 5 (.t 18) (.t 22),none⟩,
 ⟨(some 24),.fieldAddr 0 (.t 23),none⟩,
 ⟨(some 25),.load (some 4) (.t 24),none⟩,
 ⟨(some 26),.qcall 89 [(.t 25)],none⟩,
 ⟨(some 27),.load (some 4) (.t 3),none⟩,
 ⟨(some 28),.qcall 89 [(.t 27)],none⟩,
 ⟨(some 29),.qcall 141 [(.t 26),(.t 28)],none⟩] [15,18,19,20,21,22,23,24,25,26,27,28])
 (.cond (.t 29)
 (.region [⟨(some 30),.mv (.t 5),none⟩,
 ⟨(some 31),.mv (.t 6),none⟩,
 ⟨(some 32),.mv (.t 7),none⟩,
 ⟨(some 33),.indexAddr 1 (.t 31) (.t 32),none⟩,
 ⟨(some 34),.load none (.t 33),none⟩,
 ⟨(some 35),.buildSlice 1 1 [(.int .i64 0)] [(0,(.t 34))],none⟩,
 ⟨(some 36),.append false 1 (.t 30) (.t 35),none⟩,
 ⟨(some 5),.mv (.t 36),none⟩] [29,30,31,32,33,34,35,36])
 (.skip))))
 (.region [⟨(some 16),.mv (.t 7),none⟩,
 ⟨(some 17),.bin .add (.t 16) (.k (.c (.d (.int .i64 1)))),none⟩,
 ⟨(some 7),.mv (.t 17),none⟩] [16,17,29]))))))
 (.seq (.region [⟨(some 37),.mv (.t 5),none⟩,
 ⟨(some 4),.mv (.t 37),none⟩] [5,37])
 (.ret)))))
theorem ac82_ok : cFunc Tryz.prog [1000089,1000140,1000141] [(0,[1,4],[]),(1,[8],[]),(2,[9,10,11],[]),(3,[],[]),(4,[12,13,14],[]),(6,[15,18,19,20,21,22,23,24,25,26,27,28],[0,1,2,3,4,5,6,7,8,9,10,11]),(7,[29,30,31,32,33,34,35,36],[]),(5,[16,17,29],[]),(8,[5,37],[])] Tryz.f82 = some (ac82,[.tmp 4],38) := by kernel_rfl
/-- a copy of a list of numbers: nothing, or a row of its own -/
def CloneR (l : List Int) (H : Heap) (r : A) (H' : Heap) : Prop := (l = [] ∧ H' = H ∧ r = .c (.full [])) ∨ (l ≠ [] ∧ H' = H ++ [.rows (intRows l)] ∧ r = .c (.fsl (.e H.length) l.length 1))
theorem cloneI_calls (l : List Int) (hl : l.length ≤ 1048576) (H : Heap) : ACalls Tryz.prog 127 [.c (.d (.sl (intRows l)))] H (CloneR l H) := by
  have hlen := intRows_len l
  refine acallsK Tryz.func127 (by kernel_rfl) ac127_ok fun hf => ?_
  simp -implicitDefEqProofs [ac127, go_sem, -List.set_cons_succ, -List.set_cons_zero]
  have hnil : intRows l = [] → l = [] := fun he => by rw [he] at hlen; cases l with | nil => rfl | cons a l => simp at hlen
  refine ⟨⟨allLen_ints l, by rw [hlen]; unfold maxApp; omega, fun he => ?_, fun hne => ?_⟩, fun he => ?_⟩
  · exact finK_ret _ ⟨trivial, trivial⟩ rfl (.inl ⟨hnil he, by simp, rfl⟩)
  · have hl0 : l ≠ [] := fun e => hne (by rw [e]; rfl)
    exact finK_ret _ ⟨trivial, trivial⟩ rfl (.inr ⟨hl0, rfl, by rw [← hlen]; rfl⟩)
  · exact finK_ret _ ⟨trivial, trivial⟩ rfl (.inl ⟨hnil he, by simp, rfl⟩)
/-- a test of numbers, as a function value -/
def TestOn (q : Int → Bool) (g : FuncId) (caps : List (Ref × Nat)) (l : List Int) (H : Heap) : Prop :=
  ∀ x ∈ l, ACalls Tryz.prog g (.c (.d (.int .i64 x)) :: ptrsOf caps) H (fun r H' => H' = H ∧ r = .c (.d (.bool (q x))))
theorem callArgs_test {n : Nat} {caps : List (Nat × Nat)} : w_ false n (ptrsOf (caps.map fun x => (Ref.e x.1, x.2))) = ptrsOf (caps.map fun x => (Ref.e x.1, x.2)) := by
  rw [callArgs_ptrs, ptrsOf, List.map_map]
  rfl
/-- the place of the first that is struck -/
def strikeI (q : Int → Bool) (l : List Int) : Int := match l.findIdx? q with | some i => i | none => -1
theorem strike_some {q : Int → Bool} {l : List Int} {j : Nat} (hj : j < l.length) (hq : q l[j] = true) (hno : ∀ x ∈ l.take j, q x = false) : strikeI q l = j := by
  have : l.findIdx? q = some j := by
    rw [List.findIdx?_eq_some_iff_getElem]
    refine ⟨hj, hq, fun m hm => ?_⟩
    have := hno l[m] (by rw [List.mem_iff_getElem]; exact ⟨m, by simp; omega, by simp⟩)
    simpa using this
  rw [strikeI, this]
theorem strike_none {q : Int → Bool} {l : List Int} (hno : ∀ x ∈ l, q x = false) : strikeI q l = -1 := by
  have : l.findIdx? q = none := by
    rw [List.findIdx?_eq_none_iff]
    exact hno
  rw [strikeI, this]
theorem take_no {q : Int → Bool} {l : List Int} {j : Nat} (hj : j < l.length) (h : ∀ x ∈ l.take j, q x = false) (hq : q l[j] = false) : ∀ x ∈ l.take (j + 1), q x = false := by
  intro x hx
  rw [List.take_succ_eq_append_getElem hj, List.mem_append] at hx
  rcases hx with hx | hx
  · exact h x hx
  · simp at hx; subst hx; exact hq
theorem idxI_calls {q : Int → Bool} {g : FuncId} {caps : List (Nat × Nat)} {H : Heap} (l : List Int) (hl : l.length ≤ 1048576) (k : Nat) (hk : H[k]? = some (.rows (intRows l))) (hq : TestOn q g (caps.map fun x => (Ref.e x.1, x.2)) l H) :
    ACalls Tryz.prog 178 [.c (.fsl (.e k) l.length 1), .c (.fn g (caps.map fun x => (Ref.e x.1, x.2)))] H (fun r H' => H' = H ∧ r = .c (.d (.int .i64 (strikeI q l)))) := by
  have hli : inR .i64 (l.length : Int) := small_i64 (by omega) (by omega)
  have hgk : H[k]?.getD .dead = .rows (intRows l) := by simp [hk]
  refine acalls Tryz.func178 (by kernel_rfl) ac178_ok fun hf => ?_
  simp -implicitDefEqProofs [ac178, hli, go_sem, -List.set_cons_succ, -List.set_cons_zero]
  refine loop_set (σ := Nat) (fun j => [(8, .c (.d (.int .i64 j)))]) (fun _ => H) (fun _ => []) (fun j => j ≤ l.length ∧ ∀ x ∈ l.take j, q x = false) (fun j => l.length - j) 0 rfl ⟨Nat.zero_le _, by simp⟩ ?_
  rintro j ⟨hj, hno⟩
  simp -implicitDefEqProofs [setAll, hli, go_sem, -List.set_cons_succ, -List.set_cons_zero]
  refine ⟨fun hjl => ?_, fun hje => ?_⟩
  · have hrow : (intRows l)[j]? = some [.int .i64 l[j]] := by simp [intRows, hjl]
    refine ⟨hjl, ?_⟩
    simp -implicitDefEqProofs [hgk, hk, hrow, go_sem, -List.set_cons_succ, -List.set_cons_zero]
    have hadd : inR .i64 ((j : Int) + 1) := small_i64 (by omega) (by omega)
    have hc := hq l[j] (List.getElem_mem hjl)
    refine call_same (r := .c (.d (.bool (q l[j])))) (by rw [callArgs_test]; exact hc) (by simp) rfl hf ?_
    simp -implicitDefEqProofs [hadd, go_sem, -List.set_cons_succ, -List.set_cons_zero]
    refine ⟨fun he => ?_, fun he => ?_⟩
    · rw [strike_some hjl he hno]
    · exact loop_back (j + 1) (by simp [setAll]) ⟨hjl, take_no hjl hno (by simpa using he)⟩ (by show l.length - (j + 1) < l.length - j; omega)
  · rw [List.take_of_length_le hje] at hno
    rw [strike_none hno]
/-- what is left -/
def keepI (q : Int → Bool) (l : List Int) : List Int := l.filter fun x => !q x
theorem keepI_len (q : Int → Bool) (l : List Int) : (keepI q l).length ≤ l.length := List.length_filter_le _ _
theorem keepI_succ {q : Int → Bool} {l : List Int} {j : Nat} (hj : j < l.length) : keepI q (l.take (j + 1)) = keepI q (l.take j) ++ if q l[j] = true then [] else [l[j]] := by
  rw [keepI, List.take_succ_eq_append_getElem hj, List.filter_append]
  congr 1
  cases h : q l[j] <;> simp [h]
theorem keepI_all {q : Int → Bool} {l : List Int} (h : ∀ x ∈ l, q x = false) : keepI q l = l := by
  rw [keepI, List.filter_eq_self]
  intro x hx
  simp [h x hx]
def zerosI (n : Nat) : List (List D) := List.replicate n [.int .i64 0]
/-- what is struck out of an own row of numbers -/
def DelR (q : Int → Bool) (l : List Int) (k : Nat) (H : Heap) (r : A) (H' : Heap) : Prop :=
  (r = .c (.fsl (.e k) l.length 1) ∧ H' = H ∧ keepI q l = l) ∨
  (r = .c (.psl (.e k) 0 (keepI q l).length 1) ∧ H' = H.set k (.rows (intRows (keepI q l) ++ zerosI (l.length - (keepI q l).length))))
theorem strike_cases (q : Int → Bool) (l : List Int) : (strikeI q l = -1 ∧ keepI q l = l) ∨ ∃ j : Nat, ∃ h : j < l.length, strikeI q l = j ∧ q l[j] = true ∧ keepI q (l.take j) = l.take j := by
  unfold strikeI
  cases h : l.findIdx? q with
  | none =>
    rw [List.findIdx?_eq_none_iff] at h
    exact .inl ⟨rfl, keepI_all h⟩
  | some i =>
    obtain ⟨h1, h2, h3⟩ := List.findIdx?_eq_some_iff_getElem.1 h
    refine .inr ⟨i, h1, rfl, h2, keepI_all fun x hx => ?_⟩
    obtain ⟨m, hm, rfl⟩ := List.mem_iff_getElem.1 hx
    have hm : m < min i l.length := by simpa using hm
    have := h3 m (by omega)
    simpa using this
theorem delI_calls {q : Int → Bool} {g : FuncId} {caps : List (Nat × Nat)} {H : Heap} (l : List Int) (hl : l.length ≤ 1048576) (k : Nat) (hk : H[k]? = some (.rows (intRows l))) (hq : ∀ rs, TestOn q g (caps.map fun x => (Ref.e x.1, x.2)) l (H.set k (.rows rs))) :
    ACalls Tryz.prog 126 [.c (.fsl (.e k) l.length 1), .c (.fn g (caps.map fun x => (Ref.e x.1, x.2)))] H (DelR q l k H) := by
  have hli : inR .i64 (l.length : Int) := small_i64 (by omega) (by omega)
  have hlk := (List.getElem?_eq_some_iff.1 hk).1
  have hself : H.set k (.rows (intRows l)) = H := by
    refine List.ext_getElem? fun j => ?_
    by_cases hj : j = k
    · subst hj; rw [List.getElem?_set_self hlk, hk]
    · rw [List.getElem?_set_ne (fun h => hj h.symm)]
  have hfk : ∀ b : Ob, b.fits H.length 0 → Obs.fits H.length 0 H → Obs.fits H.length 0 (H.set k b) := fun b h1 h2 => fits_reset (a := .rows (intRows l)) (by rw [hself]; exact h2) h1
  have hq0 : TestOn q g (caps.map fun x => (Ref.e x.1, x.2)) l H := by have := hq (intRows l); rwa [hself] at this
  refine acalls Tryz.func126 (by kernel_rfl) ac126_ok fun hf => ?_
  simp -implicitDefEqProofs [ac126, hli, go_sem, -List.set_cons_succ, -List.set_cons_zero]
  refine call_same (idxI_calls l hl k hk hq0) (by simp) rfl hf ?_
  rcases strike_cases q l with ⟨e1, e2⟩ | ⟨j0, hj0, e1, e2, e3⟩
  · simp -implicitDefEqProofs [e1, go_sem, -List.set_cons_succ, -List.set_cons_zero]
    exact ⟨hlk, .inl ⟨rfl, rfl, e2⟩⟩
  · have hne : ((j0 : Int) == -1) = false := by simp
    have hadd0 : inR .i64 ((j0 : Int) + 1) := small_i64 (by omega) (by omega)
    simp -implicitDefEqProofs [e1, hne, hadd0, go_sem, -List.set_cons_succ, -List.set_cons_zero]
    refine loop_set (σ := Nat × Nat × List (List D)) (fun x => [(5, .c (.d (.int .i64 x.1))), (6, .c (.d (.int .i64 x.2.1)))]) (fun x => H.set k (.rows x.2.2)) (fun _ => [])
      (fun x => x.2.1 ≤ l.length ∧ x.1 < x.2.1 ∧ x.2.2.length = l.length ∧ x.2.2.take x.1 = intRows (keepI q (l.take x.2.1)) ∧ x.1 = (keepI q (l.take x.2.1)).length ∧ x.2.2.drop x.2.1 = intRows (l.drop x.2.1) ∧ ∀ r ∈ x.2.2, r.length = 1)
      (fun x => l.length - x.2.1) (j0, j0 + 1, intRows l) (by simp [setAll, hself]) ?_ ?_
    · refine ⟨hj0, Nat.lt_succ_self _, intRows_len l, ?_, ?_, ?_, allLen_ints l⟩
      · rw [keepI_succ hj0, e2, e3]; simp [intRows]
      · rw [keepI_succ hj0, e2, e3]; simp; omega
      · simp [intRows]
    · rintro ⟨i, j, rs⟩ ⟨h1, h2, h3, h4, h5, h6, h7⟩
      simp only at h1 h2 h3 h4 h5 h6 h7
      have hlk2 : k < (H.set k (.rows rs)).length := by simpa using hlk
      simp -implicitDefEqProofs [setAll, hli, go_sem, -List.set_cons_succ, -List.set_cons_zero]
      refine ⟨fun hjl => ?_, fun hje => ?_⟩
      · have hadd : inR .i64 ((j : Int) + 1) := small_i64 (by omega) (by omega)
        have hadi : inR .i64 ((i : Int) + 1) := small_i64 (by omega) (by omega)
        have hrow : rs[j]? = some [.int .i64 l[j]] := by
          have := congrArg (fun z : List (List D) => z[0]?) h6
          simp only [List.getElem?_drop, Nat.add_zero] at this
          rw [this]
          simp [intRows, hjl]
        have hfs : Obs.fits (H.set k (.rows rs)).length 0 (H.set k (.rows rs)) := by simpa using hfk (.rows rs) trivial hf
        refine ⟨hjl, ?_⟩
        simp -implicitDefEqProofs [hrow, hlk, go_sem, -List.set_cons_succ, -List.set_cons_zero]
        have hc := hq rs l[j] (List.getElem_mem hjl)
        refine call_same (r := .c (.d (.bool (q l[j])))) (by rw [callArgs_test]; exact hc) (by simp) rfl hfs ?_
        cases hqj : q l[j] with
        | true =>
          simp -implicitDefEqProofs [hadd, go_sem, -List.set_cons_succ, -List.set_cons_zero]
          refine loop_back (i, j + 1, rs) (by simp [setAll]) ⟨hjl, by show i < j + 1; omega, h3, ?_, ?_, ?_, h7⟩ (by show l.length - (j + 1) < l.length - j; omega)
          · show rs.take i = intRows (keepI q (l.take (j + 1)))
            rw [keepI_succ hjl, hqj, h4]; simp
          · show i = (keepI q (l.take (j + 1))).length
            rw [keepI_succ hjl, hqj, ← List.append_nil (keepI q (l.take j))] ; simpa using h5
          · show rs.drop (j + 1) = intRows (l.drop (j + 1))
            have := congrArg List.tail h6
            simpa [intRows] using this
        | false =>
          have hil : i < rs.length := by omega
          obtain ⟨y, hy⟩ := List.length_eq_one_iff.1 (h7 rs[i] (List.getElem_mem hil))
          have hyr : rs[i]? = some [y] := by rw [List.getElem?_eq_getElem hil, hy]
          simp -implicitDefEqProofs [hadd, hadi, hyr, hlk, go_sem, -List.set_cons_succ, -List.set_cons_zero]
          refine ⟨by omega, by simpa using hfk (.rows (rs.set i [.int .i64 l[j]])) trivial hf, ?_⟩
          refine loop_back (i + 1, j + 1, rs.set i [.int .i64 l[j]]) (by simp [setAll]) ⟨hjl, by show i + 1 < j + 1; omega, by simpa using h3, ?_, ?_, ?_, ?_⟩ (by show l.length - (j + 1) < l.length - j; omega)
          · show (rs.set i [.int .i64 l[j]]).take (i + 1) = intRows (keepI q (l.take (j + 1)))
            rw [keepI_succ hjl, hqj]
            rw [List.take_succ_eq_append_getElem (by simpa using hil)]
            rw [List.take_set_of_le (Nat.le_refl _), h4]
            simp [intRows]
          · show i + 1 = (keepI q (l.take (j + 1))).length
            rw [keepI_succ hjl, hqj]; simp; omega
          · show (rs.set i [.int .i64 l[j]]).drop (j + 1) = intRows (l.drop (j + 1))
            rw [List.drop_set_of_lt (by omega)]
            have := congrArg List.tail h6
            simpa [intRows] using this
          · intro r hr
            rcases List.mem_or_eq_of_mem_set hr with hr | rfl
            · exact h7 r hr
            · rfl
      · obtain rfl : j = l.length := by omega
        rw [List.take_length] at h4 h5
        have hkl : i < l.length := h2
        have hsub : ((l.length : Int) - i).toNat = l.length - i := by omega
        have hi64 : inR .i64 (i : Int) := small_i64 (by omega) (by omega)
        have hpos : 0 < l.length - i := by omega
        simp -implicitDefEqProofs [hsub, hlk, hi64, hpos, hkl, go_sem, -List.set_cons_succ, -List.set_cons_zero]
        have hdrop : rs.drop (i + (l.length - i)) = [] := List.drop_of_length_le (by omega)
        have hrows : rs.take i ++ (List.replicate (l.length - i) [D.int .i64 0] ++ rs.drop (i + (l.length - i))) = intRows (keepI q l) ++ zerosI (l.length - (keepI q l).length) := by
          rw [hdrop, h4, ← h5]; simp [zerosI]
        refine ⟨by omega, by simpa using hfk (.rows (rs.take i ++ (List.replicate (l.length - i) [D.int .i64 0] ++ rs.drop (i + (l.length - i))))) trivial hf, by omega, hlk, .inr ⟨by rw [← h5], by rw [← hrows]⟩⟩
end Go.Proofs.YtbblefjbgbocoaaGreatDoor
