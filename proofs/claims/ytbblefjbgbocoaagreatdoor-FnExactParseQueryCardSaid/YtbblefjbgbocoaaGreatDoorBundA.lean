/-
  Contracts of functions that the law reaches, and plain lemmas: several texts in one.
  Conditions: none.
-/
import Derived.Test.YtbblefjbgbocoaaGreatDoorRows
import Derived.KernelRfl
import Derived.Test.YtbblefjbgbocoaaGreatDoorAbsN
import Derived.Lib.ItoaNum
import Derived.MakeChecks
import Derived.LaidMore
import Derived.Shelf.LaysM
import Derived.Shelf.Strconv.Itoa3
import Derived.Shelf.LaysC
import Derived.Shelf.Strconv.AtoiAll
import Derived.LaidLaws
import Derived.Lib.ItoaMem
open Go Go.AM Go.Proofs
attribute [local go_sem] kw ew sw tw a_ b_ c_ A.ok A.val d_ e_ f_ g_ h_ i_ j_ k_ l_ m_ unA unD n_ AOp.total o_ p_ q_ r_ s_ t_ u_ v_ A.thaw C.thaw A.fits As.fits C.fits evs oks w_ A.pure C.pure A.re C.re x_ y_ cut A.cells C.rows? z_ A_ B_ C_ a0_ b0_ D_ Ob.re Cs.fits E_ F_ G_ H_ I_ J_ K_ L_ M_ N_ O_ C.toD P_ Q_ R_ S_ T_ Obs.fits U_ eqD V_ W_ X_ Y_ Z_
/-
  Small facts that the proofs of this seat share.
  Conditions: none.
-/
open Go Go.AM Go.Proofs
namespace Go.Proofs.YtbblefjbgbocoaaGreatDoor
set_option linter.unusedVariables false
set_option linter.unusedSimpArgs false
theorem small_i64 {n : Int} (h : -1000000000000000 ≤ n) (h' : n ≤ 1000000000000000) : inR .i64 n := by
  unfold inR
  simp [IntKind.min, IntKind.max, IntKind.signed, IntKind.bits]
  omega
theorem reach_i64 {n : Nat} (h : n ≤ reachBytes) : inR .i64 (n : Int) := by simp only [inR, IntKind.min, IntKind.max, IntKind.signed, IntKind.bits, reachBytes] at *; omega
theorem i64_def {n : Int} : inR .i64 n ↔ -9223372036854775808 ≤ n ∧ n ≤ 9223372036854775807 := by
  unfold inR
  simp [IntKind.min, IntKind.max, IntKind.signed, IntKind.bits]
/-- the result of a call of a size: how much is left; where something is left, P holds -/
def Left (m : Int) (P : Prop) (r : A) : Prop := ∃ n : Int, r = .c (.d (.int .i64 n)) ∧ -1 ≤ n ∧ n ≤ m ∧ (0 ≤ n → P)
theorem Left.re {m : Int} {P : Prop} {r : A} {n : Nat} (h : Left m P r) : A.re n r = r := by
  obtain ⟨k, rfl, _⟩ := h
  rfl
/-- rows that are laid one by one -/
def fill {α : Type} (f : α → List D) (z : List D) (l : List α) (i : Nat) : List (List D) := (l.take i).map f ++ List.replicate (l.length - i) z
theorem isEmpty_len {α : Type} (l : List α) : ((l.length : Int) == 0) = l.isEmpty := by cases l <;> simp; omega
end Go.Proofs.YtbblefjbgbocoaaGreatDoor

/-
  How long a numeral is.
  Conditions: none.
-/
open Go Go.AM Go.Proofs
namespace Go.Proofs.YtbblefjbgbocoaaGreatDoor
set_option linter.unusedVariables false
set_option linter.unusedSimpArgs false
set_option maxRecDepth 100000
theorem itoa_len (n : Int) (h0 : -9223372036854775808 ≤ n) (h1 : n ≤ 9223372036854775807) : (Lib.itoa n).length ≤ 1000000 := by
  have key : ∀ k u : Nat, u < 10 ^ k → 0 < k → (Lib.decDigits u).length ≤ k := by
    intro k
    induction k with
    | zero => omega
    | succ k ih =>
      intro u hu _
      rw [Lib.decDigits]
      split
      · simp
      · rename_i hge
        have hk : 0 < k := by
          rcases Nat.eq_zero_or_pos k with e | e
          · subst e; simp at hu; omega
          · exact e
        have := ih (u / 10) (by rw [Nat.pow_succ] at hu; omega) hk
        simp
        omega
  unfold Lib.itoa
  split
  · have := key 30 n.natAbs (by omega) (by omega)
    simp
    omega
  · have := key 30 n.toNat (by omega) (by omega)
    omega
end Go.Proofs.YtbblefjbgbocoaaGreatDoor

/-
  strconv.Itoa as a call of the abstract machine, where the table that it reads is told.
  Conditions: none.
-/
open Go Go.AM Go.Proofs
namespace Go.Proofs
open Go.Shelf
def Tryz.laysM171_ren : Go.Shelf.Ren := ⟨fun | 171 => 47 | 243 => 100 | 246 => 155 | 283 => 187 | 284 => 188 | 285 => 189 | 286 => 190 | 129 => 219 | 317 => 218 | 318 => 220 | 319 => 221 | 320 => 222 | 337 => 237 | 338 => 238 | n => n, fun | 3 => 3 | 9 => 9 | 2 => 2 | 4 => 4 | 171 => 193 | 0 => 0 | 53 => 194 | 37 => 22 | 5 => 5 | 173 => 197 | 212 => 218 | 51 => 219 | 20 => 20 | 213 => 220 | 46 => 204 | 232 => 237 | 233 => 238 | n => n, fun | 17 => 2 | 18 => 6 | 19 => 7 | n => n⟩
theorem Tryz.laysM171 : Go.Proofs.LaysM.n171 Tryz.prog Tryz.laysM171_ren := {
  mixed := by kernel_rfl
  f129 := Tryz.func219.trans (congrArg some (by kernel_rfl))
  f171 := Tryz.func47.trans (congrArg some (by kernel_rfl))
  f243 := Tryz.func100.trans (congrArg some (by kernel_rfl))
  f246 := Tryz.func155.trans (congrArg some (by kernel_rfl))
  f283 := Tryz.func187.trans (congrArg some (by kernel_rfl))
  f284 := Tryz.func188.trans (congrArg some (by kernel_rfl))
  f285 := Tryz.func189.trans (congrArg some (by kernel_rfl))
  f286 := Tryz.func190.trans (congrArg some (by kernel_rfl))
  f317 := Tryz.func218.trans (congrArg some (by kernel_rfl))
  f318 := Tryz.func220.trans (congrArg some (by kernel_rfl))
  f319 := Tryz.func221.trans (congrArg some (by kernel_rfl))
  f320 := Tryz.func222.trans (congrArg some (by kernel_rfl))
  f337 := Tryz.func237.trans (congrArg some (by kernel_rfl))
  f338 := Tryz.func238.trans (congrArg some (by kernel_rfl))
  t0 := Tryz.underlying0
  a0 := Tryz.isAgg0
  z0 := Tryz.sizeOf0
  v0 := Tryz.zeroValue0
  t2 := Tryz.underlying2
  a2 := Tryz.isAgg2
  z2 := Tryz.sizeOf2
  v2 := Tryz.zeroValue2
  t3 := Tryz.underlying3
  a3 := Tryz.isAgg3
  z3 := Tryz.sizeOf3
  v3 := Tryz.zeroValue3
  t4 := Tryz.underlying4
  a4 := Tryz.isAgg4
  z4 := Tryz.sizeOf4
  v4 := Tryz.zeroValue4
  t5 := Tryz.underlying5
  a5 := Tryz.isAgg5
  z5 := Tryz.sizeOf5
  v5 := Tryz.zeroValue5
  t9 := Tryz.underlying9
  a9 := Tryz.isAgg9
  z9 := Tryz.sizeOf9
  v9 := Tryz.zeroValue9
  t20 := Tryz.underlying20
  a20 := Tryz.isAgg20
  z20 := Tryz.sizeOf20
  v20 := Tryz.zeroValue20
  t37 := Tryz.underlying22
  a37 := Tryz.isAgg22
  z37 := Tryz.sizeOf22
  v37 := Tryz.zeroValue22
  t46 := Tryz.underlying204
  a46 := Tryz.isAgg204
  z46 := Tryz.sizeOf204
  v46 := Tryz.zeroValue204
  t51 := Tryz.underlying219
  a51 := Tryz.isAgg219
  z51 := Tryz.sizeOf219
  v51 := Tryz.zeroValue219
  t53 := Tryz.underlying194
  a53 := Tryz.isAgg194
  z53 := Tryz.sizeOf194
  v53 := Tryz.zeroValue194
  t171 := Tryz.underlying193
  a171 := Tryz.isAgg193
  z171 := Tryz.sizeOf193
  v171 := Tryz.zeroValue193
  t173 := Tryz.underlying197
  a173 := Tryz.isAgg197
  z173 := Tryz.sizeOf197
  v173 := Tryz.zeroValue197
  t212 := Tryz.underlying218
  a212 := Tryz.isAgg218
  z212 := Tryz.sizeOf218
  v212 := Tryz.zeroValue218
  t213 := Tryz.underlying220
  a213 := Tryz.isAgg220
  z213 := Tryz.sizeOf220
  t232 := Tryz.underlying237
  a232 := Tryz.isAgg237
  z232 := Tryz.sizeOf237
  v232 := Tryz.zeroValue237
  t233 := Tryz.underlying238
  a233 := Tryz.isAgg238
  z233 := Tryz.sizeOf238
  v233 := Tryz.zeroValue238
  g17 := by kernel_rfl
  g18 := by kernel_rfl
  g19 := by kernel_rfl
  i0 := by kernel_rfl
  i2 := by kernel_rfl
  i3 := by kernel_rfl
  i4 := by kernel_rfl
  i5 := by kernel_rfl
  i9 := by kernel_rfl
  i20 := by kernel_rfl
  i37 := by kernel_rfl
  i46 := by kernel_rfl
  i51 := by kernel_rfl
  i53 := by kernel_rfl
  i171 := by kernel_rfl
  i173 := by kernel_rfl
  i212 := by kernel_rfl
  i232 := by kernel_rfl
  i233 := by kernel_rfl
  m17 := by kernel_rfl
  m18 := by kernel_rfl
  m19 := by kernel_rfl }
end Go.Proofs
namespace Go.Proofs.YtbblefjbgbocoaaGreatDoor
open Go.Lib
set_option linter.unusedVariables false
set_option linter.unusedSimpArgs false
set_option maxRecDepth 100000
/-- block g holds the table -/
def Tab (g : Nat) (o : Obj) : Prop := ∀ (w : World), w.heap[g]? = some o → ∀ n : Int, -9223372036854775808 ≤ n → n ≤ 9223372036854775807 →
  Calls Tryz.prog 47 #[.int .i64 n] w fun e w' => e = .returned (.string ⟨(Lib.itoa n).toArray⟩) ∧ ∃ k os, w' = Sort.grow (w.drewN k) os
/-- what the law's rows list -/
def laid : List (String × DataW Unit) := Rows.fnExactParseQueryRow.laid
theorem itoa_call {g : Nat} {o : Obj} (hT : Tab g o) (n : Int) (hn : inR .i64 n) (H : Heap) (hH : H[0]? = some (.tab g o)) : ACalls Tryz.prog 47 [.c (.d (.int .i64 n))] H (fun r H' => H' = H ∧ r = .c (.d (.str (Lib.itoa n)))) := by
  have hb := i64_def.1 hn
  refine acalls_tab_str hH ⟨_, Tryz.func47, by kernel_rfl, by decide⟩ (by have := itoa_len n hb.1 hb.2; unfold maxStr; omega) ?_
  intro w ι k cargs hw hl ha
  obtain ⟨v, rfl⟩ : ∃ v, cargs = [v] := by
    match cargs, hl with
    | [v], _ => exact ⟨v, rfl⟩
  have h1 := ha 0 _ _ rfl rfl
  cases h1 with
  | c h => cases h with
    | d h => cases h with
      | int => exact hT w hw n hb.1 hb.2
end Go.Proofs.YtbblefjbgbocoaaGreatDoor

/-
  strconv.Atoi as a call of the abstract machine, where the variable that it reads is told.
  Conditions: none.
-/
open Go Go.AM Go.Proofs
namespace Go.Proofs
open Go.Shelf
def Tryz.laysC172_ren : Go.Shelf.Ren := ⟨fun | 172 => 50 | 244 => 102 | 245 => 103 | 247 => 159 | 279 => 160 | 280 => 161 | 281 => 162 | 282 => 163 | 287 => 195 | 316 => 196 | 171 => 47 | 205 => 197 | 321 => 228 | 322 => 229 | 243 => 100 | 246 => 155 | 283 => 187 | 284 => 188 | 285 => 189 | 286 => 190 | 129 => 219 | 317 => 218 | 318 => 220 | 319 => 221 | 320 => 222 | 337 => 237 | 338 => 238 | n => n, fun | 9 => 9 | 3 => 3 | 75 => 78 | 76 => 79 | 4 => 4 | 5 => 5 | 167 => 169 | 37 => 22 | 0 => 0 | 85 => 170 | 2 => 2 | 168 => 172 | 53 => 194 | 175 => 202 | 46 => 204 | 210 => 206 | 127 => 223 | 145 => 226 | 143 => 224 | 21 => 21 | 171 => 193 | 173 => 197 | 212 => 218 | 51 => 219 | 20 => 20 | 213 => 220 | 232 => 237 | 233 => 238 | 80 => 178 | n => n, fun | 15 => 0 | 16 => 1 | 17 => 2 | 18 => 6 | 19 => 7 | n => n⟩
theorem Tryz.laysC172 : Go.Proofs.LaysC.n172 Tryz.prog Tryz.laysC172_ren := {
  mixed := by kernel_rfl
  f129 := Tryz.func219.trans (congrArg some (by kernel_rfl))
  f171 := Tryz.func47.trans (congrArg some (by kernel_rfl))
  f172 := Tryz.func50.trans (congrArg some (by kernel_rfl))
  f205 := Tryz.func197.trans (congrArg some (by kernel_rfl))
  f243 := Tryz.func100.trans (congrArg some (by kernel_rfl))
  f244 := Tryz.func102.trans (congrArg some (by kernel_rfl))
  f245 := Tryz.func103.trans (congrArg some (by kernel_rfl))
  f246 := Tryz.func155.trans (congrArg some (by kernel_rfl))
  f247 := Tryz.func159.trans (congrArg some (by kernel_rfl))
  f279 := Tryz.func160.trans (congrArg some (by kernel_rfl))
  f280 := Tryz.func161.trans (congrArg some (by kernel_rfl))
  f281 := Tryz.func162.trans (congrArg some (by kernel_rfl))
  f282 := Tryz.func163.trans (congrArg some (by kernel_rfl))
  f283 := Tryz.func187.trans (congrArg some (by kernel_rfl))
  f284 := Tryz.func188.trans (congrArg some (by kernel_rfl))
  f285 := Tryz.func189.trans (congrArg some (by kernel_rfl))
  f286 := Tryz.func190.trans (congrArg some (by kernel_rfl))
  f287 := Tryz.func195.trans (congrArg some (by kernel_rfl))
  f316 := Tryz.func196.trans (congrArg some (by kernel_rfl))
  f317 := Tryz.func218.trans (congrArg some (by kernel_rfl))
  f318 := Tryz.func220.trans (congrArg some (by kernel_rfl))
  f319 := Tryz.func221.trans (congrArg some (by kernel_rfl))
  f320 := Tryz.func222.trans (congrArg some (by kernel_rfl))
  f321 := Tryz.func228.trans (congrArg some (by kernel_rfl))
  f322 := Tryz.func229.trans (congrArg some (by kernel_rfl))
  f337 := Tryz.func237.trans (congrArg some (by kernel_rfl))
  f338 := Tryz.func238.trans (congrArg some (by kernel_rfl))
  t0 := Tryz.underlying0
  a0 := Tryz.isAgg0
  z0 := Tryz.sizeOf0
  v0 := Tryz.zeroValue0
  t2 := Tryz.underlying2
  a2 := Tryz.isAgg2
  z2 := Tryz.sizeOf2
  v2 := Tryz.zeroValue2
  t3 := Tryz.underlying3
  a3 := Tryz.isAgg3
  z3 := Tryz.sizeOf3
  v3 := Tryz.zeroValue3
  t4 := Tryz.underlying4
  a4 := Tryz.isAgg4
  z4 := Tryz.sizeOf4
  v4 := Tryz.zeroValue4
  t5 := Tryz.underlying5
  a5 := Tryz.isAgg5
  z5 := Tryz.sizeOf5
  v5 := Tryz.zeroValue5
  t9 := Tryz.underlying9
  a9 := Tryz.isAgg9
  z9 := Tryz.sizeOf9
  v9 := Tryz.zeroValue9
  t20 := Tryz.underlying20
  a20 := Tryz.isAgg20
  z20 := Tryz.sizeOf20
  v20 := Tryz.zeroValue20
  t21 := Tryz.underlying21
  a21 := Tryz.isAgg21
  z21 := Tryz.sizeOf21
  v21 := Tryz.zeroValue21
  t37 := Tryz.underlying22
  a37 := Tryz.isAgg22
  z37 := Tryz.sizeOf22
  v37 := Tryz.zeroValue22
  t46 := Tryz.underlying204
  a46 := Tryz.isAgg204
  z46 := Tryz.sizeOf204
  v46 := Tryz.zeroValue204
  t51 := Tryz.underlying219
  a51 := Tryz.isAgg219
  z51 := Tryz.sizeOf219
  v51 := Tryz.zeroValue219
  t53 := Tryz.underlying194
  a53 := Tryz.isAgg194
  z53 := Tryz.sizeOf194
  v53 := Tryz.zeroValue194
  t75 := Tryz.underlying78
  a75 := Tryz.isAgg78
  z75 := Tryz.sizeOf78
  v75 := Tryz.zeroValue78
  t76 := Tryz.underlying79
  a76 := Tryz.isAgg79
  z76 := Tryz.sizeOf79
  v76 := Tryz.zeroValue79
  t85 := Tryz.underlying170
  a85 := Tryz.isAgg170
  z85 := Tryz.sizeOf170
  v85 := Tryz.zeroValue170
  t127 := Tryz.underlying223
  a127 := Tryz.isAgg223
  z127 := Tryz.sizeOf223
  v127 := Tryz.zeroValue223
  t143 := Tryz.underlying224
  a143 := Tryz.isAgg224
  z143 := Tryz.sizeOf224
  v143 := Tryz.zeroValue224
  t145 := Tryz.underlying226
  a145 := Tryz.isAgg226
  z145 := Tryz.sizeOf226
  v145 := Tryz.zeroValue226
  t167 := Tryz.underlying169
  a167 := Tryz.isAgg169
  z167 := Tryz.sizeOf169
  v167 := Tryz.zeroValue169
  t168 := Tryz.underlying172
  a168 := Tryz.isAgg172
  z168 := Tryz.sizeOf172
  v168 := Tryz.zeroValue172
  t171 := Tryz.underlying193
  a171 := Tryz.isAgg193
  z171 := Tryz.sizeOf193
  v171 := Tryz.zeroValue193
  t173 := Tryz.underlying197
  a173 := Tryz.isAgg197
  z173 := Tryz.sizeOf197
  v173 := Tryz.zeroValue197
  t175 := Tryz.underlying202
  a175 := Tryz.isAgg202
  z175 := Tryz.sizeOf202
  v175 := Tryz.zeroValue202
  t210 := Tryz.underlying206
  a210 := Tryz.isAgg206
  z210 := Tryz.sizeOf206
  v210 := Tryz.zeroValue206
  t212 := Tryz.underlying218
  a212 := Tryz.isAgg218
  z212 := Tryz.sizeOf218
  v212 := Tryz.zeroValue218
  t213 := Tryz.underlying220
  a213 := Tryz.isAgg220
  z213 := Tryz.sizeOf220
  t232 := Tryz.underlying237
  a232 := Tryz.isAgg237
  z232 := Tryz.sizeOf237
  v232 := Tryz.zeroValue237
  t233 := Tryz.underlying238
  a233 := Tryz.isAgg238
  z233 := Tryz.sizeOf238
  v233 := Tryz.zeroValue238
  g15 := by kernel_rfl
  g16 := by kernel_rfl
  g17 := by kernel_rfl
  g18 := by kernel_rfl
  g19 := by kernel_rfl
  t80 := Tryz.underlying178
  a80 := Tryz.isAgg178
  z80 := Tryz.sizeOf178
  v80 := Tryz.zeroValue178
  i0 := by kernel_rfl
  i2 := by kernel_rfl
  i3 := by kernel_rfl
  i4 := by kernel_rfl
  i5 := by kernel_rfl
  i9 := by kernel_rfl
  i20 := by kernel_rfl
  i21 := by kernel_rfl
  i37 := by kernel_rfl
  i46 := by kernel_rfl
  i51 := by kernel_rfl
  i53 := by kernel_rfl
  i75 := by kernel_rfl
  i76 := by kernel_rfl
  i80 := by kernel_rfl
  i85 := by kernel_rfl
  i127 := by kernel_rfl
  i143 := by kernel_rfl
  i145 := by kernel_rfl
  i167 := by kernel_rfl
  i168 := by kernel_rfl
  i171 := by kernel_rfl
  i173 := by kernel_rfl
  i175 := by kernel_rfl
  i210 := by kernel_rfl
  i212 := by kernel_rfl
  i232 := by kernel_rfl
  i233 := by kernel_rfl
  m15 := by kernel_rfl
  m16 := by kernel_rfl
  m17 := by kernel_rfl
  m18 := by kernel_rfl
  m19 := by kernel_rfl
  c0 := by kernel_rfl
  c2 := by kernel_rfl
  c3 := by kernel_rfl
  c4 := by kernel_rfl
  c5 := by kernel_rfl
  c9 := by kernel_rfl
  c20 := by kernel_rfl
  c21 := by kernel_rfl
  c37 := by kernel_rfl
  c46 := by kernel_rfl
  c51 := by kernel_rfl
  c53 := by kernel_rfl
  c75 := by kernel_rfl
  c76 := by kernel_rfl
  c80 := by kernel_rfl
  c85 := by kernel_rfl
  c127 := by kernel_rfl
  c143 := by kernel_rfl
  c145 := by kernel_rfl
  c167 := by kernel_rfl
  c168 := by kernel_rfl
  c171 := by kernel_rfl
  c173 := by kernel_rfl
  c175 := by kernel_rfl
  c210 := by kernel_rfl
  c212 := by kernel_rfl
  c213 := by kernel_rfl
  c232 := by kernel_rfl
  c233 := by kernel_rfl }
end Go.Proofs
namespace Go.Proofs.YtbblefjbgbocoaaGreatDoor
open Go.Lib Go.RowKit
set_option linter.unusedVariables false
set_option linter.unusedSimpArgs false
set_option maxRecDepth 100000
/-- the variable that is read when a number is too large holds an error -/
def ERg (o : Obj) : Prop := ∀ w : World, w.heap[1]? = some o → ∃ u v, w.cell? ⟨1, 0, none⟩ = some (.iface u v)
/-- what the calls of the library read -/
def Lib2 (ts : List (Nat × Obj)) : Prop := ∃ o o2, ts = [(2, o), (1, o2)] ∧ Tab 2 o ∧ ERg o2
/-- what strconv.Atoi gives -/
def AtoiR (s : List UInt8) (r : A) : Prop := ∃ n e, inR .i64 n ∧ r = .tup [.c (.d (.int .i64 n)), .c (.d (.v e))] ∧ ((e = .nilIface ∧ atoiAll s = .ok n) ∨ ∃ p q, e = .iface p q ∧ atoiAll s = .range)
/-- neither a number nor one that is too large: no -/
def endOk {α : Type} : NumEnd α → Bool
  | .ok _ => true
  | .range => true
  | _ => false
theorem atoi_call {o : Obj} (hT : ERg o) (s : List UInt8) (hs : s.length ≤ 2000000) (hsy : endOk (atoiAll s) = true) (H : Heap) (hH : H[1]? = some (.tab 1 o)) : ACalls Tryz.prog 50 [.c (.d (.str s))] H (fun r H' => H' = H ∧ AtoiR s r) := by
  refine acalls_tab_any hH ⟨_, Tryz.func50, by kernel_rfl, by decide⟩ ?_
  intro w ι k cargs hw hl ha
  obtain ⟨v, rfl⟩ : ∃ v, cargs = [v] := by
    match cargs, hl with
    | [v], _ => exact ⟨v, rfl⟩
  have h1 := ha 0 _ _ rfl rfl
  obtain ⟨t, rfl, ht⟩ : ∃ t : ByteArray, v = .string t ∧ t.data.toList = s := by
    cases h1 with
    | c h => cases h with
      | d h => cases h with
        | str t ht => exact ⟨t, rfl, rfl⟩
  have hsz : t.size = s.length := by rw [← ht]; rfl
  obtain ⟨u, v, hc⟩ := hT w hw
  rw [← ht] at hsy
  cases hr : atoiAll t.data.toList with
  | ok n =>
    obtain ⟨b0, b1⟩ := atoiAll_bounds hr
    refine (Any.strconv_Atoi_ok Tryz.laysC172 t (by omega) n hr w).mono ?_
    rintro e w' ⟨rfl, hw'⟩
    refine ⟨_, .tup [.c (.d (.int .i64 n)), .c (.d (.v .nilIface))], rfl, ⟨n, .nilIface, i64_def.2 ⟨b0, by omega⟩, rfl, .inl ⟨rfl, by rw [← ht]; exact hr⟩⟩, fun w ι m => ?_, ?_⟩
    · exact RA.tup (vs := [.int .i64 n, .nilIface]) rfl fun i a v h1 h2 => by
        match i with
        | 0 => cases h1; cases h2; exact .mkInt (i64_def.2 ⟨b0, by omega⟩)
        | 1 => cases h1; cases h2; exact .c (.d (.v _ rfl))
    · rcases hw' with rfl | ⟨q, rfl⟩
      · exact .refl _ _
      · exact bytesWorld_below _ _ _
  | range =>
    obtain ⟨b0, b1⟩ := atoiSat_bounds t.data.toList
    refine (Any.strconv_Atoi_range Tryz.laysC172 t (by omega) hr _ w hc (.inr ⟨_, _, rfl⟩)).mono ?_
    rintro e w' ⟨N, rfl, _, _, hb⟩
    have key : ∀ e : Value, e.oneCell' = true → (∃ p q, e = .iface p q) → ∃ v r, (Ending.returned (.tuple #[.int .i64 (atoiSat t.data.toList), e])) = .returned v ∧ AtoiR s r ∧ (∀ (w : World) (ι : List K) (n : Nat), RA w ι n r v) ∧ Below w.heap.size w w' := fun e he hpq => by
      obtain ⟨p, q, rfl⟩ := hpq
      refine ⟨_, .tup [.c (.d (.int .i64 (atoiSat t.data.toList))), .c (.d (.v (.iface p q)))], rfl, ⟨atoiSat t.data.toList, .iface p q, i64_def.2 ⟨by omega, by omega⟩, rfl, .inr ⟨p, q, rfl, by rw [← ht]; exact hr⟩⟩, fun w ι m => ?_, hb⟩
      exact RA.tup (vs := [.int .i64 _, .iface _ _]) rfl fun i a v h1 h2 => by
        match i with
        | 0 => cases h1; cases h2; exact .mkInt (i64_def.2 ⟨by omega, by omega⟩)
        | 1 => cases h1; cases h2; exact .c (.d (.v _ rfl))
    exact key _ rfl ⟨_, _, rfl⟩
  | _ => rw [hr] at hsy; cases hsy
end Go.Proofs.YtbblefjbgbocoaaGreatDoor

/-
  Terms as data: what the laws' sizes, copies and comparisons of terms answer, and TermSame.
  Conditions: none.
-/
open Go Go.AM Go.Proofs
namespace Go.Proofs.YtbblefjbgbocoaaGreatDoor
open Go.ChangeShapes Go.WideShapes Go.ChangeAt Go.RowKit
set_option linter.unusedVariables false
set_option linter.unusedSimpArgs false
set_option maxRecDepth 100000
/-- a term -/
inductive Tm where
  | mk (k n : Int) (s : List UInt8) (kids : List Tm)
  deriving Inhabited
def Tm.k : Tm → Int | .mk k _ _ _ => k
def Tm.n : Tm → Int | .mk _ n _ _ => n
def Tm.s : Tm → List UInt8 | .mk _ _ s _ => s
def Tm.kids : Tm → List Tm | .mk _ _ _ l => l
noncomputable instance : DecidableEq Tm := fun a b => Classical.propDecidable (a = b)
mutual
def Tm.row : Tm → List D
  | .mk k n s l => [.int .i64 k, .int .i64 n, .str s, .sl (Tm.rows l)]
def Tm.rows : List Tm → List (List D)
  | [] => []
  | t :: l => t.row :: Tm.rows l
end
theorem rows_map : ∀ l : List Tm, Tm.rows l = l.map Tm.row
  | [] => rfl
  | t :: l => by rw [Tm.rows, rows_map l]; rfl
theorem row_mk (k n : Int) (s : List UInt8) (l : List Tm) : (Tm.mk k n s l).row = [.int .i64 k, .int .i64 n, .str s, .sl (l.map Tm.row)] := by rw [Tm.row, rows_map]
theorem row_eq (t : Tm) : t.row = [.int .i64 t.k, .int .i64 t.n, .str t.s, .sl (t.kids.map Tm.row)] := by
  obtain ⟨k, n, s, l⟩ := t
  exact row_mk k n s l
theorem row_len (t : Tm) : t.row.length = 4 := by cases t; rfl
theorem Tm.ind {p : Tm → Prop} (h : ∀ k n s l, (∀ t ∈ l, p t) → p (.mk k n s l)) : ∀ t, p t := by
  intro t
  induction hs : SizeOf.sizeOf t using Nat.strongRecOn generalizing t with
  | ind m ih =>
    obtain ⟨k, n, s, l⟩ := t
    refine h k n s l fun t ht => ih (SizeOf.sizeOf t) ?_ t rfl
    have := List.sizeOf_lt_of_mem ht
    simp at hs
    omega
/-- a term that a law looks at -/
inductive Tm.fits : Tm → Prop
  | mk {k n : Int} {s : List UInt8} {l : List Tm} : inR .i64 k → inR .i64 n → s.length ≤ 1048576 → l.length ≤ 1048576 → (∀ t ∈ l, t.fits) → (Tm.mk k n s l).fits
theorem take_row (t : Tm) : List.take 4 (List.map C.d t.row) = List.map C.d t.row := List.take_of_length_le (by simp [row_len])
def ac16 : Cd := .seq (.region [⟨(some 4),.mv (.k (.c (.d (.bool false)))),none⟩] [4])
 (.seq (.seq (.region [⟨(some 6),.mv (.t 0),none⟩,
 ⟨(some 7),.len 1 (.t 6),none⟩,
 ⟨(some 8),.mv (.t 1),none⟩,
 ⟨(some 9),.len 1 (.t 8),none⟩,
 ⟨(some 10),.bin .neq (.t 7) (.t 9),none⟩] [6,7,8,9])
 (.cond (.t 10)
 (.seq (.region [⟨(some 4),.mv (.k (.c (.d (.bool false)))),none⟩] [0,1,10])
 (.ret))
 (.skip)))
 (.seq (.seq (.region [⟨(some 5),.mv (.k (.c (.d (.int .i64 0)))),none⟩] [4,10])
 (.block 0 (.loop (.seq (.seq (.region [⟨(some 11),.mv (.t 5),none⟩,
 ⟨(some 12),.mv (.t 0),none⟩,
 ⟨(some 13),.len 1 (.t 12),none⟩,
 ⟨(some 14),.bin .lss (.t 11) (.t 13),none⟩] [11,12,13])
 (.cond (.t 14)
 (.skip)
 (.exit 0)))
 (.seq (.block 1 (.seq (.region [⟨(some 17),.mv (.t 0),none⟩,
 ⟨(some 18),.mv (.t 5),none⟩,
 ⟨(some 19),.indexAddr 4 (.t 17) (.t 18),none⟩,
 ⟨(some 21),.mv (.t 1),none⟩,
 ⟨(some 22),.mv (.t 5),none⟩,
 ⟨(some 23),.indexAddr 4 (.t 21) (.t 22),none⟩,
 ⟨(some 20),.load (some 4) (.t 19),none⟩,
 ⟨(some 24),.load (some 4) (.t 23),none⟩,
 ⟨(some 25),.qcall 61 [(.t 20),(.t 24)],none⟩,
 ⟨(some 26),.un .not (.t 25),none⟩] [14,17,18,19,20,21,22,23,24,25])
 (.cond (.t 26)
 (.seq (.region [⟨(some 4),.mv (.k (.c (.d (.bool false)))),none⟩] [0,1,5,26])
 (.ret))
 (.skip))))
 (.region [⟨(some 15),.mv (.t 5),none⟩,
 ⟨(some 16),.bin .add (.t 15) (.k (.c (.d (.int .i64 1)))),none⟩,
 ⟨(some 5),.mv (.t 16),none⟩] [4,15,16,26]))))))
 (.seq (.region [⟨(some 4),.mv (.k (.c (.d (.bool true)))),none⟩] [])
 (.ret))))
theorem ac16_ok : cFunc Tryz.prog [1000061] [(0,[4],[]),(1,[6,7,8,9],[]),(2,[0,1,10],[]),(3,[4,10],[]),(4,[11,12,13],[]),(6,[14,17,18,19,20,21,22,23,24,25],[0,1,2,4,5,6,3,7,8,9]),(7,[0,1,5,26],[]),(5,[4,15,16,26],[]),(8,[],[])] Tryz.f16 = some (ac16,[.tmp 4],27) := by kernel_rfl
-- 61 loop.example/prologserver/laws.eqTerm params 2 ntmps 26
def ac61 : Cd := .seq (.region [⟨(some 2),.box (.t 0),none⟩,
 ⟨(some 3),.box (.t 1),none⟩,
 ⟨(some 4),.mv (.k (.c (.d (.bool false)))),none⟩] [0,1,4])
 (.seq (.seq (.region [⟨(some 5),.fieldAddr 0 (.t 2),none⟩,
 ⟨(some 6),.load none (.t 5),none⟩,
 ⟨(some 7),.fieldAddr 0 (.t 3),none⟩,
 ⟨(some 8),.load none (.t 7),none⟩,
 ⟨(some 9),.bin .neq (.t 6) (.t 8),none⟩] [5,6,7,8])
 (.cond (.t 9)
 (.seq (.region [⟨(some 4),.mv (.k (.c (.d (.bool false)))),none⟩] [2,3,9])
 (.ret))
 (.skip)))
 (.seq (.seq (.region [⟨(some 10),.fieldAddr 1 (.t 2),none⟩,
 ⟨(some 11),.load none (.t 10),none⟩,
 ⟨(some 12),.fieldAddr 1 (.t 3),none⟩,
 ⟨(some 13),.load none (.t 12),none⟩,
 ⟨(some 14),.bin .neq (.t 11) (.t 13),none⟩] [4,9,10,11,12,13])
 (.cond (.t 14)
 (.seq (.region [⟨(some 4),.mv (.k (.c (.d (.bool false)))),none⟩] [2,3,14])
 (.ret))
 (.skip)))
 (.seq (.seq (.region [⟨(some 15),.fieldAddr 2 (.t 2),none⟩,
 ⟨(some 16),.load none (.t 15),none⟩,
 ⟨(some 17),.fieldAddr 2 (.t 3),none⟩,
 ⟨(some 18),.load none (.t 17),none⟩,
 ⟨(some 19),.bin .neq (.t 16) (.t 18),none⟩] [4,14,15,16,17,18])
 (.cond (.t 19)
 (.seq (.region [⟨(some 4),.mv (.k (.c (.d (.bool false)))),none⟩] [2,3,19])
 (.ret))
 (.skip)))
 (.seq (.seq (.region [⟨(some 20),.fieldAddr 3 (.t 2),none⟩,
 ⟨(some 21),.load none (.t 20),none⟩,
 ⟨(some 22),.fieldAddr 3 (.t 3),none⟩,
 ⟨(some 23),.load none (.t 22),none⟩,
 ⟨(some 24),.qcall 16 [(.t 21),(.t 23)],none⟩,
 ⟨(some 25),.un .not (.t 24),none⟩] [2,3,4,19,20,21,22,23,24])
 (.cond (.t 25)
 (.seq (.region [⟨(some 4),.mv (.k (.c (.d (.bool false)))),none⟩] [25])
 (.ret))
 (.skip)))
 (.seq (.region [⟨(some 4),.mv (.k (.c (.d (.bool true)))),none⟩] [25])
 (.ret))))))
theorem ac61_ok : cFunc Tryz.prog [1000016] [(0,[0,1,4],[]),(1,[5,6,7,8],[]),(2,[2,3,9],[]),(3,[4,9,10,11,12,13],[]),(4,[2,3,14],[]),(5,[4,14,15,16,17,18],[]),(6,[2,3,19],[]),(7,[2,3,4,19,20,21,22,23,24],[]),(8,[25],[]),(9,[25],[])] Tryz.f61 = some (ac61,[.tmp 4],26) := by kernel_rfl
/-- a call that compares two terms -/
def Same2 (f : FuncId) (a b : Tm) : Prop := ∀ H, ACalls Tryz.prog f [.agg (a.row.map .d), .agg (b.row.map .d)] H (fun r H' => H' = H ∧ r = .c (.d (.bool (decide (a = b)))))
theorem eqTermS_of (l : List Tm) (hl : l.length ≤ 1048576) (h : ∀ t ∈ l, Same2 61 t t) (H : Heap) :
    ACalls Tryz.prog 16 [.c (.d (.sl (l.map Tm.row))), .c (.d (.sl (l.map Tm.row)))] H (fun r H' => H' = H ∧ r = .c (.d (.bool true))) := by
  refine acalls Tryz.func16 (by kernel_rfl) ac16_ok fun hf => ?_
  have hli : inR .i64 (l.length : Int) := small_i64 (by omega) (by omega)
  simp -implicitDefEqProofs [ac16, hli, go_sem, -List.set_cons_succ, -List.set_cons_zero]
  refine loop_set (σ := Nat) (fun i => [(5, .c (.d (.int .i64 i)))]) (fun _ => H) (fun _ => []) (fun i => i ≤ l.length) (fun i => l.length - i) 0 rfl (Nat.zero_le _) ?_
  intro i hi
  simp -implicitDefEqProofs [setAll, hli, go_sem, -List.set_cons_succ, -List.set_cons_zero]
  intro hlt
  have hadd : inR .i64 ((i : Int) + 1) := small_i64 (by omega) (by omega)
  refine row_of hlt (row_len _) ?_
  simp -implicitDefEqProofs [go_sem, -List.set_cons_succ, -List.set_cons_zero]
  refine row_of hlt (row_len _) ?_
  simp -implicitDefEqProofs [row_len, take_row, pure_d, re_d, go_sem, -List.set_cons_succ, -List.set_cons_zero]
  refine qcall_pure (h l[i] (List.getElem_mem hlt)) hf rfl ?_
  simp -implicitDefEqProofs [hadd, go_sem, -List.set_cons_succ, -List.set_cons_zero]
  exact loop_back (i + 1) (by simp [setAll]) hlt (by show l.length - (i + 1) < l.length - i; omega)
theorem eqTerm_calls : ∀ t : Tm, t.fits → Same2 61 t t := by
  refine Tm.ind fun k n s l ih hfits H => ?_
  obtain ⟨hk, hn, hs, hl, hkids⟩ := hfits
  refine acalls Tryz.func61 (by kernel_rfl) ac61_ok fun hf => ?_
  simp -implicitDefEqProofs [ac61, row_mk, go_sem, -List.set_cons_succ, -List.set_cons_zero]
  refine qcall_pure (eqTermS_of l hl fun t ht => ih t ht (hkids t ht)) hf rfl ?_
  simp -implicitDefEqProofs [hf, go_sem, -List.set_cons_succ, -List.set_cons_zero]
theorem eqTermS_calls (l : List Tm) (hl : l.length ≤ 1048576) (h : ∀ t ∈ l, t.fits) (H : Heap) : ACalls Tryz.prog 16 [.c (.d (.sl (l.map Tm.row))), .c (.d (.sl (l.map Tm.row)))] H (fun r H' => H' = H ∧ r = .c (.d (.bool true))) :=
  eqTermS_of l hl (fun t ht => eqTerm_calls t (h t ht)) H

end Go.Proofs.YtbblefjbgbocoaaGreatDoor

/-
  Atoms.
  Conditions: none.
-/
open Go Go.AM Go.Proofs
namespace Go.Proofs.YtbblefjbgbocoaaGreatDoor
open Go.ChangeShapes Go.WideShapes Go.ChangeAt Go.RowKit
set_option linter.unusedVariables false
set_option linter.unusedSimpArgs false
set_option maxRecDepth 100000
-- 214 loop.example/prologserver/impl.isAtom params 1 ntmps 12
def ac214 : Cd := .seq (.region [⟨(some 1),.box (.t 0),none⟩,
 ⟨(some 2),.mv (.k (.c (.d (.bool false)))),none⟩] [0,2])
 (.seq (.region [⟨(some 3),.fieldAddr 0 (.t 1),none⟩,
 ⟨(some 4),.load none (.t 3),none⟩,
 ⟨(some 5),.bin .eql (.t 4) (.k (.c (.d (.int .i64 3)))),none⟩,
 ⟨(some 6),.mv (.t 5),none⟩,
 ⟨(some 7),.fieldAddr 3 (.t 1),some (6,true)⟩,
 ⟨(some 8),.load none (.t 7),some (6,true)⟩,
 ⟨(some 9),.len 1 (.t 8),some (6,true)⟩,
 ⟨(some 10),.bin .eql (.t 9) (.k (.c (.d (.int .i64 0)))),some (6,true)⟩,
 ⟨(some 11),.pick (.t 6) (.t 10) (.k (.c (.d (.bool false)))),none⟩,
 ⟨(some 2),.mv (.t 11),none⟩] [1,3,4,5,6,7,8,9,10,11])
 (.ret))
theorem ac214_ok : cFunc Tryz.prog [] [(0,[0,2],[]),(1,[1,3,4,5,6,7,8,9,10,11],[])] Tryz.f214 = some (ac214,[.tmp 2],12) := by kernel_rfl
theorem isAtom_calls (t : Tm) (ht : t.fits) (H : Heap) : ACalls Tryz.prog 214 [.agg (t.row.map .d)] H (fun r H' => H' = H ∧ r = .c (.d (.bool (decide (t.k = 3) && t.kids.isEmpty)))) := by
  obtain ⟨k, n, s, l⟩ := t
  obtain ⟨_, _, hs, hl, hkids⟩ := ht
  have hli : inR .i64 (l.length : Int) := small_i64 (by omega) (by omega)
  refine acalls Tryz.func214 (by kernel_rfl) ac214_ok fun hf => ?_
  by_cases hk : k = 3
  · simp -implicitDefEqProofs [ac214, row_mk, hk, hli, Tm.k, Tm.kids, isEmpty_len, go_sem, -List.set_cons_succ, -List.set_cons_zero]
  · simp -implicitDefEqProofs [ac214, row_mk, hk, hli, Tm.k, go_sem, -List.set_cons_succ, -List.set_cons_zero]
end Go.Proofs.YtbblefjbgbocoaaGreatDoor

/-
  A number in a range.
  Conditions: none.
-/
open Go Go.AM Go.Proofs
namespace Go.Proofs.YtbblefjbgbocoaaGreatDoor
open Go.ChangeShapes Go.WideShapes Go.ChangeAt Go.RowKit
set_option linter.unusedVariables false
set_option linter.unusedSimpArgs false
set_option maxRecDepth 100000
-- 45 loop.example/prologserver/impl.within params 3 ntmps 15
def ac45 : Cd := .seq (.region [⟨(some 6),.mv (.k (.c (.d (.bool false)))),none⟩] [6])
 (.seq (.region [⟨(some 7),.mv (.t 1),none⟩,
 ⟨(some 8),.mv (.t 0),none⟩,
 ⟨(some 9),.bin .leq (.t 7) (.t 8),none⟩,
 ⟨(some 10),.mv (.t 9),none⟩,
 ⟨(some 11),.mv (.t 0),some (10,true)⟩,
 ⟨(some 12),.mv (.t 2),some (10,true)⟩,
 ⟨(some 13),.bin .leq (.t 11) (.t 12),some (10,true)⟩,
 ⟨(some 14),.pick (.t 10) (.t 13) (.k (.c (.d (.bool false)))),none⟩,
 ⟨(some 6),.mv (.t 14),none⟩] [0,1,2,7,8,9,10,11,12,13,14])
 (.ret))
theorem ac45_ok : cFunc Tryz.prog [] [(0,[6],[]),(1,[0,1,2,7,8,9,10,11,12,13,14],[])] Tryz.f45 = some (ac45,[.tmp 6],15) := by kernel_rfl
theorem within_calls (x lo hi : Int) (H : Heap) : ACalls Tryz.prog 45 [.c (.d (.int .i64 x)), .c (.d (.int .i64 lo)), .c (.d (.int .i64 hi))] H (fun r H' => H' = H ∧ r = .c (.d (.bool (decide (lo ≤ x) && decide (x ≤ hi))))) := by
  refine acalls Tryz.func45 (by kernel_rfl) ac45_ok fun hf => ?_
  simp -implicitDefEqProofs [ac45, go_sem, -List.set_cons_succ, -List.set_cons_zero]
end Go.Proofs.YtbblefjbgbocoaaGreatDoor

/-
  Names: letters and signs.
  Conditions: none.
-/
open Go Go.AM Go.Proofs
namespace Go.Proofs.YtbblefjbgbocoaaGreatDoor
open Go.ChangeShapes Go.WideShapes Go.ChangeAt Go.RowKit
set_option linter.unusedVariables false
set_option linter.unusedSimpArgs false
set_option maxRecDepth 100000
-- 97 loop.example/prologserver/impl.isLetters params 1 ntmps 23
-- loop head live: [0,5,6]
def ac97 : Cd := .seq (.region [⟨(some 2),.mv (.k (.c (.d (.bool false)))),none⟩] [2])
 (.seq (.seq (.region [⟨(some 4),.mv (.t 0),none⟩,
 ⟨(some 5),.len 0 (.t 4),none⟩,
 ⟨(some 6),.mv (.k (.c (.d (.int .i64 0)))),none⟩] [4])
 (.block 0 (.loop (.seq (.region [⟨(some 7),.bin .lss (.t 6) (.t 5),none⟩] [])
 (.seq (.cond (.t 7)
 (.skip)
 (.exit 0))
 (.seq (.block 1 (.seq (.region [⟨(some 8),.mv (.t 6),none⟩,
 ⟨(some 3),.mv (.t 8),none⟩] [7,8])
 (.seq (.region [⟨(some 9),.mv (.t 0),none⟩,
 ⟨(some 10),.mv (.t 3),none⟩,
 ⟨(some 11),.index (.t 9) (.t 10),none⟩,
 ⟨(some 12),.bin .lss (.t 11) (.k (.c (.d (.int .u8 97)))),none⟩,
 ⟨(some 13),.mv (.t 12),none⟩,
 ⟨(some 14),.mv (.t 0),some (13,false)⟩,
 ⟨(some 15),.mv (.t 3),some (13,false)⟩,
 ⟨(some 16),.index (.t 14) (.t 15),some (13,false)⟩,
 ⟨(some 17),.bin .gtr (.t 16) (.k (.c (.d (.int .u8 122)))),some (13,false)⟩,
 ⟨(some 18),.pick (.t 13) (.k (.c (.d (.bool true)))) (.t 17),none⟩] [3,9,10,11,12,13,14,15,16,17])
 (.cond (.t 18)
 (.seq (.region [⟨(some 2),.mv (.k (.c (.d (.bool false)))),none⟩] [0,5,6,18])
 (.ret))
 (.skip)))))
 (.region [⟨(some 19),.bin .add (.t 6) (.k (.c (.d (.int .i64 1)))),none⟩,
 ⟨(some 6),.mv (.t 19),none⟩] [2,18,19])))))))
 (.seq (.region [⟨(some 20),.mv (.t 0),none⟩,
 ⟨(some 21),.len 0 (.t 20),none⟩,
 ⟨(some 22),.qcall 45 [(.t 21),(.k (.c (.d (.int .i64 1)))),(.k (.c (.d (.int .i64 6))))],none⟩,
 ⟨(some 2),.mv (.t 22),none⟩] [0,20,21,22])
 (.ret)))
theorem ac97_ok : cFunc Tryz.prog [1000045] [(0,[2],[]),(1,[4],[]),(2,[],[]),(3,[7,8],[]),(4,[3,9,10,11,12,13,14,15,16,17],[]),(5,[0,5,6,18],[]),(6,[2,18,19],[]),(7,[0,20,21,22],[])] Tryz.f97 = some (ac97,[.tmp 2],23) := by kernel_rfl
-- 137 loop.example/prologserver/spec.l1Word params 1 ntmps 28
-- loop head live: [0,3]
def ac137 : Cd := .seq (.region [⟨(some 2),.mv (.k (.c (.d (.bool false)))),none⟩] [2])
 (.seq (.seq (.region [⟨(some 3),.mv (.k (.c (.d (.int .i64 0)))),none⟩] [])
 (.block 0 (.loop (.seq (.seq (.region [⟨(some 4),.mv (.t 3),none⟩,
 ⟨(some 5),.mv (.t 0),none⟩,
 ⟨(some 6),.len 0 (.t 5),none⟩,
 ⟨(some 7),.bin .lss (.t 4) (.t 6),none⟩] [4,5,6])
 (.cond (.t 7)
 (.skip)
 (.exit 0)))
 (.seq (.block 1 (.seq (.region [⟨(some 10),.mv (.t 0),none⟩,
 ⟨(some 11),.mv (.t 3),none⟩,
 ⟨(some 12),.index (.t 10) (.t 11),none⟩,
 ⟨(some 13),.bin .lss (.t 12) (.k (.c (.d (.int .u8 97)))),none⟩,
 ⟨(some 14),.mv (.t 13),none⟩,
 ⟨(some 15),.mv (.t 0),some (14,false)⟩,
 ⟨(some 16),.mv (.t 3),some (14,false)⟩,
 ⟨(some 17),.index (.t 15) (.t 16),some (14,false)⟩,
 ⟨(some 18),.bin .gtr (.t 17) (.k (.c (.d (.int .u8 122)))),some (14,false)⟩,
 ⟨(some 19),.pick (.t 14) (.k (.c (.d (.bool true)))) (.t 18),none⟩] [7,10,11,12,13,14,15,16,17,18])
 (.cond (.t 19)
 (.seq (.region [⟨(some 2),.mv (.k (.c (.d (.bool false)))),none⟩] [0,3,19])
 (.ret))
 (.skip))))
 (.region [⟨(some 8),.mv (.t 3),none⟩,
 ⟨(some 9),.bin .add (.t 8) (.k (.c (.d (.int .i64 1)))),none⟩,
 ⟨(some 3),.mv (.t 9),none⟩] [2,8,9,19]))))))
 (.seq (.region [⟨(some 20),.mv (.t 0),none⟩,
 ⟨(some 21),.len 0 (.t 20),none⟩,
 ⟨(some 22),.bin .geq (.t 21) (.k (.c (.d (.int .i64 1)))),none⟩,
 ⟨(some 23),.mv (.t 22),none⟩,
 ⟨(some 24),.mv (.t 0),some (23,true)⟩,
 ⟨(some 25),.len 0 (.t 24),some (23,true)⟩,
 ⟨(some 26),.bin .leq (.t 25) (.k (.c (.d (.int .i64 6)))),some (23,true)⟩,
 ⟨(some 27),.pick (.t 23) (.t 26) (.k (.c (.d (.bool false)))),none⟩,
 ⟨(some 2),.mv (.t 27),none⟩] [0,20,21,22,23,24,25,26,27])
 (.ret)))
theorem ac137_ok : cFunc Tryz.prog [] [(0,[2],[]),(1,[],[]),(2,[4,5,6],[]),(4,[7,10,11,12,13,14,15,16,17,18],[]),(5,[0,3,19],[]),(3,[2,8,9,19],[]),(6,[0,20,21,22,23,24,25,26,27],[])] Tryz.f137 = some (ac137,[.tmp 2],28) := by kernel_rfl
-- 99 loop.example/prologserver/impl.symbols params 0 ntmps 2
def ac99 : Cd := .seq (.region [⟨(some 0),.mv (.k (.c (.full []))),none⟩] [0])
 (.seq (.region [⟨(some 1),.buildSlice 1 15 [(.str [])] [(0,(.k (.c (.d (.str [43]))))),(1,(.k (.c (.d (.str [45]))))),(2,(.k (.c (.d (.str [42]))))),(3,(.k (.c (.d (.str [47,47]))))),(4,(.k (.c (.d (.str [61]))))),(5,(.k (.c (.d (.str [92,61]))))),(6,(.k (.c (.d (.str [61,61]))))),(7,(.k (.c (.d (.str [60]))))),(8,(.k (.c (.d (.str [62]))))),(9,(.k (.c (.d (.str [61,60]))))),(10,(.k (.c (.d (.str [62,61]))))),(11,(.k (.c (.d (.str [61,58,61]))))),(12,(.k (.c (.d (.str [46]))))),(13,(.k (.c (.d (.str [91,93]))))),(14,(.k (.c (.d (.str [33])))))],none⟩,
 ⟨(some 0),.mv (.t 1),none⟩] [1])
 (.ret))
theorem ac99_ok : cFunc Tryz.prog [] [(0,[0],[]),(1,[1],[])] Tryz.f99 = some (ac99,[.tmp 0],2) := by kernel_rfl
-- 165 loop.example/prologserver/spec.l1Signs params 0 ntmps 2
def ac165 : Cd := .seq (.region [⟨(some 0),.mv (.k (.c (.full []))),none⟩] [0])
 (.seq (.region [⟨(some 1),.buildSlice 1 15 [(.str [])] [(0,(.k (.c (.d (.str [43]))))),(1,(.k (.c (.d (.str [45]))))),(2,(.k (.c (.d (.str [42]))))),(3,(.k (.c (.d (.str [47,47]))))),(4,(.k (.c (.d (.str [61]))))),(5,(.k (.c (.d (.str [92,61]))))),(6,(.k (.c (.d (.str [61,61]))))),(7,(.k (.c (.d (.str [60]))))),(8,(.k (.c (.d (.str [62]))))),(9,(.k (.c (.d (.str [61,60]))))),(10,(.k (.c (.d (.str [62,61]))))),(11,(.k (.c (.d (.str [61,58,61]))))),(12,(.k (.c (.d (.str [46]))))),(13,(.k (.c (.d (.str [91,93]))))),(14,(.k (.c (.d (.str [33])))))],none⟩,
 ⟨(some 0),.mv (.t 1),none⟩] [1])
 (.ret))
theorem ac165_ok : cFunc Tryz.prog [] [(0,[0],[]),(1,[1],[])] Tryz.f165 = some (ac165,[.tmp 0],2) := by kernel_rfl
-- 154 slices.Index[[]string,string] params 2 ntmps 19
-- loop head live: [0,1,7,8]
def ac154 : Cd := .seq (.region [⟨(some 4),.mv (.k (.c (.d (.int .i64 0)))),none⟩] [4])
 (.seq (.seq (.region [⟨(some 6),.mv (.t 0),none⟩,
 ⟨(some 7),.len 1 (.t 6),none⟩,
 ⟨(some 8),.mv (.k (.c (.d (.int .i64 0)))),none⟩] [6])
 (.block 0 (.loop (.seq (.region [⟨(some 9),.bin .lss (.t 8) (.t 7),none⟩] [])
 (.seq (.cond (.t 9)
 (.skip)
 (.exit 0))
 (.seq (.block 1 (.seq (.region [⟨(some 10),.mv (.t 8),none⟩,
 ⟨(some 5),.mv (.t 10),none⟩] [9,10])
 (.seq (.region [⟨(some 11),.mv (.t 1),none⟩,
 ⟨(some 12),.mv (.t 0),none⟩,
 ⟨(some 13),.mv (.t 5),none⟩,
 ⟨(some 14),.indexAddr 1 (.t 12) (.t 13),none⟩,
 ⟨(some 15),.load none (.t 14),none⟩,
 ⟨(some 16),.bin .eql (.t 11) (.t 15),none⟩] [11,12,13,14,15])
 (.cond (.t 16)
 (.seq (.region [⟨(some 17),.mv (.t 5),none⟩,
 ⟨(some 4),.mv (.t 17),none⟩] [0,1,5,7,8,16,17])
 (.ret))
 (.skip)))))
 (.region [⟨(some 18),.bin .add (.t 8) (.k (.c (.d (.int .i64 1)))),none⟩,
 ⟨(some 8),.mv (.t 18),none⟩] [4,5,16,18])))))))
 (.seq (.region [⟨(some 4),.mv (.k (.c (.d (.int .i64 (-1))))),none⟩] [])
 (.ret)))
theorem ac154_ok : cFunc Tryz.prog [] [(0,[4],[]),(1,[6],[]),(2,[],[]),(3,[9,10],[]),(4,[11,12,13,14,15],[]),(5,[0,1,5,7,8,16,17],[]),(6,[4,5,16,18],[]),(7,[],[])] Tryz.f154 = some (ac154,[.tmp 4],19) := by kernel_rfl
-- 98 slices.Contains[[]string,string] params 2 ntmps 9
def ac98 : Cd := .seq (.region [⟨(some 4),.mv (.k (.c (.d (.bool false)))),none⟩] [4])
 (.seq (.region [⟨(some 5),.mv (.t 0),none⟩,
 ⟨(some 6),.mv (.t 1),none⟩,
 ⟨(some 7),.call false 154 [(.t 5),(.t 6)],none⟩,
 ⟨(some 8),.bin .geq (.t 7) (.k (.c (.d (.int .i64 0)))),none⟩,
 ⟨(some 4),.mv (.t 8),none⟩] [0,1,5,6,7,8])
 (.ret))
theorem ac98_ok : cFunc Tryz.prog [] [(0,[4],[]),(1,[0,1,5,6,7,8],[])] Tryz.f98 = some (ac98,[.tmp 4],9) := by kernel_rfl
-- 164 loop.example/prologserver/spec.l1Has params 2 ntmps 18
-- loop head live: [0,1,5]
def ac164 : Cd := .seq (.region [⟨(some 4),.mv (.k (.c (.d (.bool false)))),none⟩] [4])
 (.seq (.seq (.region [⟨(some 5),.mv (.k (.c (.d (.int .i64 0)))),none⟩] [])
 (.block 0 (.loop (.seq (.seq (.region [⟨(some 6),.mv (.t 5),none⟩,
 ⟨(some 7),.mv (.t 0),none⟩,
 ⟨(some 8),.len 1 (.t 7),none⟩,
 ⟨(some 9),.bin .lss (.t 6) (.t 8),none⟩] [6,7,8])
 (.cond (.t 9)
 (.skip)
 (.exit 0)))
 (.seq (.block 1 (.seq (.region [⟨(some 12),.mv (.t 0),none⟩,
 ⟨(some 13),.mv (.t 5),none⟩,
 ⟨(some 14),.indexAddr 1 (.t 12) (.t 13),none⟩,
 ⟨(some 15),.load none (.t 14),none⟩,
 ⟨(some 16),.mv (.t 1),none⟩,
 ⟨(some 17),.bin .eql (.t 15) (.t 16),none⟩] [9,12,13,14,15,16])
 (.cond (.t 17)
 (.seq (.region [⟨(some 4),.mv (.k (.c (.d (.bool true)))),none⟩] [0,1,5,17])
 (.ret))
 (.skip))))
 (.region [⟨(some 10),.mv (.t 5),none⟩,
 ⟨(some 11),.bin .add (.t 10) (.k (.c (.d (.int .i64 1)))),none⟩,
 ⟨(some 5),.mv (.t 11),none⟩] [4,10,11,17]))))))
 (.seq (.region [⟨(some 4),.mv (.k (.c (.d (.bool false)))),none⟩] [])
 (.ret)))
theorem ac164_ok : cFunc Tryz.prog [] [(0,[4],[]),(1,[],[]),(2,[6,7,8],[]),(4,[9,12,13,14,15,16],[]),(5,[0,1,5,17],[]),(3,[4,10,11,17],[]),(6,[],[])] Tryz.f164 = some (ac164,[.tmp 4],18) := by kernel_rfl
-- 46 loop.example/prologserver/impl.NameValid params 1 ntmps 10
def ac46 : Cd := .seq (.region [⟨(some 2),.mv (.k (.c (.d (.bool false)))),none⟩] [2])
 (.seq (.region [⟨(some 3),.mv (.t 0),none⟩,
 ⟨(some 4),.qcall 97 [(.t 3)],none⟩,
 ⟨(some 5),.mv (.t 4),none⟩,
 ⟨(some 6),.qcall 99 [],some (5,false)⟩,
 ⟨(some 7),.mv (.t 0),some (5,false)⟩,
 ⟨(some 8),.qcall 98 [(.t 6),(.t 7)],some (5,false)⟩,
 ⟨(some 9),.pick (.t 5) (.k (.c (.d (.bool true)))) (.t 8),none⟩,
 ⟨(some 2),.mv (.t 9),none⟩] [0,3,4,5,6,7,8,9])
 (.ret))
theorem ac46_ok : cFunc Tryz.prog [1000097,1000098,1000099] [(0,[2],[]),(1,[0,3,4,5,6,7,8,9],[])] Tryz.f46 = some (ac46,[.tmp 2],10) := by kernel_rfl
-- 104 loop.example/prologserver/spec.NameValid params 1 ntmps 10
def ac104 : Cd := .seq (.region [⟨(some 2),.mv (.k (.c (.d (.bool false)))),none⟩] [2])
 (.seq (.region [⟨(some 3),.mv (.t 0),none⟩,
 ⟨(some 4),.qcall 137 [(.t 3)],none⟩,
 ⟨(some 5),.mv (.t 4),none⟩,
 ⟨(some 6),.qcall 165 [],some (5,false)⟩,
 ⟨(some 7),.mv (.t 0),some (5,false)⟩,
 ⟨(some 8),.qcall 164 [(.t 6),(.t 7)],some (5,false)⟩,
 ⟨(some 9),.pick (.t 5) (.k (.c (.d (.bool true)))) (.t 8),none⟩,
 ⟨(some 2),.mv (.t 9),none⟩] [0,3,4,5,6,7,8,9])
 (.ret))
theorem ac104_ok : cFunc Tryz.prog [1000137,1000164,1000165] [(0,[2],[]),(1,[0,3,4,5,6,7,8,9],[])] Tryz.f104 = some (ac104,[.tmp 2],10) := by kernel_rfl
def lowB (b : UInt8) : Bool := decide ((97 : Int) ≤ b.toNat) && decide ((b.toNat : Int) ≤ 122)
/-- a name of letters -/
def lettersB (s : List UInt8) : Bool := s.all lowB && (decide ((1 : Int) ≤ s.length) && decide ((s.length : Int) ≤ 6))
def signs : List (List UInt8) := [[43], [45], [42], [47, 47], [61], [92, 61], [61, 61], [60], [62], [61, 60], [62, 61], [61, 58, 61], [46], [91, 93], [33]]
def strRow (s : List UInt8) : List D := [.str s]
theorem low_take_succ {p : UInt8 → Bool} {s : List UInt8} {i : Nat} (h : i < s.length) (ha : ∀ b ∈ s.take i, p b = true) (hb : p s[i] = true) : ∀ b ∈ s.take (i + 1), p b = true := by
  intro b h'
  rw [List.take_add_one, List.mem_append] at h'
  rcases h' with h' | h'
  · exact ha b h'
  · rw [List.getElem?_eq_getElem h] at h'
    simp at h'; subst h'; exact hb
set_option maxHeartbeats 3200000 in
theorem isLetters_calls (s : List UInt8) (hs : s.length ≤ 1000000000000) (H : Heap) : ACalls Tryz.prog 97 [.c (.d (.str s))] H (fun r H' => H' = H ∧ r = .c (.d (.bool (lettersB s)))) := by
  refine acalls Tryz.func97 (by kernel_rfl) ac97_ok fun hf => ?_
  have hlen : inR .i64 (s.length : Int) := small_i64 (by omega) (by omega)
  simp -implicitDefEqProofs [ac97, hlen, go_sem, -List.set_cons_succ, -List.set_cons_zero]
  refine loop_set (σ := Nat) (fun i => [(6, .c (.d (.int .i64 i)))]) (fun _ => H) (fun _ => []) (fun i => i ≤ s.length ∧ ∀ b ∈ s.take i, lowB b = true) (fun i => s.length - i) 0 rfl ⟨Nat.zero_le _, by simp⟩ ?_
  rintro i ⟨hi, hall⟩
  simp -implicitDefEqProofs [setAll, hlen, go_sem, -List.set_cons_succ, -List.set_cons_zero]
  refine ⟨fun hlt => byte_nat hlt ?_, fun hge => ?_⟩
  · have hadd : inR .i64 ((i : Int) + 1) := small_i64 (by omega) (by omega)
    have bad : lowB s[i] = false → lettersB s = false := fun h => by
      have : s.all lowB = false := by
        rw [List.all_eq_false]
        exact ⟨s[i], List.getElem_mem hlt, by simp [h]⟩
      simp [lettersB, this]
    by_cases h97 : (s[i].toNat : Int) < 97
    · simp -implicitDefEqProofs [h97, go_sem, -List.set_cons_succ, -List.set_cons_zero]
      refine byte_off 0 ?_
      simp -implicitDefEqProofs [go_sem, -List.set_cons_succ, -List.set_cons_zero]
      rw [bad (by simp [lowB]; omega)]
    · simp -implicitDefEqProofs [h97, go_sem, -List.set_cons_succ, -List.set_cons_zero]
      refine byte_nat hlt ?_
      simp -implicitDefEqProofs [hadd, go_sem, -List.set_cons_succ, -List.set_cons_zero]
      refine ⟨fun h => by rw [bad (by simp [lowB]; omega)], fun h => ?_⟩
      exact loop_back (i + 1) (by simp [setAll]) ⟨hlt, low_take_succ hlt hall (by simp [lowB]; omega)⟩ (by show s.length - (i + 1) < s.length - i; omega)
  · have hil : i = s.length := by omega
    subst hil
    rw [List.take_length] at hall
    have hok : s.all lowB = true := List.all_eq_true.2 hall
    refine qcall_pure (within_calls s.length 1 6) hf rfl ?_
    simp -implicitDefEqProofs [lettersB, hok, go_sem, -List.set_cons_succ, -List.set_cons_zero]
set_option maxHeartbeats 3200000 in
theorem l1Word_calls (s : List UInt8) (hs : s.length ≤ 1000000000000) (H : Heap) : ACalls Tryz.prog 137 [.c (.d (.str s))] H (fun r H' => H' = H ∧ r = .c (.d (.bool (lettersB s)))) := by
  refine acalls Tryz.func137 (by kernel_rfl) ac137_ok fun hf => ?_
  have hlen : inR .i64 (s.length : Int) := small_i64 (by omega) (by omega)
  simp -implicitDefEqProofs [ac137, hlen, go_sem, -List.set_cons_succ, -List.set_cons_zero]
  refine loop_set (σ := Nat) (fun i => [(3, .c (.d (.int .i64 i)))]) (fun _ => H) (fun _ => []) (fun i => i ≤ s.length ∧ ∀ b ∈ s.take i, lowB b = true) (fun i => s.length - i) 0 rfl ⟨Nat.zero_le _, by simp⟩ ?_
  rintro i ⟨hi, hall⟩
  simp -implicitDefEqProofs [setAll, hlen, go_sem, -List.set_cons_succ, -List.set_cons_zero]
  refine ⟨fun hlt => byte_nat hlt ?_, fun hge => ?_⟩
  · have hadd : inR .i64 ((i : Int) + 1) := small_i64 (by omega) (by omega)
    have bad : lowB s[i] = false → lettersB s = false := fun h => by
      have : s.all lowB = false := by
        rw [List.all_eq_false]
        exact ⟨s[i], List.getElem_mem hlt, by simp [h]⟩
      simp [lettersB, this]
    by_cases h97 : (s[i].toNat : Int) < 97
    · simp -implicitDefEqProofs [h97, go_sem, -List.set_cons_succ, -List.set_cons_zero]
      refine byte_off 0 ?_
      simp -implicitDefEqProofs [go_sem, -List.set_cons_succ, -List.set_cons_zero]
      rw [bad (by simp [lowB]; omega)]
    · simp -implicitDefEqProofs [h97, go_sem, -List.set_cons_succ, -List.set_cons_zero]
      refine byte_nat hlt ?_
      simp -implicitDefEqProofs [hadd, go_sem, -List.set_cons_succ, -List.set_cons_zero]
      refine ⟨fun h => by rw [bad (by simp [lowB]; omega)], fun h => ?_⟩
      exact loop_back (i + 1) (by simp [setAll]) ⟨hlt, low_take_succ hlt hall (by simp [lowB]; omega)⟩ (by show s.length - (i + 1) < s.length - i; omega)
  · have hil : i = s.length := by omega
    subst hil
    rw [List.take_length] at hall
    have hok : s.all lowB = true := List.all_eq_true.2 hall
    simp [lettersB, hok]
set_option maxHeartbeats 3200000 in
theorem symbols_calls (H : Heap) : ACalls Tryz.prog 99 [] H (fun r H' => H' = H ∧ r = .c (.d (.sl (signs.map strRow)))) := by
  refine acalls Tryz.func99 (by kernel_rfl) ac99_ok fun hf => ?_
  simp -implicitDefEqProofs [ac99, signs, strRow, go_sem, -List.set_cons_succ, -List.set_cons_zero]
set_option maxHeartbeats 3200000 in
theorem l1Signs_calls (H : Heap) : ACalls Tryz.prog 165 [] H (fun r H' => H' = H ∧ r = .c (.d (.sl (signs.map strRow)))) := by
  refine acalls Tryz.func165 (by kernel_rfl) ac165_ok fun hf => ?_
  simp -implicitDefEqProofs [ac165, signs, strRow, go_sem, -List.set_cons_succ, -List.set_cons_zero]
set_option maxHeartbeats 3200000 in
theorem index_calls (l : List (List UInt8)) (hl : l.length ≤ 1048576) (s : List UInt8) (H : Heap) : ACalls Tryz.prog 154 [.c (.d (.sl (l.map strRow))), .c (.d (.str s))] H (fun r H' => H' = H ∧ ∃ k : Int, r = .c (.d (.int .i64 k)) ∧ decide (0 ≤ k) = l.contains s) := by
  refine acalls Tryz.func154 (by kernel_rfl) ac154_ok fun hf => ?_
  have hli : inR .i64 (l.length : Int) := small_i64 (by omega) (by omega)
  simp -implicitDefEqProofs [ac154, hli, go_sem, -List.set_cons_succ, -List.set_cons_zero]
  refine loop_set (σ := Nat) (fun i => [(8, .c (.d (.int .i64 i)))]) (fun _ => H) (fun _ => []) (fun i => i ≤ l.length ∧ s ∉ l.take i) (fun i => l.length - i) 0 rfl ⟨Nat.zero_le _, by simp⟩ ?_
  rintro i ⟨hi, hno⟩
  simp -implicitDefEqProofs [setAll, hli, go_sem, -List.set_cons_succ, -List.set_cons_zero]
  refine ⟨fun hlt => ?_, fun hge => ?_⟩
  · refine row_of hlt rfl ?_
    have hadd : inR .i64 ((i : Int) + 1) := small_i64 (by omega) (by omega)
    simp -implicitDefEqProofs [strRow, hadd, go_sem, -List.set_cons_succ, -List.set_cons_zero]
    refine ⟨fun h => ?_, fun h => ?_⟩
    · subst h; exact List.getElem_mem hlt
    · refine loop_back (i + 1) (by simp [setAll]) ⟨hlt, ?_⟩ (by show l.length - (i + 1) < l.length - i; omega)
      rw [List.take_succ_eq_append_getElem hlt, List.mem_append]
      rintro (h' | h')
      · exact hno h'
      · simp at h'; exact h h'
  · rw [List.take_of_length_le hge] at hno
    simp [hno]
set_option maxHeartbeats 3200000 in
theorem contains_calls (l : List (List UInt8)) (hl : l.length ≤ 1048576) (s : List UInt8) (H : Heap) : ACalls Tryz.prog 98 [.c (.d (.sl (l.map strRow))), .c (.d (.str s))] H (fun r H' => H' = H ∧ r = .c (.d (.bool (l.contains s)))) := by
  refine acalls Tryz.func98 (by kernel_rfl) ac98_ok fun hf => ?_
  simp -implicitDefEqProofs [ac98, go_sem, -List.set_cons_succ, -List.set_cons_zero]
  refine call_some (index_calls l hl s _) (by simp) (fun r ⟨k, hk, _⟩ => by subst hk; rfl) hf ?_
  rintro _ ⟨k, rfl, hk⟩
  simp -implicitDefEqProofs [go_sem, -List.set_cons_succ, -List.set_cons_zero]
  simpa using hk
set_option maxHeartbeats 3200000 in
theorem l1Has_calls (l : List (List UInt8)) (hl : l.length ≤ 1048576) (s : List UInt8) (H : Heap) : ACalls Tryz.prog 164 [.c (.d (.sl (l.map strRow))), .c (.d (.str s))] H (fun r H' => H' = H ∧ r = .c (.d (.bool (l.contains s)))) := by
  refine acalls Tryz.func164 (by kernel_rfl) ac164_ok fun hf => ?_
  have hli : inR .i64 (l.length : Int) := small_i64 (by omega) (by omega)
  simp -implicitDefEqProofs [ac164, hli, go_sem, -List.set_cons_succ, -List.set_cons_zero]
  refine loop_set (σ := Nat) (fun i => [(5, .c (.d (.int .i64 i)))]) (fun _ => H) (fun _ => []) (fun i => i ≤ l.length ∧ s ∉ l.take i) (fun i => l.length - i) 0 rfl ⟨Nat.zero_le _, by simp⟩ ?_
  rintro i ⟨hi, hno⟩
  simp -implicitDefEqProofs [setAll, hli, go_sem, -List.set_cons_succ, -List.set_cons_zero]
  refine ⟨fun hlt => ?_, fun hge => ?_⟩
  · refine row_of hlt rfl ?_
    have hadd : inR .i64 ((i : Int) + 1) := small_i64 (by omega) (by omega)
    simp -implicitDefEqProofs [strRow, hadd, go_sem, -List.set_cons_succ, -List.set_cons_zero]
    refine ⟨fun h => ?_, fun h => ?_⟩
    · subst h; exact List.getElem_mem hlt
    · refine loop_back (i + 1) (by simp [setAll]) ⟨hlt, ?_⟩ (by show l.length - (i + 1) < l.length - i; omega)
      rw [List.take_succ_eq_append_getElem hlt, List.mem_append]
      rintro (h' | h')
      · exact hno h'
      · simp at h'; exact h h'.symm
  · rw [List.take_of_length_le hge] at hno
    simpa using hno
/-- a name -/
def nameB (s : List UInt8) : Bool := lettersB s || signs.contains s
set_option maxHeartbeats 3200000 in
theorem nvImpl_calls (s : List UInt8) (hs : s.length ≤ 1000000000000) (H : Heap) : ACalls Tryz.prog 46 [.c (.d (.str s))] H (fun r H' => H' = H ∧ r = .c (.d (.bool (nameB s)))) := by
  refine acalls Tryz.func46 (by kernel_rfl) ac46_ok fun hf => ?_
  simp -implicitDefEqProofs [ac46, go_sem, -List.set_cons_succ, -List.set_cons_zero]
  refine qcall_pure (isLetters_calls s hs) hf rfl ?_
  cases h : lettersB s with
  | true => simp -implicitDefEqProofs [h, nameB, go_sem, -List.set_cons_succ, -List.set_cons_zero]
  | false =>
    simp -implicitDefEqProofs [h, go_sem, -List.set_cons_succ, -List.set_cons_zero]
    refine qcall_pure symbols_calls hf rfl ?_
    simp -implicitDefEqProofs [go_sem, -List.set_cons_succ, -List.set_cons_zero]
    refine qcall_pure (contains_calls signs (by decide) s) hf rfl ?_
    simp -implicitDefEqProofs [h, nameB, go_sem, -List.set_cons_succ, -List.set_cons_zero]
set_option maxHeartbeats 3200000 in
theorem nvSpec_calls (s : List UInt8) (hs : s.length ≤ 1000000000000) (H : Heap) : ACalls Tryz.prog 104 [.c (.d (.str s))] H (fun r H' => H' = H ∧ r = .c (.d (.bool (nameB s)))) := by
  refine acalls Tryz.func104 (by kernel_rfl) ac104_ok fun hf => ?_
  simp -implicitDefEqProofs [ac104, go_sem, -List.set_cons_succ, -List.set_cons_zero]
  refine qcall_pure (l1Word_calls s hs) hf rfl ?_
  cases h : lettersB s with
  | true => simp -implicitDefEqProofs [h, nameB, go_sem, -List.set_cons_succ, -List.set_cons_zero]
  | false =>
    simp -implicitDefEqProofs [h, go_sem, -List.set_cons_succ, -List.set_cons_zero]
    refine qcall_pure l1Signs_calls hf rfl ?_
    simp -implicitDefEqProofs [go_sem, -List.set_cons_succ, -List.set_cons_zero]
    refine qcall_pure (l1Has_calls signs (by decide) s) hf rfl ?_
    simp -implicitDefEqProofs [h, nameB, go_sem, -List.set_cons_succ, -List.set_cons_zero]
end Go.Proofs.YtbblefjbgbocoaaGreatDoor

/-
  Valid terms: TermValid of the program and of the reference.
  Conditions: none.
-/
open Go Go.AM Go.Proofs
namespace Go.Proofs.YtbblefjbgbocoaaGreatDoor
open Go.ChangeShapes Go.WideShapes Go.ChangeAt Go.RowKit
set_option linter.unusedVariables false
set_option linter.unusedSimpArgs false
set_option maxRecDepth 100000
-- 173 slices.IndexFunc[[]loop.example/prologserver/impl.Term,loop.example/prologserver/impl.Term] params 2 ntmps 19
-- loop head live: [0,1,7,8]
def ac173 : Cd := .seq (.region [⟨(some 4),.mv (.k (.c (.d (.int .i64 0)))),none⟩] [4])
 (.seq (.seq (.region [⟨(some 6),.mv (.t 0),none⟩,
 ⟨(some 7),.len 1 (.t 6),none⟩,
 ⟨(some 8),.mv (.k (.c (.d (.int .i64 0)))),none⟩] [6])
 (.block 0 (.loop (.seq (.region [⟨(some 9),.bin .lss (.t 8) (.t 7),none⟩] [])
 (.seq (.cond (.t 9)
 (.skip)
 (.exit 0))
 (.seq (.block 1 (.seq (.region [⟨(some 10),.mv (.t 8),none⟩,
 ⟨(some 5),.mv (.t 10),none⟩] [9,10])
 (.seq (.region [⟨(some 11),.mv (.t 1),none⟩,
 ⟨(some 12),.mv (.t 0),none⟩,
 ⟨(some 13),.mv (.t 5),none⟩,
 ⟨(some 14),.indexAddr 4 (.t 12) (.t 13),none⟩,
 ⟨(some 15),.load (some 4) (.t 14),none⟩,
 ⟨(some 16),.callv (.t 11) [(.t 15)],none⟩] [11,12,13,14,15])
 (.cond (.t 16)
 (.seq (.region [⟨(some 17),.mv (.t 5),none⟩,
 ⟨(some 4),.mv (.t 17),none⟩] [0,1,5,7,8,16,17])
 (.ret))
 (.skip)))))
 (.region [⟨(some 18),.bin .add (.t 8) (.k (.c (.d (.int .i64 1)))),none⟩,
 ⟨(some 8),.mv (.t 18),none⟩] [4,5,16,18])))))))
 (.seq (.region [⟨(some 4),.mv (.k (.c (.d (.int .i64 (-1))))),none⟩] [])
 (.ret)))
theorem ac173_ok : cFunc Tryz.prog [] [(0,[4],[]),(1,[6],[]),(2,[],[]),(3,[9,10],[]),(4,[11,12,13,14,15],[]),(5,[0,1,5,7,8,16,17],[]),(6,[4,5,16,18],[]),(7,[],[])] Tryz.f173 = some (ac173,[.tmp 4],19) := by kernel_rfl
-- 115 slices.ContainsFunc[[]loop.example/prologserver/impl.Term,loop.example/prologserver/impl.Term] params 2 ntmps 9
def ac115 : Cd := .seq (.region [⟨(some 4),.mv (.k (.c (.d (.bool false)))),none⟩] [4])
 (.seq (.region [⟨(some 5),.mv (.t 0),none⟩,
 ⟨(some 6),.mv (.t 1),none⟩,
 ⟨(some 7),.call false 173 [(.t 5),(.t 6)],none⟩,
 ⟨(some 8),.bin .geq (.t 7) (.k (.c (.d (.int .i64 0)))),none⟩,
 ⟨(some 4),.mv (.t 8),none⟩] [0,1,5,6,7,8])
 (.ret))
theorem ac115_ok : cFunc Tryz.prog [] [(0,[4],[]),(1,[0,1,5,6,7,8],[])] Tryz.f115 = some (ac115,[.tmp 4],9) := by kernel_rfl
theorem tmF_idx {σ : Type} (Hp : σ → Heap) (n : Nat) (hn : ∀ s, (Hp s).length = n) (hfit : ∀ s, Obs.fits n 0 (Hp s)) (g : FuncId) (caps : List (Nat × Nat)) (step : σ → Tm → Bool × σ) (P : σ → Prop) (l : List Tm) (hl : l.length ≤ 1048576)
    (h : ∀ s, P s → ∀ t ∈ l, ACalls Tryz.prog g (.agg ((Tm.row t).map .d) :: caps.map fun x => .c (.ptr (.e x.1) x.2)) (Hp s) (fun r H' => r = .c (.d (.bool (step s t).1)) ∧ H' = Hp (step s t).2)) (hP : ∀ s, P s → ∀ t ∈ l, (step s t).1 = false → P (step s t).2) (s : σ) (h0 : P s) :
    ACalls Tryz.prog 173 [.c (.d (.sl (l.map Tm.row))), .c (.fn g (caps.map fun x => (.e x.1, x.2)))] (Hp s) (fun r H' => (∃ k : Int, r = .c (.d (.int .i64 k)) ∧ decide (0 ≤ k) = (anyS step l s).1) ∧ H' = Hp (anyS step l s).2) := by
  refine acalls Tryz.func173 (by kernel_rfl) ac173_ok fun hf => ?_
  have hli : inR .i64 (l.length : Int) := small_i64 (by omega) (by omega)
  simp -implicitDefEqProofs [ac173, hli, go_sem, -List.set_cons_succ, -List.set_cons_zero]
  refine loop_set (σ := Nat × σ) (fun x => [(8, .c (.d (.int .i64 x.1)))]) (fun x => Hp x.2) (fun _ => []) (fun x => x.1 ≤ l.length ∧ P x.2 ∧ anyS step (l.drop x.1) x.2 = anyS step l s) (fun x => l.length - x.1) (0, s) rfl ⟨Nat.zero_le _, h0, rfl⟩ ?_
  rintro ⟨i, q⟩ ⟨hi, hq, hrun⟩
  simp only at hi hq hrun
  simp -implicitDefEqProofs [setAll, hli, go_sem, -List.set_cons_succ, -List.set_cons_zero]
  refine ⟨fun hlt => ?_, fun hge => ?_⟩
  · refine row_of hlt (row_len _) ?_
    simp -implicitDefEqProofs [row_len, take_row, pure_d, re_d, callArgs_ptrs, go_sem, -List.set_cons_succ, -List.set_cons_zero]
    have hd : l.drop i = l[i] :: l.drop (i + 1) := List.drop_eq_getElem_cons hlt
    rw [hd, anyS] at hrun
    have hadd : inR .i64 ((i : Int) + 1) := small_i64 (by omega) (by omega)
    refine (h q hq l[i] (List.getElem_mem hlt)).mono fun r H' ⟨h1, h2⟩ => ⟨Hp (step q l[i]).2, [], .c (.d (.bool (step q l[i]).1)), by simpa using h2, by simp only [hn], Nat.le_refl _, by simp only [hn]; exact hfit _, h1, ?_⟩
    cases hs : (step q l[i]).1 with
    | true =>
      rw [if_pos hs] at hrun
      simp -implicitDefEqProofs [hs, go_sem, -List.set_cons_succ, -List.set_cons_zero]
      rw [← hrun]
      exact ⟨by simp, rfl⟩
    | false =>
      rw [if_neg (by simp [hs])] at hrun
      simp -implicitDefEqProofs [hs, hadd, go_sem, -List.set_cons_succ, -List.set_cons_zero]
      exact loop_back (i + 1, (step q l[i]).2) (by simp [setAll]) ⟨hlt, hP q hq _ (List.getElem_mem hlt) hs, hrun⟩ (by show l.length - (i + 1) < l.length - i; omega)
  · rw [List.drop_of_length_le hge] at hrun
    simp only [anyS] at hrun
    rw [← hrun]
    exact ⟨by simp, rfl⟩
theorem tmF_con {σ : Type} (Hp : σ → Heap) (n : Nat) (hn : ∀ s, (Hp s).length = n) (hfit : ∀ s, Obs.fits n 0 (Hp s)) (g : FuncId) (caps : List (Nat × Nat)) (step : σ → Tm → Bool × σ) (P : σ → Prop) (l : List Tm) (hl : l.length ≤ 1048576)
    (h : ∀ s, P s → ∀ t ∈ l, ACalls Tryz.prog g (.agg ((Tm.row t).map .d) :: caps.map fun x => .c (.ptr (.e x.1) x.2)) (Hp s) (fun r H' => r = .c (.d (.bool (step s t).1)) ∧ H' = Hp (step s t).2)) (hP : ∀ s, P s → ∀ t ∈ l, (step s t).1 = false → P (step s t).2) (s : σ) (h0 : P s) :
    ACalls Tryz.prog 115 [.c (.d (.sl (l.map Tm.row))), .c (.fn g (caps.map fun x => (.e x.1, x.2)))] (Hp s) (fun r H' => r = .c (.d (.bool (anyS step l s).1)) ∧ H' = Hp (anyS step l s).2) := by
  refine acalls Tryz.func115 (by kernel_rfl) ac115_ok fun hf => ?_
  simp -implicitDefEqProofs [ac115, go_sem, -List.set_cons_succ, -List.set_cons_zero]
  simp only [List.map_map, Function.comp_def, Ref.re]
  refine (tmF_idx Hp n hn hfit g caps step P l hl h hP s h0).mono fun r H' ⟨⟨k, h1, h2⟩, h3⟩ => ⟨Hp (anyS step l s).2, [], .c (.d (.int .i64 k)), by simpa using h3, by simp only [hn], Nat.le_refl _, by simp only [hn]; exact hfit _, h1, ?_⟩
  simp -implicitDefEqProofs [go_sem, -List.set_cons_succ, -List.set_cons_zero]
  rw [← h2]
/-- .. where the function looks at what it is given alone -/
theorem tmF_any (g : FuncId) (p : Tm → Bool) (l : List Tm) (hl : l.length ≤ 1048576) (h : ∀ t ∈ l, ∀ H, ACalls Tryz.prog g [.agg ((Tm.row t).map .d)] H (fun r H' => H' = H ∧ r = .c (.d (.bool (p t))))) (H : Heap) :
    ACalls Tryz.prog 115 [.c (.d (.sl (l.map Tm.row))), .c (.fn g [])] H (fun r H' => H' = H ∧ r = .c (.d (.bool (l.any p)))) := by
  refine acalls_fits Tryz.func115 (by kernel_rfl) (by kernel_rfl) fun hf => ?_
  have := tmF_con (σ := Unit) (fun _ => H) H.length (fun _ => rfl) (fun _ => hf) g [] (fun _ t => (p t, ())) (fun _ => True) l hl (fun s _ t ht => (h t ht H).mono fun r H' ⟨h1, h2⟩ => ⟨h2, h1⟩) (fun _ _ _ _ _ => trivial) () trivial
  rw [anyS_const] at this
  exact this.mono fun r H' ⟨h1, h2⟩ => ⟨h2, h1⟩

/-- a node's own fields -/
def Tm.ownB : Tm → Bool
  | .mk k n s l => if k = 1 then ((decide (0 ≤ n) && decide (n ≤ 25)) && s == []) && l.isEmpty
    else if k = 2 then ((decide (-999 ≤ n) && decide (n ≤ 999)) && s == []) && l.isEmpty
    else if k = 3 then (decide (n = 0) && nameB s) && decide (l.length ≤ 4)
    else false
mutual
/-- well-formed, down to a depth -/
def Tm.shape : Nat → Tm → Bool
  | d, .mk k n s l => decide (1 ≤ d) && ((Tm.mk k n s l).ownB && shapes (d - 1) l)
def shapes : Nat → List Tm → Bool
  | _, [] => true
  | d, t :: l => t.shape d && shapes d l
end
mutual
/-- the number of nodes -/
def Tm.size : Tm → Nat
  | .mk _ _ _ l => 1 + sizes l
def sizes : List Tm → Nat
  | [] => 0
  | t :: l => t.size + sizes l
end
def Tm.valid (t : Tm) : Bool := t.shape 30 && decide (t.size ≤ 120)
mutual
/-- the program's check: nodes are counted -/
def scanT : Nat → Tm → Nat → Bool × Nat
  | deep, .mk k n s l, c => if 120 < c + 1 ∨ 30 < deep then (false, c + 1) else if !(Tm.mk k n s l).ownB then (false, c + 1) else scanL (deep + 1) l (c + 1)
def scanL : Nat → List Tm → Nat → Bool × Nat
  | _, [], c => (true, c)
  | deep, t :: l, c => if (scanT deep t c).1 = true then scanL deep l (scanT deep t c).2 else (false, (scanT deep t c).2)
end
theorem shapes_all : ∀ (l : List Tm) (d : Nat), shapes d l = l.all fun t => t.shape d
  | [], _ => rfl
  | t :: l, d => by rw [shapes, shapes_all l d]; rfl
theorem own_leaf {k n : Int} {s : List UInt8} {l : List Tm} (hk : k ≠ 3) (h : (Tm.mk k n s l).ownB = true) : l = [] := by
  simp only [Tm.ownB] at h
  by_cases k1 : k = 1
  · rw [if_pos k1] at h; simp at h; exact h.2
  · rw [if_neg k1] at h
    by_cases k2 : k = 2
    · rw [if_pos k2] at h; simp at h; exact h.2
    · rw [if_neg k2, if_neg hk] at h; cases h
/-- what the program's check answers -/
theorem scan_spec : ∀ t : Tm, ∀ (deep c : Nat), c ≤ 120 → ((scanT deep t c).1 = true → (scanT deep t c).2 = c + t.size ∧ (scanT deep t c).2 ≤ 120) ∧ ((scanT deep t c).1 = (t.shape (31 - deep) && decide (c + t.size ≤ 120))) := by
  refine Tm.ind fun k n s l ih deep c hc => ?_
  have hl : ∀ (l : List Tm), (∀ t ∈ l, ∀ (deep c : Nat), c ≤ 120 → ((scanT deep t c).1 = true → (scanT deep t c).2 = c + t.size ∧ (scanT deep t c).2 ≤ 120) ∧ ((scanT deep t c).1 = (t.shape (31 - deep) && decide (c + t.size ≤ 120)))) →
      ∀ (deep c : Nat), c ≤ 120 → ((scanL deep l c).1 = true → (scanL deep l c).2 = c + sizes l ∧ (scanL deep l c).2 ≤ 120) ∧ ((scanL deep l c).1 = (shapes (31 - deep) l && decide (c + sizes l ≤ 120))) := by
    intro l
    induction l with
    | nil => intro _ deep c hc; simp [scanL, shapes, sizes, hc]
    | cons t l ih2 =>
      intro h deep c hc
      obtain ⟨h1, h2⟩ := h t (by simp) deep c hc
      rw [scanL, shapes, sizes]
      cases hs : (scanT deep t c).1 with
      | true =>
        obtain ⟨h3, h4⟩ := h1 hs
        obtain ⟨h5, h6⟩ := ih2 (fun x hx => h x (by simp [hx])) deep (scanT deep t c).2 h4
        rw [hs] at h2
        simp only [if_true]
        rw [h3] at h5 h6 ⊢
        have h7 := h2.symm
        simp only [Bool.and_eq_true] at h7
        rw [h7.1, Bool.true_and]
        refine ⟨fun h => ⟨by have := (h5 h).1; omega, (h5 h).2⟩, ?_⟩
        rw [h6, show c + t.size + sizes l = c + (t.size + sizes l) by omega]
      | false =>
        rw [hs] at h2
        simp only [Bool.false_eq_true, if_false]
        refine ⟨fun h => (by cases h), ?_⟩
        have h7 := h2.symm
        rw [Bool.and_eq_false_iff] at h7
        symm
        rcases h7 with h7 | h7
        · simp [h7]
        · simp only [decide_eq_false_iff_not] at h7
          have : ¬ c + (t.size + sizes l) ≤ 120 := by omega
          simp [this]
  rw [scanT, Tm.shape, Tm.size]
  by_cases h1 : 120 < c + 1 ∨ 30 < deep
  · rw [if_pos h1]
    refine ⟨fun h => (by cases h), ?_⟩
    symm
    rcases h1 with h1 | h1
    · have : ¬ c + (1 + sizes l) ≤ 120 := by omega
      simp [this]
    · have : ¬ 1 ≤ 31 - deep := by omega
      simp [this]
  · rw [if_neg h1]
    have hd : 1 ≤ 31 - deep := by omega
    cases ho : (Tm.mk k n s l).ownB with
    | false => exact ⟨fun h => (by simp at h), by simp⟩
    | true =>
      simp only [Bool.not_true, Bool.false_eq_true, if_false]
      obtain ⟨h3, h4⟩ := hl l ih (deep + 1) (c + 1) (by omega)
      refine ⟨fun h => ⟨by have := (h3 h).1; omega, (h3 h).2⟩, ?_⟩
      rw [h4, show 31 - (deep + 1) = 31 - deep - 1 by omega, show c + 1 + sizes l = c + (1 + sizes l) by omega]
      simp [hd]
theorem scan_valid (t : Tm) : (scanT 1 t 0).1 = t.valid := by
  have := (scan_spec t 1 0 (by omega)).2
  rw [this, Tm.valid]
  simp
end Go.Proofs.YtbblefjbgbocoaaGreatDoor

/-
  TermValid: the functions of the program and of the reference.
  Conditions: none.
-/
open Go Go.AM Go.Proofs
namespace Go.Proofs.YtbblefjbgbocoaaGreatDoor
open Go.ChangeShapes Go.WideShapes Go.ChangeAt Go.RowKit
set_option linter.unusedVariables false
set_option linter.unusedSimpArgs false
set_option maxRecDepth 100000
-- 119 loop.example/prologserver/impl.scan params 3 ntmps 76
def ac119 : Cd := .seq (.region [⟨(some 3),.box (.t 0),none⟩,
 ⟨(some 4),.box (.t 1),none⟩,
 ⟨(some 5),.box (.t 2),none⟩,
 ⟨(some 6),.mv (.k (.c (.d (.bool false)))),none⟩] [0,1,2,6])
 (.seq (.region [⟨(some 7),.load none (.t 5),none⟩,
 ⟨(some 8),.nilCheck (.t 7),none⟩,
 ⟨(some 9),.load none (.t 8),none⟩,
 ⟨(some 10),.bin .add (.t 9) (.k (.c (.d (.int .i64 1)))),none⟩,
 ⟨(some 11),.nilCheck (.t 7),none⟩,
 ⟨none,.store 1 (.t 11) (.t 10),none⟩] [7,8,9,10,11])
 (.seq (.seq (.region [⟨(some 12),.load none (.t 5),none⟩,
 ⟨(some 13),.nilCheck (.t 12),none⟩,
 ⟨(some 14),.load none (.t 13),none⟩,
 ⟨(some 15),.bin .gtr (.t 14) (.k (.c (.d (.int .i64 120)))),none⟩,
 ⟨(some 16),.mv (.t 15),none⟩,
 ⟨(some 17),.load none (.t 4),some (16,false)⟩,
 ⟨(some 18),.bin .gtr (.t 17) (.k (.c (.d (.int .i64 30)))),some (16,false)⟩,
 ⟨(some 19),.pick (.t 16) (.k (.c (.d (.bool true)))) (.t 18),none⟩] [12,13,14,15,16,17,18])
 (.cond (.t 19)
 (.seq (.region [⟨(some 6),.mv (.k (.c (.d (.bool false)))),none⟩] [3,4,5,19])
 (.ret))
 (.skip)))
 (.seq (.seq (.region [⟨(some 20),.fieldAddr 0 (.t 3),none⟩,
 ⟨(some 21),.load none (.t 20),none⟩] [6,19,20])
 (.block 0 (.seq (.region [⟨(some 23),.bin .eql (.t 21) (.k (.c (.d (.int .i64 1)))),none⟩,
 ⟨(some 22),.mv (.t 23),none⟩] [23])
 (.cond (.t 22)
 (.seq (.region [⟨(some 24),.fieldAddr 1 (.t 3),none⟩,
 ⟨(some 25),.load none (.t 24),none⟩,
 ⟨(some 26),.qcall 45 [(.t 25),(.k (.c (.d (.int .i64 0)))),(.k (.c (.d (.int .i64 25))))],none⟩,
 ⟨(some 27),.mv (.t 26),none⟩,
 ⟨(some 28),.fieldAddr 2 (.t 3),some (27,true)⟩,
 ⟨(some 29),.load none (.t 28),some (27,true)⟩,
 ⟨(some 30),.bin .eql (.t 29) (.k (.c (.d (.str [])))),some (27,true)⟩,
 ⟨(some 31),.pick (.t 27) (.t 30) (.k (.c (.d (.bool false)))),none⟩,
 ⟨(some 32),.mv (.t 31),none⟩,
 ⟨(some 33),.fieldAddr 3 (.t 3),some (32,true)⟩,
 ⟨(some 34),.load none (.t 33),some (32,true)⟩,
 ⟨(some 35),.len 1 (.t 34),some (32,true)⟩,
 ⟨(some 36),.bin .eql (.t 35) (.k (.c (.d (.int .i64 0)))),some (32,true)⟩,
 ⟨(some 37),.pick (.t 32) (.t 36) (.k (.c (.d (.bool false)))),none⟩,
 ⟨(some 6),.mv (.t 37),none⟩] [3,4,5,21,22,24,25,26,27,28,29,30,31,32,33,34,35,36,37])
 (.ret))
 (.seq (.region [⟨(some 39),.bin .eql (.t 21) (.k (.c (.d (.int .i64 2)))),none⟩,
 ⟨(some 38),.mv (.t 39),none⟩] [22,39])
 (.cond (.t 38)
 (.seq (.region [⟨(some 40),.fieldAddr 1 (.t 3),none⟩,
 ⟨(some 41),.load none (.t 40),none⟩,
 ⟨(some 42),.qcall 45 [(.t 41),(.k (.c (.d (.int .i64 (-999))))),(.k (.c (.d (.int .i64 999))))],none⟩,
 ⟨(some 43),.mv (.t 42),none⟩,
 ⟨(some 44),.fieldAddr 2 (.t 3),some (43,true)⟩,
 ⟨(some 45),.load none (.t 44),some (43,true)⟩,
 ⟨(some 46),.bin .eql (.t 45) (.k (.c (.d (.str [])))),some (43,true)⟩,
 ⟨(some 47),.pick (.t 43) (.t 46) (.k (.c (.d (.bool false)))),none⟩,
 ⟨(some 48),.mv (.t 47),none⟩,
 ⟨(some 49),.fieldAddr 3 (.t 3),some (48,true)⟩,
 ⟨(some 50),.load none (.t 49),some (48,true)⟩,
 ⟨(some 51),.len 1 (.t 50),some (48,true)⟩,
 ⟨(some 52),.bin .eql (.t 51) (.k (.c (.d (.int .i64 0)))),some (48,true)⟩,
 ⟨(some 53),.pick (.t 48) (.t 52) (.k (.c (.d (.bool false)))),none⟩,
 ⟨(some 6),.mv (.t 53),none⟩] [3,4,5,21,38,40,41,42,43,44,45,46,47,48,49,50,51,52,53])
 (.ret))
 (.seq (.region [⟨(some 55),.bin .eql (.t 21) (.k (.c (.d (.int .i64 3)))),none⟩,
 ⟨(some 54),.mv (.t 55),none⟩] [21,38,55])
 (.cond (.t 54)
 (.seq (.seq (.region [⟨(some 56),.fieldAddr 1 (.t 3),none⟩,
 ⟨(some 57),.load none (.t 56),none⟩,
 ⟨(some 58),.bin .neq (.t 57) (.k (.c (.d (.int .i64 0)))),none⟩,
 ⟨(some 59),.mv (.t 58),none⟩,
 ⟨(some 60),.fieldAddr 2 (.t 3),some (59,false)⟩,
 ⟨(some 61),.load none (.t 60),some (59,false)⟩,
 ⟨(some 62),.qcall 46 [(.t 61)],some (59,false)⟩,
 ⟨(some 63),.un .not (.t 62),some (59,false)⟩,
 ⟨(some 64),.pick (.t 59) (.k (.c (.d (.bool true)))) (.t 63),none⟩,
 ⟨(some 65),.mv (.t 64),none⟩,
 ⟨(some 66),.fieldAddr 3 (.t 3),some (65,false)⟩,
 ⟨(some 67),.load none (.t 66),some (65,false)⟩,
 ⟨(some 68),.len 1 (.t 67),some (65,false)⟩,
 ⟨(some 69),.bin .gtr (.t 68) (.k (.c (.d (.int .i64 4)))),some (65,false)⟩,
 ⟨(some 70),.pick (.t 65) (.k (.c (.d (.bool true)))) (.t 69),none⟩] [54,56,57,58,59,60,61,62,63,64,65,66,67,68,69])
 (.cond (.t 70)
 (.seq (.region [⟨(some 6),.mv (.k (.c (.d (.bool false)))),none⟩] [3,4,5,70])
 (.ret))
 (.skip)))
 (.seq (.region [⟨(some 71),.fieldAddr 3 (.t 3),none⟩,
 ⟨(some 72),.load none (.t 71),none⟩,
 ⟨(some 73),.mkFunc 175 [(.t 4),(.t 5)],none⟩,
 ⟨(some 74),.call false 115 [(.t 72),(.t 73)],none⟩,
 ⟨(some 75),.un .not (.t 74),none⟩,
 ⟨(some 6),.mv (.t 75),none⟩] [3,4,5,70,71,72,73,74,75])
 (.ret)))
 (.skip)))))))))
 (.seq (.region [⟨(some 6),.mv (.k (.c (.d (.bool false)))),none⟩] [3,4,5,54])
 (.ret)))))
theorem ac119_ok : cFunc Tryz.prog [1000045,1000046] [(0,[0,1,2,6],[]),(1,[7,8,9,10,11],[]),(2,[12,13,14,15,16,17,18],[]),(3,[3,4,5,19],[]),(4,[6,19,20],[]),(5,[23],[]),(6,[3,4,5,21,22,24,25,26,27,28,29,30,31,32,33,34,35,36,37],[]),(7,[22,39],[]),(8,[3,4,5,21,38,40,41,42,43,44,45,46,47,48,49,50,51,52,53],[]),(9,[21,38,55],[]),(10,[54,56,57,58,59,60,61,62,63,64,65,66,67,68,69],[]),(11,[3,4,5,70],[]),(12,[3,4,5,70,71,72,73,74,75],[]),(13,[3,4,5,54],[])] Tryz.f119 = some (ac119,[.tmp 6],76) := by kernel_rfl
-- 175 loop.example/prologserver/impl.scan$1 params 1 ntmps 11
def ac175 : Cd := .seq (.region [⟨(some 3),.box (.t 0),none⟩,
 ⟨(some 4),.mv (.k (.c (.d (.bool false)))),none⟩] [0,4])
 (.seq (.region [⟨(some 5),.load (some 4) (.t 3),none⟩,
 ⟨(some 6),.load none (.t 1),none⟩,
 ⟨(some 7),.bin .add (.t 6) (.k (.c (.d (.int .i64 1)))),none⟩,
 ⟨(some 8),.load none (.t 2),none⟩,
 ⟨(some 9),.call false 119 [(.t 5),(.t 7),(.t 8)],none⟩,
 ⟨(some 10),.un .not (.t 9),none⟩,
 ⟨(some 4),.mv (.t 10),none⟩] [3,5,6,7,8,9,10])
 (.ret))
theorem ac175_ok : cFunc Tryz.prog [] [(0,[0,4],[]),(1,[3,5,6,7,8,9,10],[])] Tryz.f175 = some (ac175,[.tmp 4],11) := by kernel_rfl
-- 70 loop.example/prologserver/impl.TermValid params 1 ntmps 6
def ac70 : Cd := .seq (.region [⟨(some 1),.box (.t 0),none⟩,
 ⟨(some 2),.mv (.k (.c (.d (.bool false)))),none⟩] [0,2])
 (.seq (.region [⟨(some 3),.alloc [(.d (.int .i64 0))],none⟩,
 ⟨none,.store 1 (.t 3) (.k (.c (.d (.int .i64 0)))),none⟩] [])
 (.seq (.region [⟨(some 4),.load (some 4) (.t 1),none⟩,
 ⟨(some 5),.call false 119 [(.t 4),(.k (.c (.d (.int .i64 1)))),(.t 3)],none⟩,
 ⟨(some 2),.mv (.t 5),none⟩] [1,3,4,5])
 (.ret)))
theorem ac70_ok : cFunc Tryz.prog [] [(0,[0,2],[]),(1,[],[]),(2,[1,3,4,5],[])] Tryz.f70 = some (ac70,[.tmp 2],6) := by kernel_rfl
-- 181 loop.example/prologserver/spec.l1Own params 1 ntmps 63
def ac181 : Cd := .seq (.region [⟨(some 1),.box (.t 0),none⟩,
 ⟨(some 2),.mv (.k (.c (.d (.bool false)))),none⟩] [0,2])
 (.seq (.seq (.region [⟨(some 3),.fieldAddr 0 (.t 1),none⟩,
 ⟨(some 4),.load none (.t 3),none⟩] [3])
 (.block 0 (.seq (.region [⟨(some 6),.bin .eql (.t 4) (.k (.c (.d (.int .i64 1)))),none⟩,
 ⟨(some 5),.mv (.t 6),none⟩] [6])
 (.cond (.t 5)
 (.seq (.region [⟨(some 7),.fieldAddr 1 (.t 1),none⟩,
 ⟨(some 8),.load none (.t 7),none⟩,
 ⟨(some 9),.bin .geq (.t 8) (.k (.c (.d (.int .i64 0)))),none⟩,
 ⟨(some 10),.mv (.t 9),none⟩,
 ⟨(some 11),.fieldAddr 1 (.t 1),some (10,true)⟩,
 ⟨(some 12),.load none (.t 11),some (10,true)⟩,
 ⟨(some 13),.bin .leq (.t 12) (.k (.c (.d (.int .i64 25)))),some (10,true)⟩,
 ⟨(some 14),.pick (.t 10) (.t 13) (.k (.c (.d (.bool false)))),none⟩,
 ⟨(some 15),.mv (.t 14),none⟩,
 ⟨(some 16),.fieldAddr 2 (.t 1),some (15,true)⟩,
 ⟨(some 17),.load none (.t 16),some (15,true)⟩,
 ⟨(some 18),.bin .eql (.t 17) (.k (.c (.d (.str [])))),some (15,true)⟩,
 ⟨(some 19),.pick (.t 15) (.t 18) (.k (.c (.d (.bool false)))),none⟩,
 ⟨(some 20),.mv (.t 19),none⟩,
 ⟨(some 21),.fieldAddr 3 (.t 1),some (20,true)⟩,
 ⟨(some 22),.load none (.t 21),some (20,true)⟩,
 ⟨(some 23),.len 1 (.t 22),some (20,true)⟩,
 ⟨(some 24),.bin .eql (.t 23) (.k (.c (.d (.int .i64 0)))),some (20,true)⟩,
 ⟨(some 25),.pick (.t 20) (.t 24) (.k (.c (.d (.bool false)))),none⟩,
 ⟨(some 2),.mv (.t 25),none⟩] [1,4,5,7,8,9,10,11,12,13,14,15,16,17,18,19,20,21,22,23,24,25])
 (.ret))
 (.seq (.region [⟨(some 27),.bin .eql (.t 4) (.k (.c (.d (.int .i64 2)))),none⟩,
 ⟨(some 26),.mv (.t 27),none⟩] [5,27])
 (.cond (.t 26)
 (.seq (.region [⟨(some 28),.fieldAddr 1 (.t 1),none⟩,
 ⟨(some 29),.load none (.t 28),none⟩,
 ⟨(some 30),.bin .geq (.t 29) (.k (.c (.d (.int .i64 (-999))))),none⟩,
 ⟨(some 31),.mv (.t 30),none⟩,
 ⟨(some 32),.fieldAddr 1 (.t 1),some (31,true)⟩,
 ⟨(some 33),.load none (.t 32),some (31,true)⟩,
 ⟨(some 34),.bin .leq (.t 33) (.k (.c (.d (.int .i64 999)))),some (31,true)⟩,
 ⟨(some 35),.pick (.t 31) (.t 34) (.k (.c (.d (.bool false)))),none⟩,
 ⟨(some 36),.mv (.t 35),none⟩,
 ⟨(some 37),.fieldAddr 2 (.t 1),some (36,true)⟩,
 ⟨(some 38),.load none (.t 37),some (36,true)⟩,
 ⟨(some 39),.bin .eql (.t 38) (.k (.c (.d (.str [])))),some (36,true)⟩,
 ⟨(some 40),.pick (.t 36) (.t 39) (.k (.c (.d (.bool false)))),none⟩,
 ⟨(some 41),.mv (.t 40),none⟩,
 ⟨(some 42),.fieldAddr 3 (.t 1),some (41,true)⟩,
 ⟨(some 43),.load none (.t 42),some (41,true)⟩,
 ⟨(some 44),.len 1 (.t 43),some (41,true)⟩,
 ⟨(some 45),.bin .eql (.t 44) (.k (.c (.d (.int .i64 0)))),some (41,true)⟩,
 ⟨(some 46),.pick (.t 41) (.t 45) (.k (.c (.d (.bool false)))),none⟩,
 ⟨(some 2),.mv (.t 46),none⟩] [1,4,26,28,29,30,31,32,33,34,35,36,37,38,39,40,41,42,43,44,45,46])
 (.ret))
 (.seq (.region [⟨(some 48),.bin .eql (.t 4) (.k (.c (.d (.int .i64 3)))),none⟩,
 ⟨(some 47),.mv (.t 48),none⟩] [4,26,48])
 (.cond (.t 47)
 (.seq (.region [⟨(some 49),.fieldAddr 1 (.t 1),none⟩,
 ⟨(some 50),.load none (.t 49),none⟩,
 ⟨(some 51),.bin .eql (.t 50) (.k (.c (.d (.int .i64 0)))),none⟩,
 ⟨(some 52),.mv (.t 51),none⟩,
 ⟨(some 53),.fieldAddr 2 (.t 1),some (52,true)⟩,
 ⟨(some 54),.load none (.t 53),some (52,true)⟩,
 ⟨(some 55),.qcall 104 [(.t 54)],some (52,true)⟩,
 ⟨(some 56),.pick (.t 52) (.t 55) (.k (.c (.d (.bool false)))),none⟩,
 ⟨(some 57),.mv (.t 56),none⟩,
 ⟨(some 58),.fieldAddr 3 (.t 1),some (57,true)⟩,
 ⟨(some 59),.load none (.t 58),some (57,true)⟩,
 ⟨(some 60),.len 1 (.t 59),some (57,true)⟩,
 ⟨(some 61),.bin .leq (.t 60) (.k (.c (.d (.int .i64 4)))),some (57,true)⟩,
 ⟨(some 62),.pick (.t 57) (.t 61) (.k (.c (.d (.bool false)))),none⟩,
 ⟨(some 2),.mv (.t 62),none⟩] [1,47,49,50,51,52,53,54,55,56,57,58,59,60,61,62])
 (.ret))
 (.skip)))))))))
 (.seq (.region [⟨(some 2),.mv (.k (.c (.d (.bool false)))),none⟩] [1,47])
 (.ret)))
theorem ac181_ok : cFunc Tryz.prog [1000104] [(0,[0,2],[]),(1,[3],[]),(2,[6],[]),(3,[1,4,5,7,8,9,10,11,12,13,14,15,16,17,18,19,20,21,22,23,24,25],[]),(4,[5,27],[]),(5,[1,4,26,28,29,30,31,32,33,34,35,36,37,38,39,40,41,42,43,44,45,46],[]),(6,[4,26,48],[]),(7,[1,47,49,50,51,52,53,54,55,56,57,58,59,60,61,62],[]),(8,[1,47],[])] Tryz.f181 = some (ac181,[.tmp 2],63) := by kernel_rfl
-- 135 loop.example/prologserver/spec.l1Shape params 2 ntmps 29
-- loop head live: [1,2,5]
def ac135 : Cd := .seq (.region [⟨(some 2),.box (.t 0),none⟩,
 ⟨(some 4),.mv (.k (.c (.d (.bool false)))),none⟩] [0,4])
 (.seq (.seq (.region [⟨(some 6),.mv (.t 1),none⟩,
 ⟨(some 7),.bin .lss (.t 6) (.k (.c (.d (.int .i64 1)))),none⟩,
 ⟨(some 8),.mv (.t 7),none⟩,
 ⟨(some 9),.load (some 4) (.t 2),some (8,false)⟩,
 ⟨(some 10),.qcall 181 [(.t 9)],some (8,false)⟩,
 ⟨(some 11),.un .not (.t 10),some (8,false)⟩,
 ⟨(some 12),.pick (.t 8) (.k (.c (.d (.bool true)))) (.t 11),none⟩] [6,7,8,9,10,11])
 (.cond (.t 12)
 (.seq (.region [⟨(some 4),.mv (.k (.c (.d (.bool false)))),none⟩] [1,2,12])
 (.ret))
 (.skip)))
 (.seq (.seq (.region [⟨(some 5),.mv (.k (.c (.d (.int .i64 0)))),none⟩] [4,12])
 (.block 0 (.loop (.seq (.seq (.region [⟨(some 13),.mv (.t 5),none⟩,
 ⟨(some 14),.fieldAddr 3 (.t 2),none⟩,
 ⟨(some 15),.load none (.t 14),none⟩,
 ⟨(some 16),.len 1 (.t 15),none⟩,
 ⟨(some 17),.bin .lss (.t 13) (.t 16),none⟩] [13,14,15,16])
 (.cond (.t 17)
 (.skip)
 (.exit 0)))
 (.seq (.block 1 (.seq (.region [⟨(some 20),.fieldAddr 3 (.t 2),none⟩,
 ⟨(some 21),.load none (.t 20),none⟩,
 ⟨(some 22),.mv (.t 5),none⟩,
 ⟨(some 23),.indexAddr 4 (.t 21) (.t 22),none⟩,
 ⟨(some 24),.load (some 4) (.t 23),none⟩,
 ⟨(some 25),.mv (.t 1),none⟩,
 ⟨(some 26),.bin .sub (.t 25) (.k (.c (.d (.int .i64 1)))),none⟩,
 ⟨(some 27),.qcall 135 [(.t 24),(.t 26)],none⟩,
 ⟨(some 28),.un .not (.t 27),none⟩] [17,20,21,22,23,24,25,26,27])
 (.cond (.t 28)
 (.seq (.region [⟨(some 4),.mv (.k (.c (.d (.bool false)))),none⟩] [1,2,5,28])
 (.ret))
 (.skip))))
 (.region [⟨(some 18),.mv (.t 5),none⟩,
 ⟨(some 19),.bin .add (.t 18) (.k (.c (.d (.int .i64 1)))),none⟩,
 ⟨(some 5),.mv (.t 19),none⟩] [4,18,19,28]))))))
 (.seq (.region [⟨(some 4),.mv (.k (.c (.d (.bool true)))),none⟩] [])
 (.ret))))
theorem ac135_ok : cFunc Tryz.prog [1000135,1000181] [(0,[0,4],[]),(1,[6,7,8,9,10,11],[]),(2,[1,2,12],[]),(3,[4,12],[]),(4,[13,14,15,16],[]),(6,[17,20,21,22,23,24,25,26,27],[]),(7,[1,2,5,28],[]),(5,[4,18,19,28],[]),(8,[],[])] Tryz.f135 = some (ac135,[.tmp 4],29) := by kernel_rfl
-- 136 loop.example/prologserver/spec.l1Count params 2 ntmps 31
-- loop head live: [1,2,5,6]
def ac136 : Cd := .seq (.region [⟨(some 2),.box (.t 0),none⟩,
 ⟨(some 4),.mv (.k (.c (.d (.int .i64 0)))),none⟩] [0,4])
 (.seq (.region [⟨(some 5),.mv (.k (.c (.d (.int .i64 1)))),none⟩] [])
 (.seq (.seq (.region [⟨(some 6),.mv (.k (.c (.d (.int .i64 0)))),none⟩] [])
 (.block 0 (.loop (.seq (.seq (.region [⟨(some 7),.mv (.t 6),none⟩,
 ⟨(some 8),.fieldAddr 3 (.t 2),none⟩,
 ⟨(some 9),.load none (.t 8),none⟩,
 ⟨(some 10),.len 1 (.t 9),none⟩,
 ⟨(some 11),.bin .lss (.t 7) (.t 10),none⟩,
 ⟨(some 12),.mv (.t 11),none⟩,
 ⟨(some 13),.mv (.t 5),some (12,true)⟩,
 ⟨(some 14),.mv (.t 1),some (12,true)⟩,
 ⟨(some 15),.bin .leq (.t 13) (.t 14),some (12,true)⟩,
 ⟨(some 16),.pick (.t 12) (.t 15) (.k (.c (.d (.bool false)))),none⟩] [7,8,9,10,11,12,13,14,15])
 (.cond (.t 16)
 (.skip)
 (.exit 0)))
 (.seq (.block 1 (.region [⟨(some 19),.mv (.t 5),none⟩,
 ⟨(some 20),.fieldAddr 3 (.t 2),none⟩,
 ⟨(some 21),.load none (.t 20),none⟩,
 ⟨(some 22),.mv (.t 6),none⟩,
 ⟨(some 23),.indexAddr 4 (.t 21) (.t 22),none⟩,
 ⟨(some 24),.load (some 4) (.t 23),none⟩,
 ⟨(some 25),.mv (.t 1),none⟩,
 ⟨(some 26),.mv (.t 5),none⟩,
 ⟨(some 27),.bin .sub (.t 25) (.t 26),none⟩,
 ⟨(some 28),.qcall 136 [(.t 24),(.t 27)],none⟩,
 ⟨(some 29),.bin .add (.t 19) (.t 28),none⟩,
 ⟨(some 5),.mv (.t 29),none⟩] [16,19,20,21,22,23,24,25,26,27,28,29]))
 (.region [⟨(some 17),.mv (.t 6),none⟩,
 ⟨(some 18),.bin .add (.t 17) (.k (.c (.d (.int .i64 1)))),none⟩,
 ⟨(some 6),.mv (.t 18),none⟩] [17,18]))))))
 (.seq (.region [⟨(some 30),.mv (.t 5),none⟩,
 ⟨(some 4),.mv (.t 30),none⟩] [5,30])
 (.ret))))
theorem ac136_ok : cFunc Tryz.prog [1000136] [(0,[0,4],[]),(1,[],[]),(2,[],[]),(3,[7,8,9,10,11,12,13,14,15],[]),(5,[16,19,20,21,22,23,24,25,26,27,28,29],[]),(4,[17,18],[]),(6,[5,30],[])] Tryz.f136 = some (ac136,[.tmp 4],31) := by kernel_rfl
-- 80 loop.example/prologserver/spec.TermValid params 1 ntmps 10
def ac80 : Cd := .seq (.region [⟨(some 1),.box (.t 0),none⟩,
 ⟨(some 2),.mv (.k (.c (.d (.bool false)))),none⟩] [0,2])
 (.seq (.region [⟨(some 3),.load (some 4) (.t 1),none⟩,
 ⟨(some 4),.qcall 135 [(.t 3),(.k (.c (.d (.int .i64 30))))],none⟩,
 ⟨(some 5),.mv (.t 4),none⟩,
 ⟨(some 6),.load (some 4) (.t 1),some (5,true)⟩,
 ⟨(some 7),.qcall 136 [(.t 6),(.k (.c (.d (.int .i64 120))))],some (5,true)⟩,
 ⟨(some 8),.bin .leq (.t 7) (.k (.c (.d (.int .i64 120)))),some (5,true)⟩,
 ⟨(some 9),.pick (.t 5) (.t 8) (.k (.c (.d (.bool false)))),none⟩,
 ⟨(some 2),.mv (.t 9),none⟩] [1,3,4,5,6,7,8,9])
 (.ret))
theorem ac80_ok : cFunc Tryz.prog [1000135,1000136] [(0,[0,2],[]),(1,[1,3,4,5,6,7,8,9],[])] Tryz.f80 = some (ac80,[.tmp 2],10) := by kernel_rfl
def Cn (c : Nat) : Ob := .cells [.d (.int .i64 c)]
def ScanOk (t : Tm) : Prop := ∀ (deep c : Nat) (H : Heap) (i : Nat), deep ≤ 31 → c ≤ 120 → i < H.length →
  ACalls Tryz.prog 119 [.agg (t.row.map .d), .c (.d (.int .i64 deep)), .c (.ptr (.e i) 0)] (H.set i (Cn c)) (fun r H' => r = .c (.d (.bool (scanT deep t c).1)) ∧ H' = H.set i (Cn (scanT deep t c).2))
theorem anyS_scan (d : Nat) : ∀ (l : List Tm) (c : Nat), anyS (fun c t => (!(scanT d t c).1, (scanT d t c).2)) l c = (!(scanL d l c).1, (scanL d l c).2)
  | [], _ => rfl
  | t :: l, c => by
    rw [anyS, scanL]
    cases h : (scanT d t c).1 with
    | true => simp [anyS_scan d l]
    | false => simp
def scanHeap (H : Heap) (i deep : Nat) (x : Ob) (c : Nat) : Heap := H.set i (Cn c) ++ [x, .cells [.d (.int .i64 deep)], .cells [.ptr (.e i) 0]]
theorem scan1_calls (t : Tm) (h : ScanOk t) (deep c : Nat) (H : Heap) (i : Nat) (x : Ob) (hd : deep ≤ 30) (hc : c ≤ 120) (hi : i < H.length) (hfit : ∀ c, Obs.fits (H.length + 3) 0 (scanHeap H i deep x c)) :
    ACalls Tryz.prog 175 [.agg (t.row.map .d), .c (.ptr (.e (H.length + 1)) 0), .c (.ptr (.e (H.length + 2)) 0)] (scanHeap H i deep x c) (fun r H' => r = .c (.d (.bool (!(scanT (deep + 1) t c).1))) ∧ H' = scanHeap H i deep x (scanT (deep + 1) t c).2) := by
  refine acalls Tryz.func175 (by kernel_rfl) ac175_ok fun hf => ?_
  have hlen : ∀ c, (scanHeap H i deep x c).length = H.length + 3 := fun c => by simp [scanHeap]
  have g1 : (scanHeap H i deep x c)[H.length + 1]? = some (.cells [.d (.int .i64 deep)]) := by
    rw [scanHeap, List.getElem?_append_right (by simp)]; simp
  have g2 : (scanHeap H i deep x c)[H.length + 2]? = some (.cells [.ptr (.e i) 0]) := by
    rw [scanHeap, List.getElem?_append_right (by simp)]; simp
  have hadd : inR .i64 ((deep : Int) + 1) := small_i64 (by omega) (by omega)
  simp -implicitDefEqProofs [ac175, g1, g2, hadd, row_len, take_row, go_sem, -List.set_cons_succ, -List.set_cons_zero]
  have hset : ∀ c, (H ++ ([x, .cells [.d (.int .i64 deep)], .cells [.ptr (.e i) 0]] ++ [Ob.cells (t.row.map C.d)])).set i (Cn c) = scanHeap H i deep x c ++ [Ob.cells (t.row.map C.d)] := fun c => by
    rw [List.set_append_left _ _ hi, scanHeap, List.append_assoc]
  have h2 := h (deep + 1) c (H ++ ([x, .cells [.d (.int .i64 deep)], .cells [.ptr (.e i) 0]] ++ [Ob.cells (t.row.map C.d)])) i (by omega) hc (by simp; omega)
  rw [hset] at h2
  simp -implicitDefEqProofs [pure_d, re_d, Ref.re, go_sem, -List.set_cons_succ, -List.set_cons_zero]
  refine h2.mono fun r H' ⟨h3, h4⟩ => ⟨scanHeap H i deep x (scanT (deep + 1) t c).2, [Ob.cells (t.row.map C.d)], .c (.d (.bool (scanT (deep + 1) t c).1)), ?_, ?_, Nat.le_refl _, ?_, h3, ?_⟩
  · rw [h4, hset]; simp [Ob.re, re_d]
  · simp only [hlen]
  · simp only [hlen]; exact hfit _
  · simp -implicitDefEqProofs [go_sem, -List.set_cons_succ, -List.set_cons_zero]
theorem scanT_bad {deep c : Nat} {t : Tm} (h : 120 < c + 1 ∨ 30 < deep) : scanT deep t c = (false, c + 1) := by
  obtain ⟨k, n, s, l⟩ := t
  rw [scanT, if_pos h]
theorem scanT_own {deep c : Nat} {t : Tm} (h1 : c + 1 ≤ 120) (h2 : deep ≤ 30) (h : t.ownB = false) : scanT deep t c = (false, c + 1) := by
  obtain ⟨k, n, s, l⟩ := t
  rw [scanT, if_neg (by omega), h]; rfl
theorem scanT_go {deep c : Nat} {t : Tm} (h1 : c + 1 ≤ 120) (h2 : deep ≤ 30) (h : t.ownB = true) : scanT deep t c = scanL (deep + 1) t.kids (c + 1) := by
  obtain ⟨k, n, s, l⟩ := t
  rw [scanT, if_neg (by omega), h]; rfl
theorem scanT_leaf {deep c : Nat} {k n : Int} {s : List UInt8} {l : List Tm} (h1 : c + 1 ≤ 120) (h2 : deep ≤ 30) (h : k ≠ 3) : scanT deep (.mk k n s l) c = ((Tm.mk k n s l).ownB, c + 1) := by
  cases ho : (Tm.mk k n s l).ownB with
  | false => exact scanT_own h1 h2 ho
  | true =>
    rw [scanT_go h1 h2 ho, Tm.kids, own_leaf h ho]
    rfl
theorem scan_calls : ∀ t : Tm, t.fits → ScanOk t := by
  refine Tm.ind fun k n s l ih hfits deep c H i hd hc hi => ?_
  obtain ⟨hk, hn, hs, hl, hkids⟩ := hfits
  refine acalls Tryz.func119 (by kernel_rfl) ac119_ok fun hf => ?_
  simp only [List.length_set] at hf
  have hadd : inR .i64 ((c : Int) + 1) := small_i64 (by omega) (by omega)
  have hli : inR .i64 (l.length : Int) := small_i64 (by omega) (by omega)
  have hf1 : Obs.fits H.length 0 (H.set i (.cells [.d (.int .i64 ((c : Int) + 1))])) := fits_reset hf ⟨trivial, trivial⟩
  simp -implicitDefEqProofs [ac119, Cn, row_mk, hadd, hi, hf1, hli, List.getElem?_set, go_sem, -List.set_cons_succ, -List.set_cons_zero]
  have done : ∀ b : Bool, scanT deep (.mk k n s l) c = (b, c + 1) → b = (scanT deep (.mk k n s l) c).1 ∧ H.set i (Ob.cells [C.d (D.int IntKind.i64 ((c : Int) + 1))]) = H.set i (Ob.cells [C.d (D.int IntKind.i64 ((scanT deep (.mk k n s l) c).2 : Nat))]) := fun b h => by rw [h]; exact ⟨rfl, rfl⟩
  refine ⟨fun h => ?_, fun h1 h2 => ⟨fun k1 => ?_, fun k1 => ⟨fun k2 => ?_, fun k2 => ⟨fun k3 => ⟨fun n0 => ⟨n0, ?_⟩, fun n0 => ?_⟩, fun k3 => ?_⟩⟩⟩⟩
  · have := done false (scanT_bad (by omega))
    exact ⟨this.1.symm, this.2⟩
  · subst k1
    refine qcall_pure (within_calls n 0 25) (by simpa using hf1) rfl ?_
    have hd := done _ (scanT_leaf (by omega) (by omega) (by omega))
    simp -implicitDefEqProofs [hi, hli, isEmpty_len, List.getElem?_set, go_sem, -List.set_cons_succ, -List.set_cons_zero]
    rw [← hd.1]
    refine ⟨?_, hd.2⟩
    simp [Tm.ownB]
  · subst k2
    refine qcall_pure (within_calls n (-999) 999) (by simpa using hf1) rfl ?_
    have hd := done _ (scanT_leaf (by omega) (by omega) (by omega))
    simp -implicitDefEqProofs [hi, hli, isEmpty_len, List.getElem?_set, go_sem, -List.set_cons_succ, -List.set_cons_zero]
    rw [← hd.1]
    refine ⟨?_, hd.2⟩
    simp [Tm.ownB]
  · subst n0 k3
    refine qcall_pure (nvImpl_calls s (by omega)) (by simpa using hf1) rfl ?_
    cases hnm : nameB s with
    | false =>
      have hd := done _ (scanT_own (by omega) (by omega) (by simp [Tm.ownB, hnm]))
      simp -implicitDefEqProofs [hnm, hi, hli, List.getElem?_set, go_sem, -List.set_cons_succ, -List.set_cons_zero]
      exact ⟨hd.1.symm, hd.2⟩
    | true =>
      by_cases h4 : 4 < l.length
      · have h4' : ¬ l.length ≤ 4 := by omega
        have hd := done _ (scanT_own (by omega) (by omega) (by simp [Tm.ownB, hnm, h4']))
        simp -implicitDefEqProofs [hnm, hi, hli, h4, List.getElem?_set, go_sem, -List.set_cons_succ, -List.set_cons_zero]
        exact ⟨fun _ => ⟨hd.1.symm, hd.2⟩, fun h => by omega⟩
      · have h4' : l.length ≤ 4 := by omega
        have hgo := scanT_go (t := .mk 3 0 s l) (show c + 1 ≤ 120 by omega) (show deep ≤ 30 by omega) (by simp [Tm.ownB, hnm, h4'])
        simp -implicitDefEqProofs [hnm, hi, hli, h4, List.getElem?_set, go_sem, -List.set_cons_succ, -List.set_cons_zero]
        refine ⟨fun h => by omega, fun _ => ?_⟩
        have hfit : ∀ c, Obs.fits (H.length + 3) 0 (scanHeap H i deep (Ob.cells [C.d (D.int IntKind.i64 3), C.d (D.int IntKind.i64 0), C.d (D.str s), C.d (D.sl (List.map Tm.row l))]) c) := fun c =>
          fits_append (fits_mono (by omega) (fits_reset (b := Cn c) hf ⟨trivial, trivial⟩)) ⟨⟨trivial, trivial, trivial, trivial, trivial⟩, ⟨trivial, trivial⟩, ⟨by show i < H.length + 3 + 0; omega, trivial⟩, trivial⟩
        have con := tmF_con (fun c => scanHeap H i deep (Ob.cells [C.d (D.int IntKind.i64 3), C.d (D.int IntKind.i64 0), C.d (D.str s), C.d (D.sl (List.map Tm.row l))]) c) (H.length + 3) (fun c => by simp [scanHeap]) hfit 175 [(H.length + 1, 0), (H.length + 2, 0)]
          (fun c t => (!(scanT (deep + 1) t c).1, (scanT (deep + 1) t c).2)) (fun c => c ≤ 120) l (by omega) (fun c hc t ht => scan1_calls t (ih t ht (hkids t ht)) deep c H i _ (by omega) hc hi hfit)
          (fun c hc t ht h => ((scan_spec t (deep + 1) c hc).1 (by simpa using h)).2) (c + 1) (by omega)
        rw [anyS_scan] at con
        simp only [Tm.kids] at hgo
        rw [← hgo] at con
        refine con.mono fun r H' ⟨h5, h6⟩ => ⟨H.set i (Cn (scanT deep (Tm.mk 3 0 s l) c).2), [Ob.cells [C.d (D.int IntKind.i64 3), C.d (D.int IntKind.i64 0), C.d (D.str s), C.d (D.sl (List.map Tm.row l))], Ob.cells [C.d (D.int IntKind.i64 deep)], Ob.cells [C.ptr (.e i) 0]], .c (.d (.bool (!(scanT deep (Tm.mk 3 0 s l) c).1))), by rw [h6]; rfl, by simp, Nat.le_refl _, by simpa using fits_reset (b := Cn (scanT deep (Tm.mk 3 0 s l) c).2) hf ⟨trivial, trivial⟩, h5, ?_⟩
        simp -implicitDefEqProofs [go_sem, -List.set_cons_succ, -List.set_cons_zero]
        rfl
  · have := done false (scanT_own (by omega) (by omega) (by simp [Tm.ownB, k3, n0]))
    exact ⟨this.1.symm, this.2⟩
  · have := done false (scanT_own (by omega) (by omega) (by simp [Tm.ownB, k1, k2, k3]))
    exact ⟨this.1.symm, this.2⟩
theorem tvImpl_calls (t : Tm) (ht : t.fits) (H : Heap) : ACalls Tryz.prog 70 [.agg (t.row.map .d)] H (fun r H' => H' = H ∧ r = .c (.d (.bool t.valid))) := by
  refine acalls Tryz.func70 (by kernel_rfl) ac70_ok fun hf => ?_
  simp -implicitDefEqProofs [ac70, hf, row_len, take_row, go_sem, -List.set_cons_succ, -List.set_cons_zero]
  have h := scan_calls t ht 1 0 (H ++ [Ob.cells (t.row.map C.d), Cn 0]) (H.length + 1) (by omega) (by omega) (by simp)
  have hset : ∀ c, (H ++ [Ob.cells (t.row.map C.d), Cn 0]).set (H.length + 1) (Cn c) = H ++ [Ob.cells (t.row.map C.d), Cn c] := fun c => by
    rw [List.set_append_right _ _ (by omega)]; simp
  rw [hset, scan_valid, hset] at h
  simp -implicitDefEqProofs [pure_d, re_d, Ref.re, go_sem, -List.set_cons_succ, -List.set_cons_zero]
  refine h.mono fun r H' ⟨h3, h4⟩ => ⟨H, [Ob.cells (t.row.map C.d), Cn (scanT 1 t 0).2], .c (.d (.bool t.valid)), ?_, rfl, Nat.le_refl _, hf, h3, ?_⟩
  · rw [h4]; simp [Cn, Ob.re, C.re, re_d]
  · simp -implicitDefEqProofs [go_sem, -List.set_cons_succ, -List.set_cons_zero]
theorem sizes_take : ∀ {l : List Tm} {i : Nat} (h : i < l.length), sizes (l.take (i + 1)) = sizes (l.take i) + l[i].size
  | [], i, h => by simp at h
  | t :: l, 0, h => by simp [sizes]
  | t :: l, i + 1, h => by
    have := sizes_take (l := l) (i := i) (by simpa using h)
    simp only [List.take_succ_cons, sizes, List.getElem_cons_succ, this]
    omega
theorem sizes_le : ∀ (l : List Tm) (i : Nat), sizes (l.take i) ≤ sizes l
  | [], i => by simp
  | t :: l, 0 => by simp [sizes]
  | t :: l, i + 1 => by
    have := sizes_le l i
    simp only [List.take_succ_cons, sizes]
    omega
theorem own_calls (t : Tm) (ht : t.fits) (H : Heap) : ACalls Tryz.prog 181 [.agg (t.row.map .d)] H (fun r H' => H' = H ∧ r = .c (.d (.bool t.ownB))) := by
  obtain ⟨k, n, s, l⟩ := t
  obtain ⟨hk, hn, hs, hl, hkids⟩ := ht
  refine acalls Tryz.func181 (by kernel_rfl) ac181_ok fun hf => ?_
  have hli : inR .i64 (l.length : Int) := small_i64 (by omega) (by omega)
  by_cases k1 : k = 1
  · subst k1
    simp -implicitDefEqProofs [ac181, row_mk, hli, Tm.ownB, isEmpty_len, go_sem, -List.set_cons_succ, -List.set_cons_zero]
  · by_cases k2 : k = 2
    · subst k2
      simp -implicitDefEqProofs [ac181, row_mk, hli, Tm.ownB, isEmpty_len, go_sem, -List.set_cons_succ, -List.set_cons_zero]
    · by_cases k3 : k = 3
      · subst k3
        by_cases n0 : n = 0
        · simp -implicitDefEqProofs [ac181, row_mk, hli, n0, go_sem, -List.set_cons_succ, -List.set_cons_zero]
          refine qcall_pure (nvSpec_calls s (by omega)) hf rfl ?_
          simp -implicitDefEqProofs [hli, n0, Tm.ownB, go_sem, -List.set_cons_succ, -List.set_cons_zero]
          congr 1
          simp
          omega
        · simp -implicitDefEqProofs [ac181, row_mk, hli, n0, Tm.ownB, go_sem, -List.set_cons_succ, -List.set_cons_zero]
      · simp -implicitDefEqProofs [ac181, row_mk, hli, k1, k2, k3, Tm.ownB, go_sem, -List.set_cons_succ, -List.set_cons_zero]
theorem shape_calls : ∀ t : Tm, t.fits → ∀ (d : Nat), d ≤ 30 → ∀ H, ACalls Tryz.prog 135 [.agg (t.row.map .d), .c (.d (.int .i64 d))] H (fun r H' => H' = H ∧ r = .c (.d (.bool (t.shape d)))) := by
  refine Tm.ind fun k n s l ih hfits d hd H => ?_
  have how := own_calls _ hfits
  obtain ⟨hk, hn, hs, hl, hkids⟩ := hfits
  rw [row_mk] at how
  simp only [List.map_cons, List.map_nil] at how
  refine acalls Tryz.func135 (by kernel_rfl) ac135_ok fun hf => ?_
  have hli : inR .i64 (l.length : Int) := small_i64 (by omega) (by omega)
  have hsub : 1 ≤ d → inR .i64 ((d : Int) - 1) := fun h => small_i64 (by omega) (by omega)
  simp -implicitDefEqProofs [ac135, row_mk, hli, go_sem, -List.set_cons_succ, -List.set_cons_zero]
  refine ⟨fun h1 => ⟨h1, ?_⟩, fun h1 => ?_⟩
  · have hd1 : 1 ≤ d := by omega
    refine qcall_pure how hf rfl ?_
    cases ho : (Tm.mk k n s l).ownB with
    | false => simp -implicitDefEqProofs [ho, Tm.shape, go_sem, -List.set_cons_succ, -List.set_cons_zero]
    | true =>
      simp -implicitDefEqProofs [ho, go_sem, -List.set_cons_succ, -List.set_cons_zero]
      refine loop_set (σ := Nat) (fun i => [(5, .c (.d (.int .i64 i)))]) (fun _ => H) (fun _ => [_]) (fun i => i ≤ l.length ∧ ∀ t ∈ l.take i, t.shape (d - 1) = true) (fun i => l.length - i) 0 rfl ⟨Nat.zero_le _, by simp⟩ ?_
      rintro i ⟨hi, hall⟩
      simp -implicitDefEqProofs [setAll, hli, go_sem, -List.set_cons_succ, -List.set_cons_zero]
      refine ⟨fun hlt => ?_, fun hge => ?_⟩
      · refine row_of hlt (row_len _) ?_
        simp -implicitDefEqProofs [row_len, take_row, pure_d, re_d, hsub hd1, go_sem, -List.set_cons_succ, -List.set_cons_zero]
        have hc := ih l[i] (List.getElem_mem hlt) (hkids _ (List.getElem_mem hlt)) (d - 1) (by omega)
        rw [show ((d - 1 : Nat) : Int) = (d : Int) - 1 by omega] at hc
        refine qcall_pure hc hf rfl ?_
        have hadd : inR .i64 ((i : Int) + 1) := small_i64 (by omega) (by omega)
        simp -implicitDefEqProofs [hadd, go_sem, -List.set_cons_succ, -List.set_cons_zero]
        refine ⟨fun hg => ?_, fun hg => loop_back (i + 1) (by simp [setAll]) ⟨hlt, fun t ht => ?_⟩ (by show l.length - (i + 1) < l.length - i; omega)⟩
        · rw [Tm.shape, shapes_all]
          have : (l.all fun t => t.shape (d - 1)) = false := by
            rw [List.all_eq_false]
            exact ⟨l[i], List.getElem_mem hlt, by simp [hg]⟩
          simp [this]
        · rw [List.take_succ_eq_append_getElem hlt, List.mem_append] at ht
          rcases ht with ht | ht
          · exact hall t ht
          · simp at ht; subst ht; exact hg
      · rw [List.take_of_length_le hge] at hall
        rw [Tm.shape, shapes_all, ho, List.all_eq_true.2 hall]
        simp [hd1]
  · rw [Tm.shape]
    have : ¬ 1 ≤ d := by omega
    simp [this]
theorem count_calls : ∀ t : Tm, t.fits → ∀ (m : Nat), m ≤ 1000 → ∀ H, ACalls Tryz.prog 136 [.agg (t.row.map .d), .c (.d (.int .i64 m))] H (fun r H' => H' = H ∧ r = .c (.d (.int .i64 (min t.size (m + 1) : Nat)))) := by
  refine Tm.ind fun k n s l ih hfits m hm H => ?_
  obtain ⟨hk, hn, hs, hl, hkids⟩ := hfits
  refine acalls Tryz.func136 (by kernel_rfl) ac136_ok fun hf => ?_
  have hli : inR .i64 (l.length : Int) := small_i64 (by omega) (by omega)
  simp -implicitDefEqProofs [ac136, row_mk, hli, go_sem, -List.set_cons_succ, -List.set_cons_zero]
  refine loop_set (σ := Nat × Nat) (fun x => [(6, .c (.d (.int .i64 x.1))), (5, .c (.d (.int .i64 x.2)))]) (fun _ => H) (fun _ => [_]) (fun x => x.1 ≤ l.length ∧ x.2 = min (1 + sizes (l.take x.1)) (m + 1)) (fun x => l.length - x.1) (0, 1) rfl ⟨Nat.zero_le _, by simp [sizes]⟩ ?_
  rintro ⟨i, c⟩ ⟨hi, hcnt⟩
  simp only at hi hcnt
  have htk : ∀ h : i < l.length, sizes (l.take (i + 1)) = sizes (l.take i) + (l[i]'h).size := fun h => sizes_take h
  by_cases hlt : i < l.length
  · by_cases hcm : c ≤ m
    · have hsub : inR .i64 ((m : Int) - (c : Int)) := small_i64 (by omega) (by omega)
      have hadd : inR .i64 ((i : Int) + 1) := small_i64 (by omega) (by omega)
      simp -implicitDefEqProofs [setAll, hli, hlt, hcm, hsub, go_sem, -List.set_cons_succ, -List.set_cons_zero]
      refine row_of hlt (row_len _) ?_
      simp -implicitDefEqProofs [row_len, take_row, pure_d, re_d, hsub, go_sem, -List.set_cons_succ, -List.set_cons_zero]
      have hc := ih l[i] (List.getElem_mem hlt) (hkids _ (List.getElem_mem hlt)) (m - c) (by omega)
      rw [show ((m - c : Nat) : Int) = (m : Int) - c by omega] at hc
      refine qcall_pure hc hf rfl ?_
      have e := htk hlt
      have hcs : c + min l[i].size (m - c + 1) = min (1 + sizes (l.take (i + 1))) (m + 1) := by omega
      have hadd2 : inR .i64 ((c : Int) + ((min l[i].size (m - c + 1) : Nat) : Int)) := small_i64 (by omega) (by omega)
      simp -implicitDefEqProofs [hadd, hadd2, go_sem, -List.set_cons_succ, -List.set_cons_zero]
      refine loop_back (i + 1, c + min l[i].size (m - c + 1)) (by simp [setAll]) ⟨hlt, hcs⟩ (by show l.length - (i + 1) < l.length - i; omega)
    · simp -implicitDefEqProofs [setAll, hli, hlt, hcm, go_sem, -List.set_cons_succ, -List.set_cons_zero]
      have h1 := sizes_le l i
      rw [Tm.size]
      omega
  · have hil : i = l.length := by omega
    subst hil
    rw [List.take_length] at hcnt
    simp -implicitDefEqProofs [setAll, hli, go_sem, -List.set_cons_succ, -List.set_cons_zero]
    rw [Tm.size, hcnt]
theorem tvSpec_calls (t : Tm) (ht : t.fits) (H : Heap) : ACalls Tryz.prog 80 [.agg (t.row.map .d)] H (fun r H' => H' = H ∧ r = .c (.d (.bool t.valid))) := by
  refine acalls Tryz.func80 (by kernel_rfl) ac80_ok fun hf => ?_
  simp -implicitDefEqProofs [ac80, row_len, take_row, pure_d, re_d, go_sem, -List.set_cons_succ, -List.set_cons_zero]
  refine qcall_pure (shape_calls t ht 30 (by omega)) hf rfl ?_
  cases h : t.shape 30 with
  | false => simp -implicitDefEqProofs [h, Tm.valid, row_len, take_row, go_sem, -List.set_cons_succ, -List.set_cons_zero]
  | true =>
    simp -implicitDefEqProofs [h, Tm.valid, row_len, take_row, pure_d, re_d, go_sem, -List.set_cons_succ, -List.set_cons_zero]
    refine qcall_pure (count_calls t ht 120 (by omega)) hf rfl ?_
    simp -implicitDefEqProofs [go_sem, -List.set_cons_succ, -List.set_cons_zero]
    omega
end Go.Proofs.YtbblefjbgbocoaaGreatDoor

/-
  Goals: which terms are goals, for the program and for the reference.
  Conditions: none.
-/
open Go Go.AM Go.Proofs
namespace Go.Proofs.YtbblefjbgbocoaaGreatDoor
open Go.ChangeShapes Go.WideShapes Go.ChangeAt Go.RowKit
set_option linter.unusedVariables false
set_option linter.unusedSimpArgs false
set_option maxRecDepth 100000
-- 170 loop.example/prologserver/impl.OpLevel params 1 ntmps 22
def ac170 : Cd := .seq (.region [⟨(some 2),.mv (.k (.c (.d (.int .i64 0)))),none⟩,
 ⟨(some 3),.mv (.k (.c (.d (.bool false)))),none⟩] [2,3])
 (.seq (.seq (.region [⟨(some 4),.mv (.t 0),none⟩] [0])
 (.block 0 (.seq (.seq (.region [⟨(some 6),.bin .eql (.t 4) (.k (.c (.d (.str [61])))),none⟩,
 ⟨(some 5),.mv (.t 6),none⟩] [6])
 (.cond (.t 5)
 (.skip)
 (.seq (.region [⟨(some 7),.bin .eql (.t 4) (.k (.c (.d (.str [92,61])))),none⟩,
 ⟨(some 5),.mv (.t 7),none⟩] [7])
 (.cond (.t 5)
 (.skip)
 (.seq (.region [⟨(some 8),.bin .eql (.t 4) (.k (.c (.d (.str [61,61])))),none⟩,
 ⟨(some 5),.mv (.t 8),none⟩] [8])
 (.cond (.t 5)
 (.skip)
 (.seq (.region [⟨(some 9),.bin .eql (.t 4) (.k (.c (.d (.str [60])))),none⟩,
 ⟨(some 5),.mv (.t 9),none⟩] [9])
 (.cond (.t 5)
 (.skip)
 (.seq (.region [⟨(some 10),.bin .eql (.t 4) (.k (.c (.d (.str [62])))),none⟩,
 ⟨(some 5),.mv (.t 10),none⟩] [10])
 (.cond (.t 5)
 (.skip)
 (.seq (.region [⟨(some 11),.bin .eql (.t 4) (.k (.c (.d (.str [61,60])))),none⟩,
 ⟨(some 5),.mv (.t 11),none⟩] [11])
 (.cond (.t 5)
 (.skip)
 (.seq (.region [⟨(some 12),.bin .eql (.t 4) (.k (.c (.d (.str [62,61])))),none⟩,
 ⟨(some 5),.mv (.t 12),none⟩] [12])
 (.cond (.t 5)
 (.skip)
 (.seq (.region [⟨(some 13),.bin .eql (.t 4) (.k (.c (.d (.str [61,58,61])))),none⟩,
 ⟨(some 5),.mv (.t 13),none⟩] [13])
 (.cond (.t 5)
 (.skip)
 (.region [⟨(some 14),.bin .eql (.t 4) (.k (.c (.d (.str [105,115])))),none⟩,
 ⟨(some 5),.mv (.t 14),none⟩] [14])))))))))))))))))
 (.cond (.t 5)
 (.seq (.region [⟨(some 2),.mv (.k (.c (.d (.int .i64 3)))),none⟩,
 ⟨(some 3),.mv (.k (.c (.d (.bool false)))),none⟩] [4,5])
 (.ret))
 (.seq (.seq (.region [⟨(some 16),.bin .eql (.t 4) (.k (.c (.d (.str [43])))),none⟩,
 ⟨(some 15),.mv (.t 16),none⟩] [5,16])
 (.cond (.t 15)
 (.skip)
 (.region [⟨(some 17),.bin .eql (.t 4) (.k (.c (.d (.str [45])))),none⟩,
 ⟨(some 15),.mv (.t 17),none⟩] [17])))
 (.cond (.t 15)
 (.seq (.region [⟨(some 2),.mv (.k (.c (.d (.int .i64 2)))),none⟩,
 ⟨(some 3),.mv (.k (.c (.d (.bool true)))),none⟩] [4,15])
 (.ret))
 (.seq (.seq (.region [⟨(some 19),.bin .eql (.t 4) (.k (.c (.d (.str [42])))),none⟩,
 ⟨(some 18),.mv (.t 19),none⟩] [15,19])
 (.cond (.t 18)
 (.skip)
 (.seq (.region [⟨(some 20),.bin .eql (.t 4) (.k (.c (.d (.str [47,47])))),none⟩,
 ⟨(some 18),.mv (.t 20),none⟩] [20])
 (.cond (.t 18)
 (.skip)
 (.region [⟨(some 21),.bin .eql (.t 4) (.k (.c (.d (.str [109,111,100])))),none⟩,
 ⟨(some 18),.mv (.t 21),none⟩] [4,21])))))
 (.cond (.t 18)
 (.seq (.region [⟨(some 2),.mv (.k (.c (.d (.int .i64 1)))),none⟩,
 ⟨(some 3),.mv (.k (.c (.d (.bool true)))),none⟩] [4,18])
 (.ret))
 (.skip)))))))))
 (.seq (.region [⟨(some 2),.mv (.k (.c (.d (.int .i64 0)))),none⟩,
 ⟨(some 3),.mv (.k (.c (.d (.bool false)))),none⟩] [4,18])
 (.ret)))
theorem ac170_ok : cFunc Tryz.prog [] [(0,[2,3],[]),(1,[0],[]),(2,[6],[]),(3,[7],[]),(4,[8],[]),(5,[9],[]),(6,[10],[]),(7,[11],[]),(8,[12],[]),(9,[13],[]),(10,[14],[]),(11,[4,5],[]),(12,[5,16],[]),(13,[17],[]),(14,[4,15],[]),(15,[15,19],[]),(16,[20],[]),(17,[4,21],[]),(18,[4,18],[]),(19,[4,18],[])] Tryz.f170 = some (ac170,[.tmp 2,.tmp 3],22) := by kernel_rfl
-- 139 loop.example/prologserver/spec.l2Level params 1 ntmps 21
def ac139 : Cd := .seq (.region [⟨(some 2),.mv (.k (.c (.d (.int .i64 0)))),none⟩] [2])
 (.seq (.seq (.region [⟨(some 3),.mv (.t 0),none⟩] [0])
 (.block 0 (.seq (.seq (.region [⟨(some 5),.bin .eql (.t 3) (.k (.c (.d (.str [61])))),none⟩,
 ⟨(some 4),.mv (.t 5),none⟩] [5])
 (.cond (.t 4)
 (.skip)
 (.seq (.region [⟨(some 6),.bin .eql (.t 3) (.k (.c (.d (.str [92,61])))),none⟩,
 ⟨(some 4),.mv (.t 6),none⟩] [6])
 (.cond (.t 4)
 (.skip)
 (.seq (.region [⟨(some 7),.bin .eql (.t 3) (.k (.c (.d (.str [61,61])))),none⟩,
 ⟨(some 4),.mv (.t 7),none⟩] [7])
 (.cond (.t 4)
 (.skip)
 (.seq (.region [⟨(some 8),.bin .eql (.t 3) (.k (.c (.d (.str [60])))),none⟩,
 ⟨(some 4),.mv (.t 8),none⟩] [8])
 (.cond (.t 4)
 (.skip)
 (.seq (.region [⟨(some 9),.bin .eql (.t 3) (.k (.c (.d (.str [62])))),none⟩,
 ⟨(some 4),.mv (.t 9),none⟩] [9])
 (.cond (.t 4)
 (.skip)
 (.seq (.region [⟨(some 10),.bin .eql (.t 3) (.k (.c (.d (.str [61,60])))),none⟩,
 ⟨(some 4),.mv (.t 10),none⟩] [10])
 (.cond (.t 4)
 (.skip)
 (.seq (.region [⟨(some 11),.bin .eql (.t 3) (.k (.c (.d (.str [62,61])))),none⟩,
 ⟨(some 4),.mv (.t 11),none⟩] [11])
 (.cond (.t 4)
 (.skip)
 (.seq (.region [⟨(some 12),.bin .eql (.t 3) (.k (.c (.d (.str [61,58,61])))),none⟩,
 ⟨(some 4),.mv (.t 12),none⟩] [12])
 (.cond (.t 4)
 (.skip)
 (.region [⟨(some 13),.bin .eql (.t 3) (.k (.c (.d (.str [105,115])))),none⟩,
 ⟨(some 4),.mv (.t 13),none⟩] [13])))))))))))))))))
 (.cond (.t 4)
 (.seq (.region [⟨(some 2),.mv (.k (.c (.d (.int .i64 3)))),none⟩] [3,4])
 (.ret))
 (.seq (.seq (.region [⟨(some 15),.bin .eql (.t 3) (.k (.c (.d (.str [43])))),none⟩,
 ⟨(some 14),.mv (.t 15),none⟩] [4,15])
 (.cond (.t 14)
 (.skip)
 (.region [⟨(some 16),.bin .eql (.t 3) (.k (.c (.d (.str [45])))),none⟩,
 ⟨(some 14),.mv (.t 16),none⟩] [16])))
 (.cond (.t 14)
 (.seq (.region [⟨(some 2),.mv (.k (.c (.d (.int .i64 2)))),none⟩] [3,14])
 (.ret))
 (.seq (.seq (.region [⟨(some 18),.bin .eql (.t 3) (.k (.c (.d (.str [42])))),none⟩,
 ⟨(some 17),.mv (.t 18),none⟩] [14,18])
 (.cond (.t 17)
 (.skip)
 (.seq (.region [⟨(some 19),.bin .eql (.t 3) (.k (.c (.d (.str [47,47])))),none⟩,
 ⟨(some 17),.mv (.t 19),none⟩] [19])
 (.cond (.t 17)
 (.skip)
 (.region [⟨(some 20),.bin .eql (.t 3) (.k (.c (.d (.str [109,111,100])))),none⟩,
 ⟨(some 17),.mv (.t 20),none⟩] [3,20])))))
 (.cond (.t 17)
 (.seq (.region [⟨(some 2),.mv (.k (.c (.d (.int .i64 1)))),none⟩] [3,17])
 (.ret))
 (.skip)))))))))
 (.seq (.region [⟨(some 2),.mv (.k (.c (.d (.int .i64 0)))),none⟩] [3,17])
 (.ret)))
theorem ac139_ok : cFunc Tryz.prog [] [(0,[2],[]),(1,[0],[]),(2,[5],[]),(3,[6],[]),(4,[7],[]),(5,[8],[]),(6,[9],[]),(7,[10],[]),(8,[11],[]),(9,[12],[]),(10,[13],[]),(11,[3,4],[]),(12,[4,15],[]),(13,[16],[]),(14,[3,14],[]),(15,[14,18],[]),(16,[19],[]),(17,[3,20],[]),(18,[3,17],[]),(19,[3,17],[])] Tryz.f139 = some (ac139,[.tmp 2],21) := by kernel_rfl
-- 132 loop.example/prologserver/impl.isOp params 1 ntmps 12
def ac132 : Cd := .seq (.region [⟨(some 2),.mv (.k (.c (.d (.bool false)))),none⟩] [2])
 (.seq (.region [⟨(some 6),.mv (.t 0),none⟩,
 ⟨(some 7),.qcall 170 [(.t 6)],none⟩,
 ⟨(some 5),.mv (.t 7),none⟩,
 ⟨(some 8),.extract 0 (.t 5),none⟩,
 ⟨(some 9),.extract 1 (.t 5),none⟩,
 ⟨(some 3),.mv (.t 8),none⟩,
 ⟨(some 4),.mv (.t 9),none⟩] [0,4,5,6,7,8,9])
 (.seq (.region [⟨(some 10),.mv (.t 3),none⟩,
 ⟨(some 11),.bin .gtr (.t 10) (.k (.c (.d (.int .i64 0)))),none⟩,
 ⟨(some 2),.mv (.t 11),none⟩] [3,10,11])
 (.ret)))
theorem ac132_ok : cFunc Tryz.prog [1000170] [(0,[2],[]),(1,[0,4,5,6,7,8,9],[]),(2,[3,10,11],[])] Tryz.f132 = some (ac132,[.tmp 2],12) := by kernel_rfl
-- 180 loop.example/prologserver/impl.IsBuiltin params 2 ntmps 34
def ac180 : Cd := .seq (.region [⟨(some 4),.mv (.k (.c (.d (.bool false)))),none⟩] [4])
 (.seq (.seq (.region [⟨(some 5),.mv (.t 0),none⟩] [0])
 (.block 0 (.seq (.seq (.region [⟨(some 7),.bin .eql (.t 5) (.k (.c (.d (.str [61])))),none⟩,
 ⟨(some 6),.mv (.t 7),none⟩] [7])
 (.cond (.t 6)
 (.skip)
 (.seq (.region [⟨(some 8),.bin .eql (.t 5) (.k (.c (.d (.str [92,61])))),none⟩,
 ⟨(some 6),.mv (.t 8),none⟩] [8])
 (.cond (.t 6)
 (.skip)
 (.seq (.region [⟨(some 9),.bin .eql (.t 5) (.k (.c (.d (.str [61,61])))),none⟩,
 ⟨(some 6),.mv (.t 9),none⟩] [9])
 (.cond (.t 6)
 (.skip)
 (.seq (.region [⟨(some 10),.bin .eql (.t 5) (.k (.c (.d (.str [60])))),none⟩,
 ⟨(some 6),.mv (.t 10),none⟩] [10])
 (.cond (.t 6)
 (.skip)
 (.seq (.region [⟨(some 11),.bin .eql (.t 5) (.k (.c (.d (.str [62])))),none⟩,
 ⟨(some 6),.mv (.t 11),none⟩] [11])
 (.cond (.t 6)
 (.skip)
 (.seq (.region [⟨(some 12),.bin .eql (.t 5) (.k (.c (.d (.str [61,60])))),none⟩,
 ⟨(some 6),.mv (.t 12),none⟩] [12])
 (.cond (.t 6)
 (.skip)
 (.seq (.region [⟨(some 13),.bin .eql (.t 5) (.k (.c (.d (.str [62,61])))),none⟩,
 ⟨(some 6),.mv (.t 13),none⟩] [13])
 (.cond (.t 6)
 (.skip)
 (.seq (.region [⟨(some 14),.bin .eql (.t 5) (.k (.c (.d (.str [61,58,61])))),none⟩,
 ⟨(some 6),.mv (.t 14),none⟩] [14])
 (.cond (.t 6)
 (.skip)
 (.region [⟨(some 15),.bin .eql (.t 5) (.k (.c (.d (.str [105,115])))),none⟩,
 ⟨(some 6),.mv (.t 15),none⟩] [15])))))))))))))))))
 (.cond (.t 6)
 (.seq (.region [⟨(some 16),.mv (.t 1),none⟩,
 ⟨(some 17),.bin .eql (.t 16) (.k (.c (.d (.int .i64 2)))),none⟩,
 ⟨(some 4),.mv (.t 17),none⟩] [1,5,6,16,17])
 (.ret))
 (.seq (.seq (.region [⟨(some 19),.bin .eql (.t 5) (.k (.c (.d (.str [116,114,117,101])))),none⟩,
 ⟨(some 18),.mv (.t 19),none⟩] [6,19])
 (.cond (.t 18)
 (.skip)
 (.region [⟨(some 20),.bin .eql (.t 5) (.k (.c (.d (.str [102,97,105,108])))),none⟩,
 ⟨(some 18),.mv (.t 20),none⟩] [20])))
 (.cond (.t 18)
 (.seq (.region [⟨(some 21),.mv (.t 1),none⟩,
 ⟨(some 22),.bin .eql (.t 21) (.k (.c (.d (.int .i64 0)))),none⟩,
 ⟨(some 4),.mv (.t 22),none⟩] [1,5,18,21,22])
 (.ret))
 (.seq (.seq (.region [⟨(some 24),.bin .eql (.t 5) (.k (.c (.d (.str [118,97,114])))),none⟩,
 ⟨(some 23),.mv (.t 24),none⟩] [18,24])
 (.cond (.t 23)
 (.skip)
 (.seq (.region [⟨(some 25),.bin .eql (.t 5) (.k (.c (.d (.str [110,111,110,118,97,114])))),none⟩,
 ⟨(some 23),.mv (.t 25),none⟩] [25])
 (.cond (.t 23)
 (.skip)
 (.seq (.region [⟨(some 26),.bin .eql (.t 5) (.k (.c (.d (.str [97,116,111,109])))),none⟩,
 ⟨(some 23),.mv (.t 26),none⟩] [26])
 (.cond (.t 23)
 (.skip)
 (.region [⟨(some 27),.bin .eql (.t 5) (.k (.c (.d (.str [105,110,116])))),none⟩,
 ⟨(some 23),.mv (.t 27),none⟩] [27])))))))
 (.cond (.t 23)
 (.seq (.region [⟨(some 28),.mv (.t 1),none⟩,
 ⟨(some 29),.bin .eql (.t 28) (.k (.c (.d (.int .i64 1)))),none⟩,
 ⟨(some 4),.mv (.t 29),none⟩] [1,5,23,28,29])
 (.ret))
 (.seq (.region [⟨(some 31),.bin .eql (.t 5) (.k (.c (.d (.str [97,114,103])))),none⟩,
 ⟨(some 30),.mv (.t 31),none⟩] [5,23,31])
 (.cond (.t 30)
 (.seq (.region [⟨(some 32),.mv (.t 1),none⟩,
 ⟨(some 33),.bin .eql (.t 32) (.k (.c (.d (.int .i64 3)))),none⟩,
 ⟨(some 4),.mv (.t 33),none⟩] [1,30,32,33])
 (.ret))
 (.skip)))))))))))
 (.seq (.region [⟨(some 4),.mv (.k (.c (.d (.bool false)))),none⟩] [1,30])
 (.ret)))
theorem ac180_ok : cFunc Tryz.prog [] [(0,[4],[]),(1,[0],[]),(2,[7],[]),(3,[8],[]),(4,[9],[]),(5,[10],[]),(6,[11],[]),(7,[12],[]),(8,[13],[]),(9,[14],[]),(10,[15],[]),(11,[1,5,6,16,17],[]),(12,[6,19],[]),(13,[20],[]),(14,[1,5,18,21,22],[]),(15,[18,24],[]),(16,[25],[]),(17,[26],[]),(18,[27],[]),(19,[1,5,23,28,29],[]),(20,[5,23,31],[]),(21,[1,30,32,33],[]),(22,[1,30],[])] Tryz.f180 = some (ac180,[.tmp 4],34) := by kernel_rfl
-- 138 loop.example/prologserver/spec.IsBuiltin params 2 ntmps 34
def ac138 : Cd := .seq (.region [⟨(some 4),.mv (.k (.c (.d (.bool false)))),none⟩] [4])
 (.seq (.seq (.region [⟨(some 5),.mv (.t 0),none⟩] [0])
 (.block 0 (.seq (.seq (.region [⟨(some 7),.bin .eql (.t 5) (.k (.c (.d (.str [61])))),none⟩,
 ⟨(some 6),.mv (.t 7),none⟩] [7])
 (.cond (.t 6)
 (.skip)
 (.seq (.region [⟨(some 8),.bin .eql (.t 5) (.k (.c (.d (.str [92,61])))),none⟩,
 ⟨(some 6),.mv (.t 8),none⟩] [8])
 (.cond (.t 6)
 (.skip)
 (.seq (.region [⟨(some 9),.bin .eql (.t 5) (.k (.c (.d (.str [61,61])))),none⟩,
 ⟨(some 6),.mv (.t 9),none⟩] [9])
 (.cond (.t 6)
 (.skip)
 (.seq (.region [⟨(some 10),.bin .eql (.t 5) (.k (.c (.d (.str [60])))),none⟩,
 ⟨(some 6),.mv (.t 10),none⟩] [10])
 (.cond (.t 6)
 (.skip)
 (.seq (.region [⟨(some 11),.bin .eql (.t 5) (.k (.c (.d (.str [62])))),none⟩,
 ⟨(some 6),.mv (.t 11),none⟩] [11])
 (.cond (.t 6)
 (.skip)
 (.seq (.region [⟨(some 12),.bin .eql (.t 5) (.k (.c (.d (.str [61,60])))),none⟩,
 ⟨(some 6),.mv (.t 12),none⟩] [12])
 (.cond (.t 6)
 (.skip)
 (.seq (.region [⟨(some 13),.bin .eql (.t 5) (.k (.c (.d (.str [62,61])))),none⟩,
 ⟨(some 6),.mv (.t 13),none⟩] [13])
 (.cond (.t 6)
 (.skip)
 (.seq (.region [⟨(some 14),.bin .eql (.t 5) (.k (.c (.d (.str [61,58,61])))),none⟩,
 ⟨(some 6),.mv (.t 14),none⟩] [14])
 (.cond (.t 6)
 (.skip)
 (.region [⟨(some 15),.bin .eql (.t 5) (.k (.c (.d (.str [105,115])))),none⟩,
 ⟨(some 6),.mv (.t 15),none⟩] [15])))))))))))))))))
 (.cond (.t 6)
 (.seq (.region [⟨(some 16),.mv (.t 1),none⟩,
 ⟨(some 17),.bin .eql (.t 16) (.k (.c (.d (.int .i64 2)))),none⟩,
 ⟨(some 4),.mv (.t 17),none⟩] [1,5,6,16,17])
 (.ret))
 (.seq (.seq (.region [⟨(some 19),.bin .eql (.t 5) (.k (.c (.d (.str [116,114,117,101])))),none⟩,
 ⟨(some 18),.mv (.t 19),none⟩] [6,19])
 (.cond (.t 18)
 (.skip)
 (.region [⟨(some 20),.bin .eql (.t 5) (.k (.c (.d (.str [102,97,105,108])))),none⟩,
 ⟨(some 18),.mv (.t 20),none⟩] [20])))
 (.cond (.t 18)
 (.seq (.region [⟨(some 21),.mv (.t 1),none⟩,
 ⟨(some 22),.bin .eql (.t 21) (.k (.c (.d (.int .i64 0)))),none⟩,
 ⟨(some 4),.mv (.t 22),none⟩] [1,5,18,21,22])
 (.ret))
 (.seq (.seq (.region [⟨(some 24),.bin .eql (.t 5) (.k (.c (.d (.str [118,97,114])))),none⟩,
 ⟨(some 23),.mv (.t 24),none⟩] [18,24])
 (.cond (.t 23)
 (.skip)
 (.seq (.region [⟨(some 25),.bin .eql (.t 5) (.k (.c (.d (.str [110,111,110,118,97,114])))),none⟩,
 ⟨(some 23),.mv (.t 25),none⟩] [25])
 (.cond (.t 23)
 (.skip)
 (.seq (.region [⟨(some 26),.bin .eql (.t 5) (.k (.c (.d (.str [97,116,111,109])))),none⟩,
 ⟨(some 23),.mv (.t 26),none⟩] [26])
 (.cond (.t 23)
 (.skip)
 (.region [⟨(some 27),.bin .eql (.t 5) (.k (.c (.d (.str [105,110,116])))),none⟩,
 ⟨(some 23),.mv (.t 27),none⟩] [27])))))))
 (.cond (.t 23)
 (.seq (.region [⟨(some 28),.mv (.t 1),none⟩,
 ⟨(some 29),.bin .eql (.t 28) (.k (.c (.d (.int .i64 1)))),none⟩,
 ⟨(some 4),.mv (.t 29),none⟩] [1,5,23,28,29])
 (.ret))
 (.seq (.region [⟨(some 31),.bin .eql (.t 5) (.k (.c (.d (.str [97,114,103])))),none⟩,
 ⟨(some 30),.mv (.t 31),none⟩] [5,23,31])
 (.cond (.t 30)
 (.seq (.region [⟨(some 32),.mv (.t 1),none⟩,
 ⟨(some 33),.bin .eql (.t 32) (.k (.c (.d (.int .i64 3)))),none⟩,
 ⟨(some 4),.mv (.t 33),none⟩] [1,30,32,33])
 (.ret))
 (.skip)))))))))))
 (.seq (.region [⟨(some 4),.mv (.k (.c (.d (.bool false)))),none⟩] [1,30])
 (.ret)))
theorem ac138_ok : cFunc Tryz.prog [] [(0,[4],[]),(1,[0],[]),(2,[7],[]),(3,[8],[]),(4,[9],[]),(5,[10],[]),(6,[11],[]),(7,[12],[]),(8,[13],[]),(9,[14],[]),(10,[15],[]),(11,[1,5,6,16,17],[]),(12,[6,19],[]),(13,[20],[]),(14,[1,5,18,21,22],[]),(15,[18,24],[]),(16,[25],[]),(17,[26],[]),(18,[27],[]),(19,[1,5,23,28,29],[]),(20,[5,23,31],[]),(21,[1,30,32,33],[]),(22,[1,30],[])] Tryz.f138 = some (ac138,[.tmp 4],34) := by kernel_rfl
-- 133 loop.example/prologserver/impl.isBuilt params 1 ntmps 14
def ac133 : Cd := .seq (.region [⟨(some 1),.box (.t 0),none⟩,
 ⟨(some 2),.mv (.k (.c (.d (.bool false)))),none⟩] [0,2])
 (.seq (.region [⟨(some 3),.fieldAddr 0 (.t 1),none⟩,
 ⟨(some 4),.load none (.t 3),none⟩,
 ⟨(some 5),.bin .eql (.t 4) (.k (.c (.d (.int .i64 3)))),none⟩,
 ⟨(some 6),.mv (.t 5),none⟩,
 ⟨(some 7),.fieldAddr 2 (.t 1),some (6,true)⟩,
 ⟨(some 8),.load none (.t 7),some (6,true)⟩,
 ⟨(some 9),.fieldAddr 3 (.t 1),some (6,true)⟩,
 ⟨(some 10),.load none (.t 9),some (6,true)⟩,
 ⟨(some 11),.len 1 (.t 10),some (6,true)⟩,
 ⟨(some 12),.qcall 180 [(.t 8),(.t 11)],some (6,true)⟩,
 ⟨(some 13),.pick (.t 6) (.t 12) (.k (.c (.d (.bool false)))),none⟩,
 ⟨(some 2),.mv (.t 13),none⟩] [1,3,4,5,6,7,8,9,10,11,12,13])
 (.ret))
theorem ac133_ok : cFunc Tryz.prog [1000180] [(0,[0,2],[]),(1,[1,3,4,5,6,7,8,9,10,11,12,13],[])] Tryz.f133 = some (ac133,[.tmp 2],14) := by kernel_rfl
-- 76 loop.example/prologserver/impl.isPlain params 1 ntmps 22
def ac76 : Cd := .seq (.region [⟨(some 1),.box (.t 0),none⟩,
 ⟨(some 2),.mv (.k (.c (.d (.bool false)))),none⟩] [0,2])
 (.seq (.region [⟨(some 3),.fieldAddr 0 (.t 1),none⟩,
 ⟨(some 4),.load none (.t 3),none⟩,
 ⟨(some 5),.bin .eql (.t 4) (.k (.c (.d (.int .i64 3)))),none⟩,
 ⟨(some 6),.mv (.t 5),none⟩,
 ⟨(some 7),.fieldAddr 2 (.t 1),some (6,true)⟩,
 ⟨(some 8),.load none (.t 7),some (6,true)⟩,
 ⟨(some 9),.qcall 97 [(.t 8)],some (6,true)⟩,
 ⟨(some 10),.pick (.t 6) (.t 9) (.k (.c (.d (.bool false)))),none⟩,
 ⟨(some 11),.mv (.t 10),none⟩,
 ⟨(some 12),.fieldAddr 2 (.t 1),some (11,true)⟩,
 ⟨(some 13),.load none (.t 12),some (11,true)⟩,
 ⟨(some 14),.qcall 132 [(.t 13)],some (11,true)⟩,
 ⟨(some 15),.un .not (.t 14),some (11,true)⟩,
 ⟨(some 16),.pick (.t 11) (.t 15) (.k (.c (.d (.bool false)))),none⟩,
 ⟨(some 17),.mv (.t 16),none⟩,
 ⟨(some 18),.load (some 4) (.t 1),some (17,true)⟩,
 ⟨(some 19),.qcall 133 [(.t 18)],some (17,true)⟩,
 ⟨(some 20),.un .not (.t 19),some (17,true)⟩,
 ⟨(some 21),.pick (.t 17) (.t 20) (.k (.c (.d (.bool false)))),none⟩,
 ⟨(some 2),.mv (.t 21),none⟩] [1,3,4,5,6,7,8,9,10,11,12,13,14,15,16,17,18,19,20,21])
 (.ret))
theorem ac76_ok : cFunc Tryz.prog [1000097,1000132,1000133] [(0,[0,2],[]),(1,[1,3,4,5,6,7,8,9,10,11,12,13,14,15,16,17,18,19,20,21],[])] Tryz.f76 = some (ac76,[.tmp 2],22) := by kernel_rfl
-- 174 loop.example/prologserver/impl.isCut params 1 ntmps 10
def ac174 : Cd := .seq (.region [⟨(some 1),.box (.t 0),none⟩,
 ⟨(some 2),.mv (.k (.c (.d (.bool false)))),none⟩] [0,2])
 (.seq (.region [⟨(some 3),.load (some 4) (.t 1),none⟩,
 ⟨(some 4),.qcall 214 [(.t 3)],none⟩,
 ⟨(some 5),.mv (.t 4),none⟩,
 ⟨(some 6),.fieldAddr 2 (.t 1),some (5,true)⟩,
 ⟨(some 7),.load none (.t 6),some (5,true)⟩,
 ⟨(some 8),.bin .eql (.t 7) (.k (.c (.d (.str [33])))),some (5,true)⟩,
 ⟨(some 9),.pick (.t 5) (.t 8) (.k (.c (.d (.bool false)))),none⟩,
 ⟨(some 2),.mv (.t 9),none⟩] [1,3,4,5,6,7,8,9])
 (.ret))
theorem ac174_ok : cFunc Tryz.prog [1000214] [(0,[0,2],[]),(1,[1,3,4,5,6,7,8,9],[])] Tryz.f174 = some (ac174,[.tmp 2],10) := by kernel_rfl
-- 147 loop.example/prologserver/spec.l4Cut params 1 ntmps 17
def ac147 : Cd := .seq (.region [⟨(some 1),.box (.t 0),none⟩,
 ⟨(some 2),.mv (.k (.c (.d (.bool false)))),none⟩] [0,2])
 (.seq (.region [⟨(some 3),.fieldAddr 0 (.t 1),none⟩,
 ⟨(some 4),.load none (.t 3),none⟩,
 ⟨(some 5),.bin .eql (.t 4) (.k (.c (.d (.int .i64 3)))),none⟩,
 ⟨(some 6),.mv (.t 5),none⟩,
 ⟨(some 7),.fieldAddr 2 (.t 1),some (6,true)⟩,
 ⟨(some 8),.load none (.t 7),some (6,true)⟩,
 ⟨(some 9),.bin .eql (.t 8) (.k (.c (.d (.str [33])))),some (6,true)⟩,
 ⟨(some 10),.pick (.t 6) (.t 9) (.k (.c (.d (.bool false)))),none⟩,
 ⟨(some 11),.mv (.t 10),none⟩,
 ⟨(some 12),.fieldAddr 3 (.t 1),some (11,true)⟩,
 ⟨(some 13),.load none (.t 12),some (11,true)⟩,
 ⟨(some 14),.len 1 (.t 13),some (11,true)⟩,
 ⟨(some 15),.bin .eql (.t 14) (.k (.c (.d (.int .i64 0)))),some (11,true)⟩,
 ⟨(some 16),.pick (.t 11) (.t 15) (.k (.c (.d (.bool false)))),none⟩,
 ⟨(some 2),.mv (.t 16),none⟩] [1,3,4,5,6,7,8,9,10,11,12,13,14,15,16])
 (.ret))
theorem ac147_ok : cFunc Tryz.prog [] [(0,[0,2],[]),(1,[1,3,4,5,6,7,8,9,10,11,12,13,14,15,16],[])] Tryz.f147 = some (ac147,[.tmp 2],17) := by kernel_rfl
-- 81 loop.example/prologserver/spec.l4Plain params 1 ntmps 26
def ac81 : Cd := .seq (.region [⟨(some 1),.box (.t 0),none⟩,
 ⟨(some 2),.mv (.k (.c (.d (.bool false)))),none⟩] [0,2])
 (.seq (.region [⟨(some 3),.fieldAddr 0 (.t 1),none⟩,
 ⟨(some 4),.load none (.t 3),none⟩,
 ⟨(some 5),.bin .eql (.t 4) (.k (.c (.d (.int .i64 3)))),none⟩,
 ⟨(some 6),.mv (.t 5),none⟩,
 ⟨(some 7),.fieldAddr 2 (.t 1),some (6,true)⟩,
 ⟨(some 8),.load none (.t 7),some (6,true)⟩,
 ⟨(some 9),.qcall 137 [(.t 8)],some (6,true)⟩,
 ⟨(some 10),.pick (.t 6) (.t 9) (.k (.c (.d (.bool false)))),none⟩,
 ⟨(some 11),.mv (.t 10),none⟩,
 ⟨(some 12),.fieldAddr 2 (.t 1),some (11,true)⟩,
 ⟨(some 13),.load none (.t 12),some (11,true)⟩,
 ⟨(some 14),.fieldAddr 3 (.t 1),some (11,true)⟩,
 ⟨(some 15),.load none (.t 14),some (11,true)⟩,
 ⟨(some 16),.len 1 (.t 15),some (11,true)⟩,
 ⟨(some 17),.qcall 138 [(.t 13),(.t 16)],some (11,true)⟩,
 ⟨(some 18),.un .not (.t 17),some (11,true)⟩,
 ⟨(some 19),.pick (.t 11) (.t 18) (.k (.c (.d (.bool false)))),none⟩,
 ⟨(some 20),.mv (.t 19),none⟩,
 ⟨(some 21),.fieldAddr 2 (.t 1),some (20,true)⟩,
 ⟨(some 22),.load none (.t 21),some (20,true)⟩,
 ⟨(some 23),.qcall 139 [(.t 22)],some (20,true)⟩,
 ⟨(some 24),.bin .eql (.t 23) (.k (.c (.d (.int .i64 0)))),some (20,true)⟩,
 ⟨(some 25),.pick (.t 20) (.t 24) (.k (.c (.d (.bool false)))),none⟩,
 ⟨(some 2),.mv (.t 25),none⟩] [1,3,4,5,6,7,8,9,10,11,12,13,14,15,16,17,18,19,20,21,22,23,24,25])
 (.ret))
theorem ac81_ok : cFunc Tryz.prog [1000137,1000138,1000139] [(0,[0,2],[]),(1,[1,3,4,5,6,7,8,9,10,11,12,13,14,15,16,17,18,19,20,21,22,23,24,25],[])] Tryz.f81 = some (ac81,[.tmp 2],26) := by kernel_rfl
-- 118 loop.example/prologserver/spec.l4Goal params 1 ntmps 22
def ac118 : Cd := .seq (.region [⟨(some 1),.box (.t 0),none⟩,
 ⟨(some 2),.mv (.k (.c (.d (.bool false)))),none⟩] [0,2])
 (.seq (.region [⟨(some 3),.load (some 4) (.t 1),none⟩,
 ⟨(some 4),.qcall 147 [(.t 3)],none⟩,
 ⟨(some 5),.mv (.t 4),none⟩,
 ⟨(some 6),.load (some 4) (.t 1),some (5,false)⟩,
 ⟨(some 7),.qcall 81 [(.t 6)],some (5,false)⟩,
 ⟨(some 8),.pick (.t 5) (.k (.c (.d (.bool true)))) (.t 7),none⟩,
 ⟨(some 9),.mv (.t 8),none⟩,
 ⟨(some 10),.fieldAddr 0 (.t 1),some (9,false)⟩,
 ⟨(some 11),.load none (.t 10),some (9,false)⟩,
 ⟨(some 12),.bin .eql (.t 11) (.k (.c (.d (.int .i64 3)))),some (9,false)⟩,
 ⟨(some 13),.mv (.t 12),some (9,false)⟩,
 ⟨(some 14),.fieldAddr 2 (.t 1),some (13,true)⟩,
 ⟨(some 15),.load none (.t 14),some (13,true)⟩,
 ⟨(some 16),.fieldAddr 3 (.t 1),some (13,true)⟩,
 ⟨(some 17),.load none (.t 16),some (13,true)⟩,
 ⟨(some 18),.len 1 (.t 17),some (13,true)⟩,
 ⟨(some 19),.qcall 138 [(.t 15),(.t 18)],some (13,true)⟩,
 ⟨(some 20),.pick (.t 13) (.t 19) (.k (.c (.d (.bool false)))),some (9,false)⟩,
 ⟨(some 21),.pick (.t 9) (.k (.c (.d (.bool true)))) (.t 20),none⟩,
 ⟨(some 2),.mv (.t 21),none⟩] [1,3,4,5,6,7,8,9,10,11,12,13,14,15,16,17,18,19,20,21])
 (.ret))
theorem ac118_ok : cFunc Tryz.prog [1000081,1000138,1000147] [(0,[0,2],[]),(1,[1,3,4,5,6,7,8,9,10,11,12,13,14,15,16,17,18,19,20,21],[])] Tryz.f118 = some (ac118,[.tmp 2],22) := by kernel_rfl
-- 117 loop.example/prologserver/impl.GoalValid params 1 ntmps 17
def ac117 : Cd := .seq (.region [⟨(some 1),.box (.t 0),none⟩,
 ⟨(some 2),.mv (.k (.c (.d (.bool false)))),none⟩] [0,2])
 (.seq (.region [⟨(some 3),.load (some 4) (.t 1),none⟩,
 ⟨(some 4),.qcall 70 [(.t 3)],none⟩,
 ⟨(some 5),.mv (.t 4),none⟩,
 ⟨(some 6),.load (some 4) (.t 1),some (5,true)⟩,
 ⟨(some 7),.qcall 76 [(.t 6)],some (5,true)⟩,
 ⟨(some 8),.mv (.t 7),some (5,true)⟩,
 ⟨(some 9),.load (some 4) (.t 1),some (8,false)⟩,
 ⟨(some 10),.qcall 133 [(.t 9)],some (8,false)⟩,
 ⟨(some 11),.pick (.t 8) (.k (.c (.d (.bool true)))) (.t 10),some (5,true)⟩,
 ⟨(some 12),.mv (.t 11),some (5,true)⟩,
 ⟨(some 13),.load (some 4) (.t 1),some (12,false)⟩,
 ⟨(some 14),.qcall 174 [(.t 13)],some (12,false)⟩,
 ⟨(some 15),.pick (.t 12) (.k (.c (.d (.bool true)))) (.t 14),some (5,true)⟩,
 ⟨(some 16),.pick (.t 5) (.t 15) (.k (.c (.d (.bool false)))),none⟩,
 ⟨(some 2),.mv (.t 16),none⟩] [1,3,4,5,6,7,8,9,10,11,12,13,14,15,16])
 (.ret))
theorem ac117_ok : cFunc Tryz.prog [1000070,1000076,1000133,1000174] [(0,[0,2],[]),(1,[1,3,4,5,6,7,8,9,10,11,12,13,14,15,16],[])] Tryz.f117 = some (ac117,[.tmp 2],17) := by kernel_rfl
-- 69 loop.example/prologserver/spec.GoalValid params 1 ntmps 9
def ac69 : Cd := .seq (.region [⟨(some 1),.box (.t 0),none⟩,
 ⟨(some 2),.mv (.k (.c (.d (.bool false)))),none⟩] [0,2])
 (.seq (.region [⟨(some 3),.load (some 4) (.t 1),none⟩,
 ⟨(some 4),.qcall 80 [(.t 3)],none⟩,
 ⟨(some 5),.mv (.t 4),none⟩,
 ⟨(some 6),.load (some 4) (.t 1),some (5,true)⟩,
 ⟨(some 7),.qcall 118 [(.t 6)],some (5,true)⟩,
 ⟨(some 8),.pick (.t 5) (.t 7) (.k (.c (.d (.bool false)))),none⟩,
 ⟨(some 2),.mv (.t 8),none⟩] [1,3,4,5,6,7,8])
 (.ret))
theorem ac69_ok : cFunc Tryz.prog [1000080,1000118] [(0,[0,2],[]),(1,[1,3,4,5,6,7,8],[])] Tryz.f69 = some (ac69,[.tmp 2],9) := by kernel_rfl
def ops3 : List (List UInt8) := [[61], [92, 61], [61, 61], [60], [62], [61, 60], [62, 61], [61, 58, 61], [105, 115]]
def levelN (s : List UInt8) : Int := if ops3.contains s then 3 else if [[43], [45]].contains s then 2 else if [[42], [47, 47], [109, 111, 100]].contains s then 1 else 0
def leftB (s : List UInt8) : Bool := decide (levelN s = 1) || decide (levelN s = 2)
def builtB (s : List UInt8) (a : Int) : Bool :=
  if ops3.contains s then (a == 2) else if [[116, 114, 117, 101], [102, 97, 105, 108]].contains s then (a == 0)
  else if [[118, 97, 114], [110, 111, 110, 118, 97, 114], [97, 116, 111, 109], [105, 110, 116]].contains s then (a == 1) else if s = [97, 114, 103] then (a == 3) else false
theorem level_calls (s : List UInt8) (H : Heap) : ACalls Tryz.prog 139 [.c (.d (.str s))] H (fun r H' => H' = H ∧ r = .c (.d (.int .i64 (levelN s)))) := by
  refine acalls Tryz.func139 (by kernel_rfl) ac139_ok fun hf => ?_
  simp -implicitDefEqProofs [ac139, go_sem, -List.set_cons_succ, -List.set_cons_zero]
  (repeat' (first | (refine And.intro ?_ ?_) | intro _)) <;> simp_all [levelN, leftB, builtB, ops3]
theorem opLevel_calls (s : List UInt8) (H : Heap) : ACalls Tryz.prog 170 [.c (.d (.str s))] H (fun r H' => H' = H ∧ r = .tup [.c (.d (.int .i64 (levelN s))), .c (.d (.bool (leftB s)))]) := by
  refine acalls Tryz.func170 (by kernel_rfl) ac170_ok fun hf => ?_
  simp -implicitDefEqProofs [ac170, go_sem, -List.set_cons_succ, -List.set_cons_zero]
  (repeat' (first | (refine And.intro ?_ ?_) | intro _)) <;> simp_all [levelN, leftB, builtB, ops3]
theorem isOp_calls (s : List UInt8) (H : Heap) : ACalls Tryz.prog 132 [.c (.d (.str s))] H (fun r H' => H' = H ∧ r = .c (.d (.bool (decide (0 < levelN s))))) := by
  refine acalls Tryz.func132 (by kernel_rfl) ac132_ok fun hf => ?_
  simp -implicitDefEqProofs [ac132, go_sem, -List.set_cons_succ, -List.set_cons_zero]
  refine qcall_pure (opLevel_calls s) hf rfl ?_
  simp -implicitDefEqProofs [go_sem, -List.set_cons_succ, -List.set_cons_zero]
theorem builtImpl_calls (s : List UInt8) (a : Int) (H : Heap) : ACalls Tryz.prog 180 [.c (.d (.str s)), .c (.d (.int .i64 a))] H (fun r H' => H' = H ∧ r = .c (.d (.bool (builtB s a)))) := by
  refine acalls Tryz.func180 (by kernel_rfl) ac180_ok fun hf => ?_
  simp -implicitDefEqProofs [ac180, go_sem, -List.set_cons_succ, -List.set_cons_zero]
  (repeat' (first | (refine And.intro ?_ ?_) | intro _)) <;> simp_all [levelN, leftB, builtB, ops3]
theorem builtSpec_calls (s : List UInt8) (a : Int) (H : Heap) : ACalls Tryz.prog 138 [.c (.d (.str s)), .c (.d (.int .i64 a))] H (fun r H' => H' = H ∧ r = .c (.d (.bool (builtB s a)))) := by
  refine acalls Tryz.func138 (by kernel_rfl) ac138_ok fun hf => ?_
  simp -implicitDefEqProofs [ac138, go_sem, -List.set_cons_succ, -List.set_cons_zero]
  (repeat' (first | (refine And.intro ?_ ?_) | intro _)) <;> simp_all [levelN, leftB, builtB, ops3]
theorem level_nonneg (s : List UInt8) : 0 ≤ levelN s := by
  unfold levelN
  (repeat' split) <;> omega
/-- a goal that is built in -/
def Tm.built (t : Tm) : Bool := decide (t.k = 3) && builtB t.s t.kids.length
/-- a goal for clauses -/
def Tm.plain (t : Tm) : Bool := decide (t.k = 3) && (lettersB t.s && ((levelN t.s == 0) && !builtB t.s t.kids.length))
def Tm.cutB (t : Tm) : Bool := decide (t.k = 3) && (t.kids.isEmpty && t.s == [33])
def Tm.goal (t : Tm) : Bool := t.valid && (t.plain || t.built || t.cutB)
theorem isBuilt_calls (t : Tm) (ht : t.fits) (H : Heap) : ACalls Tryz.prog 133 [.agg (t.row.map .d)] H (fun r H' => H' = H ∧ r = .c (.d (.bool t.built))) := by
  obtain ⟨k, n, s, l⟩ := t
  obtain ⟨_, _, hs, hl, hkids⟩ := ht
  have hli : inR .i64 (l.length : Int) := small_i64 (by omega) (by omega)
  refine acalls Tryz.func133 (by kernel_rfl) ac133_ok fun hf => ?_
  by_cases hk : k = 3
  · simp -implicitDefEqProofs [ac133, row_mk, hk, hli, go_sem, -List.set_cons_succ, -List.set_cons_zero]
    refine qcall_pure (builtImpl_calls s l.length) hf rfl ?_
    simp -implicitDefEqProofs [Tm.built, Tm.k, Tm.s, Tm.kids, hk, go_sem, -List.set_cons_succ, -List.set_cons_zero]
  · simp -implicitDefEqProofs [ac133, row_mk, hk, hli, Tm.built, Tm.k, go_sem, -List.set_cons_succ, -List.set_cons_zero]
theorem plainImpl_calls (t : Tm) (ht : t.fits) (H : Heap) : ACalls Tryz.prog 76 [.agg (t.row.map .d)] H (fun r H' => H' = H ∧ r = .c (.d (.bool t.plain))) := by
  have c3 := isBuilt_calls t ht
  obtain ⟨k, n, s, l⟩ := t
  obtain ⟨_, _, hs, hl, hkids⟩ := ht
  rw [row_mk] at c3
  simp only [List.map_cons, List.map_nil] at c3
  have hnn := level_nonneg s
  refine acalls Tryz.func76 (by kernel_rfl) ac76_ok fun hf => ?_
  by_cases hk : k = 3
  · simp -implicitDefEqProofs [ac76, row_mk, hk, go_sem, -List.set_cons_succ, -List.set_cons_zero]
    refine qcall_pure (isLetters_calls s (by omega)) hf rfl ?_
    cases h1 : lettersB s with
    | false => simp -implicitDefEqProofs [h1, hk, Tm.plain, Tm.k, Tm.s, go_sem, -List.set_cons_succ, -List.set_cons_zero]
    | true =>
      simp -implicitDefEqProofs [h1, hk, go_sem, -List.set_cons_succ, -List.set_cons_zero]
      refine qcall_pure (isOp_calls s) hf rfl ?_
      by_cases h2 : levelN s = 0
      · simp -implicitDefEqProofs [h1, h2, hk, go_sem, -List.set_cons_succ, -List.set_cons_zero]
        rw [hk] at c3
        refine qcall_pure c3 hf rfl ?_
        simp -implicitDefEqProofs [h1, h2, hk, Tm.plain, Tm.built, Tm.k, Tm.s, Tm.kids, go_sem, -List.set_cons_succ, -List.set_cons_zero]
      · have h3 : 0 < levelN s := by omega
        simp -implicitDefEqProofs [h1, h2, h3, hk, Tm.plain, Tm.k, Tm.s, go_sem, -List.set_cons_succ, -List.set_cons_zero]
  · simp -implicitDefEqProofs [ac76, row_mk, hk, Tm.plain, Tm.k, go_sem, -List.set_cons_succ, -List.set_cons_zero]
theorem cutImpl_calls (t : Tm) (ht : t.fits) (H : Heap) : ACalls Tryz.prog 174 [.agg (t.row.map .d)] H (fun r H' => H' = H ∧ r = .c (.d (.bool t.cutB))) := by
  have c3 := isAtom_calls t ht
  obtain ⟨k, n, s, l⟩ := t
  obtain ⟨_, _, hs, hl, hkids⟩ := ht
  rw [row_mk] at c3
  simp only [List.map_cons, List.map_nil] at c3
  refine acalls Tryz.func174 (by kernel_rfl) ac174_ok fun hf => ?_
  simp -implicitDefEqProofs [ac174, row_mk, go_sem, -List.set_cons_succ, -List.set_cons_zero]
  refine qcall_pure c3 hf rfl ?_
  simp -implicitDefEqProofs [Tm.cutB, Tm.k, Tm.s, Tm.kids, Bool.and_assoc, go_sem, -List.set_cons_succ, -List.set_cons_zero]
theorem cutSpec_calls (t : Tm) (ht : t.fits) (H : Heap) : ACalls Tryz.prog 147 [.agg (t.row.map .d)] H (fun r H' => H' = H ∧ r = .c (.d (.bool t.cutB))) := by
  obtain ⟨k, n, s, l⟩ := t
  obtain ⟨_, _, hs, hl, hkids⟩ := ht
  have hli : inR .i64 (l.length : Int) := small_i64 (by omega) (by omega)
  refine acalls Tryz.func147 (by kernel_rfl) ac147_ok fun hf => ?_
  by_cases hk : k = 3
  · by_cases h2 : s = [33]
    · simp -implicitDefEqProofs [ac147, row_mk, hk, h2, hli, Tm.cutB, Tm.k, Tm.s, Tm.kids, isEmpty_len, go_sem, -List.set_cons_succ, -List.set_cons_zero]
    · have h2b : (s == [33]) = false := by simpa using h2
      simp -implicitDefEqProofs [ac147, row_mk, hk, h2, h2b, hli, Tm.cutB, Tm.k, Tm.s, Tm.kids, go_sem, -List.set_cons_succ, -List.set_cons_zero]
  · simp -implicitDefEqProofs [ac147, row_mk, hk, hli, Tm.cutB, Tm.k, go_sem, -List.set_cons_succ, -List.set_cons_zero]
theorem plainSpec_calls (t : Tm) (ht : t.fits) (H : Heap) : ACalls Tryz.prog 81 [.agg (t.row.map .d)] H (fun r H' => H' = H ∧ r = .c (.d (.bool t.plain))) := by
  obtain ⟨k, n, s, l⟩ := t
  obtain ⟨_, _, hs, hl, hkids⟩ := ht
  have hli : inR .i64 (l.length : Int) := small_i64 (by omega) (by omega)
  refine acalls Tryz.func81 (by kernel_rfl) ac81_ok fun hf => ?_
  by_cases hk : k = 3
  · simp -implicitDefEqProofs [ac81, row_mk, hk, go_sem, -List.set_cons_succ, -List.set_cons_zero]
    refine qcall_pure (l1Word_calls s (by omega)) hf rfl ?_
    cases h1 : lettersB s with
    | false => simp -implicitDefEqProofs [h1, hk, hli, Tm.plain, Tm.k, Tm.s, go_sem, -List.set_cons_succ, -List.set_cons_zero]
    | true =>
      simp -implicitDefEqProofs [h1, hk, hli, go_sem, -List.set_cons_succ, -List.set_cons_zero]
      refine qcall_pure (builtSpec_calls s l.length) hf rfl ?_
      cases h2 : builtB s l.length with
      | true => simp -implicitDefEqProofs [h1, h2, hk, Tm.plain, Tm.k, Tm.s, Tm.kids, go_sem, -List.set_cons_succ, -List.set_cons_zero]
      | false =>
        simp -implicitDefEqProofs [h1, h2, hk, go_sem, -List.set_cons_succ, -List.set_cons_zero]
        refine qcall_pure (level_calls s) hf rfl ?_
        simp -implicitDefEqProofs [h1, h2, hk, Tm.plain, Tm.k, Tm.s, Tm.kids, go_sem, -List.set_cons_succ, -List.set_cons_zero]
  · simp -implicitDefEqProofs [ac81, row_mk, hk, Tm.plain, Tm.k, go_sem, -List.set_cons_succ, -List.set_cons_zero]
theorem l4Goal_calls (t : Tm) (ht : t.fits) (H : Heap) : ACalls Tryz.prog 118 [.agg (t.row.map .d)] H (fun r H' => H' = H ∧ r = .c (.d (.bool (t.plain || t.built || t.cutB)))) := by
  have c1 := cutSpec_calls t ht
  have c2 := plainSpec_calls t ht
  have e : ∀ x y z : Bool, (x || y || z) = (z || x || y) := by decide
  rw [e]
  generalize hc : t.cutB = b1 at c1
  generalize hp : t.plain = b2 at c2
  obtain ⟨k, n, s, l⟩ := t
  obtain ⟨_, _, hs, hl, hkids⟩ := ht
  have hli : inR .i64 (l.length : Int) := small_i64 (by omega) (by omega)
  rw [row_mk] at c1 c2
  simp only [List.map_cons, List.map_nil] at c1 c2
  refine acalls Tryz.func118 (by kernel_rfl) ac118_ok fun hf => ?_
  simp -implicitDefEqProofs [ac118, row_mk, go_sem, -List.set_cons_succ, -List.set_cons_zero]
  refine qcall_pure c1 hf rfl ?_
  cases b1 with
  | true =>
            by_cases hk : k = 3
            · simp -implicitDefEqProofs [hk, hli, go_sem, -List.set_cons_succ, -List.set_cons_zero]
            · have hkb : (k == 3) = false := by simpa using hk
              simp -implicitDefEqProofs [hk, hkb, hli, go_sem, -List.set_cons_succ, -List.set_cons_zero]
  | false =>
    simp -implicitDefEqProofs [go_sem, -List.set_cons_succ, -List.set_cons_zero]
    refine qcall_pure c2 hf rfl ?_
    cases b2 with
    | true =>
            by_cases hk : k = 3
            · simp -implicitDefEqProofs [hk, hli, go_sem, -List.set_cons_succ, -List.set_cons_zero]
            · have hkb : (k == 3) = false := by simpa using hk
              simp -implicitDefEqProofs [hk, hkb, hli, go_sem, -List.set_cons_succ, -List.set_cons_zero]
    | false =>
      by_cases hk : k = 3
      · simp -implicitDefEqProofs [hk, hli, go_sem, -List.set_cons_succ, -List.set_cons_zero]
        refine qcall_pure (builtSpec_calls s l.length) hf rfl ?_
        simp -implicitDefEqProofs [hk, Tm.built, Tm.k, Tm.s, Tm.kids, go_sem, -List.set_cons_succ, -List.set_cons_zero]
      · have hkb : (k == 3) = false := by simpa using hk
        simp -implicitDefEqProofs [hk, hkb, Tm.built, Tm.k, go_sem, -List.set_cons_succ, -List.set_cons_zero]
theorem goalSpec_calls (t : Tm) (ht : t.fits) (H : Heap) : ACalls Tryz.prog 69 [.agg (t.row.map .d)] H (fun r H' => H' = H ∧ r = .c (.d (.bool t.goal))) := by
  refine acalls Tryz.func69 (by kernel_rfl) ac69_ok fun hf => ?_
  simp -implicitDefEqProofs [ac69, row_len, take_row, pure_d, re_d, go_sem, -List.set_cons_succ, -List.set_cons_zero]
  refine qcall_pure (tvSpec_calls t ht) hf rfl ?_
  cases h : t.valid with
  | false => simp -implicitDefEqProofs [h, Tm.goal, row_len, take_row, go_sem, -List.set_cons_succ, -List.set_cons_zero]
  | true =>
    simp -implicitDefEqProofs [h, row_len, take_row, pure_d, re_d, go_sem, -List.set_cons_succ, -List.set_cons_zero]
    refine qcall_pure (l4Goal_calls t ht) hf rfl ?_
    simp -implicitDefEqProofs [h, Tm.goal, go_sem, -List.set_cons_succ, -List.set_cons_zero]
theorem goalImpl_calls (t : Tm) (ht : t.fits) (H : Heap) : ACalls Tryz.prog 117 [.agg (t.row.map .d)] H (fun r H' => H' = H ∧ r = .c (.d (.bool t.goal))) := by
  refine acalls Tryz.func117 (by kernel_rfl) ac117_ok fun hf => ?_
  simp -implicitDefEqProofs [ac117, row_len, take_row, pure_d, re_d, go_sem, -List.set_cons_succ, -List.set_cons_zero]
  refine qcall_pure (tvImpl_calls t ht) hf rfl ?_
  cases h : t.valid with
  | false => simp -implicitDefEqProofs [h, Tm.goal, row_len, take_row, go_sem, -List.set_cons_succ, -List.set_cons_zero]
  | true =>
    simp -implicitDefEqProofs [h, row_len, take_row, pure_d, re_d, go_sem, -List.set_cons_succ, -List.set_cons_zero]
    refine qcall_pure (plainImpl_calls t ht) hf rfl ?_
    cases h1 : t.plain with
    | true => simp -implicitDefEqProofs [h, h1, Tm.goal, row_len, take_row, go_sem, -List.set_cons_succ, -List.set_cons_zero]
    | false =>
      simp -implicitDefEqProofs [h, h1, row_len, take_row, pure_d, re_d, go_sem, -List.set_cons_succ, -List.set_cons_zero]
      refine qcall_pure (isBuilt_calls t ht) hf rfl ?_
      cases h2 : t.built with
      | true => simp -implicitDefEqProofs [h, h1, h2, Tm.goal, row_len, take_row, go_sem, -List.set_cons_succ, -List.set_cons_zero]
      | false =>
        simp -implicitDefEqProofs [h, h1, h2, row_len, take_row, pure_d, re_d, go_sem, -List.set_cons_succ, -List.set_cons_zero]
        refine qcall_pure (cutImpl_calls t ht) hf rfl ?_
        simp -implicitDefEqProofs [h, h1, h2, Tm.goal, go_sem, -List.set_cons_succ, -List.set_cons_zero]
end Go.Proofs.YtbblefjbgbocoaaGreatDoor

/-
  Terms that are well-formed, whatever their depth.
  Conditions: none.
-/
open Go Go.AM Go.Proofs
namespace Go.Proofs.YtbblefjbgbocoaaGreatDoor
open Go.ChangeShapes Go.WideShapes Go.ChangeAt Go.RowKit
set_option linter.unusedVariables false
set_option linter.unusedSimpArgs false
set_option maxRecDepth 100000
/-- well-formed, whatever the depth -/
inductive Tm.good : Tm → Prop
  | mk {k n : Int} {s : List UInt8} {l : List Tm} : (Tm.mk k n s l).ownB = true → (∀ t ∈ l, t.good) → (Tm.mk k n s l).good
theorem name_len {s : List UInt8} (h : nameB s = true) : 1 ≤ s.length ∧ s.length ≤ 6 := by
  simp only [nameB, Bool.or_eq_true] at h
  rcases h with h | h
  · simp only [lettersB, Bool.and_eq_true, decide_eq_true_eq] at h
    omega
  · simp [signs] at h
    rcases h with rfl | rfl | rfl | rfl | rfl | rfl | rfl | rfl | rfl | rfl | rfl | rfl | rfl | rfl | rfl <;> decide
/-- the three kinds of nodes -/
theorem own_cases {k n : Int} {s : List UInt8} {l : List Tm} (h : (Tm.mk k n s l).ownB = true) :
    (k = 1 ∧ 0 ≤ n ∧ n ≤ 25 ∧ s = [] ∧ l = []) ∨ (k = 2 ∧ -999 ≤ n ∧ n ≤ 999 ∧ s = [] ∧ l = []) ∨ (k = 3 ∧ n = 0 ∧ nameB s = true ∧ l.length ≤ 4) := by
  simp only [Tm.ownB] at h
  split at h
  · rename_i hk
    simp at h
    exact .inl ⟨hk, h.1.1.1, h.1.1.2, h.1.2, h.2⟩
  · split at h
    · rename_i hk
      simp at h
      exact .inr (.inl ⟨hk, h.1.1.1, h.1.1.2, h.1.2, h.2⟩)
    · split at h
      · rename_i hk
        simp at h
        exact .inr (.inr ⟨hk, h.1.1, h.1.2, h.2⟩)
      · cases h
end Go.Proofs.YtbblefjbgbocoaaGreatDoor

/-
  Copies of terms by the program and by the reference.
  Conditions: none.
-/
open Go Go.AM Go.Proofs
namespace Go.Proofs.YtbblefjbgbocoaaGreatDoor
open Go.ChangeShapes Go.WideShapes Go.ChangeAt Go.RowKit
set_option linter.unusedVariables false
set_option linter.unusedSimpArgs false
set_option maxRecDepth 100000
-- 59 loop.example/prologserver/spec.l1Copy params 1 ntmps 31
-- loop head live: [1,2,3,4]
def ac59 : Cd := .seq (.region [⟨(some 1),.box (.t 0),none⟩,
 ⟨(some 2),.alloc [(.d (.int .i64 0)),(.d (.int .i64 0)),(.d (.str [])),(.full [])],none⟩] [0])
 (.seq (.region [⟨(some 5),.fieldAddr 0 (.t 1),none⟩,
 ⟨(some 6),.load none (.t 5),none⟩,
 ⟨(some 7),.fieldAddr 1 (.t 1),none⟩,
 ⟨(some 8),.load none (.t 7),none⟩,
 ⟨(some 9),.fieldAddr 2 (.t 1),none⟩,
 ⟨(some 10),.load none (.t 9),none⟩,
 ⟨(some 11),.build [(.d (.int .i64 0)),(.d (.int .i64 0)),(.d (.str [])),(.full [])] [(0,1,(.t 6)),(1,1,(.t 8)),(2,1,(.t 10))],none⟩,
 ⟨(some 3),.alloc [(.d (.int .i64 0)),(.d (.int .i64 0)),(.d (.str [])),(.full [])],none⟩,
 ⟨none,.store 4 (.t 3) (.t 11),none⟩] [5,6,7,8,9,10,11])
 (.seq (.seq (.region [⟨(some 4),.mv (.k (.c (.d (.int .i64 0)))),none⟩] [])
 (.block 0 (.loop (.seq (.seq (.region [⟨(some 12),.mv (.t 4),none⟩,
 ⟨(some 13),.fieldAddr 3 (.t 1),none⟩,
 ⟨(some 14),.load none (.t 13),none⟩,
 ⟨(some 15),.len 1 (.t 14),none⟩,
 ⟨(some 16),.bin .lss (.t 12) (.t 15),none⟩] [12,13,14,15])
 (.cond (.t 16)
 (.skip)
 (.exit 0)))
 (.seq (.block 1 (.region [⟨(some 19),.fieldAddr 3 (.t 3),none⟩,
 ⟨(some 21),.fieldAddr 3 (.t 1),none⟩,
 ⟨(some 23),.mv (.t 4),none⟩,
 ⟨(some 20),.load none (.t 19),none⟩,
 ⟨(some 22),.load none (.t 21),none⟩,
 ⟨(some 24),.indexAddr 4 (.t 22) (.t 23),none⟩,
 ⟨(some 25),.load (some 4) (.t 24),none⟩,
 ⟨(some 26),.qcall 59 [(.t 25)],none⟩,
 ⟨(some 27),.buildSlice 4 1 [(.int .i64 0),(.int .i64 0),(.str []),(.sl [])] [(0,(.t 26))],none⟩,
 ⟨(some 28),.append false 4 (.t 20) (.t 27),none⟩,
 ⟨(some 29),.fieldAddr 3 (.t 3),none⟩,
 ⟨none,.store 1 (.t 29) (.t 28),none⟩] [16,19,20,21,22,23,24,25,26,27,28,29]))
 (.region [⟨(some 17),.mv (.t 4),none⟩,
 ⟨(some 18),.bin .add (.t 17) (.k (.c (.d (.int .i64 1)))),none⟩,
 ⟨(some 4),.mv (.t 18),none⟩] [17,18]))))))
 (.seq (.region [⟨(some 30),.load (some 4) (.t 3),none⟩,
 ⟨none,.store 4 (.t 2) (.t 30),none⟩] [3,30])
 (.ret))))
theorem ac59_ok : cFunc Tryz.prog [1000059] [(0,[0],[]),(1,[5,6,7,8,9,10,11],[]),(2,[],[]),(3,[12,13,14,15],[]),(5,[16,19,20,21,22,23,24,25,26,27,28,29],[0,2,4,1,3,5,6,7,8,9,10,11]),(4,[17,18],[]),(6,[3,30],[])] Tryz.f59 = some (ac59,[.cell 2 (some 4)],31) := by kernel_rfl
theorem take_map_succ {l : List Tm} {i : Nat} (h : i < l.length) : (l.map Tm.row).take (i + 1) = (l.map Tm.row).take i ++ [l[i].row] := by
  rw [List.take_succ_eq_append_getElem (by simpa using h)]; simp
theorem copy_calls : ∀ t : Tm, t.fits → ∀ H, ACalls Tryz.prog 59 [.agg (t.row.map .d)] H (fun r H' => H' = H ∧ r = .agg (t.row.map .d)) := by
  refine Tm.ind fun k n s l ih hfits H => ?_
  obtain ⟨hk, hn, hs, hl, hkids⟩ := hfits
  refine acalls Tryz.func59 (by kernel_rfl) ac59_ok fun hf => ?_
  have hli : inR .i64 (l.length : Int) := small_i64 (by omega) (by omega)
  simp -implicitDefEqProofs [ac59, row_mk, hf, hli, go_sem, -List.set_cons_succ, -List.set_cons_zero]
  refine loop_enter (St.le_tokenC 2 3 4 rfl rfl) ?_
  refine loop_set (σ := Nat) (fun i => [(4, .c (.d (.int .i64 i)))]) (fun _ => H) (fun i => [.cells [.d (.int .i64 k), .d (.int .i64 n), .d (.str s), .d (.sl (l.map Tm.row))], .cells [.d (.int .i64 0), .d (.int .i64 0), .d (.str []), .full []], .cells [.d (.int .i64 k), .d (.int .i64 n), .d (.str s), .own (.l 3) i ((l.map Tm.row).take i)], .grow i 4])
    (fun i => i ≤ l.length) (fun i => l.length - i) 0 rfl (Nat.zero_le _) ?_
  intro i hi
  simp -implicitDefEqProofs [setAll, hli, go_sem, -List.set_cons_succ, -List.set_cons_zero]
  refine ⟨fun hlt => ?_, fun hge => ?_⟩
  · have hadd : inR .i64 ((i : Int) + 1) := small_i64 (by omega) (by omega)
    refine row_of hlt (row_len _) ?_
    simp -implicitDefEqProofs [row_len, take_row, pure_d, re_d, go_sem, -List.set_cons_succ, -List.set_cons_zero]
    refine qcall_pure (ih l[i] (List.getElem_mem hlt) (hkids _ (List.getElem_mem hlt))) hf (by simp [A.re, re_d]) ?_
    simp -implicitDefEqProofs [row_len, toDs_map, hadd, hf, Nat.min_eq_left hi, go_sem, -List.set_cons_succ, -List.set_cons_zero]
    refine ⟨fun r hr => allLen_map row_len r (List.mem_of_mem_take hr), by unfold maxApp; omega, ?_⟩
    refine loop_back (i + 1) ?_ hlt (by show l.length - (i + 1) < l.length - i; omega)
    simp [setAll, take_map_succ hlt]
  · have hil : i = l.length := by omega
    subst hil
    rw [show (l.map Tm.row).take l.length = l.map Tm.row from List.take_of_length_le (by simp)]
    simp -implicitDefEqProofs [hf, go_sem, -List.set_cons_succ, -List.set_cons_zero]
end Go.Proofs.YtbblefjbgbocoaaGreatDoor

/-
  Structures that are made.
  Conditions: none.
-/
open Go Go.AM Go.Proofs
namespace Go.Proofs.YtbblefjbgbocoaaGreatDoor
open Go.ChangeShapes Go.WideShapes Go.ChangeAt Go.RowKit
set_option linter.unusedVariables false
set_option linter.unusedSimpArgs false
set_option maxRecDepth 100000
-- 96 loop.example/prologserver/spec.l1Struct params 2 ntmps 10
def ac96 : Cd := .seq (.region [⟨(some 4),.alloc [(.d (.int .i64 0)),(.d (.int .i64 0)),(.d (.str [])),(.full [])],none⟩] [])
 (.seq (.region [⟨(some 5),.mv (.t 0),none⟩,
 ⟨(some 6),.buildSlice 4 0 [(.int .i64 0),(.int .i64 0),(.str []),(.sl [])] [],none⟩,
 ⟨(some 7),.mv (.t 1),none⟩,
 ⟨(some 8),.append false 4 (.t 6) (.t 7),none⟩,
 ⟨(some 9),.build [(.d (.int .i64 0)),(.d (.int .i64 0)),(.d (.str [])),(.full [])] [(0,1,(.k (.c (.d (.int .i64 3))))),(2,1,(.t 5)),(3,1,(.t 8))],none⟩,
 ⟨none,.store 4 (.t 4) (.t 9),none⟩] [0,1,5,6,7,8,9])
 (.ret))
theorem ac96_ok : cFunc Tryz.prog [] [(0,[],[]),(1,[0,1,5,6,7,8,9],[])] Tryz.f96 = some (ac96,[.cell 4 (some 4)],10) := by kernel_rfl
theorem struct_calls (name : List UInt8) (l : List Tm) (hl : l.length ≤ 1048576) (H : Heap) : ACalls Tryz.prog 96 [.c (.d (.str name)), .c (.d (.sl (l.map Tm.row)))] H (fun r H' => H' = H ∧ r = .agg ((Tm.mk 3 0 name l).row.map .d)) := by
  refine acalls Tryz.func96 (by kernel_rfl) ac96_ok fun hf => ?_
  simp -implicitDefEqProofs [ac96, row_mk, hf, go_sem, -List.set_cons_succ, -List.set_cons_zero]
  exact ⟨allLen_map row_len, by unfold maxApp; omega⟩
end Go.Proofs.YtbblefjbgbocoaaGreatDoor

/-
  Pairs of lists, and the empty list.
  Conditions: none.
-/
open Go Go.AM Go.Proofs
namespace Go.Proofs.YtbblefjbgbocoaaGreatDoor
open Go.ChangeShapes Go.WideShapes Go.ChangeAt Go.RowKit
set_option linter.unusedVariables false
set_option linter.unusedSimpArgs false
set_option maxRecDepth 100000
-- 251 loop.example/prologserver/spec.l1Nil params 1 ntmps 17
end Go.Proofs.YtbblefjbgbocoaaGreatDoor

/-
  Lists as terms: copies, chains, MakeList and ListOf of the program and of the reference.
  Conditions: none.
-/
open Go Go.AM Go.Proofs
namespace Go.Proofs.YtbblefjbgbocoaaGreatDoor
open Go.ChangeShapes Go.WideShapes Go.ChangeAt Go.RowKit
set_option linter.unusedVariables false
set_option linter.unusedSimpArgs false
set_option maxRecDepth 100000
-- 241 loop.example/prologserver/impl.pair params 2 ntmps 9
def ac241 : Cd := .seq (.region [⟨(some 2),.box (.t 0),none⟩,
 ⟨(some 3),.box (.t 1),none⟩,
 ⟨(some 4),.alloc [(.d (.int .i64 0)),(.d (.int .i64 0)),(.d (.str [])),(.full [])],none⟩] [0,1])
 (.seq (.region [⟨(some 5),.load (some 4) (.t 2),none⟩,
 ⟨(some 6),.load (some 4) (.t 3),none⟩,
 ⟨(some 7),.buildSlice 4 2 [(.int .i64 0),(.int .i64 0),(.str []),(.sl [])] [(0,(.t 5)),(1,(.t 6))],none⟩,
 ⟨(some 8),.build [(.d (.int .i64 0)),(.d (.int .i64 0)),(.d (.str [])),(.full [])] [(0,1,(.k (.c (.d (.int .i64 3))))),(2,1,(.k (.c (.d (.str [46]))))),(3,1,(.t 7))],none⟩,
 ⟨none,.store 4 (.t 4) (.t 8),none⟩] [2,3,5,6,7,8])
 (.ret))
theorem ac241_ok : cFunc Tryz.prog [] [(0,[0,1],[]),(1,[2,3,5,6,7,8],[])] Tryz.f241 = some (ac241,[.cell 4 (some 4)],9) := by kernel_rfl
-- 235 loop.example/prologserver/impl.chain params 2 ntmps 20
-- loop head live: [0,3,4,5]
def ac235 : Cd := .seq (.region [⟨(some 3),.box (.t 1),none⟩,
 ⟨(some 4),.alloc [(.d (.int .i64 0)),(.d (.int .i64 0)),(.d (.str [])),(.full [])],none⟩] [1])
 (.seq (.seq (.region [⟨(some 6),.mv (.t 0),none⟩,
 ⟨(some 7),.len 1 (.t 6),none⟩,
 ⟨(some 8),.bin .sub (.t 7) (.k (.c (.d (.int .i64 1)))),none⟩,
 ⟨(some 5),.mv (.t 8),none⟩] [6,7,8])
 (.block 0 (.loop (.seq (.seq (.region [⟨(some 9),.mv (.t 5),none⟩,
 ⟨(some 10),.bin .geq (.t 9) (.k (.c (.d (.int .i64 0)))),none⟩] [9])
 (.cond (.t 10)
 (.skip)
 (.exit 0)))
 (.seq (.block 1 (.region [⟨(some 13),.mv (.t 0),none⟩,
 ⟨(some 14),.mv (.t 5),none⟩,
 ⟨(some 15),.indexAddr 4 (.t 13) (.t 14),none⟩,
 ⟨(some 16),.load (some 4) (.t 15),none⟩,
 ⟨(some 17),.load (some 4) (.t 3),none⟩,
 ⟨(some 18),.qcall 241 [(.t 16),(.t 17)],none⟩,
 ⟨none,.store 4 (.t 3) (.t 18),none⟩] [10,13,14,15,16,17,18]))
 (.region [⟨(some 11),.mv (.t 5),none⟩,
 ⟨(some 12),.bin .sub (.t 11) (.k (.c (.d (.int .i64 1)))),none⟩,
 ⟨(some 5),.mv (.t 12),none⟩] [11,12]))))))
 (.seq (.region [⟨(some 19),.load (some 4) (.t 3),none⟩,
 ⟨none,.store 4 (.t 4) (.t 19),none⟩] [3,19])
 (.ret)))
theorem ac235_ok : cFunc Tryz.prog [1000241] [(0,[1],[]),(1,[6,7,8],[]),(2,[9],[]),(4,[10,13,14,15,16,17,18],[0,1,2,3,4,5,6]),(3,[11,12],[]),(5,[3,19],[])] Tryz.f235 = some (ac235,[.cell 4 (some 4)],20) := by kernel_rfl
-- 230 loop.example/prologserver/spec.l1Chain params 2 ntmps 23
-- loop head live: [0,4,5,6]
def ac230 : Cd := .seq (.region [⟨(some 3),.box (.t 1),none⟩,
 ⟨(some 4),.alloc [(.d (.int .i64 0)),(.d (.int .i64 0)),(.d (.str [])),(.full [])],none⟩] [1])
 (.seq (.region [⟨(some 7),.load (some 4) (.t 3),none⟩,
 ⟨(some 5),.alloc [(.d (.int .i64 0)),(.d (.int .i64 0)),(.d (.str [])),(.full [])],none⟩,
 ⟨none,.store 4 (.t 5) (.t 7),none⟩] [3,7])
 (.seq (.seq (.region [⟨(some 8),.mv (.t 0),none⟩,
 ⟨(some 9),.len 1 (.t 8),none⟩,
 ⟨(some 10),.bin .sub (.t 9) (.k (.c (.d (.int .i64 1)))),none⟩,
 ⟨(some 6),.mv (.t 10),none⟩] [8,9,10])
 (.block 0 (.loop (.seq (.seq (.region [⟨(some 11),.mv (.t 6),none⟩,
 ⟨(some 12),.bin .geq (.t 11) (.k (.c (.d (.int .i64 0)))),none⟩] [11])
 (.cond (.t 12)
 (.skip)
 (.exit 0)))
 (.seq (.block 1 (.region [⟨(some 15),.mv (.t 0),none⟩,
 ⟨(some 16),.mv (.t 6),none⟩,
 ⟨(some 17),.indexAddr 4 (.t 15) (.t 16),none⟩,
 ⟨(some 18),.load (some 4) (.t 17),none⟩,
 ⟨(some 19),.load (some 4) (.t 5),none⟩,
 ⟨(some 20),.buildSlice 4 2 [(.int .i64 0),(.int .i64 0),(.str []),(.sl [])] [(0,(.t 18)),(1,(.t 19))],none⟩,
 ⟨(some 21),.qcall 96 [(.k (.c (.d (.str [46])))),(.t 20)],none⟩,
 ⟨none,.store 4 (.t 5) (.t 21),none⟩] [12,15,16,17,18,19,20,21]))
 (.region [⟨(some 13),.mv (.t 6),none⟩,
 ⟨(some 14),.bin .sub (.t 13) (.k (.c (.d (.int .i64 1)))),none⟩,
 ⟨(some 6),.mv (.t 14),none⟩] [13,14]))))))
 (.seq (.region [⟨(some 22),.load (some 4) (.t 5),none⟩,
 ⟨none,.store 4 (.t 4) (.t 22),none⟩] [5,22])
 (.ret))))
theorem ac230_ok : cFunc Tryz.prog [1000096] [(0,[1],[]),(1,[3,7],[]),(2,[8,9,10],[]),(3,[11],[]),(5,[12,15,16,17,18,19,20,21],[0,1,2,3,4,5,6,7]),(4,[13,14],[]),(6,[5,22],[])] Tryz.f230 = some (ac230,[.cell 4 (some 4)],23) := by kernel_rfl
def pairT (a b : Tm) : Tm := .mk 3 0 [46] [a, b]
/-- elements in front of a tail -/
def chainT : List Tm → Tm → Tm
  | [], t => t
  | x :: l, t => pairT x (chainT l t)
theorem chain_fits : ∀ (l : List Tm) (t : Tm), (∀ x ∈ l, x.fits) → t.fits → (chainT l t).fits
  | [], t, _, ht => ht
  | x :: l, t, h, ht => .mk (small_i64 (by omega) (by omega)) (small_i64 (by omega) (by omega)) (by simp) (by simp) (by
      have h1 := h x (by simp)
      have h2 := chain_fits l t (fun y hy => h y (by simp [hy])) ht
      simp [h1, h2])
theorem chainSpec_calls (l : List Tm) (hl : l.length ≤ 1048576) (t : Tm) (H : Heap) : ACalls Tryz.prog 230 [.c (.d (.sl (l.map Tm.row))), .agg (t.row.map .d)] H (fun r H' => H' = H ∧ r = .agg ((chainT l t).row.map .d)) := by
  refine acalls Tryz.func230 (by kernel_rfl) ac230_ok fun hf => ?_
  have hli : inR .i64 (l.length : Int) := small_i64 (by omega) (by omega)
  have hli1 : inR .i64 ((l.length : Int) - 1) := small_i64 (by omega) (by omega)
  simp -implicitDefEqProofs [ac230, row_len, take_row, hf, hli, hli1, go_sem, -List.set_cons_succ, -List.set_cons_zero]
  refine loop_set (σ := Nat) (fun j => [(6, .c (.d (.int .i64 ((j : Int) - 1))))]) (fun _ => H) (fun j => [.cells (t.row.map .d), .cells [.d (.int .i64 0), .d (.int .i64 0), .d (.str []), .full []], .cells ((chainT (l.drop j) t).row.map .d)]) (fun j => j ≤ l.length) (fun j => j) l.length (by simp [setAll, chainT]) (Nat.le_refl _) ?_
  intro j hj
  rcases Nat.eq_zero_or_pos j with rfl | hp
  · simp -implicitDefEqProofs [setAll, row_len, take_row, hf, fits_map, go_sem, -List.set_cons_succ, -List.set_cons_zero]
    simp [thaw_d, fits_map]
  · obtain ⟨k, rfl⟩ : ∃ k, j = k + 1 := ⟨j - 1, by omega⟩
    have e : (((k + 1 : Nat) : Int) - 1) = (k : Int) := by omega
    have hlt : k < l.length := by omega
    have hsub : inR .i64 ((k : Int) - 1) := small_i64 (by omega) (by omega)
    have hk0 : (0 : Int) ≤ (k : Int) := by omega
    simp only [e]
    simp -implicitDefEqProofs [setAll, row_len, take_row, hk0, go_sem, -List.set_cons_succ, -List.set_cons_zero]
    refine row_of hlt (row_len _) ?_
    simp -implicitDefEqProofs [row_len, take_row, toDs_map, go_sem, -List.set_cons_succ, -List.set_cons_zero]
    have hs := struct_calls [46] [l[k], chainT (l.drop (k + 1)) t] (by simp)
    simp only [List.map_cons, List.map_nil] at hs
    refine qcall_pure hs hf (by simp [A.re, re_d]) ?_
    simp -implicitDefEqProofs [row_len, take_row, hf, hsub, go_sem, -List.set_cons_succ, -List.set_cons_zero]
    refine loop_back k ?_ (by omega) (by show k < k + 1; omega)
    rw [List.drop_eq_getElem_cons hlt]
    simp [setAll, chainT, pairT, row_len]
end Go.Proofs.YtbblefjbgbocoaaGreatDoor

/-
  A parser of terms with operators, in plain Lean, as the reference's goes.
  Conditions: none.
-/
open Go Go.AM Go.Proofs
namespace Go.Proofs.YtbblefjbgbocoaaGreatDoor
set_option linter.unusedVariables false
set_option linter.unusedSimpArgs false
set_option maxRecDepth 100000
/-- does a byte stand at a place? -/
def sgn (s : List UInt8) (i : Nat) (c : UInt8) : Bool := match s[i]? with
  | some b => b == c
  | none => false
def digB (b : UInt8) : Bool := decide (48 ≤ b.toNat) && decide (b.toNat ≤ 57)
def smaB (b : UInt8) : Bool := decide (97 ≤ b.toNat) && decide (b.toNat ≤ 122)
def bigB (b : UInt8) : Bool := decide (65 ≤ b.toNat) && decide (b.toNat ≤ 90)
def digAt (s : List UInt8) (i : Nat) : Bool := match s[i]? with
  | some b => digB b
  | none => false
def smaAt (s : List UInt8) (i : Nat) : Bool := match s[i]? with
  | some b => smaB b
  | none => false
/-- where a run ends, at most n bytes on -/
def runE (p : List UInt8 → Nat → Bool) (s : List UInt8) : Nat → Nat → Nat
  | 0, i => i
  | n + 1, i => if p s i then runE p s n (i + 1) else i
/-- a numeral's number -/
def numV (l : List UInt8) : Nat := l.foldl (fun n b => n * 10 + (b.toNat - 48)) 0
/-- a canonical numeral -/
def canB (l : List UInt8) : Bool := decide (1 ≤ l.length) && decide (l.length ≤ 17) && (l.headD 0 != 48 || decide (l.length = 1)) && l.all digB
def cutS (s : List UInt8) (i j : Nat) : List UInt8 := (s.take j).drop i
/-- a number at a place, and the place behind it -/
def numR (s : List UInt8) (i : Nat) : Option (Int × Nat) :=
  if canB (cutS s (if sgn s i 45 then i + 1 else i) (runE digAt s 4 (if sgn s i 45 then i + 1 else i))) then
    if (sgn s i 45 && decide (numV (cutS s (if sgn s i 45 then i + 1 else i) (runE digAt s 4 (if sgn s i 45 then i + 1 else i))) = 0)) || decide (999 < numV (cutS s (if sgn s i 45 then i + 1 else i) (runE digAt s 4 (if sgn s i 45 then i + 1 else i)))) then none
    else some (if sgn s i 45 then -(numV (cutS s (i + 1) (runE digAt s 4 (i + 1))) : Int) else (numV (cutS s i (runE digAt s 4 i)) : Int), runE digAt s 4 (if sgn s i 45 then i + 1 else i))
  else none
/-- the longest of some names that stands at a place -/
def bestS (s : List UInt8) (i : Nat) : List (List UInt8) → List UInt8 → List UInt8
  | [], b => b
  | n :: l, b => bestS s i l (if decide (i + n.length ≤ s.length) && cutS s i (i + n.length) == n && decide (b.length < n.length) then n else b)
/-- a name at a place, and the place behind it -/
def nameR (s : List UInt8) (i : Nat) : Option (List UInt8 × Nat) :=
  if i + 6 < runE smaAt s s.length i then none
  else if i < runE smaAt s s.length i then some (cutS s i (runE smaAt s s.length i), runE smaAt s s.length i)
  else if bestS s i signs [] = [] then none
  else some (bestS s i signs [], i + (bestS s i signs []).length)
def wordB (n : List UInt8) : Bool := n == [105, 115] || n == [109, 111, 100]
/-- an operator at a place, and the place behind it -/
def opR (s : List UInt8) (i : Nat) : Option (List UInt8 × Nat) :=
  if s.length ≤ (if sgn s i 32 then i + 1 else i) then none
  else match nameR s (if sgn s i 32 then i + 1 else i) with
    | none => none
    | some (n, j) => if levelN n = 0 then none
      else if wordB n != sgn s i 32 || wordB n && !sgn s j 32 then none
      else some (n, if wordB n then j + 1 else j)
/-- what is to be read -/
inductive Job where
  | read (i d l : Nat)
  | ops (t : Tm) (i d l : Nat)
  | terms (i d : Nat) (e o : UInt8)
  | prime (i d : Nat)
/-- terms and the place behind them, or the place of a failure -/
inductive Rs where
  | ok (l : List Tm) (i : Nat)
  | bad (i : Nat)
def nilT : Tm := .mk 3 0 [91, 93] []
def Rs.tm : List Tm → Tm
  | t :: _ => t
  | [] => .mk 0 0 [] []
/-- one step of the parser; R: what the steps below it give -/
def step (s : List UInt8) (R : Job → Option Rs) : Job → Option Rs
  | .read i d 0 => R (.prime i d)
  | .read i d (l + 1) => match R (.read i d l) with
    | none => none
    | some (.bad e) => some (.bad e)
    | some (.ok ts j) => R (.ops (Rs.tm ts) j d (l + 1))
  | .ops t i d l => match opR s i with
    | none => some (.ok [t] i)
    | some (n, j) => if levelN n = l then match R (.read j d (l - 1)) with
        | none => none
        | some (.bad e) => some (.bad e)
        | some (.ok us k) => if l = 3 then some (.ok [.mk 3 0 n [t, Rs.tm us]] k) else R (.ops (.mk 3 0 n [t, Rs.tm us]) k d l)
      else some (.ok [t] i)
  | .terms i d e o => match R (.read i d 3) with
    | none => none
    | some (.bad x) => some (.bad x)
    | some (.ok ts j) => if sgn s j e || sgn s j o then some (.ok [Rs.tm ts] j)
      else if sgn s j 44 then match R (.terms (j + 1) d e o) with
        | none => none
        | some (.bad x) => some (.bad x)
        | some (.ok us k) => some (.ok (Rs.tm ts :: us) k)
      else some (.bad j)
  | .prime i d => match s[i]? with
    | none => some (.bad i)
    | some b => if d < 1 then some (.bad i)
      else if b = 40 then match R (.read (i + 1) d 3) with
        | none => none
        | some (.bad e) => some (.bad e)
        | some (.ok ts j) => if sgn s j 41 then some (.ok [Rs.tm ts] (j + 1)) else some (.bad j)
      else if b = 91 ∧ sgn s (i + 1) 93 = false then match R (.terms (i + 1) (d - 1) 93 124) with
        | none => none
        | some (.bad e) => some (.bad e)
        | some (.ok ts j) => if sgn s j 93 then some (.ok [chainT ts nilT] (j + 1))
          else match R (.read (j + 1) (d - 1) 3) with
            | none => none
            | some (.bad e) => some (.bad e)
            | some (.ok us k) => if sgn s k 93 then some (.ok [chainT ts (Rs.tm us)] (k + 1)) else some (.bad k)
      else if bigB b then some (.ok [.mk 1 (b.toNat - 65 : Nat) [] []] (i + 1))
      else if digB b || b == 45 && digAt s (i + 1) then match numR s i with
        | none => some (.bad i)
        | some (n, j) => some (.ok [.mk 2 n [] []] j)
      else match nameR s i with
        | none => some (.bad i)
        | some (n, j) => if sgn s j 40 then match R (.terms (j + 1) (d - 1) 41 41) with
            | none => none
            | some (.bad e) => some (.bad e)
            | some (.ok ts k) => some (.ok [.mk 3 0 n ts] (k + 1))
          else some (.ok [.mk 3 0 n []] j)
/-- the parser; none: it needs more steps -/
def rd (s : List UInt8) : Nat → Job → Option Rs
  | 0, _ => none
  | f + 1, j => step s (rd s f) j
theorem step_mono (s : List UInt8) {R R' : Job → Option Rs} (h : ∀ j r, R j = some r → R' j = some r) (j : Job) (r : Rs) (hr : step s R j = some r) : step s R' j = some r := by
  cases j with
  | read i d l =>
    cases l with
    | zero => exact h _ _ hr
    | succ l =>
      simp only [step] at hr ⊢
      cases hx : R (.read i d l) with
      | none => rw [hx] at hr; cases hr
      | some v =>
        rw [hx] at hr
        rw [h _ _ hx]
        cases v with
        | bad e => exact hr
        | ok ts k => exact h _ _ hr
  | ops t i d l =>
    simp only [step] at hr ⊢
    cases ho : opR s i with
    | none => rw [ho] at hr; exact hr
    | some p =>
      obtain ⟨n, j⟩ := p
      rw [ho] at hr
      simp only at hr ⊢
      split
      · rename_i hl
        rw [if_pos hl] at hr
        cases hx : R (.read j d (l - 1)) with
        | none => rw [hx] at hr; cases hr
        | some v =>
          rw [hx] at hr
          rw [h _ _ hx]
          cases v with
          | bad e => exact hr
          | ok us k =>
            simp only at hr ⊢
            split
            · rename_i h3; rw [if_pos h3] at hr; exact hr
            · rename_i h3; rw [if_neg h3] at hr; exact h _ _ hr
      · rename_i hl; rw [if_neg hl] at hr; exact hr
  | terms i d e o =>
    simp only [step] at hr ⊢
    cases hx : R (.read i d 3) with
    | none => rw [hx] at hr; cases hr
    | some v =>
      rw [hx] at hr
      rw [h _ _ hx]
      cases v with
      | bad e => exact hr
      | ok ts k =>
        simp only at hr ⊢
        split
        · rename_i h1; rw [if_pos h1] at hr; exact hr
        · rename_i h1
          rw [if_neg h1] at hr
          split
          · rename_i h2
            rw [if_pos h2] at hr
            cases hy : R (.terms (k + 1) d e o) with
            | none => rw [hy] at hr; cases hr
            | some w => rw [hy] at hr; rw [h _ _ hy]; exact hr
          · rename_i h2; rw [if_neg h2] at hr; exact hr
  | prime i d =>
    simp only [step] at hr ⊢
    cases hb : s[i]? with
    | none => rw [hb] at hr; exact hr
    | some b =>
      rw [hb] at hr
      simp only at hr ⊢
      split
      · rename_i h1; rw [if_pos h1] at hr; exact hr
      · rename_i h1
        rw [if_neg h1] at hr
        split
        · rename_i h2
          rw [if_pos h2] at hr
          cases hx : R (.read (i + 1) d 3) with
          | none => rw [hx] at hr; cases hr
          | some v => rw [hx] at hr; rw [h _ _ hx]; exact hr
        · rename_i h2
          rw [if_neg h2] at hr
          split
          · rename_i h3
            rw [if_pos h3] at hr
            cases hx : R (.terms (i + 1) (d - 1) 93 124) with
            | none => rw [hx] at hr; cases hr
            | some v =>
              rw [hx] at hr
              rw [h _ _ hx]
              cases v with
              | bad e => exact hr
              | ok ts k =>
                simp only at hr ⊢
                split
                · rename_i h4; rw [if_pos h4] at hr; exact hr
                · rename_i h4
                  rw [if_neg h4] at hr
                  cases hy : R (.read (k + 1) (d - 1) 3) with
                  | none => rw [hy] at hr; cases hr
                  | some w => rw [hy] at hr; rw [h _ _ hy]; exact hr
          · rename_i h3
            rw [if_neg h3] at hr
            split
            · rename_i h4; rw [if_pos h4] at hr; exact hr
            · rename_i h4
              rw [if_neg h4] at hr
              split
              · rename_i h5; rw [if_pos h5] at hr; exact hr
              · rename_i h5
                rw [if_neg h5] at hr
                cases hn : nameR s i with
                | none => rw [hn] at hr; exact hr
                | some p =>
                  obtain ⟨n, j⟩ := p
                  rw [hn] at hr
                  simp only at hr ⊢
                  split
                  · rename_i h6
                    rw [if_pos h6] at hr
                    cases hx : R (.terms (j + 1) (d - 1) 41 41) with
                    | none => rw [hx] at hr; cases hr
                    | some v => rw [hx] at hr; rw [h _ _ hx]; exact hr
                  · rename_i h6; rw [if_neg h6] at hr; exact hr
/-- more steps do no harm -/
theorem rd_succ (s : List UInt8) : ∀ (f : Nat) (j : Job) (r : Rs), rd s f j = some r → rd s (f + 1) j = some r
  | 0, j, r, h => by cases h
  | f + 1, j, r, h => step_mono s (rd_succ s f) j r h
theorem rd_le (s : List UInt8) {f g : Nat} (hfg : f ≤ g) (j : Job) (r : Rs) (h : rd s f j = some r) : rd s g j = some r := by
  induction hfg with
  | refl => exact h
  | step _ ih => exact rd_succ s _ j r ih
end Go.Proofs.YtbblefjbgbocoaaGreatDoor

/-
  The parser comes to an end, and what it gives is small.
  Conditions: none.
-/
open Go Go.AM Go.Proofs
namespace Go.Proofs.YtbblefjbgbocoaaGreatDoor
set_option linter.unusedVariables false
set_option linter.unusedSimpArgs false
set_option maxRecDepth 100000
theorem sgn_lt {s : List UInt8} {i : Nat} {c : UInt8} (h : sgn s i c = true) : i < s.length := by
  unfold sgn at h
  split at h
  · rename_i hb; exact (List.getElem?_eq_some_iff.1 hb).1
  · cases h
theorem runE_le {p : List UInt8 → Nat → Bool} {s : List UInt8} (hp : ∀ i, p s i = true → i < s.length) : ∀ n i, i ≤ runE p s n i ∧ runE p s n i ≤ i + n ∧ (i ≤ s.length → runE p s n i ≤ s.length)
  | 0, i => ⟨Nat.le_refl _, Nat.le_refl _, id⟩
  | n + 1, i => by
    unfold runE
    split
    · rename_i h
      obtain ⟨h1, h2, h3⟩ := runE_le hp n (i + 1)
      have := hp i h
      exact ⟨by omega, by omega, fun _ => h3 (by omega)⟩
    · exact ⟨Nat.le_refl _, by omega, id⟩
theorem dig_lt {s : List UInt8} (i : Nat) (h : digAt s i = true) : i < s.length := by
  unfold digAt at h
  split at h
  · rename_i hb; exact (List.getElem?_eq_some_iff.1 hb).1
  · cases h
theorem sma_lt {s : List UInt8} (i : Nat) (h : smaAt s i = true) : i < s.length := by
  unfold smaAt at h
  split at h
  · rename_i hb; exact (List.getElem?_eq_some_iff.1 hb).1
  · cases h
theorem cutS_len (s : List UInt8) (i j : Nat) : (cutS s i j).length = min j s.length - i := by simp [cutS]
theorem numR_ok {s : List UInt8} {i j : Nat} {n : Int} (hi : i ≤ s.length) (h : numR s i = some (n, j)) : i < j ∧ j ≤ s.length ∧ -999 ≤ n ∧ n ≤ 999 := by
  unfold numR at h
  cases hs : sgn s i 45 with
  | true =>
    have hlt := sgn_lt hs
    have hr := runE_le (dig_lt (s := s)) 4 (i + 1)
    simp only [hs, if_true] at h
    split at h
    · rename_i hc
      simp only [canB, Bool.and_eq_true, decide_eq_true_eq, cutS_len] at hc
      split at h
      · cases h
      · rename_i hn
        simp only [Option.some.injEq, Prod.mk.injEq] at h
        simp at hn
        obtain ⟨h1, h2⟩ := h
        have := hr.2.2 (by omega)
        omega
    · cases h
  | false =>
    have hr := runE_le (dig_lt (s := s)) 4 i
    simp only [hs, Bool.false_eq_true, if_false] at h
    split at h
    · rename_i hc
      simp only [canB, Bool.and_eq_true, decide_eq_true_eq, cutS_len] at hc
      split at h
      · cases h
      · rename_i hn
        simp only [Option.some.injEq, Prod.mk.injEq] at h
        simp at hn
        obtain ⟨h1, h2⟩ := h
        have := hr.2.2 hi
        omega
    · cases h
theorem bestS_ok (s : List UInt8) (i : Nat) : ∀ (l : List (List UInt8)) (b : List UInt8), b.length ≤ 3 → i + b.length ≤ s.length → (∀ n ∈ l, n.length ≤ 3) → (bestS s i l b).length ≤ 3 ∧ i + (bestS s i l b).length ≤ s.length
  | [], b, h1, h2, _ => ⟨h1, h2⟩
  | n :: l, b, h1, h2, h3 => by
    unfold bestS
    split
    · rename_i h
      simp only [Bool.and_eq_true, decide_eq_true_eq] at h
      exact bestS_ok s i l n (h3 n (by simp)) h.1.1 fun m hm => h3 m (by simp [hm])
    · exact bestS_ok s i l b h1 h2 fun m hm => h3 m (by simp [hm])
theorem nameR_ok {s : List UInt8} {i j : Nat} {n : List UInt8} (hi : i ≤ s.length) (h : nameR s i = some (n, j)) : i < j ∧ j ≤ s.length ∧ n.length ≤ 6 := by
  have hr := runE_le (sma_lt (s := s)) s.length i
  have hrl := hr.2.2 hi
  unfold nameR at h
  split at h
  · cases h
  · split at h
    · simp only [Option.some.injEq, Prod.mk.injEq] at h
      obtain ⟨rfl, rfl⟩ := h
      rw [cutS_len]
      omega
    · split at h
      · cases h
      · rename_i hne
        simp only [Option.some.injEq, Prod.mk.injEq] at h
        obtain ⟨rfl, rfl⟩ := h
        obtain ⟨h1, h2⟩ := bestS_ok s i signs [] (by simp) (by simpa using hi) (by decide)
        have : 0 < (bestS s i signs []).length := List.length_pos_iff.2 hne
        omega
theorem opR_ok {s : List UInt8} {i j : Nat} {n : List UInt8} (hi : i ≤ s.length) (h : opR s i = some (n, j)) : i < j ∧ j ≤ s.length ∧ n.length ≤ 6 := by
  unfold opR at h
  have hp : i ≤ (if sgn s i 32 then i + 1 else i) := by split <;> omega
  generalize (if sgn s i 32 then i + 1 else i) = p at h hp
  by_cases hlt : s.length ≤ p
  · rw [if_pos hlt] at h; cases h
  · rw [if_neg hlt] at h
    cases hn : nameR s p with
    | none => rw [hn] at h; cases h
    | some q =>
      obtain ⟨m, k⟩ := q
      rw [hn] at h
      simp only at h
      have hok := nameR_ok (by omega) hn
      split at h
      · cases h
      · split at h
        · cases h
        · rename_i hw
          simp only [Option.some.injEq, Prod.mk.injEq] at h
          obtain ⟨rfl, rfl⟩ := h
          simp at hw
          split
          · rename_i hwb
            have := sgn_lt (hw.2 hwb)
            omega
          · omega
/-- what a job is done from -/
def Job.pre (s : List UInt8) : Job → Prop
  | .read i d l => i ≤ s.length ∧ l ≤ 3
  | .ops t i d l => i ≤ s.length ∧ t.fits ∧ l ≤ 3
  | .terms i d e o => i ≤ s.length
  | .prime i d => i ≤ s.length
/-- .. and what it gives -/
def Job.post (s : List UInt8) : Job → Rs → Prop
  | _, .bad e => e ≤ s.length
  | .read i d l, .ok ts k => i < k ∧ k ≤ s.length ∧ ∃ t, ts = [t] ∧ t.fits
  | .ops t i d l, .ok ts k => i ≤ k ∧ k ≤ s.length ∧ ∃ t, ts = [t] ∧ t.fits
  | .terms i d e o, .ok ts k => i < k ∧ k ≤ s.length ∧ ts.length ≤ k - i ∧ (∀ t ∈ ts, t.fits) ∧ (sgn s k e || sgn s k o) = true
  | .prime i d, .ok ts k => i < k ∧ k ≤ s.length ∧ ∃ t, ts = [t] ∧ t.fits
def Job.m (s : List UInt8) : Job → Nat
  | .read i d l => 8 * (s.length + 1 - i) + l + 2
  | .ops t i d l => 8 * (s.length + 1 - i) + 1
  | .terms i d e o => 8 * (s.length + 1 - i) + 6
  | .prime i d => 8 * (s.length + 1 - i) + 1
theorem fits_st {n : List UInt8} {l : List Tm} (hn : n.length ≤ 6) (hl : l.length ≤ 1048576) (h : ∀ t ∈ l, t.fits) : (Tm.mk 3 0 n l).fits :=
  .mk (by decide) (by decide) (by omega) hl h
theorem fits_chain (l : List Tm) (t : Tm) (hl : ∀ u ∈ l, u.fits) (h : t.fits) : (chainT l t).fits := chain_fits l t hl h
theorem fits_nil : nilT.fits := fits_st (by decide) (by simp) (by simp)
theorem step_ok (s : List UInt8) (hs : s.length ≤ 1000000) {R : Job → Option Rs} (j : Job) (h : ∀ j', j'.m s < j.m s → j'.pre s → ∃ r, R j' = some r ∧ j'.post s r) (hj : j.pre s) : ∃ r, step s R j = some r ∧ j.post s r := by
  cases j with
  | read i d l =>
    obtain ⟨hi, hl⟩ := hj
    cases l with
    | zero =>
      obtain ⟨r, h1, h2⟩ := h (.prime i d) (by simp [Job.m]) hi
      exact ⟨r, h1, by cases r <;> exact h2⟩
    | succ l =>
      obtain ⟨r, h1, h2⟩ := h (.read i d l) (by simp [Job.m]) ⟨hi, by omega⟩
      simp only [step, h1]
      cases r with
      | bad e => exact ⟨_, rfl, h2⟩
      | ok ts k =>
        obtain ⟨g1, g2, t, rfl, g3⟩ := h2
        obtain ⟨r, h3, h4⟩ := h (.ops t k d (l + 1)) (by simp only [Job.m]; omega) ⟨g2, g3, by omega⟩
        refine ⟨r, h3, ?_⟩
        cases r with
        | bad e => exact h4
        | ok ts k2 =>
          obtain ⟨q1, q2, q3⟩ := h4
          exact ⟨by omega, q2, q3⟩
  | ops t i d l =>
    obtain ⟨hi, ht, hl⟩ := hj
    simp only [step]
    cases ho : opR s i with
    | none => exact ⟨_, rfl, Nat.le_refl _, hi, t, rfl, ht⟩
    | some p =>
      obtain ⟨n, j⟩ := p
      obtain ⟨o1, o2, o3⟩ := opR_ok hi ho
      simp only
      split
      · obtain ⟨r, h1, h2⟩ := h (.read j d (l - 1)) (by simp only [Job.m]; omega) ⟨o2, by omega⟩
        simp only [h1]
        cases r with
        | bad e => exact ⟨_, rfl, h2⟩
        | ok us k =>
          obtain ⟨g1, g2, u, rfl, g3⟩ := h2
          have hf : (Tm.mk 3 0 n [t, Rs.tm [u]]).fits := fits_st o3 (by simp) (by simp [Rs.tm, ht, g3])
          simp only
          split
          · exact ⟨_, rfl, by omega, g2, _, rfl, hf⟩
          · obtain ⟨r, h3, h4⟩ := h (.ops (.mk 3 0 n [t, Rs.tm [u]]) k d l) (by simp only [Job.m]; omega) ⟨g2, hf, hl⟩
            refine ⟨r, h3, ?_⟩
            cases r with
            | bad e => exact h4
            | ok ts k2 =>
              obtain ⟨q1, q2, q3⟩ := h4
              exact ⟨by omega, q2, q3⟩
      · exact ⟨_, rfl, Nat.le_refl _, hi, t, rfl, ht⟩
  | terms i d e o =>
    obtain ⟨r, h1, h2⟩ := h (.read i d 3) (by simp only [Job.m]; omega) ⟨hj, by omega⟩
    simp only [step, h1]
    cases r with
    | bad x => exact ⟨_, rfl, h2⟩
    | ok ts k =>
      obtain ⟨g1, g2, t, rfl, g3⟩ := h2
      simp only
      split
      · rename_i he
        exact ⟨_, rfl, g1, g2, by simp; omega, by simpa [Rs.tm] using g3, he⟩
      · split
        · rename_i hc
          have hk := sgn_lt hc
          obtain ⟨r, h3, h4⟩ := h (.terms (k + 1) d e o) (by simp only [Job.m]; omega) (by show k + 1 ≤ s.length; omega)
          simp only [h3]
          cases r with
          | bad x => exact ⟨_, rfl, h4⟩
          | ok us k2 =>
            obtain ⟨q1, q2, q3, q4, q5⟩ := h4
            exact ⟨_, rfl, by omega, q2, by simp; omega, fun u hu => by
              rcases List.mem_cons.1 hu with rfl | hu
              · exact g3
              · exact q4 u hu, q5⟩
        · exact ⟨_, rfl, g2⟩
  | prime i d =>
    have hj : i ≤ s.length := hj
    simp only [step]
    cases hb : s[i]? with
    | none => exact ⟨_, rfl, hj⟩
    | some b =>
      have hlt := (List.getElem?_eq_some_iff.1 hb).1
      simp only
      split
      · exact ⟨_, rfl, hj⟩
      · split
        · obtain ⟨r, h1, h2⟩ := h (.read (i + 1) d 3) (by simp only [Job.m]; omega) ⟨by omega, by omega⟩
          simp only [h1]
          cases r with
          | bad e => exact ⟨_, rfl, h2⟩
          | ok ts k =>
            obtain ⟨g1, g2, t, rfl, g3⟩ := h2
            simp only
            split
            · rename_i hc
              have := sgn_lt hc
              exact ⟨_, rfl, by omega, by omega, t, rfl, g3⟩
            · exact ⟨_, rfl, g2⟩
        · split
          · obtain ⟨r, h1, h2⟩ := h (.terms (i + 1) (d - 1) 93 124) (by simp only [Job.m]; omega) (by show i + 1 ≤ s.length; omega)
            simp only [h1]
            cases r with
            | bad e => exact ⟨_, rfl, h2⟩
            | ok ts k =>
              obtain ⟨g1, g2, g3, g4, g5⟩ := h2
              simp only
              split
              · rename_i hc
                have := sgn_lt hc
                exact ⟨_, rfl, by omega, by omega, _, rfl, fits_chain _ _ g4 fits_nil⟩
              · rename_i hc
                have hk : k < s.length := by
                  rw [Bool.or_eq_true] at g5
                  rcases g5 with g5 | g5 <;> exact sgn_lt g5
                obtain ⟨r, h3, h4⟩ := h (.read (k + 1) (d - 1) 3) (by simp only [Job.m]; omega) ⟨by omega, by omega⟩
                simp only [h3]
                cases r with
                | bad e => exact ⟨_, rfl, h4⟩
                | ok us k2 =>
                  obtain ⟨q1, q2, u, rfl, q3⟩ := h4
                  simp only
                  split
                  · rename_i hc2
                    have := sgn_lt hc2
                    exact ⟨_, rfl, by omega, by omega, _, rfl, fits_chain _ _ g4 q3⟩
                  · exact ⟨_, rfl, q2⟩
          · split
            · refine ⟨_, rfl, by omega, by omega, _, rfl, .mk (by decide) ?_ (by simp) (by simp) (by simp)⟩
              have := b.toNat_lt
              simp [inR, IntKind.min, IntKind.max, IntKind.signed, IntKind.bits]
              omega
            · split
              · cases hn : numR s i with
                | none => exact ⟨_, rfl, hj⟩
                | some p =>
                  obtain ⟨n, j⟩ := p
                  obtain ⟨n1, n2, n3, n4⟩ := numR_ok hj hn
                  exact ⟨_, rfl, n1, n2, _, rfl, .mk (by decide) (small_i64 (by omega) (by omega)) (by simp) (by simp) (by simp)⟩
              · cases hn : nameR s i with
                | none => exact ⟨_, rfl, hj⟩
                | some p =>
                  obtain ⟨n, j⟩ := p
                  obtain ⟨n1, n2, n3⟩ := nameR_ok hj hn
                  simp only
                  split
                  · rename_i hc
                    have := sgn_lt hc
                    obtain ⟨r, h1, h2⟩ := h (.terms (j + 1) (d - 1) 41 41) (by simp only [Job.m]; omega) (by show j + 1 ≤ s.length; omega)
                    simp only [h1]
                    cases r with
                    | bad e => exact ⟨_, rfl, h2⟩
                    | ok ts k =>
                      obtain ⟨g1, g2, g3, g4, g5⟩ := h2
                      have hk : k < s.length := by
                        rw [Bool.or_eq_true] at g5
                        rcases g5 with g5 | g5 <;> exact sgn_lt g5
                      exact ⟨_, rfl, by omega, by omega, _, rfl, fits_st n3 (by omega) g4⟩
                  · exact ⟨_, rfl, n1, n2, _, rfl, fits_st n3 (by simp) (by simp)⟩
theorem rd_total (s : List UInt8) (hs : s.length ≤ 1000000) : ∀ (f : Nat) (j : Job), j.m s < f → j.pre s → ∃ r, rd s f j = some r ∧ j.post s r
  | 0, j, h, _ => absurd h (by omega)
  | f + 1, j, h, hj => step_ok s hs j (fun j' hm hp => rd_total s hs f j' (by omega) hp) hj
/-- .. whatever the number of steps -/
theorem rd_post {s : List UInt8} (hs : s.length ≤ 1000000) {f : Nat} {j : Job} {r : Rs} (hj : j.pre s) (h : rd s f j = some r) : j.post s r := by
  obtain ⟨r', h1, h2⟩ := rd_total s hs (f + j.m s + 1) j (by omega) hj
  rw [rd_le s (by omega) j r h] at h1
  cases h1
  exact h2
/-- the parser with steps enough -/
def rdF (s : List UInt8) (j : Job) : Option Rs := rd s (8 * s.length + 20) j
end Go.Proofs.YtbblefjbgbocoaaGreatDoor

/-
  Terms as they are written: the plain text, its length, its first byte.
  Conditions: none.
-/
open Go Go.AM Go.Proofs
namespace Go.Proofs.YtbblefjbgbocoaaGreatDoor
open Go.ChangeShapes Go.WideShapes Go.ChangeAt Go.RowKit
set_option linter.unusedVariables false
set_option linter.unusedSimpArgs false
set_option maxRecDepth 100000
/-- texts, with a byte between them -/
def joinS (c : UInt8) : List (List UInt8) → List UInt8
  | [] => []
  | [a] => a
  | a :: b :: l => a ++ c :: joinS c (b :: l)
def Tm.atomB (t : Tm) : Bool := decide (t.k = 3) && t.kids.isEmpty
def Tm.lv (t : Tm) : Int := if t.kids.length = 2 then levelN t.s else 0
def plainC (b : UInt8) : Bool := decide (97 ≤ b.toNat ∧ b.toNat ≤ 122) || decide (65 ≤ b.toNat ∧ b.toNat ≤ 90) || decide (48 ≤ b.toNat ∧ b.toNat ≤ 57) || b == 91 || b == 40
def opnd (t : Tm) (w : List UInt8) (most : Int) (right : Bool) : List UInt8 :=
  if decide (most < t.lv) || (t.atomB && decide (0 < levelN t.s)) || (right && !plainC (w.headD 0)) then 40 :: w ++ [41] else w
def opSp (s : List UInt8) : List UInt8 := if lettersB s then 32 :: s ++ [32] else s
def leftMost (s : List UInt8) : Int := if leftB s then levelN s else levelN s - 1
def leafT : Tm := .mk 3 0 [91, 93] []
def wrNode (k n : Int) (s : List UInt8) (l : List Tm) (ws ts : List (List UInt8)) : List UInt8 :=
  if k = 1 then [UInt8.ofNat (65 + n.toNat)]
  else if k = 2 then Lib.itoa n
  else if s = [46] ∧ l.length = 2 then 91 :: ws.headD [] ++ ts.getD 1 [] ++ [93]
  else if l.length = 2 ∧ 0 < levelN s then opnd (l.getD 0 leafT) (ws.getD 0 []) (leftMost s) false ++ opSp s ++ opnd (l.getD 1 leafT) (ws.getD 1 []) (levelN s - 1) true
  else if l = [] then s else s ++ 40 :: joinS 44 ws ++ [41]
mutual
def Tm.wr : Tm → List UInt8
  | .mk k n s l => wrNode k n s l (wrs l) (wrts l)
/-- the rest of a list -/
def Tm.wrt : Tm → List UInt8
  | .mk k n s l => if k = 3 ∧ s = [46] ∧ l.length = 2 then 44 :: (wrs l).headD [] ++ (wrts l).getD 1 []
    else if k = 3 ∧ s = [91, 93] ∧ l = [] then [] else 124 :: wrNode k n s l (wrs l) (wrts l)
def wrs : List Tm → List (List UInt8)
  | [] => []
  | t :: l => t.wr :: wrs l
def wrts : List Tm → List (List UInt8)
  | [] => []
  | t :: l => t.wrt :: wrts l
end
theorem wrs_map : ∀ l : List Tm, wrs l = l.map Tm.wr
  | [] => by rw [wrs]; rfl
  | t :: l => by rw [wrs, wrs_map l]; rfl
theorem wrts_map : ∀ l : List Tm, wrts l = l.map Tm.wrt
  | [] => by rw [wrts]; rfl
  | t :: l => by rw [wrts, wrts_map l]; rfl
theorem joinS_len (c : UInt8) : ∀ (l : List (List UInt8)), (joinS c l).length ≤ (l.map fun x => x.length + 1).sum
  | [] => by simp [joinS]
  | [a] => by simp [joinS]
  | a :: b :: l => by
    have ih := joinS_len c (b :: l)
    simp [joinS] at ih ⊢
    omega
theorem itoa_short {n : Int} (h0 : -999 ≤ n) (h1 : n ≤ 999) : 1 ≤ (Lib.itoa n).length ∧ (Lib.itoa n).length ≤ 5 := by
  have key : ∀ u : Nat, u ≤ 999 → 1 ≤ (Lib.decDigits u).length ∧ (Lib.decDigits u).length ≤ 4 := by
    intro u hu
    rw [Lib.decDigits]
    split
    · simp
    · rw [Lib.decDigits]
      split
      · simp
      · rw [Lib.decDigits]
        split
        · simp
        · rw [Lib.decDigits, dif_pos (by omega)]
          simp
  unfold Lib.itoa
  split
  · have := key n.natAbs (by omega)
    simp
    omega
  · have := key n.toNat (by omega)
    omega
theorem opnd_len (t : Tm) (w : List UInt8) (m : Int) (r : Bool) : (opnd t w m r).length ≤ w.length + 2 := by
  unfold opnd
  split <;> simp
theorem opnd_ne {t : Tm} {w : List UInt8} {m : Int} {r : Bool} (h : w ≠ []) : opnd t w m r ≠ [] := by
  unfold opnd
  split
  · simp
  · exact h
theorem opSp_len (s : List UInt8) : (opSp s).length ≤ s.length + 2 := by
  unfold opSp
  split <;> simp
theorem sum_wr : ∀ l : List Tm, (∀ t ∈ l, t.wr.length ≤ 20 * t.size) → ((l.map Tm.wr).map fun x => x.length + 1).sum ≤ 20 * sizes l + l.length
  | [], _ => by simp [sizes]
  | a :: l, h => by
    have ha := h a (by simp)
    have := sum_wr l fun t ht => h t (by simp [ht])
    simp [sizes] at this ⊢
    omega
/-- how long a text is -/
theorem wr_len : ∀ t : Tm, t.good → (t.wr.length ≤ 20 * t.size ∧ t.wrt.length ≤ 20 * t.size + 1) ∧ t.wr ≠ [] := by
  refine Tm.ind fun k n s l ih hg => ?_
  obtain ⟨ho, hk⟩ := hg
  have ih2 := fun t ht => ih t ht (hk t ht)
  have hnode : (wrNode k n s l (wrs l) (wrts l)).length ≤ 20 * (Tm.mk k n s l).size ∧ wrNode k n s l (wrs l) (wrts l) ≠ [] := by
    unfold wrNode
    rw [wrs_map, wrts_map, Tm.size]
    rcases own_cases ho with ⟨rfl, _, _, rfl, rfl⟩ | ⟨rfl, n0, n1, rfl, rfl⟩ | ⟨rfl, rfl, hs, hl⟩
    · simp; omega
    · have := itoa_short n0 n1
      simp
      refine ⟨by omega, fun h => ?_⟩
      rw [h] at this
      simp at this
    · obtain ⟨s1, s6⟩ := name_len hs
      have hsne : s ≠ [] := by intro h; subst h; simp at s1
      simp only [show ¬ (3 : Int) = 1 by decide, show ¬ (3 : Int) = 2 by decide, if_false]
      split
      · rename_i hp
        match l, hp.2, ih2 with
        | [a, b], _, ih2 =>
          have ha := ih2 a (by simp)
          have hb := ih2 b (by simp)
          simp [sizes]
          omega
      · split
        · rename_i hp hq
          match l, hq.1, ih2 with
          | [a, b], _, ih2 =>
            have ha := ih2 a (by simp)
            have hb := ih2 b (by simp)
            have h1 := opnd_len a a.wr (leftMost s) false
            have h2 := opnd_len b b.wr (levelN s - 1) true
            have h3 := opSp_len s
            simp [sizes, opnd_ne ha.2]
            omega
        · split
          · simp [hsne]; omega
          · refine ⟨?_, by simp⟩
            have hj := joinS_len 44 (l.map Tm.wr)
            have hsum := sum_wr l (fun t ht => (ih2 t ht).1.1)
            simp
            omega
  refine ⟨⟨by rw [Tm.wr]; exact hnode.1, ?_⟩, by rw [Tm.wr]; exact hnode.2⟩
  rw [Tm.wrt]
  split
  · rename_i hp
    rw [wrs_map, wrts_map, Tm.size]
    match l, hp.2.2, ih2 with
    | [a, b], _, ih2 =>
      have ha := ih2 a (by simp)
      have hb := ih2 b (by simp)
      simp [sizes]
      omega
  · split
    · simp
    · simp
      exact hnode.1
end Go.Proofs.YtbblefjbgbocoaaGreatDoor

/-
  A parser of terms with operators, in plain Lean, as the program's goes.
  Conditions: none.
-/
open Go Go.AM Go.Proofs
namespace Go.Proofs.YtbblefjbgbocoaaGreatDoor
set_option linter.unusedVariables false
set_option linter.unusedSimpArgs false
set_option maxRecDepth 100000
/-- what the program's reader is to read -/
inductive PJ where
  | term (l d i : Nat)
  | loop (t : Tm) (m l d i : Nat)
  | args (d i : Nat)
  | items (d n i : Nat)
  | prime (d i : Nat)
/-- what comes behind a result -/
def thn (r : Option Rs) (k : List Tm → Nat → Option Rs) : Option Rs := match r with
  | none => none
  | some (.bad e) => some (.bad e)
  | some (.ok ts j) => k ts j
theorem thn_some {r : Option Rs} {k : List Tm → Nat → Option Rs} {v : Rs} (h : thn r k = some v) : (∃ e, r = some (.bad e) ∧ v = .bad e) ∨ ∃ ts j, r = some (.ok ts j) ∧ k ts j = some v := by
  unfold thn at h
  split at h
  · cases h
  · rename_i e; cases h; exact .inl ⟨e, rfl, rfl⟩
  · rename_i ts j; exact .inr ⟨ts, j, rfl, h⟩
theorem thn_bad (e : Nat) (k : List Tm → Nat → Option Rs) : thn (some (.bad e)) k = some (.bad e) := rfl
theorem thn_ok (ts : List Tm) (j : Nat) (k : List Tm → Nat → Option Rs) : thn (some (.ok ts j)) k = k ts j := rfl
theorem thn_mono {r r' : Option Rs} {k k' : List Tm → Nat → Option Rs} (hr : ∀ v, r = some v → r' = some v) (hk : ∀ ts j v, k ts j = some v → k' ts j = some v) {v : Rs} (h : thn r k = some v) : thn r' k' = some v := by
  rcases thn_some h with ⟨e, h1, rfl⟩ | ⟨ts, j, h1, h2⟩
  · rw [hr _ h1]; rfl
  · rw [hr _ h1]; exact hk _ _ _ h2
/-- one step of the program's reader -/
def pstep (s : List UInt8) (R : PJ → Option Rs) : PJ → Option Rs
  | .term l d i => thn (R (.prime d i)) fun ts j => R (.loop (Rs.tm ts) 0 l d j)
  | .loop t m l d i => match opR s i with
    | none => some (.ok [t] i)
    | some (n, j) => if (l : Int) < levelN n ∨ leftMost n < (m : Int) then some (.ok [t] i)
      else thn (R (.term (levelN n - 1).toNat d j)) fun us k => R (.loop (.mk 3 0 n [t, Rs.tm us]) (levelN n).toNat l d k)
  | .args d i => thn (R (.term 3 (d + 1) (i + 1))) fun ts j => if sgn s j 44 then thn (R (.args d j)) fun us k => some (.ok (Rs.tm ts :: us) k) else some (.ok [Rs.tm ts] j)
  | .items d n i => thn (R (.term 3 (d + 1 + n) i)) fun ts j => if sgn s j 44 then thn (R (.items d (n + 1) (j + 1))) fun us k => some (.ok (Rs.tm ts :: us) k) else some (.ok [Rs.tm ts] j)
  | .prime d i => if 30 < d then some (.bad i) else match s[i]? with
    | none => some (.bad i)
    | some b => if bigB b then some (.ok [.mk 1 (b.toNat - 65 : Nat) [] []] (i + 1))
      else if digB b || b == 45 && digAt s (i + 1) then match numR s i with
        | none => some (.bad i)
        | some (n, j) => some (.ok [.mk 2 n [] []] j)
      else if b = 40 then thn (R (.term 3 d (i + 1))) fun ts j => if sgn s j 41 then some (.ok [Rs.tm ts] (j + 1)) else some (.bad j)
      else if b = 91 ∧ sgn s (i + 1) 93 = false then thn (R (.items d 0 (i + 1))) fun ts j =>
        if sgn s j 124 then thn (R (.term 3 (d + ts.length) (j + 1))) fun us k => if sgn s k 93 then some (.ok [chainT ts (Rs.tm us)] (k + 1)) else some (.bad k)
        else if sgn s j 93 then some (.ok [chainT ts nilT] (j + 1)) else some (.bad j)
      else match nameR s i with
        | none => some (.bad i)
        | some (n, j) => if sgn s j 40 then thn (R (.args d j)) fun ts k => if sgn s k 41 then some (.ok [.mk 3 0 n ts] (k + 1)) else some (.bad k)
          else some (.ok [.mk 3 0 n []] j)
/-- the program's reader; none: it needs more steps -/
def rp (s : List UInt8) : Nat → PJ → Option Rs
  | 0, _ => none
  | f + 1, j => pstep s (rp s f) j
theorem pstep_mono (s : List UInt8) {R R' : PJ → Option Rs} (h : ∀ j r, R j = some r → R' j = some r) (j : PJ) (r : Rs) (hr : pstep s R j = some r) : pstep s R' j = some r := by
  cases j with
  | term l d i => exact thn_mono (h _) (fun ts j v => h _ v) hr
  | loop t m l d i =>
    simp only [pstep] at hr ⊢
    split
    · rename_i ho; rw [ho] at hr; exact hr
    · rename_i n j ho
      rw [ho] at hr
      simp only at hr
      split
      · rename_i hc; rw [if_pos hc] at hr; exact hr
      · rename_i hc; rw [if_neg hc] at hr; exact thn_mono (h _) (fun ts j v => h _ v) hr
  | args d i =>
    refine thn_mono (h _) (fun ts j v hv => ?_) hr
    split
    · rename_i hc; rw [if_pos hc] at hv; exact thn_mono (h _) (fun ts j v => id) hv
    · rename_i hc; rw [if_neg hc] at hv; exact hv
  | items d n i =>
    refine thn_mono (h _) (fun ts j v hv => ?_) hr
    split
    · rename_i hc; rw [if_pos hc] at hv; exact thn_mono (h _) (fun ts j v => id) hv
    · rename_i hc; rw [if_neg hc] at hv; exact hv
  | prime d i =>
    simp only [pstep] at hr ⊢
    split
    · rename_i h1; rw [if_pos h1] at hr; exact hr
    · rename_i h1
      rw [if_neg h1] at hr
      cases hb : s[i]? with
      | none => rw [hb] at hr; exact hr
      | some b =>
        rw [hb] at hr
        simp only at hr ⊢
        split
        · rename_i h2; rw [if_pos h2] at hr; exact hr
        · rename_i h2
          rw [if_neg h2] at hr
          split
          · rename_i h3; rw [if_pos h3] at hr; exact hr
          · rename_i h3
            rw [if_neg h3] at hr
            split
            · rename_i h4; rw [if_pos h4] at hr; exact thn_mono (h _) (fun ts j v => id) hr
            · rename_i h4
              rw [if_neg h4] at hr
              split
              · rename_i h5
                rw [if_pos h5] at hr
                refine thn_mono (h _) (fun ts j v hv => ?_) hr
                split
                · rename_i h6; rw [if_pos h6] at hv; exact thn_mono (h _) (fun ts j v => id) hv
                · rename_i h6; rw [if_neg h6] at hv; exact hv
              · rename_i h5
                rw [if_neg h5] at hr
                cases hn : nameR s i with
                | none => rw [hn] at hr; exact hr
                | some p =>
                  obtain ⟨n, j⟩ := p
                  rw [hn] at hr
                  simp only at hr ⊢
                  split
                  · rename_i h6; rw [if_pos h6] at hr; exact thn_mono (h _) (fun ts j v => id) hr
                  · rename_i h6; rw [if_neg h6] at hr; exact hr
theorem rp_succ (s : List UInt8) : ∀ (f : Nat) (j : PJ) (r : Rs), rp s f j = some r → rp s (f + 1) j = some r
  | 0, j, r, h => by cases h
  | f + 1, j, r, h => pstep_mono s (rp_succ s f) j r h
theorem rp_le (s : List UInt8) {f g : Nat} (hfg : f ≤ g) (j : PJ) (r : Rs) (h : rp s f j = some r) : rp s g j = some r := by
  induction hfg with
  | refl => exact h
  | step _ ih => exact rp_succ s _ j r ih
/-- what a job is done from -/
def PJ.pre (s : List UInt8) : PJ → Prop
  | .term l d i => i ≤ s.length ∧ l ≤ 3
  | .loop t m l d i => i ≤ s.length ∧ t.fits ∧ l ≤ 3 ∧ m ≤ 3
  | .args d i => i < s.length
  | .items d n i => i ≤ s.length
  | .prime d i => i ≤ s.length
/-- .. and what it gives -/
def PJ.post (s : List UInt8) : PJ → Rs → Prop
  | _, .bad e => e ≤ s.length
  | .term l d i, .ok ts k => i < k ∧ k ≤ s.length ∧ ∃ t, ts = [t] ∧ t.fits
  | .loop t m l d i, .ok ts k => i ≤ k ∧ k ≤ s.length ∧ ∃ t, ts = [t] ∧ t.fits
  | .args d i, .ok ts k => i < k ∧ k ≤ s.length ∧ ts.length ≤ k - i ∧ ∀ t ∈ ts, t.fits
  | .items d n i, .ok ts k => i < k ∧ k ≤ s.length ∧ ts.length ≤ k - i ∧ ∀ t ∈ ts, t.fits
  | .prime d i, .ok ts k => i < k ∧ k ≤ s.length ∧ ∃ t, ts = [t] ∧ t.fits
def PJ.m (s : List UInt8) : PJ → Nat
  | .term l d i => 8 * (s.length + 1 - i) + 4
  | .loop t m l d i => 8 * (s.length + 1 - i) + 1
  | .args d i => 8 * (s.length + 1 - i)
  | .items d n i => 8 * (s.length + 1 - i) + 6
  | .prime d i => 8 * (s.length + 1 - i) + 1
theorem levelN_le (n : List UInt8) : 0 ≤ levelN n ∧ levelN n ≤ 3 := by
  unfold levelN
  split
  · omega
  · split
    · omega
    · split <;> omega
theorem pstep_ok (s : List UInt8) (hs : s.length ≤ 1000000) {R : PJ → Option Rs} (j : PJ) (h : ∀ j', j'.m s < j.m s → j'.pre s → ∃ r, R j' = some r ∧ j'.post s r) (hj : j.pre s) : ∃ r, pstep s R j = some r ∧ j.post s r := by
  cases j with
  | term l d i =>
    obtain ⟨hi, hl⟩ := hj
    obtain ⟨r, h1, h2⟩ := h (.prime d i) (by simp [PJ.m]) hi
    simp only [pstep, h1]
    cases r with
    | bad e => exact ⟨_, rfl, h2⟩
    | ok ts k =>
      obtain ⟨g1, g2, t, rfl, g3⟩ := h2
      obtain ⟨r, h3, h4⟩ := h (.loop t 0 l d k) (by simp only [PJ.m]; omega) ⟨g2, g3, hl, by omega⟩
      refine ⟨r, h3, ?_⟩
      cases r with
      | bad e => exact h4
      | ok ts k2 => obtain ⟨q1, q2, q3⟩ := h4; exact ⟨by omega, q2, q3⟩
  | loop t m l d i =>
    obtain ⟨hi, ht, hl, hm⟩ := hj
    simp only [pstep]
    cases ho : opR s i with
    | none => exact ⟨_, rfl, Nat.le_refl _, hi, t, rfl, ht⟩
    | some p =>
      obtain ⟨n, j⟩ := p
      obtain ⟨o1, o2, o3⟩ := opR_ok hi ho
      have hlv := levelN_le n
      simp only
      split
      · exact ⟨_, rfl, Nat.le_refl _, hi, t, rfl, ht⟩
      · obtain ⟨r, h1, h2⟩ := h (.term (levelN n - 1).toNat d j) (by simp only [PJ.m]; omega) ⟨o2, by omega⟩
        simp only [h1]
        cases r with
        | bad e => exact ⟨_, rfl, h2⟩
        | ok us k =>
          obtain ⟨g1, g2, u, rfl, g3⟩ := h2
          have hf : (Tm.mk 3 0 n [t, Rs.tm [u]]).fits := fits_st o3 (by simp) (by simp [Rs.tm, ht, g3])
          obtain ⟨r, h3, h4⟩ := h (.loop (.mk 3 0 n [t, Rs.tm [u]]) (levelN n).toNat l d k) (by simp only [PJ.m]; omega) ⟨g2, hf, hl, by omega⟩
          refine ⟨r, h3, ?_⟩
          cases r with
          | bad e => exact h4
          | ok ts k2 => obtain ⟨q1, q2, q3⟩ := h4; exact ⟨by omega, q2, q3⟩
  | args d i =>
    have hj : i < s.length := hj
    obtain ⟨r, h1, h2⟩ := h (.term 3 (d + 1) (i + 1)) (by simp only [PJ.m]; omega) ⟨by omega, by omega⟩
    simp only [pstep, h1]
    cases r with
    | bad x => exact ⟨_, rfl, h2⟩
    | ok ts k =>
      obtain ⟨g1, g2, t, rfl, g3⟩ := h2
      simp only [thn_ok]
      split
      · rename_i hc
        have hk := sgn_lt hc
        obtain ⟨r, h3, h4⟩ := h (.args d k) (by simp only [PJ.m]; omega) hk
        simp only [h3]
        cases r with
        | bad x => exact ⟨_, rfl, h4⟩
        | ok us k2 =>
          obtain ⟨q1, q2, q3, q4⟩ := h4
          exact ⟨_, rfl, by omega, q2, by simp; omega, fun u hu => by
            rcases List.mem_cons.1 hu with rfl | hu
            · exact g3
            · exact q4 u hu⟩
      · exact ⟨_, rfl, by omega, g2, by simp; omega, by simpa [Rs.tm] using g3⟩
  | items d n i =>
    have hj : i ≤ s.length := hj
    obtain ⟨r, h1, h2⟩ := h (.term 3 (d + 1 + n) i) (by simp only [PJ.m]; omega) ⟨by omega, by omega⟩
    simp only [pstep, h1]
    cases r with
    | bad x => exact ⟨_, rfl, h2⟩
    | ok ts k =>
      obtain ⟨g1, g2, t, rfl, g3⟩ := h2
      simp only [thn_ok]
      split
      · rename_i hc
        have hk := sgn_lt hc
        obtain ⟨r, h3, h4⟩ := h (.items d (n + 1) (k + 1)) (by simp only [PJ.m]; omega) (by show k + 1 ≤ s.length; omega)
        simp only [h3]
        cases r with
        | bad x => exact ⟨_, rfl, h4⟩
        | ok us k2 =>
          obtain ⟨q1, q2, q3, q4⟩ := h4
          exact ⟨_, rfl, by omega, q2, by simp; omega, fun u hu => by
            rcases List.mem_cons.1 hu with rfl | hu
            · exact g3
            · exact q4 u hu⟩
      · exact ⟨_, rfl, by omega, g2, by simp; omega, by simpa [Rs.tm] using g3⟩
  | prime d i =>
    have hj : i ≤ s.length := hj
    simp only [pstep]
    split
    · exact ⟨_, rfl, hj⟩
    · cases hb : s[i]? with
      | none => exact ⟨_, rfl, hj⟩
      | some b =>
        have hlt := (List.getElem?_eq_some_iff.1 hb).1
        simp only
        split
        · refine ⟨_, rfl, by omega, by omega, _, rfl, .mk (by decide) ?_ (by simp) (by simp) (by simp)⟩
          have := b.toNat_lt
          simp [inR, IntKind.min, IntKind.max, IntKind.signed, IntKind.bits]
          omega
        · split
          · cases hn : numR s i with
            | none => exact ⟨_, rfl, hj⟩
            | some p =>
              obtain ⟨n, j⟩ := p
              obtain ⟨n1, n2, n3, n4⟩ := numR_ok hj hn
              exact ⟨_, rfl, n1, n2, _, rfl, .mk (by decide) (small_i64 (by omega) (by omega)) (by simp) (by simp) (by simp)⟩
          · split
            · obtain ⟨r, h1, h2⟩ := h (.term 3 d (i + 1)) (by simp only [PJ.m]; omega) ⟨by omega, by omega⟩
              simp only [h1]
              cases r with
              | bad e => exact ⟨_, rfl, h2⟩
              | ok ts k =>
                obtain ⟨g1, g2, t, rfl, g3⟩ := h2
                simp only [thn_ok]
                split
                · rename_i hc
                  have := sgn_lt hc
                  exact ⟨_, rfl, by omega, by omega, t, rfl, g3⟩
                · exact ⟨_, rfl, g2⟩
            · split
              · obtain ⟨r, h1, h2⟩ := h (.items d 0 (i + 1)) (by simp only [PJ.m]; omega) (by show i + 1 ≤ s.length; omega)
                simp only [h1]
                cases r with
                | bad e => exact ⟨_, rfl, h2⟩
                | ok ts k =>
                  obtain ⟨g1, g2, g3, g4⟩ := h2
                  simp only [thn_ok]
                  split
                  · rename_i hc
                    have hk := sgn_lt hc
                    obtain ⟨r, h3, h4⟩ := h (.term 3 (d + ts.length) (k + 1)) (by simp only [PJ.m]; omega) ⟨by omega, by omega⟩
                    simp only [h3]
                    cases r with
                    | bad e => exact ⟨_, rfl, h4⟩
                    | ok us k2 =>
                      obtain ⟨q1, q2, u, rfl, q3⟩ := h4
                      simp only [thn_ok]
                      split
                      · rename_i hc2
                        have := sgn_lt hc2
                        exact ⟨_, rfl, by omega, by omega, _, rfl, fits_chain _ _ g4 q3⟩
                      · exact ⟨_, rfl, q2⟩
                  · split
                    · rename_i hc
                      have := sgn_lt hc
                      exact ⟨_, rfl, by omega, by omega, _, rfl, fits_chain _ _ g4 fits_nil⟩
                    · exact ⟨_, rfl, g2⟩
              · cases hn : nameR s i with
                | none => exact ⟨_, rfl, hj⟩
                | some p =>
                  obtain ⟨n, j⟩ := p
                  obtain ⟨n1, n2, n3⟩ := nameR_ok hj hn
                  simp only
                  split
                  · rename_i hc
                    have hk := sgn_lt hc
                    obtain ⟨r, h1, h2⟩ := h (.args d j) (by simp only [PJ.m]; omega) hk
                    simp only [h1]
                    cases r with
                    | bad e => exact ⟨_, rfl, h2⟩
                    | ok ts k =>
                      obtain ⟨g1, g2, g3, g4⟩ := h2
                      simp only [thn_ok]
                      split
                      · rename_i hc2
                        have := sgn_lt hc2
                        exact ⟨_, rfl, by omega, by omega, _, rfl, fits_st n3 (by omega) g4⟩
                      · exact ⟨_, rfl, g2⟩
                  · exact ⟨_, rfl, n1, n2, _, rfl, fits_st n3 (by simp) (by simp)⟩
theorem rp_total (s : List UInt8) (hs : s.length ≤ 1000000) : ∀ (f : Nat) (j : PJ), j.m s < f → j.pre s → ∃ r, rp s f j = some r ∧ j.post s r
  | 0, j, h, _ => absurd h (by omega)
  | f + 1, j, h, hj => pstep_ok s hs j (fun j' hm hp => rp_total s hs f j' (by omega) hp) hj
theorem rp_post {s : List UInt8} (hs : s.length ≤ 1000000) {f : Nat} {j : PJ} {r : Rs} (hj : j.pre s) (h : rp s f j = some r) : j.post s r := by
  obtain ⟨r', h1, h2⟩ := rp_total s hs (f + j.m s + 1) j (by omega) hj
  rw [rp_le s (by omega) j r h] at h1
  cases h1
  exact h2
end Go.Proofs.YtbblefjbgbocoaaGreatDoor

/-
  The program's reader: the object that it works on, and its smallest steps.
  Conditions: none.
-/
open Go Go.AM Go.Proofs
namespace Go.Proofs.YtbblefjbgbocoaaGreatDoor
open Go.ChangeShapes Go.WideShapes Go.ChangeAt Go.RowKit
set_option linter.unusedVariables false
set_option linter.unusedSimpArgs false
set_option maxRecDepth 100000
-- 204 (*loop.example/prologserver/impl.reader).stop params 2 ntmps 15
def ac204 : Cd := .seq (.region [⟨(some 4),.alloc [(.d (.int .i64 0)),(.d (.int .i64 0)),(.d (.str [])),(.full [])],none⟩] [])
 (.seq (.seq (.region [⟨(some 5),.mv (.t 0),none⟩,
 ⟨(some 6),.nilCheck (.t 5),none⟩,
 ⟨(some 7),.fieldAddr 2 (.t 6),none⟩,
 ⟨(some 8),.load none (.t 7),none⟩,
 ⟨(some 9),.bin .lss (.t 8) (.k (.c (.d (.int .i64 0)))),none⟩] [5,6,7,8])
 (.cond (.t 9)
 (.region [⟨(some 10),.mv (.t 0),none⟩,
 ⟨(some 11),.mv (.t 1),none⟩,
 ⟨(some 12),.nilCheck (.t 10),none⟩,
 ⟨(some 13),.fieldAddr 2 (.t 12),none⟩,
 ⟨none,.store 1 (.t 13) (.t 11),none⟩] [0,1,9,10,11,12,13])
 (.skip)))
 (.seq (.region [⟨(some 14),.build [(.d (.int .i64 0)),(.d (.int .i64 0)),(.d (.str [])),(.full [])] [],none⟩,
 ⟨none,.store 4 (.t 4) (.t 14),none⟩] [0,1,9,14])
 (.ret)))
theorem ac204_ok : cFunc Tryz.prog [] [(0,[],[]),(1,[5,6,7,8],[]),(2,[0,1,9,10,11,12,13],[]),(3,[0,1,9,14],[])] Tryz.f204 = some (ac204,[.cell 4 (some 4)],15) := by kernel_rfl
-- 110 (*loop.example/prologserver/impl.reader).next params 1 ntmps 29
def ac110 : Cd := .seq (.region [⟨(some 2),.mv (.k (.c (.d (.int .u8 0)))),none⟩] [2])
 (.seq (.seq (.region [⟨(some 3),.mv (.t 0),none⟩,
 ⟨(some 4),.nilCheck (.t 3),none⟩,
 ⟨(some 5),.fieldAddr 2 (.t 4),none⟩,
 ⟨(some 6),.load none (.t 5),none⟩,
 ⟨(some 7),.bin .geq (.t 6) (.k (.c (.d (.int .i64 0)))),none⟩,
 ⟨(some 8),.mv (.t 7),none⟩,
 ⟨(some 9),.mv (.t 0),some (8,false)⟩,
 ⟨(some 10),.nilCheck (.t 9),some (8,false)⟩,
 ⟨(some 11),.fieldAddr 1 (.t 10),some (8,false)⟩,
 ⟨(some 13),.mv (.t 0),some (8,false)⟩,
 ⟨(some 14),.nilCheck (.t 13),some (8,false)⟩,
 ⟨(some 15),.fieldAddr 0 (.t 14),some (8,false)⟩,
 ⟨(some 12),.load none (.t 11),some (8,false)⟩,
 ⟨(some 16),.load none (.t 15),some (8,false)⟩,
 ⟨(some 17),.len 0 (.t 16),some (8,false)⟩,
 ⟨(some 18),.bin .geq (.t 12) (.t 17),some (8,false)⟩,
 ⟨(some 19),.pick (.t 8) (.k (.c (.d (.bool true)))) (.t 18),none⟩] [3,4,5,6,7,8,9,10,11,12,13,14,15,16,17,18])
 (.cond (.t 19)
 (.seq (.region [⟨(some 2),.mv (.k (.c (.d (.int .u8 0)))),none⟩] [0,19])
 (.ret))
 (.skip)))
 (.seq (.region [⟨(some 20),.mv (.t 0),none⟩,
 ⟨(some 21),.nilCheck (.t 20),none⟩,
 ⟨(some 22),.fieldAddr 0 (.t 21),none⟩,
 ⟨(some 24),.mv (.t 0),none⟩,
 ⟨(some 25),.nilCheck (.t 24),none⟩,
 ⟨(some 26),.fieldAddr 1 (.t 25),none⟩,
 ⟨(some 23),.load none (.t 22),none⟩,
 ⟨(some 27),.load none (.t 26),none⟩,
 ⟨(some 28),.index (.t 23) (.t 27),none⟩,
 ⟨(some 2),.mv (.t 28),none⟩] [0,19,20,21,22,23,24,25,26,27,28])
 (.ret)))
theorem ac110_ok : cFunc Tryz.prog [] [(0,[2],[]),(1,[3,4,5,6,7,8,9,10,11,12,13,14,15,16,17,18],[0,1,2,3,4,5,6,7,8,10,11,12,9,13,14,15,16]),(2,[0,19],[]),(3,[0,19,20,21,22,23,24,25,26,27,28],[0,1,2,4,5,6,3,7,8,9])] Tryz.f110 = some (ac110,[.tmp 2],29) := by kernel_rfl
def rdO (s : List UInt8) (a : Nat) (b : Int) : Ob := .cells [.d (.str s), .d (.int .i64 a), .d (.int .i64 b), .d (.bool true)]
/-- the reader in the heap -/
def ro (H : Heap) (i : Nat) (s : List UInt8) (a : Nat) (b : Int) : Heap := H.set i (rdO s a b)
/-- what the library's calls read is told -/
def Hp (H : Heap) : Prop := ∃ o o2, H[0]? = some (.tab 2 o) ∧ H[1]? = some (.tab 1 o2) ∧ Tab 2 o ∧ ERg o2
theorem ro_len (H : Heap) (i : Nat) (s : List UInt8) (a : Nat) (b : Int) : (ro H i s a b).length = H.length := by simp [ro]
theorem ro_get {H : Heap} {i : Nat} (h : i < H.length) (s : List UInt8) (a : Nat) (b : Int) : (ro H i s a b)[i]? = some (.cells [.d (.str s), .d (.int .i64 a), .d (.int .i64 b), .d (.bool true)]) := by simp [ro, rdO, h]
theorem ro_other {H : Heap} {i j : Nat} (h : j ≠ i) (s : List UInt8) (a : Nat) (b : Int) : (ro H i s a b)[j]? = H[j]? := by
  simp only [ro, List.getElem?_set]
  rw [if_neg (fun e => h e.symm)]
theorem ro_set (H : Heap) (i : Nat) (s : List UInt8) (a : Nat) (b : Int) (a' : Nat) (b' : Int) : (ro H i s a b).set i (.cells [.d (.str s), .d (.int .i64 a'), .d (.int .i64 b'), .d (.bool true)]) = ro H i s a' b' := by simp [ro, rdO]
theorem ro_set1 (H : Heap) (i : Nat) (s : List UInt8) (a : Nat) (b : Int) (k : Nat) : (ro H i s a b).set i (.cells [.d (.str s), .d (.int .i64 ((a : Int) + (k : Int))), .d (.int .i64 b), .d (.bool true)]) = ro H i s (a + k) b := by simp [ro, rdO]
theorem ro_up (H : Heap) (i : Nat) (s : List UInt8) (a : Nat) (b : Int) : (ro H i s a b).set i (.cells [.d (.str s), .d (.int .i64 ((a : Int) + 1)), .d (.int .i64 b), .d (.bool true)]) = ro H i s (a + 1) b := by simp [ro, rdO]
theorem ro_append {H L : Heap} {i : Nat} (h : i < H.length) (s : List UInt8) (a : Nat) (b : Int) : ro H i s a b ++ L = ro (H ++ L) i s a b := by
  simp only [ro]
  rw [List.set_append_left _ _ h]
theorem ro_fits {H : Heap} {i : Nat} {s s' : List UInt8} {a a' : Nat} {b b' : Int} (h : Obs.fits H.length 0 (ro H i s a b)) : Obs.fits H.length 0 (ro H i s' a' b') := by
  have e : ro H i s' a' b' = (ro H i s a b).set i (rdO s' a' b') := by simp [ro]
  rw [e]
  exact Obs_fits_set h ⟨trivial, trivial, trivial, trivial, trivial⟩
theorem hp_append {H : Heap} (hp : Hp H) (L : Heap) : Hp (H ++ L) := by
  obtain ⟨o, o2, h1, h2, h3⟩ := hp
  have l1 := (List.getElem?_eq_some_iff.1 h1).1
  have l2 := (List.getElem?_eq_some_iff.1 h2).1
  exact ⟨o, o2, by rw [List.getElem?_append_left l1]; exact h1, by rw [List.getElem?_append_left l2]; exact h2, h3⟩
/-- what a step of the reader does -/
def Mv (f : FuncId) (xs : List A) (s : List UInt8) (a : Nat) (b : Int) (r : A) (a' : Nat) (b' : Int) : Prop := ∀ (H : Heap) (i : Nat), Hp H → 2 ≤ i → i < H.length →
  ACalls Tryz.prog f (.c (.ptr (.e i) 0) :: xs) (ro H i s a b) (fun r' H' => r' = r ∧ H' = ro H i s a' b')
theorem call_mv {f : FuncId} {xs : List A} {s : List UInt8} {a a' : Nat} {b b' : Int} {r : A} (hd : Mv f xs s a b r a' b') {H : Heap} {i : Nat} {sl : List A} {loc H₂ : Heap} {K : A → St → Prop} (hp : Hp H) (h2 : 2 ≤ i) (hi : i < H.length)
    (hH : H₂ = ro H i s a b ++ loc.map (Ob.re H.length)) (hr : A.re H.length r = r) (hf : Obs.fits H.length 0 (ro H i s a b)) (hk : K r ⟨sl, ro H i s a' b', loc⟩) :
    ACalls Tryz.prog f (.c (.ptr (.e i) 0) :: xs) H₂ (CallK K ⟨sl, ro H i s a b, loc⟩) := by
  subst hH
  have h := hd (H ++ loc.map (Ob.re H.length)) i (hp_append hp _) h2 (by simp; omega)
  rw [ro_append hi]
  refine h.mono fun r' H' ⟨h1, h2⟩ => ?_
  rw [← ro_append hi] at h2
  exact ⟨ro H i s a' b', loc, r, by simpa [ro_len] using h2, by simp [ro_len], Nat.le_refl _, by simpa [ro_len] using ro_fits hf, by rw [h1]; simpa [ro_len] using hr.symm, hk⟩
def zeroA : A := .agg ((Tm.mk 0 0 [] []).row.map .d)
theorem zeroA_re (n : Nat) : A.re n zeroA = zeroA := by simp [zeroA, A.re, re_d]
theorem stop_mv (s : List UInt8) (a : Nat) (b : Int) (x : Nat) : Mv 204 [.c (.d (.int .i64 x))] s a b zeroA a (if b < 0 then (x : Int) else b) := fun H i hp h2 hi => by
  refine acalls Tryz.func204 (by kernel_rfl) ac204_ok fun hf => ?_
  rw [ro_len] at hf
  have hf1 := fun a' b' => ro_fits (s' := s) (a' := a') (b' := b') hf
  by_cases hb : b < 0
  · simp -implicitDefEqProofs [ac204, ro_get hi, ro_len, ro_set, hb, Ref.re, hf1, zeroA, row_mk, go_sem, -List.set_cons_succ, -List.set_cons_zero]
  · simp -implicitDefEqProofs [ac204, ro_get hi, ro_len, ro_set, hb, Ref.re, hf1, zeroA, row_mk, go_sem, -List.set_cons_succ, -List.set_cons_zero]
/-- the byte that stands there -/
def nxt (s : List UInt8) (a : Nat) (b : Int) : UInt8 := if 0 ≤ b then 0 else match s[a]? with
  | some c => c
  | none => 0
theorem next_mv (s : List UInt8) (hs : s.length ≤ 1000000) (a : Nat) (b : Int) (ha : a ≤ 1000000) : Mv 110 [] s a b (.c (.d (.int .u8 (nxt s a b).toNat))) a b := fun H i hp h2 hi => by
  refine acalls Tryz.func110 (by kernel_rfl) ac110_ok fun hf => ?_
  rw [ro_len] at hf
  have hli : inR .i64 (s.length : Int) := small_i64 (by omega) (by omega)
  by_cases hb : 0 ≤ b
  · simp -implicitDefEqProofs [ac110, ro_get hi, ro_len, ro_set, hb, hli, Ref.re, nxt, go_sem, -List.set_cons_succ, -List.set_cons_zero]
  · by_cases hlt : a < s.length
    · have hlt2 : ¬ (s.length : Int) ≤ a := by omega
      simp -implicitDefEqProofs [ac110, ro_get hi, ro_len, ro_set, hb, hli, hlt2, Ref.re, go_sem, -List.set_cons_succ, -List.set_cons_zero]
      refine byte_nat hlt ?_
      simp -implicitDefEqProofs [nxt, hb, hlt, go_sem, -List.set_cons_succ, -List.set_cons_zero]
    · have hlt2 : (s.length : Int) ≤ a := by omega
      simp -implicitDefEqProofs [ac110, ro_get hi, ro_len, ro_set, hb, hli, hlt2, Ref.re, nxt, hlt, go_sem, -List.set_cons_succ, -List.set_cons_zero]
end Go.Proofs.YtbblefjbgbocoaaGreatDoor
