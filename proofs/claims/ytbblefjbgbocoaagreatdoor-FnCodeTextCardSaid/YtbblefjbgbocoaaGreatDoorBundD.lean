/-
  Contracts of functions that the law reaches, and plain lemmas: several texts in one.
  Conditions: none.
-/
import Derived.Test.YtbblefjbgbocoaaGreatDoorBundA
import Derived.Test.YtbblefjbgbocoaaGreatDoorBundB
import Derived.Test.YtbblefjbgbocoaaGreatDoorBundC
import Derived.Test.YtbblefjbgbocoaaGreatDoorAbsN
import Derived.Shelf.LaysC
import Derived.Shelf.Strconv.AtoiAll
import Derived.LaidLaws
import Derived.Lib.AtoiAllCases
import Derived.Lib.Split
import Derived.Lib.SplitLaws
import Derived.Lib.IndexLaws
import Derived.Shelf.Strings.SplitShaped
import Derived.Handed
open Go Go.AM Go.Proofs
attribute [local go_sem] kw ew sw tw a_ b_ c_ A.ok A.val d_ e_ f_ g_ h_ i_ j_ k_ l_ m_ unA unD n_ AOp.total o_ p_ q_ r_ s_ t_ u_ v_ A.thaw C.thaw A.fits As.fits C.fits evs oks w_ A.pure C.pure A.re C.re x_ y_ cut A.cells C.rows? z_ A_ B_ C_ a0_ b0_ D_ Ob.re Cs.fits E_ F_ G_ H_ I_ J_ K_ L_ M_ N_ O_ C.toD P_ Q_ R_ S_ T_ Obs.fits U_ eqD V_ W_ X_ Y_ Z_
/-
  Texts, drawn and bent.
  Conditions: none.
-/
open Go Go.AM Go.Proofs
namespace Go.Proofs.YtbblefjbgbocoaaGreatDoor
open Go.ChangeShapes Go.WideShapes Go.ChangeAt Go.RowKit
set_option linter.unusedVariables false
set_option linter.unusedSimpArgs false
set_option maxRecDepth 100000
-- 55 loop.example/prologserver/spec.l1Bend params 3 ntmps 35
def ac55 : Cd := .seq (.region [⟨(some 6),.mv (.k (.c (.d (.str [])))),none⟩] [6])
 (.seq (.seq (.region [⟨(some 8),.mv (.t 1),none⟩,
 ⟨(some 9),.len 0 (.t 8),none⟩,
 ⟨(some 10),.bin .eql (.t 9) (.k (.c (.d (.int .i64 0)))),none⟩,
 ⟨(some 11),.mv (.t 10),none⟩,
 ⟨(some 12),.mv (.t 0),some (11,false)⟩,
 ⟨(some 13),.call false 43 [(.t 12),(.k (.c (.d (.int .i64 2))))],some (11,false)⟩,
 ⟨(some 14),.bin .eql (.t 13) (.k (.c (.d (.int .i64 0)))),some (11,false)⟩,
 ⟨(some 15),.pick (.t 11) (.k (.c (.d (.bool true)))) (.t 14),none⟩] [8,9,10,11,12,13,14])
 (.cond (.t 15)
 (.seq (.region [⟨(some 16),.mv (.t 1),none⟩,
 ⟨(some 6),.mv (.t 16),none⟩] [0,1,2,15,16])
 (.ret))
 (.skip)))
 (.seq (.region [⟨(some 17),.mv (.t 0),none⟩,
 ⟨(some 18),.mv (.t 1),none⟩,
 ⟨(some 19),.len 0 (.t 18),none⟩,
 ⟨(some 20),.call false 43 [(.t 17),(.t 19)],none⟩,
 ⟨(some 7),.mv (.t 20),none⟩] [6,15,17,18,19,20])
 (.seq (.region [⟨(some 21),.mv (.t 1),none⟩,
 ⟨(some 22),.mv (.t 7),none⟩,
 ⟨(some 23),.slice 0 (.t 21) none (some (.t 22)) none,none⟩,
 ⟨(some 24),.mv (.t 0),none⟩,
 ⟨(some 25),.mv (.t 2),none⟩,
 ⟨(some 28),.mv (.t 1),none⟩,
 ⟨(some 29),.mv (.t 7),none⟩,
 ⟨(some 30),.mv (.t 0),none⟩,
 ⟨(some 26),.call false 91 [(.t 24),(.t 25)],none⟩,
 ⟨(some 27),.bin .add (.t 23) (.t 26),none⟩,
 ⟨(some 31),.call false 43 [(.t 30),(.k (.c (.d (.int .i64 2))))],none⟩,
 ⟨(some 32),.bin .add (.t 29) (.t 31),none⟩,
 ⟨(some 33),.slice 0 (.t 28) (some (.t 32)) none none,none⟩,
 ⟨(some 34),.bin .add (.t 27) (.t 33),none⟩,
 ⟨(some 6),.mv (.t 34),none⟩] [0,1,2,7,21,22,23,24,25,26,27,28,29,30,31,32,33,34])
 (.ret))))
theorem ac55_ok : cFunc Tryz.prog [] [(0,[6],[]),(1,[8,9,10,11,12,13,14],[]),(2,[0,1,2,15,16],[]),(3,[6,15,17,18,19,20],[]),(4,[0,1,2,7,21,22,23,24,25,26,27,28,29,30,31,32,33,34],[0,1,2,3,4,7,8,9,5,6,10,11,12,13,14])] Tryz.f55 = some (ac55,[.tmp 6],35) := by kernel_rfl
/-- a text that is drawn -/
def StrR (n : Nat) (r : A) : Prop := ∃ s : List UInt8, r = .c (.d (.str s)) ∧ s.length ≤ n
theorem StrR.re {n m : Nat} {r : A} (h : StrR n r) : A.re m r = r := by obtain ⟨s, rfl, _⟩ := h; simp [A.re, C.re]
theorem bend_draws (s : List UInt8) (hs : s.length ≤ 100000) (l : List (List UInt8)) (hl : (1 ≤ l.length ∧ l.length ≤ 1000) ∧ ∀ x ∈ l, x.length ≤ 10) : Draws 55 [.c (.d (.str s)), .c (.d (.sl (l.map fun s => [.str s])))] 4 (StrR (s.length + 10)) := fun c p H i hc hp hp1 hi => by
  refine acalls Tryz.func55 (by kernel_rfl) ac55_ok fun hf => ?_
  simp only [List.length_set] at hf
  have hf0 : ∀ q, Obs.fits H.length 0 (H.set i (Rd c q)) := fun q => fits_reset (b := Rd c q) hf ⟨trivial, trivial, trivial⟩
  have hli : inR .i64 (s.length : Int) := small_i64 (by omega) (by omega)
  have fin : ∀ (t : List UInt8) (q : Int), t.length ≤ s.length + 10 → p ≤ q → q ≤ p + 4 → Drew (StrR (s.length + 10)) 4 c p H i (.c (.d (.str t))) (H.set i (Rd c q)) := fun t q h a1 a2 => ⟨⟨t, rfl, h⟩, q, a1, a2, rfl⟩
  cases hse : s with
  | nil =>
    subst hse
    simp -implicitDefEqProofs [ac55, hf0, go_sem, -List.set_cons_succ, -List.set_cons_zero]
    exact ⟨small_i64 (by omega) (by omega), fin [] p (by simp) (by omega) (by omega)⟩
  | cons b w =>
    rw [← hse]
    have hpos : 0 < s.length := by rw [hse]; simp
    have hz : ¬ ((s.length : Int) = 0) := by omega
    have hz2 : ¬ s = [] := by rw [hse]; simp
    simp -implicitDefEqProofs [ac55, hf0, hli, hz, hz2, go_sem, -List.set_cons_succ, -List.set_cons_zero]
    refine call_drawE (pick_draws 2 (by omega)) hc (by omega) (by omega) hi (by simp [Ob.re, C.re]) (fun r => IntIn.re) (hf0 _) ?_
    rintro _ p1 ⟨k, rfl, k1, k2⟩ h1 h2
    simp -implicitDefEqProofs [hf0, hli, hz, go_sem, -List.set_cons_succ, -List.set_cons_zero]
    refine ⟨fun _ => fin s p1 (by omega) (by omega) (by omega), fun _ => ?_⟩
    refine call_drawE (pick_draws s.length (by omega)) hc (by omega) (by omega) hi (by simp [Ob.re, C.re]) (fun r => IntIn.re) (hf0 _) ?_
    rintro _ p2 ⟨m, rfl, m1, m2⟩ h3 h4
    simp -implicitDefEqProofs [hf0, hli, go_sem, -List.set_cons_succ, -List.set_cons_zero]
    refine ⟨⟨m1, by omega⟩, ?_⟩
    refine call_drawE (of_draws l hl.1) hc (by omega) (by omega) hi (by simp [Ob.re, C.re]) (fun r ⟨n, _, hn⟩ => by subst hn; rfl) (hf0 _) ?_
    rintro _ p3 ⟨x, hx, rfl⟩ h5 h6
    have hxl := hl.2 x hx
    simp -implicitDefEqProofs [hf0, hli, go_sem, -List.set_cons_succ, -List.set_cons_zero]
    refine ⟨by unfold maxStr; omega, ?_⟩
    refine call_drawE (pick_draws 2 (by omega)) hc (by omega) (by omega) hi (by simp [Ob.re, C.re]) (fun r => IntIn.re) (hf0 _) ?_
    rintro _ p4 ⟨j, rfl, j1, j2⟩ h7 h8
    have hmj : inR .i64 (m + j) := small_i64 (by omega) (by omega)
    simp -implicitDefEqProofs [hf0, hli, hmj, go_sem, -List.set_cons_succ, -List.set_cons_zero]
    refine ⟨by omega, ?_⟩
    have e1 : (m + j).toNat = m.toNat + j.toNat := by omega
    have e2 : m.toNat ≤ s.length := by omega
    refine ⟨by unfold maxStr; omega, fin _ p4 ?_ (by omega) (by omega)⟩
    simp
    omega
end Go.Proofs.YtbblefjbgbocoaaGreatDoor

/-
  A parser of terms with operators, in plain Lean, as the program's goes.
  Conditions: none.
-/
open Go Go.AM Go.Proofs
namespace Go.Proofs.YtbblefjbgbocoaaGreatDoor
set_option linter.unusedVariables false
set_option linter.unusedSimpArgs false
set_option maxRecDepth 100000
/-- what the program's reader is to read -/
inductive PJ where
  | term (l d i : Nat)
  | loop (t : Tm) (m l d i : Nat)
  | args (d i : Nat)
  | items (d n i : Nat)
  | prime (d i : Nat)
/-- what comes behind a result -/
def thn (r : Option Rs) (k : List Tm → Nat → Option Rs) : Option Rs := match r with
  | none => none
  | some (.bad e) => some (.bad e)
  | some (.ok ts j) => k ts j
/-- what a job is done from -/
def PJ.pre (s : List UInt8) : PJ → Prop
  | .term l d i => i ≤ s.length ∧ l ≤ 3
  | .loop t m l d i => i ≤ s.length ∧ t.fits ∧ l ≤ 3 ∧ m ≤ 3
  | .args d i => i < s.length
  | .items d n i => i ≤ s.length
  | .prime d i => i ≤ s.length
/-- .. and what it gives -/
def PJ.post (s : List UInt8) : PJ → Rs → Prop
  | _, .bad e => e ≤ s.length
  | .term l d i, .ok ts k => i < k ∧ k ≤ s.length ∧ ∃ t, ts = [t] ∧ t.fits
  | .loop t m l d i, .ok ts k => i ≤ k ∧ k ≤ s.length ∧ ∃ t, ts = [t] ∧ t.fits
  | .args d i, .ok ts k => i < k ∧ k ≤ s.length ∧ ts.length ≤ k - i ∧ ∀ t ∈ ts, t.fits
  | .items d n i, .ok ts k => i < k ∧ k ≤ s.length ∧ ts.length ≤ k - i ∧ ∀ t ∈ ts, t.fits
  | .prime d i, .ok ts k => i < k ∧ k ≤ s.length ∧ ∃ t, ts = [t] ∧ t.fits
def PJ.m (s : List UInt8) : PJ → Nat
  | .term l d i => 8 * (s.length + 1 - i) + 4
  | .loop t m l d i => 8 * (s.length + 1 - i) + 1
  | .args d i => 8 * (s.length + 1 - i)
  | .items d n i => 8 * (s.length + 1 - i) + 6
  | .prime d i => 8 * (s.length + 1 - i) + 1
end Go.Proofs.YtbblefjbgbocoaaGreatDoor

/-
  The program's reader reads what the reference's reads.
  Conditions: none.
-/
open Go Go.AM Go.Proofs
namespace Go.Proofs.YtbblefjbgbocoaaGreatDoor
set_option linter.unusedVariables false
set_option linter.unusedSimpArgs false
set_option maxRecDepth 100000
section
variable {s : List UInt8} (hs : s.length ≤ 1000000)
include hs
/-- operators of levels from a on -/
def contF (s : List UInt8) (D : Nat) : Nat → Nat → Tm → Nat → Option Rs
  | 0, _, t, i => some (.ok [t] i)
  | n + 1, a, t, i => thn (rdF s (.ops t i D a)) fun us k => contF s D n (a + 1) (Rs.tm us) k
/-- .. behind an operand of level m, up to level l -/
def contM (s : List UInt8) (D m l : Nat) (t : Tm) (i : Nat) : Option Rs :=
  if m = 3 then some (.ok [t] i) else contF s D (l + 1 - max m 1) (max m 1) t i
/-- what the program's reader gives, told of the reference's -/
def PJ.tells (s : List UInt8) (D : Nat) : PJ → Rs → Prop
  | .term l d i, .ok ts k => rdF s (.read i D l) = some (.ok ts k)
  | .term l d i, .bad _ => ∀ ts k, rdF s (.read i D l) = some (.ok ts k) → ∃ t ∈ ts, t.shape (31 - d) = false
  | .loop t m l d i, .ok ts k => contM s D m l t i = some (.ok ts k)
  | .loop t m l d i, .bad _ => ∀ ts k, contM s D m l t i = some (.ok ts k) → ∃ t' ∈ ts, t'.shape (31 - d) = false
  | .args d i, .ok ts k => rdF s (.terms (i + 1) (D - 1) 41 41) = if sgn s k 41 then some (.ok ts k) else some (.bad k)
  | .args d i, .bad _ => ∀ ts k, rdF s (.terms (i + 1) (D - 1) 41 41) = some (.ok ts k) → ∃ t ∈ ts, t.shape (31 - (d + 1)) = false
  | .items d n i, .ok ts k => rdF s (.terms i (D - 1) 93 124) = if sgn s k 93 || sgn s k 124 then some (.ok ts k) else some (.bad k)
  | .items d n i, .bad _ => ∀ ts k, rdF s (.terms i (D - 1) 93 124) = some (.ok ts k) → ∃ (j : Nat) (t : Tm), ts[j]? = some t ∧ t.shape (31 - (d + 1 + n + j)) = false
  | .prime d i, .ok ts k => rdF s (.prime i D) = some (.ok ts k)
  | .prime d i, .bad _ => ∀ ts k, rdF s (.prime i D) = some (.ok ts k) → ∃ t ∈ ts, t.shape (31 - d) = false
end
end Go.Proofs.YtbblefjbgbocoaaGreatDoor

/-
  What is written is read back: names, numbers, operators.
  Conditions: none.
-/
open Go Go.AM Go.Proofs
namespace Go.Proofs.YtbblefjbgbocoaaGreatDoor
set_option linter.unusedVariables false
set_option linter.unusedSimpArgs false
set_option maxRecDepth 100000
section
variable {s : List UInt8} {i : Nat} {w r : List UInt8}
end
/-- the operators -/
def allOps : List (List UInt8) := ops3 ++ [[43], [45]] ++ [[42], [47, 47], [109, 111, 100]]
theorem level_ops {n : List UInt8} (h : 1 ≤ levelN n) : n ∈ allOps := by
  unfold levelN at h
  unfold allOps
  split at h
  · rename_i h1; simp at h1; simp [h1]
  · split at h
    · rename_i h1; simp at h1; rcases h1 with h1 | h1 <;> simp [h1]
    · split at h
      · rename_i h1; simp at h1; rcases h1 with h1 | h1 | h1 <;> simp [h1]
      · omega
theorem ops_head : ∀ n ∈ allOps, (match opSp n with | [] => false | c :: _ => (!digB c && !smaB c) && !(c == 40) && !(c == 44) && !(c == 93) && !(c == 124) && !(c == 41)) = true := by decide
/-- what may stand behind a term: nothing, a closing byte, or an operator of at least a level -/
inductive Fol (m : Int) : List UInt8 → Prop
  | nil : Fol m []
  | close {c : UInt8} {r : List UInt8} : c ∈ [41, 44, 93, 124] → Fol m (c :: r)
  | op {n : List UInt8} {c : UInt8} {r : List UInt8} : 1 ≤ levelN n → m ≤ levelN n → plainC c = true → Fol m (opSp n ++ c :: r)
theorem Fol.mono {m m' : Int} {r : List UInt8} (h : Fol m r) (hm : m' ≤ m) : Fol m' r := by
  cases h with
  | nil => exact .nil
  | close h => exact .close h
  | op h1 h2 h3 => exact .op h1 (by omega) h3
theorem Fol.head {m : Int} {r : List UInt8} (h : Fol m r) : ∀ c r', r = c :: r' → digB c = false ∧ smaB c = false ∧ c ≠ 40 := by
  intro c r' e
  cases h with
  | nil => cases e
  | close h =>
    cases e
    have : ∀ c ∈ ([41, 44, 93, 124] : List UInt8), (!digB c && !smaB c && !(c == 40)) = true := by decide
    have := this _ h
    simp at this
    exact ⟨this.1.1, this.1.2, this.2⟩
  | @op n d q h1 h2 h3 =>
    have hh := ops_head n (level_ops h1)
    cases ho : opSp n with
    | nil => rw [ho] at hh; cases hh
    | cons a y =>
      rw [ho] at hh e
      cases e
      simp at hh
      exact ⟨hh.1.1.1.1.1.1, hh.1.1.1.1.1.2, hh.1.1.1.1.2⟩
section
variable {s : List UInt8} {i : Nat} {r : List UInt8}
end
end Go.Proofs.YtbblefjbgbocoaaGreatDoor

/-
  What is written is read back: terms.
  Conditions: none.
-/
open Go Go.AM Go.Proofs
namespace Go.Proofs.YtbblefjbgbocoaaGreatDoor
set_option linter.unusedVariables false
set_option linter.unusedSimpArgs false
set_option maxRecDepth 100000
/-! ### numbers -/
def dec3Ok (u : Nat) : Bool := canB (dec3 u) && decide (numV (dec3 u) = u) && decide ((dec3 u).length ≤ 3) && decide (1 ≤ (dec3 u).length)
theorem dec3_all : ((List.range 1000).all dec3Ok) = true := by kernel_rfl
theorem dec3_ok {u : Nat} (h : u ≤ 999) : canB (dec3 u) = true ∧ numV (dec3 u) = u ∧ (dec3 u).length ≤ 3 ∧ 1 ≤ (dec3 u).length := by
  have := List.all_eq_true.1 dec3_all u (by simp; omega)
  simp only [dec3Ok, Bool.and_eq_true, decide_eq_true_eq] at this
  exact ⟨this.1.1.1, this.1.1.2, this.1.2, this.2⟩
theorem can_digs {l : List UInt8} (h : canB l = true) : l.all digB = true := by simp only [canB, Bool.and_eq_true] at h; exact h.2
section
variable {s : List UInt8} {i : Nat} {r : List UInt8}
end
/-! ### heads -/
end Go.Proofs.YtbblefjbgbocoaaGreatDoor

/-
  strconv.Atoi as a call of the abstract machine, where the variable that it reads is told.
  Conditions: none.
-/
open Go Go.AM Go.Proofs
namespace Go.Proofs
open Go.Shelf
def Tryz.laysC172_ren : Go.Shelf.Ren := ⟨fun | 172 => 50 | 244 => 102 | 245 => 103 | 247 => 159 | 279 => 160 | 280 => 161 | 281 => 162 | 282 => 163 | 287 => 195 | 316 => 196 | 171 => 47 | 205 => 197 | 321 => 228 | 322 => 229 | 243 => 100 | 246 => 155 | 283 => 187 | 284 => 188 | 285 => 189 | 286 => 190 | 129 => 219 | 317 => 218 | 318 => 220 | 319 => 221 | 320 => 222 | 337 => 237 | 338 => 238 | n => n, fun | 9 => 9 | 3 => 3 | 75 => 78 | 76 => 79 | 4 => 4 | 5 => 5 | 167 => 169 | 37 => 22 | 0 => 0 | 85 => 170 | 2 => 2 | 168 => 172 | 53 => 194 | 175 => 202 | 46 => 204 | 210 => 206 | 127 => 223 | 145 => 226 | 143 => 224 | 21 => 21 | 171 => 193 | 173 => 197 | 212 => 218 | 51 => 219 | 20 => 20 | 213 => 220 | 232 => 237 | 233 => 238 | 80 => 178 | n => n, fun | 15 => 0 | 16 => 1 | 17 => 2 | 18 => 6 | 19 => 7 | n => n⟩
theorem Tryz.laysC172 : Go.Proofs.LaysC.n172 Tryz.prog Tryz.laysC172_ren := {
  mixed := by kernel_rfl
  f129 := Tryz.func219.trans (congrArg some (by kernel_rfl))
  f171 := Tryz.func47.trans (congrArg some (by kernel_rfl))
  f172 := Tryz.func50.trans (congrArg some (by kernel_rfl))
  f205 := Tryz.func197.trans (congrArg some (by kernel_rfl))
  f243 := Tryz.func100.trans (congrArg some (by kernel_rfl))
  f244 := Tryz.func102.trans (congrArg some (by kernel_rfl))
  f245 := Tryz.func103.trans (congrArg some (by kernel_rfl))
  f246 := Tryz.func155.trans (congrArg some (by kernel_rfl))
  f247 := Tryz.func159.trans (congrArg some (by kernel_rfl))
  f279 := Tryz.func160.trans (congrArg some (by kernel_rfl))
  f280 := Tryz.func161.trans (congrArg some (by kernel_rfl))
  f281 := Tryz.func162.trans (congrArg some (by kernel_rfl))
  f282 := Tryz.func163.trans (congrArg some (by kernel_rfl))
  f283 := Tryz.func187.trans (congrArg some (by kernel_rfl))
  f284 := Tryz.func188.trans (congrArg some (by kernel_rfl))
  f285 := Tryz.func189.trans (congrArg some (by kernel_rfl))
  f286 := Tryz.func190.trans (congrArg some (by kernel_rfl))
  f287 := Tryz.func195.trans (congrArg some (by kernel_rfl))
  f316 := Tryz.func196.trans (congrArg some (by kernel_rfl))
  f317 := Tryz.func218.trans (congrArg some (by kernel_rfl))
  f318 := Tryz.func220.trans (congrArg some (by kernel_rfl))
  f319 := Tryz.func221.trans (congrArg some (by kernel_rfl))
  f320 := Tryz.func222.trans (congrArg some (by kernel_rfl))
  f321 := Tryz.func228.trans (congrArg some (by kernel_rfl))
  f322 := Tryz.func229.trans (congrArg some (by kernel_rfl))
  f337 := Tryz.func237.trans (congrArg some (by kernel_rfl))
  f338 := Tryz.func238.trans (congrArg some (by kernel_rfl))
  t0 := Tryz.underlying0
  a0 := Tryz.isAgg0
  z0 := Tryz.sizeOf0
  v0 := Tryz.zeroValue0
  t2 := Tryz.underlying2
  a2 := Tryz.isAgg2
  z2 := Tryz.sizeOf2
  v2 := Tryz.zeroValue2
  t3 := Tryz.underlying3
  a3 := Tryz.isAgg3
  z3 := Tryz.sizeOf3
  v3 := Tryz.zeroValue3
  t4 := Tryz.underlying4
  a4 := Tryz.isAgg4
  z4 := Tryz.sizeOf4
  v4 := Tryz.zeroValue4
  t5 := Tryz.underlying5
  a5 := Tryz.isAgg5
  z5 := Tryz.sizeOf5
  v5 := Tryz.zeroValue5
  t9 := Tryz.underlying9
  a9 := Tryz.isAgg9
  z9 := Tryz.sizeOf9
  v9 := Tryz.zeroValue9
  t20 := Tryz.underlying20
  a20 := Tryz.isAgg20
  z20 := Tryz.sizeOf20
  v20 := Tryz.zeroValue20
  t21 := Tryz.underlying21
  a21 := Tryz.isAgg21
  z21 := Tryz.sizeOf21
  v21 := Tryz.zeroValue21
  t37 := Tryz.underlying22
  a37 := Tryz.isAgg22
  z37 := Tryz.sizeOf22
  v37 := Tryz.zeroValue22
  t46 := Tryz.underlying204
  a46 := Tryz.isAgg204
  z46 := Tryz.sizeOf204
  v46 := Tryz.zeroValue204
  t51 := Tryz.underlying219
  a51 := Tryz.isAgg219
  z51 := Tryz.sizeOf219
  v51 := Tryz.zeroValue219
  t53 := Tryz.underlying194
  a53 := Tryz.isAgg194
  z53 := Tryz.sizeOf194
  v53 := Tryz.zeroValue194
  t75 := Tryz.underlying78
  a75 := Tryz.isAgg78
  z75 := Tryz.sizeOf78
  v75 := Tryz.zeroValue78
  t76 := Tryz.underlying79
  a76 := Tryz.isAgg79
  z76 := Tryz.sizeOf79
  v76 := Tryz.zeroValue79
  t85 := Tryz.underlying170
  a85 := Tryz.isAgg170
  z85 := Tryz.sizeOf170
  v85 := Tryz.zeroValue170
  t127 := Tryz.underlying223
  a127 := Tryz.isAgg223
  z127 := Tryz.sizeOf223
  v127 := Tryz.zeroValue223
  t143 := Tryz.underlying224
  a143 := Tryz.isAgg224
  z143 := Tryz.sizeOf224
  v143 := Tryz.zeroValue224
  t145 := Tryz.underlying226
  a145 := Tryz.isAgg226
  z145 := Tryz.sizeOf226
  v145 := Tryz.zeroValue226
  t167 := Tryz.underlying169
  a167 := Tryz.isAgg169
  z167 := Tryz.sizeOf169
  v167 := Tryz.zeroValue169
  t168 := Tryz.underlying172
  a168 := Tryz.isAgg172
  z168 := Tryz.sizeOf172
  v168 := Tryz.zeroValue172
  t171 := Tryz.underlying193
  a171 := Tryz.isAgg193
  z171 := Tryz.sizeOf193
  v171 := Tryz.zeroValue193
  t173 := Tryz.underlying197
  a173 := Tryz.isAgg197
  z173 := Tryz.sizeOf197
  v173 := Tryz.zeroValue197
  t175 := Tryz.underlying202
  a175 := Tryz.isAgg202
  z175 := Tryz.sizeOf202
  v175 := Tryz.zeroValue202
  t210 := Tryz.underlying206
  a210 := Tryz.isAgg206
  z210 := Tryz.sizeOf206
  v210 := Tryz.zeroValue206
  t212 := Tryz.underlying218
  a212 := Tryz.isAgg218
  z212 := Tryz.sizeOf218
  v212 := Tryz.zeroValue218
  t213 := Tryz.underlying220
  a213 := Tryz.isAgg220
  z213 := Tryz.sizeOf220
  t232 := Tryz.underlying237
  a232 := Tryz.isAgg237
  z232 := Tryz.sizeOf237
  v232 := Tryz.zeroValue237
  t233 := Tryz.underlying238
  a233 := Tryz.isAgg238
  z233 := Tryz.sizeOf238
  v233 := Tryz.zeroValue238
  g15 := by kernel_rfl
  g16 := by kernel_rfl
  g17 := by kernel_rfl
  g18 := by kernel_rfl
  g19 := by kernel_rfl
  t80 := Tryz.underlying178
  a80 := Tryz.isAgg178
  z80 := Tryz.sizeOf178
  v80 := Tryz.zeroValue178
  i0 := by kernel_rfl
  i2 := by kernel_rfl
  i3 := by kernel_rfl
  i4 := by kernel_rfl
  i5 := by kernel_rfl
  i9 := by kernel_rfl
  i20 := by kernel_rfl
  i21 := by kernel_rfl
  i37 := by kernel_rfl
  i46 := by kernel_rfl
  i51 := by kernel_rfl
  i53 := by kernel_rfl
  i75 := by kernel_rfl
  i76 := by kernel_rfl
  i80 := by kernel_rfl
  i85 := by kernel_rfl
  i127 := by kernel_rfl
  i143 := by kernel_rfl
  i145 := by kernel_rfl
  i167 := by kernel_rfl
  i168 := by kernel_rfl
  i171 := by kernel_rfl
  i173 := by kernel_rfl
  i175 := by kernel_rfl
  i210 := by kernel_rfl
  i212 := by kernel_rfl
  i232 := by kernel_rfl
  i233 := by kernel_rfl
  m15 := by kernel_rfl
  m16 := by kernel_rfl
  m17 := by kernel_rfl
  m18 := by kernel_rfl
  m19 := by kernel_rfl
  c0 := by kernel_rfl
  c2 := by kernel_rfl
  c3 := by kernel_rfl
  c4 := by kernel_rfl
  c5 := by kernel_rfl
  c9 := by kernel_rfl
  c20 := by kernel_rfl
  c21 := by kernel_rfl
  c37 := by kernel_rfl
  c46 := by kernel_rfl
  c51 := by kernel_rfl
  c53 := by kernel_rfl
  c75 := by kernel_rfl
  c76 := by kernel_rfl
  c80 := by kernel_rfl
  c85 := by kernel_rfl
  c127 := by kernel_rfl
  c143 := by kernel_rfl
  c145 := by kernel_rfl
  c167 := by kernel_rfl
  c168 := by kernel_rfl
  c171 := by kernel_rfl
  c173 := by kernel_rfl
  c175 := by kernel_rfl
  c210 := by kernel_rfl
  c212 := by kernel_rfl
  c213 := by kernel_rfl
  c232 := by kernel_rfl
  c233 := by kernel_rfl }
end Go.Proofs
namespace Go.Proofs.YtbblefjbgbocoaaGreatDoor
open Go.Lib Go.RowKit
set_option linter.unusedVariables false
set_option linter.unusedSimpArgs false
set_option maxRecDepth 100000
/-- the variable that is read when a number is too large holds an error -/
def ERg (o : Obj) : Prop := ∀ w : World, w.heap[1]? = some o → ∃ u v, w.cell? ⟨1, 0, none⟩ = some (.iface u v)
/-- what strconv.Atoi gives -/
def AtoiR (s : List UInt8) (r : A) : Prop := ∃ n e, inR .i64 n ∧ r = .tup [.c (.d (.int .i64 n)), .c (.d (.v e))] ∧ ((e = .nilIface ∧ atoiAll s = .ok n) ∨ ∃ p q, e = .iface p q ∧ atoiAll s = .range)
/-- neither a number nor one that is too large: no -/
def endOk {α : Type} : NumEnd α → Bool
  | .ok _ => true
  | .range => true
  | _ => false
theorem atoi_call {o : Obj} (hT : ERg o) (s : List UInt8) (hs : s.length ≤ 2000000) (hsy : endOk (atoiAll s) = true) (H : Heap) (hH : H[1]? = some (.tab 1 o)) : ACalls Tryz.prog 50 [.c (.d (.str s))] H (fun r H' => H' = H ∧ AtoiR s r) := by
  refine acalls_tab_any hH ⟨_, Tryz.func50, by kernel_rfl, by decide⟩ ?_
  intro w ι k cargs hw hl ha
  obtain ⟨v, rfl⟩ : ∃ v, cargs = [v] := by
    match cargs, hl with
    | [v], _ => exact ⟨v, rfl⟩
  have h1 := ha 0 _ _ rfl rfl
  obtain ⟨t, rfl, ht⟩ : ∃ t : ByteArray, v = .string t ∧ t.data.toList = s := by
    cases h1 with
    | c h => cases h with
      | d h => cases h with
        | str t ht => exact ⟨t, rfl, rfl⟩
  have hsz : t.size = s.length := by rw [← ht]; rfl
  obtain ⟨u, v, hc⟩ := hT w hw
  rw [← ht] at hsy
  cases hr : atoiAll t.data.toList with
  | ok n =>
    obtain ⟨b0, b1⟩ := atoiAll_bounds hr
    refine (Any.strconv_Atoi_ok Tryz.laysC172 t (by omega) n hr w).mono ?_
    rintro e w' ⟨rfl, hw'⟩
    refine ⟨_, .tup [.c (.d (.int .i64 n)), .c (.d (.v .nilIface))], rfl, ⟨n, .nilIface, i64_def.2 ⟨b0, by omega⟩, rfl, .inl ⟨rfl, by rw [← ht]; exact hr⟩⟩, fun w ι m => ?_, ?_⟩
    · exact RA.tup (vs := [.int .i64 n, .nilIface]) rfl fun i a v h1 h2 => by
        match i with
        | 0 => cases h1; cases h2; exact .mkInt (i64_def.2 ⟨b0, by omega⟩)
        | 1 => cases h1; cases h2; exact .c (.d (.v _ rfl))
    · rcases hw' with rfl | ⟨q, rfl⟩
      · exact .refl _ _
      · exact bytesWorld_below _ _ _
  | range =>
    obtain ⟨b0, b1⟩ := atoiSat_bounds t.data.toList
    refine (Any.strconv_Atoi_range Tryz.laysC172 t (by omega) hr _ w hc (.inr ⟨_, _, rfl⟩)).mono ?_
    rintro e w' ⟨N, rfl, _, _, hb⟩
    have key : ∀ e : Value, e.oneCell' = true → (∃ p q, e = .iface p q) → ∃ v r, (Ending.returned (.tuple #[.int .i64 (atoiSat t.data.toList), e])) = .returned v ∧ AtoiR s r ∧ (∀ (w : World) (ι : List K) (n : Nat), RA w ι n r v) ∧ Below w.heap.size w w' := fun e he hpq => by
      obtain ⟨p, q, rfl⟩ := hpq
      refine ⟨_, .tup [.c (.d (.int .i64 (atoiSat t.data.toList))), .c (.d (.v (.iface p q)))], rfl, ⟨atoiSat t.data.toList, .iface p q, i64_def.2 ⟨by omega, by omega⟩, rfl, .inr ⟨p, q, rfl, by rw [← ht]; exact hr⟩⟩, fun w ι m => ?_, hb⟩
      exact RA.tup (vs := [.int .i64 _, .iface _ _]) rfl fun i a v h1 h2 => by
        match i with
        | 0 => cases h1; cases h2; exact .mkInt (i64_def.2 ⟨by omega, by omega⟩)
        | 1 => cases h1; cases h2; exact .c (.d (.v _ rfl))
    exact key _ rfl ⟨_, _, rfl⟩
  | _ => rw [hr] at hsy; cases hsy
end Go.Proofs.YtbblefjbgbocoaaGreatDoor

/-
  Numbers as the program reads them: the plain law.
  Conditions: none.
-/
open Go Go.AM Go.Proofs
namespace Go.Proofs.YtbblefjbgbocoaaGreatDoor
set_option linter.unusedVariables false
set_option linter.unusedSimpArgs false
set_option maxRecDepth 100000
def atOk (n : Int) : Bool := match Lib.atoiAll (itoa3 n) with
  | .ok v => decide (v = n)
  | _ => false
theorem at_all : ((List.range 1000).all fun x => atOk x && atOk (-x)) = true := by kernel_rfl
theorem atoi_itoa3 {n : Int} (h0 : -999 ≤ n) (h1 : n ≤ 999) : Lib.atoiAll (itoa3 n) = .ok n := by
  have := List.all_eq_true.1 at_all n.natAbs (by simp; omega)
  rw [Bool.and_eq_true] at this
  have h : atOk n = true := by
    by_cases hn : 0 ≤ n
    · rw [show n = (n.natAbs : Int) by omega]; exact this.1
    · rw [show n = -(n.natAbs : Int) by omega]; exact this.2
  unfold atOk at h
  split at h
  · rename_i v hv
    rw [hv, of_decide_eq_true h]
  · cases h
end Go.Proofs.YtbblefjbgbocoaaGreatDoor

/-
  strings.Split at one byte: the text, cut at that byte.
  Conditions: none.
-/
open Go Go.AM Go.Proofs
namespace Go.Proofs.YtbblefjbgbocoaaGreatDoor
open Go.Lib
set_option linter.unusedVariables false
set_option linter.unusedSimpArgs false
theorem cut_word {c : UInt8} : ∀ {w : List UInt8}, c ∉ w → cutAt c w = [w]
  | [], _ => rfl
  | b :: w, h => by
    rw [cutAt, if_neg (fun e => h (by simp [e])), cut_word (w := w) (fun e => h (by simp [e]))]
theorem cut_cons {c : UInt8} (r : List UInt8) : ∀ {w : List UInt8}, c ∉ w → cutAt c (w ++ c :: r) = w :: cutAt c r
  | [], _ => by rw [List.nil_append, cutAt, if_pos rfl]
  | b :: w, h => by
    rw [List.cons_append, cutAt, if_neg (fun e => h (by simp [e])), cut_cons r (w := w) (fun e => h (by simp [e]))]
theorem cutw_len (c : UInt8) : ∀ s : List UInt8, 1 ≤ (cutAt c s).length ∧ (cutAt c s).length ≤ s.length + 1
  | [] => by simp [cutAt]
  | b :: s => by
    have ih := cutw_len c s
    rw [cutAt]
    split
    · simp; omega
    · split
      · rename_i h; rw [h] at ih; simp at ih ⊢; omega
      · simp
theorem cutw_mem (c : UInt8) : ∀ s : List UInt8, ∀ w ∈ cutAt c s, w.length ≤ s.length
  | [], w, h => by simp [cutAt] at h; simp [h]
  | b :: s, w, h => by
    rw [cutAt] at h
    split at h
    · rcases List.mem_cons.1 h with rfl | h
      · simp
      · have := cutw_mem c s w h; simp; omega
    · split at h
      · rename_i l r hq
        rcases List.mem_cons.1 h with rfl | h
        · have := cutw_mem c s l (by rw [hq]; simp); simp; omega
        · have := cutw_mem c s w (by rw [hq]; simp [h]); simp; omega
      · simp at h; subst h; simp
theorem index_c (b c : UInt8) (s : List UInt8) : index (b :: s) [c] = if b = c then 0 else if index s [c] = -1 then -1 else index s [c] + 1 := by
  rw [index]
  by_cases h : b = c
  · subst h; simp
  · rw [if_neg (by first | (simp; done) | (simp; exact fun e => h e.symm)), if_neg h]
    by_cases h2 : index s [c] = -1
    · simp [h2]
    · simp [h2]
theorem no_c {c : UInt8} : ∀ {s : List UInt8}, index s [c] = -1 → cutAt c s = [s]
  | [], _ => rfl
  | b :: s, h => by
    rw [index_c] at h
    split at h
    · cases h
    · rename_i hb
      split at h
      · rename_i h2
        rw [cutAt, if_neg hb, no_c h2]
      · have := index_ge s [c]; omega
theorem hit_c {c : UInt8} : ∀ {s : List UInt8} {i : Nat}, index s [c] = i → i < s.length ∧ c ∉ s.take i ∧ s = s.take i ++ c :: s.drop (i + 1)
  | [], i, h => by simp [index] at h
  | b :: s, i, h => by
    rw [index_c] at h
    split at h
    · rename_i hb
      obtain rfl : i = 0 := by omega
      simp [hb]
    · rename_i hb
      split at h
      · omega
      · obtain ⟨j, rfl⟩ : ∃ j, i = j + 1 := ⟨i - 1, by have := index_ge s [c]; omega⟩
        obtain ⟨h1, h2, h3⟩ := hit_c (c := c) (s := s) (i := j) (by omega)
        refine ⟨by simp; omega, ?_, ?_⟩
        · simp; exact ⟨fun e => hb e.symm, h2⟩
        · simpa using h3
theorem split_cut (c : UInt8) : ∀ (n : Nat) (s : List UInt8), s.count c = n → splitK [c] 0 n s = cutAt c s
  | 0, s, h => by
    have hc : c ∉ s := by simpa [List.count_eq_zero] using h
    rw [splitK, cut_word hc]
  | n + 1, s, h => by
    rw [splitK]
    by_cases h2 : index s [c] = -1
    · rw [if_pos (by simp [h2]), no_c h2]
    · obtain ⟨i, hi⟩ : ∃ i : Nat, index s [c] = i := ⟨(index s [c]).toNat, by have := index_ge s [c]; omega⟩
      obtain ⟨h3, h4, h5⟩ := hit_c hi
      have h6 : (s.drop (i + 1)).count c = n := by
        rw [h5] at h
        simp only [List.count_append, List.count_cons_self] at h
        rw [List.count_eq_zero.2 h4] at h
        omega
      rw [if_neg (by simp [h2]), hi]
      simp only [Int.toNat_natCast, Nat.add_zero, List.length_cons, List.length_nil, Nat.zero_add]
      rw [split_cut c n _ h6]
      conv => rhs; rw [h5, cut_cons _ h4]
end Go.Proofs.YtbblefjbgbocoaaGreatDoor

/-
  Instructions and their texts: a text is the text of one instruction at most, and is cut into its words.
  Conditions: none.
-/
open Go Go.AM Go.Proofs
namespace Go.Proofs.YtbblefjbgbocoaaGreatDoor
set_option linter.unusedVariables false
set_option linter.unusedSimpArgs false
set_option maxRecDepth 100000
def Ins.wds (x : Ins) : List (List UInt8) := opWord x.op :: ((if opIA x.op then [Lib.itoa x.a] else []) ++ ((if opB x.op then [Lib.itoa x.b] else []) ++ (if opN x.op then [x.text] else [])))
theorem okB_all {x : Ins} (h : x.okB = true) : opOk x.op = true ∧ (-999 ≤ x.a ∧ x.a ≤ 999) ∧ (0 ≤ x.b ∧ x.b ≤ 999) ∧ (opIA x.op = false → x.a = 0) ∧ (opB x.op = false → x.b = 0) ∧ (opN x.op = true → nameB x.text = true) ∧ (opN x.op = false → x.text = []) := by
  obtain ⟨op, a, b, t⟩ := x
  simp only [Ins.okB, Bool.and_eq_true, Bool.or_eq_true, decide_eq_true_eq, beq_iff_eq] at h
  obtain ⟨⟨⟨⟨⟨h1, h2⟩, h3⟩, h4⟩, h5⟩, h6⟩ := h
  refine ⟨h1, h2, h3, fun e => ?_, fun e => ?_, fun e => ?_, fun e => ?_⟩
  · simp only at e; rcases h4 with h | h
    · rw [e] at h; cases h
    · exact h
  · simp only at e; rcases h5 with h | h
    · rw [e] at h; cases h
    · exact h
  · simp only at e; rw [e] at h6; simpa using h6
  · simp only at e; rw [e] at h6; simpa using h6
theorem word_sp (op : Int) : (32 : UInt8) ∉ opWord op := by
  rcases op_cases op with rfl | rfl | rfl | rfl | rfl | rfl | rfl | rfl | rfl | rfl | rfl | rfl | rfl | rfl | h
  all_goals try decide
  have h1 : op ≠ 1 ∧ op ≠ 2 ∧ op ≠ 3 ∧ op ≠ 4 ∧ op ≠ 5 ∧ op ≠ 6 ∧ op ≠ 7 ∧ op ≠ 8 ∧ op ≠ 9 ∧ op ≠ 10 ∧ op ≠ 11 ∧ op ≠ 12 ∧ op ≠ 13 ∧ op ≠ 14 := by omega
  simp [opWord, h1]
theorem digs_sp {l : List UInt8} (h : l.all digB = true) : (32 : UInt8) ∉ l := fun hm => by
  have := List.all_eq_true.1 h _ hm
  simp [digB] at this
theorem itoa_sp {n : Int} (h0 : -999 ≤ n) (h1 : n ≤ 999) : (32 : UInt8) ∉ Lib.itoa n := by
  rw [← itoa3_eq h0 h1]
  unfold itoa3
  split
  · obtain ⟨d1, _⟩ := dec3_ok (u := n.natAbs) (by omega)
    intro hm
    rcases List.mem_cons.1 hm with h | h
    · cases h
    · exact digs_sp (can_digs d1) h
  · obtain ⟨d1, _⟩ := dec3_ok (u := n.toNat) (by omega)
    exact digs_sp (can_digs d1)
theorem name_sp {s : List UInt8} (h : nameB s = true) : (32 : UInt8) ∉ s := by
  simp only [nameB, Bool.or_eq_true] at h
  rcases h with h | h
  · intro hm
    simp only [lettersB, Bool.and_eq_true, List.all_eq_true] at h
    have := h.1 _ hm
    simp [lowB] at this
  · simp only [List.contains_eq_mem, decide_eq_true_eq] at h
    have : ∀ x ∈ signs, (32 : UInt8) ∉ x := by decide
    exact this _ h
/-- a text is cut into the words of its instruction -/
theorem fmt_wds {x : Ins} (h : x.okB = true) : cutAt 32 x.fmt = x.wds := by
  obtain ⟨h1, h2, h3, _, _, h6, _⟩ := okB_all h
  have w := word_sp x.op
  have a := itoa_sp h2.1 h2.2
  have b := itoa_sp (n := x.b) (by omega) h3.2
  unfold Ins.fmt Ins.wds
  rw [if_pos h]
  cases hA : opIA x.op <;> cases hB : opB x.op <;> cases hN : opN x.op
  all_goals first
    | (have t := name_sp (h6 hN); simp [cut_cons, cut_word, w, a, b, t]; done)
    | (simp [cut_cons, cut_word, w, a, b]; done)
theorem word_ne {op : Int} (h1 : opOk op = true) : opWord op ≠ [] := by
  simp only [opOk, Bool.and_eq_true, decide_eq_true_eq] at h1
  rcases op_cases op with h | h | h | h | h | h | h | h | h | h | h | h | h | h | h
  all_goals first
    | (rw [h]; decide)
    | omega
theorem fmt_ne {x : Ins} (h : x.okB = true) : x.fmt ≠ [] := by
  obtain ⟨h1, _⟩ := okB_all h
  have := word_ne h1
  unfold Ins.fmt
  rw [if_pos h]
  simp [this]
theorem itoa_len3 {n : Int} (h0 : -999 ≤ n) (h1 : n ≤ 999) : (Lib.itoa n).length ≤ 5 := (itoa_short h0 h1).2
theorem fmt_60 {x : Ins} (h : x.okB = true) : x.fmt.length ≤ 60 := by
  obtain ⟨h1, h2, h3, _, _, h6, _⟩ := okB_all h
  have w := opWord_len x.op
  have a := itoa_len3 h2.1 h2.2
  have b := itoa_len3 (n := x.b) (by omega) h3.2
  unfold Ins.fmt
  rw [if_pos h]
  cases hA : opIA x.op <;> cases hB : opB x.op <;> cases hN : opN x.op
  all_goals first
    | (have t := (name_len (h6 hN)).2; simp; omega)
    | (simp; omega)
theorem wds_len (x : Ins) : 1 ≤ x.wds.length ∧ x.wds.length ≤ 4 := by
  unfold Ins.wds
  cases opIA x.op <;> cases opB x.op <;> cases opN x.op <;> simp
theorem wds_shape {x : Ins} (h : x.okB = true) : x.wds.length = (opShape x.op).length + 1 := by
  obtain ⟨h1, _⟩ := okB_all h
  unfold Ins.wds opShape
  rw [if_pos h1]
  cases opIA x.op <;> cases opB x.op <;> cases opN x.op <;> simp
/-- what is taken from the words that are left -/
def tk (has : Bool) (rest : List (List UInt8)) : List UInt8 × List (List UInt8) := if has && !rest.isEmpty then (rest.headD [], rest.tail) else ([48], rest)
/-- the value of a numeral, if it is one -/
def Apv (w : List UInt8) (n : Int) : Prop := ∀ m, Lib.atoiAll w = .ok m → n = m
theorem apv_itoa {n m : Int} (h0 : -999 ≤ n) (h1 : n ≤ 999) (h : Apv (Lib.itoa n) m) : m = n := h n (by rw [← itoa3_eq h0 h1]; exact atoi_itoa3 h0 h1)
theorem apv_zero {m : Int} (h : Apv [48] m) : m = 0 := apv_itoa (n := 0) (by omega) (by omega) (by rw [← itoa3_eq (by omega) (by omega)]; exact h)
/-- an instruction is built of words -/
def Bt (W : List (List UInt8)) (op : Int) (x : Ins) : Prop := x.op = op ∧ Apv (tk (opIA op) W.tail).1 x.a ∧ Apv (tk (opB op) (tk (opIA op) W.tail).2).1 x.b ∧ x.text = if opN op then (tk true (tk (opB op) (tk (opIA op) W.tail).2).2).1 else []
theorem bt_back {s : List UInt8} {op : Int} {x y : Ins} (hb : Bt (cutAt 32 s) op x) (h : y.okB = true) (hs : y.fmt = s) (ho : y.op = op) : x = y := by
  obtain ⟨b1, b2, b3, b4⟩ := hb
  rw [← hs, fmt_wds h] at b2 b3 b4
  obtain ⟨h1, h2, h3, h4, h5, h6, h7⟩ := okB_all h
  obtain ⟨yo, ya, yb, yt⟩ := y
  obtain ⟨xo, xa, xb, xt⟩ := x
  simp only at ho b1 b2 b3 b4 h1 h2 h3 h4 h5 h6 h7
  subst ho; subst b1
  simp only [Ins.wds, List.tail_cons] at b2 b3 b4
  have ea : xa = ya := by
    cases hA : opIA xo with
    | true => rw [hA] at b2; simp [tk] at b2; exact apv_itoa h2.1 h2.2 b2
    | false => rw [hA] at b2; simp [tk] at b2; rw [apv_zero b2, h4 hA]
  have eb : xb = yb := by
    cases hB : opB xo with
    | true =>
      rw [hB] at b3
      cases hA : opIA xo <;> (rw [hA] at b3; simp [tk] at b3; exact apv_itoa (by omega) h3.2 b3)
    | false =>
      rw [hB] at b3
      cases hA : opIA xo <;> (rw [hA] at b3; simp [tk] at b3; rw [apv_zero b3, h5 hB])
  have et : xt = yt := by
    cases hN : opN xo with
    | true =>
      rw [hN] at b4
      cases hA : opIA xo <;> cases hB : opB xo <;> (rw [hA, hB] at b4; simpa [tk] using b4)
    | false => rw [hN] at b4; rw [h7 hN]; simpa using b4
  rw [ea, eb, et]
/-- what ParseInstr answers -/
def Pa (s : List UInt8) (R : Option Ins) : Prop := (∀ x, R = some x → x.okB = true ∧ x.fmt = s ∧ x.ok) ∧ (R = none → ∀ y : Ins, y.okB = true → y.fmt ≠ s)
theorem no_op {s : List UInt8} {op : Int} (h : (cutAt 32 s).headD [] ≠ opWord op) : ∀ y : Ins, y.okB = true → y.op = op → y.fmt ≠ s := fun y hy ho hs => by
  rw [← hs, fmt_wds hy, ← ho] at h
  exact h rfl
theorem word_inj {i j : Int} (hi : opOk i = true) (hj : opOk j = true) (h : opWord i = opWord j) : i = j := by
  simp only [opOk, Bool.and_eq_true, decide_eq_true_eq] at hi hj
  have key : ((List.range 15).all fun a => (List.range 15).all fun b => !(opWord (a : Int) == opWord (b : Int)) || a == b) = true := by kernel_rfl
  obtain ⟨a, rfl⟩ := Int.eq_ofNat_of_zero_le (show 0 ≤ i by omega)
  obtain ⟨b, rfl⟩ := Int.eq_ofNat_of_zero_le (show 0 ≤ j by omega)
  have := List.all_eq_true.1 (List.all_eq_true.1 key a (by simp; omega)) b (by simp; omega)
  rw [h] at this
  simp at this
  omega
/-- texts differ where instructions differ -/
theorem fmt_inj {x y : Ins} (hx : x.okB = true) (hy : y.okB = true) (h : x.fmt = y.fmt) : x = y := by
  have hw := fmt_wds hx
  rw [h, fmt_wds hy] at hw
  obtain ⟨h1, h2, h3, h4, h5, h6, h7⟩ := okB_all hx
  obtain ⟨g1, g2, g3, g4, g5, g6, g7⟩ := okB_all hy
  have ho : x.op = y.op := word_inj h1 g1 (by have := congrArg (fun l => l.headD []) hw; simpa [Ins.wds] using this.symm)
  refine bt_back (s := y.fmt) (op := y.op) ⟨ho, ?_, ?_, ?_⟩ hy rfl rfl
  · rw [fmt_wds hy, hw, ← ho]
    simp only [Ins.wds, List.tail_cons]
    cases hA : opIA x.op with
    | true => simp [tk]; intro m hm; rw [← itoa3_eq h2.1 h2.2, atoi_itoa3 h2.1 h2.2] at hm; cases hm; rfl
    | false => simp [tk]; rw [h4 hA]; intro m hm; have := atoi_itoa3 (n := 0) (by omega) (by omega); rw [show itoa3 0 = [48] from rfl, hm] at this; cases this; rfl
  · rw [fmt_wds hy, hw, ← ho]
    simp only [Ins.wds, List.tail_cons]
    have q : Apv (Lib.itoa x.b) x.b := fun m hm => by rw [← itoa3_eq (by omega) h3.2, atoi_itoa3 (by omega) h3.2] at hm; cases hm; rfl
    have z : opB x.op = false → Apv [48] x.b := fun hB m hm => by rw [h5 hB]; have := atoi_itoa3 (n := 0) (by omega) (by omega); rw [show itoa3 0 = [48] from rfl, hm] at this; cases this; rfl
    cases hA : opIA x.op <;> cases hB : opB x.op <;> simp [tk]
    all_goals first
      | exact q
      | exact z hB
  · rw [fmt_wds hy, hw, ← ho]
    simp only [Ins.wds, List.tail_cons]
    cases hN : opN x.op with
    | true => cases hA : opIA x.op <;> cases hB : opB x.op <;> simp [tk]
    | false => simp; exact h7 hN
theorem Pa.one {s : List UInt8} {R R' : Option Ins} (h : Pa s R) (h' : Pa s R') : R = R' := by
  cases R with
  | none => cases R' with
    | none => rfl
    | some y => exact absurd (h'.1 y rfl).2.1 (h.2 rfl y (h'.1 y rfl).1)
  | some x => cases R' with
    | none => exact absurd (h.1 x rfl).2.1 (h'.2 rfl x (h.1 x rfl).1)
    | some y => rw [fmt_inj (h.1 x rfl).1 (h'.1 y rfl).1 (by rw [(h.1 x rfl).2.1, (h'.1 y rfl).2.1])]
/-- an instruction is read back from its text -/
theorem Pa.back {x : Ins} {R : Option Ins} (hx : x.okB = true) (h : Pa x.fmt R) : R = some x := by
  cases R with
  | none => exact absurd rfl (h.2 rfl x hx)
  | some y => rw [fmt_inj (h.1 y rfl).1 hx (h.1 y rfl).2.1]
end Go.Proofs.YtbblefjbgbocoaaGreatDoor

/-
  Codes that are drawn.
  Conditions: none.
-/
open Go Go.AM Go.Proofs
namespace Go.Proofs.YtbblefjbgbocoaaGreatDoor
open Go.ChangeShapes Go.WideShapes Go.ChangeAt Go.RowKit
set_option linter.unusedVariables false
set_option linter.unusedSimpArgs false
set_option maxRecDepth 100000
-- 40 loop.example/prologserver/spec.l8Mutate params 2 ntmps 67
def ac40 : Cd := .seq (.region [⟨(some 4),.mv (.k (.c (.full []))),none⟩] [4])
 (.seq (.region [⟨(some 7),.buildSlice 4 0 [(.int .i64 0),(.int .i64 0),(.int .i64 0),(.str [])] [],none⟩,
 ⟨(some 8),.mv (.t 1),none⟩,
 ⟨(some 9),.appendF 4 (.t 7) (.t 8),none⟩,
 ⟨(some 5),.mv (.t 9),none⟩] [1,7,8,9])
 (.seq (.seq (.region [⟨(some 10),.mv (.t 5),none⟩,
 ⟨(some 11),.len 1 (.t 10),none⟩,
 ⟨(some 12),.bin .eql (.t 11) (.k (.c (.d (.int .i64 0)))),none⟩,
 ⟨(some 13),.mv (.t 12),none⟩,
 ⟨(some 14),.mv (.t 0),some (13,false)⟩,
 ⟨(some 15),.call false 43 [(.t 14),(.k (.c (.d (.int .i64 2))))],some (13,false)⟩,
 ⟨(some 16),.bin .eql (.t 15) (.k (.c (.d (.int .i64 0)))),some (13,false)⟩,
 ⟨(some 17),.pick (.t 13) (.k (.c (.d (.bool true)))) (.t 16),none⟩] [10,11,12,13,14,15,16])
 (.cond (.t 17)
 (.seq (.region [⟨(some 18),.mv (.t 5),none⟩,
 ⟨(some 4),.mv (.t 18),none⟩] [0,5,17,18])
 (.ret))
 (.skip)))
 (.seq (.region [⟨(some 19),.mv (.t 0),none⟩,
 ⟨(some 20),.mv (.t 5),none⟩,
 ⟨(some 21),.len 1 (.t 20),none⟩,
 ⟨(some 22),.call false 43 [(.t 19),(.t 21)],none⟩,
 ⟨(some 6),.mv (.t 22),none⟩] [4,17,19,20,21,22])
 (.seq (.seq (.region [⟨(some 23),.mv (.t 0),none⟩,
 ⟨(some 24),.call false 43 [(.t 23),(.k (.c (.d (.int .i64 8))))],none⟩] [23])
 (.block 0 (.seq (.region [⟨(some 26),.bin .eql (.t 24) (.k (.c (.d (.int .i64 0)))),none⟩,
 ⟨(some 25),.mv (.t 26),none⟩] [26])
 (.cond (.t 25)
 (.region [⟨(some 27),.mv (.t 5),none⟩,
 ⟨(some 28),.mv (.t 6),none⟩,
 ⟨(some 29),.mv (.t 0),none⟩,
 ⟨(some 30),.buildSlice 1 5 [(.int .i64 0)] [(0,(.k (.c (.d (.int .i64 0))))),(1,(.k (.c (.d (.int .i64 15))))),(2,(.k (.c (.d (.int .i64 1))))),(3,(.k (.c (.d (.int .i64 5))))),(4,(.k (.c (.d (.int .i64 8)))))],none⟩,
 ⟨(some 31),.call false 90 [(.t 29),(.t 30)],none⟩,
 ⟨(some 32),.indexAddr 4 (.t 27) (.t 28),none⟩,
 ⟨(some 33),.fieldAddr 0 (.t 32),none⟩,
 ⟨none,.store 1 (.t 33) (.t 31),none⟩] [0,6,24,25,27,28,29,30,31,32,33])
 (.seq (.region [⟨(some 35),.bin .eql (.t 24) (.k (.c (.d (.int .i64 1)))),none⟩,
 ⟨(some 34),.mv (.t 35),none⟩] [25,35])
 (.cond (.t 34)
 (.region [⟨(some 36),.mv (.t 5),none⟩,
 ⟨(some 37),.mv (.t 6),none⟩,
 ⟨(some 38),.mv (.t 0),none⟩,
 ⟨(some 39),.buildSlice 1 4 [(.int .i64 0)] [(0,(.k (.c (.d (.int .i64 0))))),(1,(.k (.c (.d (.int .i64 4))))),(2,(.k (.c (.d (.int .i64 (-1)))))),(3,(.k (.c (.d (.int .i64 1000)))))],none⟩,
 ⟨(some 40),.call false 90 [(.t 38),(.t 39)],none⟩,
 ⟨(some 41),.indexAddr 4 (.t 36) (.t 37),none⟩,
 ⟨(some 42),.fieldAddr 1 (.t 41),none⟩,
 ⟨none,.store 1 (.t 42) (.t 40),none⟩] [0,6,24,34,36,37,38,39,40,41,42])
 (.seq (.region [⟨(some 44),.bin .eql (.t 24) (.k (.c (.d (.int .i64 2)))),none⟩,
 ⟨(some 43),.mv (.t 44),none⟩] [34,44])
 (.cond (.t 43)
 (.region [⟨(some 45),.mv (.t 5),none⟩,
 ⟨(some 46),.mv (.t 6),none⟩,
 ⟨(some 47),.mv (.t 0),none⟩,
 ⟨(some 48),.buildSlice 1 4 [(.int .i64 0)] [(0,(.k (.c (.d (.int .i64 0))))),(1,(.k (.c (.d (.int .i64 5))))),(2,(.k (.c (.d (.int .i64 (-1)))))),(3,(.k (.c (.d (.int .i64 1000)))))],none⟩,
 ⟨(some 49),.call false 90 [(.t 47),(.t 48)],none⟩,
 ⟨(some 50),.indexAddr 4 (.t 45) (.t 46),none⟩,
 ⟨(some 51),.fieldAddr 2 (.t 50),none⟩,
 ⟨none,.store 1 (.t 51) (.t 49),none⟩] [0,6,24,43,45,46,47,48,49,50,51])
 (.seq (.region [⟨(some 53),.bin .eql (.t 24) (.k (.c (.d (.int .i64 3)))),none⟩,
 ⟨(some 52),.mv (.t 53),none⟩] [43,53])
 (.cond (.t 52)
 (.region [⟨(some 54),.mv (.t 5),none⟩,
 ⟨(some 55),.mv (.t 6),none⟩,
 ⟨(some 56),.mv (.t 0),none⟩,
 ⟨(some 57),.buildSlice 1 3 [(.str [])] [(0,(.k (.c (.d (.str []))))),(1,(.k (.c (.d (.str [102,111,111]))))),(2,(.k (.c (.d (.str [88])))))],none⟩,
 ⟨(some 58),.call false 91 [(.t 56),(.t 57)],none⟩,
 ⟨(some 59),.indexAddr 4 (.t 54) (.t 55),none⟩,
 ⟨(some 60),.fieldAddr 3 (.t 59),none⟩,
 ⟨none,.store 1 (.t 60) (.t 58),none⟩] [0,6,24,52,54,55,56,57,58,59,60])
 (.seq (.region [⟨(some 62),.bin .eql (.t 24) (.k (.c (.d (.int .i64 4)))),none⟩,
 ⟨(some 61),.mv (.t 62),none⟩] [0,24,52,62])
 (.cond (.t 61)
 (.weak (.region [⟨(some 63),.mv (.t 5),none⟩,
 ⟨(some 64),.mv (.t 6),none⟩,
 ⟨(some 65),.slice 4 (.t 63) none (some (.t 64)) none,none⟩,
 ⟨(some 5),.mv (.t 65),none⟩] [6,61,63,64,65]))
 (.skip)))))))))))))
 (.seq (.region [⟨(some 66),.mv (.t 5),none⟩,
 ⟨(some 4),.mv (.t 66),none⟩] [5,6,61,66])
 (.ret))))))
theorem ac40_ok : cFunc Tryz.prog [3000007,4000015] [(0,[4],[]),(1,[1,7,8,9],[]),(2,[10,11,12,13,14,15,16],[]),(3,[0,5,17,18],[]),(4,[4,17,19,20,21,22],[]),(5,[23],[]),(6,[26],[]),(7,[0,6,24,25,27,28,29,30,31,32,33],[]),(8,[25,35],[]),(9,[0,6,24,34,36,37,38,39,40,41,42],[]),(10,[34,44],[]),(11,[0,6,24,43,45,46,47,48,49,50,51],[]),(12,[43,53],[]),(13,[0,6,24,52,54,55,56,57,58,59,60],[]),(14,[0,24,52,62],[]),(15,[6,61,63,64,65],[]),(16,[5,6,61,66],[])] Tryz.f40 = some (ac40,[.tmp 4],67) := by kernel_rfl
-- 8 loop.example/prologserver/spec.DrawFormatInstr params 1 ntmps 23
def ac8 : Cd := .seq (.region [⟨(some 2),.alloc [(.d (.int .i64 0)),(.d (.int .i64 0)),(.d (.int .i64 0)),(.d (.str []))],none⟩] [])
 (.seq (.region [⟨(some 5),.mv (.t 0),none⟩,
 ⟨(some 6),.call false 39 [(.t 5)],none⟩,
 ⟨(some 3),.mv (.t 6),none⟩] [0,5,6])
 (.seq (.region [⟨(some 7),.mv (.t 3),none⟩,
 ⟨(some 8),.mv (.t 3),none⟩,
 ⟨(some 9),.call false 42 [(.t 8)],none⟩,
 ⟨(some 10),.qcall 41 [(.t 9)],none⟩,
 ⟨(some 11),.call false 40 [(.t 7),(.t 10)],none⟩,
 ⟨(some 4),.mv (.t 11),none⟩] [7,8,9,10,11])
 (.seq (.seq (.region [⟨(some 12),.mv (.t 4),none⟩,
 ⟨(some 13),.len 1 (.t 12),none⟩,
 ⟨(some 14),.bin .eql (.t 13) (.k (.c (.d (.int .i64 0)))),none⟩] [12,13])
 (.cond (.t 14)
 (.seq (.region [⟨(some 15),.build [(.d (.int .i64 0)),(.d (.int .i64 0)),(.d (.int .i64 0)),(.d (.str []))] [],none⟩,
 ⟨none,.store 4 (.t 2) (.t 15),none⟩] [3,4,14,15])
 (.ret))
 (.skip)))
 (.seq (.region [⟨(some 16),.mv (.t 4),none⟩,
 ⟨(some 17),.mv (.t 3),none⟩,
 ⟨(some 18),.mv (.t 4),none⟩,
 ⟨(some 19),.len 1 (.t 18),none⟩,
 ⟨(some 20),.call false 43 [(.t 17),(.t 19)],none⟩,
 ⟨(some 21),.indexAddr 4 (.t 16) (.t 20),none⟩,
 ⟨(some 22),.load (some 4) (.t 21),none⟩,
 ⟨none,.store 4 (.t 2) (.t 22),none⟩] [3,4,14,16,17,18,19,20,21,22])
 (.ret)))))
theorem ac8_ok : cFunc Tryz.prog [1000041] [(0,[],[]),(1,[0,5,6],[]),(2,[7,8,9,10,11],[]),(3,[12,13],[]),(4,[3,4,14,15],[]),(5,[3,4,14,16,17,18,19,20,21,22],[])] Tryz.f8 = some (ac8,[.cell 2 (some 4)],23) := by kernel_rfl
-- 12 loop.example/prologserver/spec.DrawParseInstr params 1 ntmps 21
def ac12 : Cd := .seq (.region [⟨(some 2),.mv (.k (.c (.d (.str [])))),none⟩] [2])
 (.seq (.region [⟨(some 5),.mv (.t 0),none⟩,
 ⟨(some 6),.call false 39 [(.t 5)],none⟩,
 ⟨(some 3),.mv (.t 6),none⟩] [0,5,6])
 (.seq (.region [⟨(some 7),.mv (.t 3),none⟩,
 ⟨(some 8),.call false 42 [(.t 7)],none⟩,
 ⟨(some 9),.qcall 41 [(.t 8)],none⟩,
 ⟨(some 4),.mv (.t 9),none⟩] [7,8,9])
 (.seq (.region [⟨(some 10),.mv (.t 3),none⟩,
 ⟨(some 11),.mv (.t 4),none⟩,
 ⟨(some 12),.mv (.t 3),none⟩,
 ⟨(some 13),.mv (.t 4),none⟩,
 ⟨(some 14),.len 1 (.t 13),none⟩,
 ⟨(some 15),.call false 43 [(.t 12),(.t 14)],none⟩,
 ⟨(some 16),.indexAddr 4 (.t 11) (.t 15),none⟩,
 ⟨(some 17),.load (some 4) (.t 16),none⟩,
 ⟨(some 18),.qcall 11 [(.t 17)],none⟩,
 ⟨(some 19),.buildSlice 1 5 [(.str [])] [(0,(.k (.c (.d (.str []))))),(1,(.k (.c (.d (.str [32]))))),(2,(.k (.c (.d (.str [48]))))),(3,(.k (.c (.d (.str [97]))))),(4,(.k (.c (.d (.str [45])))))],none⟩,
 ⟨(some 20),.call false 55 [(.t 10),(.t 18),(.t 19)],none⟩,
 ⟨(some 2),.mv (.t 20),none⟩] [3,4,10,11,12,13,14,15,16,17,18,19,20])
 (.ret))))
theorem ac12_ok : cFunc Tryz.prog [1000011,1000041] [(0,[2],[]),(1,[0,5,6],[]),(2,[7,8,9],[]),(3,[3,4,10,11,12,13,14,15,16,17,18,19,20],[])] Tryz.f12 = some (ac12,[.tmp 2],21) := by kernel_rfl
def Ins.fin (x : Ins) : Prop := x.ok ∧ x.text.length ≤ 1048576
def CodeE (r : A) : Prop := ∃ L : List Ins, r = .c (.d (.sl (L.map Ins.row))) ∧ L.length ≤ 1000000 ∧ ∀ x ∈ L, x.fin
theorem CodeE.re {n : Nat} {r : A} (h : CodeE r) : A.re n r = r := by
  obtain ⟨L, rfl, _⟩ := h
  rfl
theorem ins_lenE (x : Ins) : x.row.length = 4 := rfl
theorem ins_allE (L : List Ins) : allLen 4 (L.map Ins.row) := allLen_map ins_lenE
theorem set_rowE {L : List Ins} {k : Nat} (x : Ins) : (L.map Ins.row).set k x.row = (L.set k x).map Ins.row := by rw [List.map_set]
theorem set_okE {L : List Ins} {k : Nat} {x : Ins} (hL : ∀ y ∈ L, y.fin) (hx : x.fin) : ∀ y ∈ L.set k x, y.fin := fun y hy => by
  rcases List.mem_or_eq_of_mem_set hy with h | rfl
  · exact hL y h
  · exact hx
set_option maxHeartbeats 3200000 in
theorem mutE_draws (L : List Ins) (hL : L.length ≤ 1000000) (hx : ∀ x ∈ L, x.fin) : Draws 40 [.c (.d (.sl (L.map Ins.row)))] 4 CodeE := fun c p H i hc hp hp1 hi => by
  refine acalls Tryz.func40 (by kernel_rfl) ac40_ok fun hf => ?_
  simp only [List.length_set] at hf
  have hf0 : ∀ q, Obs.fits H.length 0 (H.set i (Rd c q)) := fun q => fits_reset (b := Rd c q) hf ⟨trivial, trivial, trivial⟩
  have hLi : inR .i64 (L.length : Int) := small_i64 (by omega) (by omega)
  have hz : inR .i64 0 := small_i64 (by omega) (by omega)
  have done : ∀ (M : List Ins) (q : Int), p ≤ q → q ≤ p + 4 → M.length ≤ 1000000 → (∀ x ∈ M, x.fin) → ∀ r, r = .c (.d (.sl (M.map Ins.row))) → Drew CodeE 4 c p H i r (H.set i (Rd c q)) := fun M q a1 a2 a3 a4 r hr => ⟨⟨M, hr, a3, a4⟩, q, a1, a2, rfl⟩
  cases L with
  | nil =>
    simp -implicitDefEqProofs [ac40, hf0, hz, go_sem, -List.set_cons_succ, -List.set_cons_zero]
    exact done [] p (by omega) (by omega) (by simp) (by simp) _ rfl
  | cons x0 L0 =>
    have hLp : ¬ (x0 :: L0) = [] := by simp
    have hLq : 1 ≤ (x0 :: L0).length := by simp
    generalize x0 :: L0 = L at *
    have hal := ins_allE L
    have hLz : ((L.length : Int) == 0) = false := by simp; omega
    have hLz2 : ¬ (L.length : Int) = 0 := by omega
    simp -implicitDefEqProofs [ac40, hf0, hal, hLi, hLp, hLz, hLz2, go_sem, -List.set_cons_succ, -List.set_cons_zero]
    refine ⟨by unfold maxApp; omega, ?_⟩
    refine call_drawE (pick_draws 2 (by omega)) hc (by omega) (by omega) hi (by simp [Ob.re, C.re]) (fun r => IntIn.re) (hf0 _) ?_
    rintro _ p1 ⟨b, rfl, b0, b1⟩ h1 h2
    simp -implicitDefEqProofs [hf0, hal, hLi, go_sem, -List.set_cons_succ, -List.set_cons_zero]
    refine ⟨fun hb => done L p1 (by omega) (by omega) hL hx _ rfl, fun hb => ?_⟩
    refine call_drawE (pick_draws L.length (by omega)) hc (by omega) (by omega) hi (by simp [Ob.re, C.re]) (fun r => IntIn.re) (hf0 _) ?_
    rintro _ p2 ⟨k, rfl, k0, k1⟩ h3 h4
    simp -implicitDefEqProofs [hf0, hal, hLi, go_sem, -List.set_cons_succ, -List.set_cons_zero]
    refine call_drawE (pick_draws 8 (by omega)) hc (by omega) (by omega) hi (by simp [Ob.re, C.re]) (fun r => IntIn.re) (hf0 _) ?_
    rintro _ p3 ⟨m, rfl, m0, m1⟩ h5 h6
    simp -implicitDefEqProofs [hf0, hal, hLi, go_sem, -List.set_cons_succ, -List.set_cons_zero]
    refine ⟨fun _ => ?_, fun _ => ⟨fun _ => ?_, fun _ => ⟨fun _ => ?_, fun _ => ⟨fun _ => ?_, fun _ => ⟨fun _ => ?_, fun _ => ?_⟩⟩⟩⟩⟩
    · refine call_drawE (num_draws [0, 15, 1, 5, 8] (by decide)) hc (by omega) (by omega) hi (by simp [Ob.re, C.re]) (fun r ⟨n, _, hn⟩ => by subst hn; rfl) (hf0 _) ?_
      rintro _ p4 ⟨x, hx2, rfl⟩ h7 h8
      have hx3 : -1000 ≤ x ∧ x ≤ 1000 := by simp at hx2; omega
      have hx4 : inR .i64 x := small_i64 (by omega) (by omega)
      obtain ⟨y, hye⟩ : ∃ y, L[k.toNat]? = some y := ⟨L[k.toNat]'(by omega), by simp⟩
      have hy : y.fin := hx y (List.mem_of_getElem? hye)
      simp -implicitDefEqProofs [hf0, hal, hye, Ins.row, go_sem, -List.set_cons_succ, -List.set_cons_zero]
      refine ⟨⟨k0, by omega⟩, ?_⟩
      exact done (L.set k.toNat ⟨x, y.a, y.b, y.text⟩) p4 (by omega) (by omega) (by simpa using hL) (set_okE hx ⟨⟨hx4, hy.1.a, hy.1.b, hy.1.text⟩, hy.2⟩) _ (by rw [← set_rowE]; rfl)
    · refine call_drawE (num_draws [0, 4, -1, 1000] (by decide)) hc (by omega) (by omega) hi (by simp [Ob.re, C.re]) (fun r ⟨n, _, hn⟩ => by subst hn; rfl) (hf0 _) ?_
      rintro _ p4 ⟨x, hx2, rfl⟩ h7 h8
      have hx3 : -1000 ≤ x ∧ x ≤ 1000 := by simp at hx2; omega
      have hx4 : inR .i64 x := small_i64 (by omega) (by omega)
      obtain ⟨y, hye⟩ : ∃ y, L[k.toNat]? = some y := ⟨L[k.toNat]'(by omega), by simp⟩
      have hy : y.fin := hx y (List.mem_of_getElem? hye)
      simp -implicitDefEqProofs [hf0, hal, hye, Ins.row, go_sem, -List.set_cons_succ, -List.set_cons_zero]
      refine ⟨⟨k0, by omega⟩, ?_⟩
      exact done (L.set k.toNat ⟨y.op, x, y.b, y.text⟩) p4 (by omega) (by omega) (by simpa using hL) (set_okE hx ⟨⟨hy.1.op, hx4, hy.1.b, hy.1.text⟩, hy.2⟩) _ (by rw [← set_rowE]; rfl)
    · refine call_drawE (num_draws [0, 5, -1, 1000] (by decide)) hc (by omega) (by omega) hi (by simp [Ob.re, C.re]) (fun r ⟨n, _, hn⟩ => by subst hn; rfl) (hf0 _) ?_
      rintro _ p4 ⟨x, hx2, rfl⟩ h7 h8
      have hx3 : -1000 ≤ x ∧ x ≤ 1000 := by simp at hx2; omega
      have hx4 : inR .i64 x := small_i64 (by omega) (by omega)
      obtain ⟨y, hye⟩ : ∃ y, L[k.toNat]? = some y := ⟨L[k.toNat]'(by omega), by simp⟩
      have hy : y.fin := hx y (List.mem_of_getElem? hye)
      simp -implicitDefEqProofs [hf0, hal, hye, Ins.row, go_sem, -List.set_cons_succ, -List.set_cons_zero]
      refine ⟨⟨k0, by omega⟩, ?_⟩
      exact done (L.set k.toNat ⟨y.op, y.a, x, y.text⟩) p4 (by omega) (by omega) (by simpa using hL) (set_okE hx ⟨⟨hy.1.op, hy.1.a, hx4, hy.1.text⟩, hy.2⟩) _ (by rw [← set_rowE]; rfl)
    · refine call_drawE (of_draws [[], [102, 111, 111], [88]] (by decide)) hc (by omega) (by omega) hi (by simp [Ob.re, C.re]) (fun r ⟨n, _, hn⟩ => by subst hn; rfl) (hf0 _) ?_
      rintro _ p4 ⟨x, hx2, rfl⟩ h7 h8
      have hx3 : x.length ≤ 3 := by simp at hx2; rcases hx2 with rfl | rfl | rfl <;> decide
      have hx4 : x.length ≤ reachBytes := by simp only [reachBytes]; omega
      obtain ⟨y, hye⟩ : ∃ y, L[k.toNat]? = some y := ⟨L[k.toNat]'(by omega), by simp⟩
      have hy : y.fin := hx y (List.mem_of_getElem? hye)
      simp -implicitDefEqProofs [hf0, hal, hye, Ins.row, go_sem, -List.set_cons_succ, -List.set_cons_zero]
      refine ⟨⟨k0, by omega⟩, ?_⟩
      exact done (L.set k.toNat ⟨y.op, y.a, y.b, x⟩) p4 (by omega) (by omega) (by simpa using hL) (set_okE hx ⟨⟨hy.1.op, hy.1.a, hy.1.b, hx4⟩, by show x.length ≤ 1048576; omega⟩) _ (by rw [← set_rowE]; rfl)
    · refine weak_le (St.le_thaw (loc := []) 5 rfl (by simp [Sl.le, A.le_refl_iff, A.le_u_iff, As.lo, A.lo, C.lo, Ref.lo, Cs.lo, Obs.lo, Ob.lo, setAll, and_true, true_and, List.length_nil, List.length_cons, hi]) trivial) ?_
      simp -implicitDefEqProofs [hal, hf0, go_sem, -List.set_cons_succ, -List.set_cons_zero]
      refine ⟨⟨k0, by omega⟩, ?_⟩
      exact done (L.take k.toNat) p3 (by omega) (by omega) (by simp; omega) (fun x h => hx x (List.mem_of_mem_take h)) _ (by simp)
    · exact done L p3 (by omega) (by omega) hL hx _ rfl
theorem code_fin {d : Cl} (hd : d.fits) (hv : d.validB = true) : ∃ L : List Ins, codeC d = L.map Ins.row ∧ L ≠ [] ∧ ∀ x ∈ L, x.fin := by
  obtain ⟨g1, g2, g3, g4⟩ := validB_head hv
  obtain ⟨h1, h2, h3⟩ := goalsB_iff g4
  have hk := good_kids (k := d.head.k) (n := d.head.n) (s := d.head.s) (l := d.head.kids) (by cases hc : d.head; rw [hc] at g1; exact g1)
  have hz : sizes d.head.kids ≤ 120 := by cases hc : d.head; rw [hc, Tm.size] at g2; show sizes _ ≤ _; simp only [Tm.kids]; omega
  have hg := goals_sizes d.body (goalsB_all g4).2
  obtain ⟨L, e1, e2⟩ := codeC_slots d hd hk.1
  refine ⟨L, e1, fun hn => ?_, fun x h => ?_⟩
  · rw [hn] at e1
    unfold codeC bodyT Mk.emit at e1
    simp at e1
  · obtain ⟨_, h5, h6, h7⟩ := e2 x h
    obtain ⟨⟨h8, h9⟩, h10⟩ := h5 (by omega)
    exact ⟨⟨small_i64 (by omega) (by omega), h8, h9, by unfold reachBytes; omega⟩, h10⟩
theorem fmt_len60 (x : Ins) : x.fmt.length ≤ 60 := by
  cases hb : x.okB with
  | true => exact fmt_60 hb
  | false => unfold Ins.fmt; rw [hb]; simp
def InsR (r : A) : Prop := ∃ x : Ins, r = .agg (x.row.map .d) ∧ x.fin
theorem InsR.re {n : Nat} {r : A} (h : InsR r) : A.re n r = r := by
  obtain ⟨x, rfl, _⟩ := h
  simp [Ins.row, A.re, C.re]
set_option maxHeartbeats 3200000 in
theorem drawFi_calls (c : List UInt8) (hc : c.length ≤ 1048576) (H : Heap) : ACalls Tryz.prog 8 [.c (.d (.sl (bytesRows c)))] H (fun r H' => H' = H ∧ InsR r) := by
  refine acalls Tryz.func8 (by kernel_rfl) ac8_ok fun hf => ?_
  simp -implicitDefEqProofs [ac8, go_sem, -List.set_cons_succ, -List.set_cons_zero]
  refine (open_calls c hc _).mono fun r H' ⟨h1, c', hc', h2⟩ => ⟨H, [.cells [.d (.int .i64 0), .d (.int .i64 0), .d (.int .i64 0), .d (.str [])], Rd c' 0], .c (.ptr (.l 1) 0), by rw [h2]; simp [Rd, Ob.re, C.re], rfl, by simp, hf, by rw [h1]; simp [A.re, C.re, Ref.re], ?_⟩
  simp -implicitDefEqProofs [go_sem, -List.set_cons_succ, -List.set_cons_zero]
  refine call_drawL (j := 1) clause_draws hc' (by omega) (by omega) rfl (by simp [Rd, Ob.re, C.re]) (fun r => ClT.re) hf ?_
  rintro _ p1 ⟨d, rfl, hd, hdl, hv⟩ h3 h4
  obtain ⟨BB, hB, hfit⟩ := codeC_fit d hv
  obtain ⟨L, hL, hne, hok⟩ := code_fin hd hv
  have hcl : (codeC d).length ≤ _ := hfit.code
  have hLl : L.length ≤ 1000000 := by rw [hL] at hcl; simp at hcl; omega
  have hLi : inR .i64 (L.length : Int) := small_i64 (by omega) (by omega)
  have hLp : 1 ≤ L.length := List.length_pos_iff.2 hne
  have cc := l8Clause_calls d hd hv
  rw [hL] at cc
  simp -implicitDefEqProofs [pure_d, re_d, go_sem, -List.set_cons_succ, -List.set_cons_zero]
  refine qcall_pure cc hf rfl ?_
  simp -implicitDefEqProofs [hLi, go_sem, -List.set_cons_succ, -List.set_cons_zero]
  refine call_drawL (j := 1) (mutE_draws L hLl hok) hc' (by omega) (by omega) rfl (by simp [Rd, Ob.re, C.re]) (fun r => CodeE.re) hf ?_
  rintro _ p2 ⟨M, rfl, hM, hMo⟩ h5 h6
  have hMi : inR .i64 (M.length : Int) := small_i64 (by omega) (by omega)
  by_cases hM0 : M = []
  · subst hM0
    have h0 : inR .i64 (0 : Int) := small_i64 (by omega) (by omega)
    simp -implicitDefEqProofs [h0, hf, go_sem, -List.set_cons_succ, -List.set_cons_zero]
    exact ⟨⟨0, 0, 0, []⟩, rfl, ⟨h0, h0, h0, by simp⟩, by simp⟩
  · have hMp : 1 ≤ M.length := List.length_pos_iff.2 hM0
    have hMz : ¬ (M.length : Int) = 0 := by omega
    simp -implicitDefEqProofs [hMi, hM0, hMz, hf, go_sem, -List.set_cons_succ, -List.set_cons_zero]
    refine call_drawL (j := 1) (pick_draws M.length (by omega)) hc' (by omega) (by omega) rfl (by simp [Rd, Ob.re, C.re]) (fun r => IntIn.re) hf ?_
    rintro _ p3 ⟨m, rfl, m0, m1⟩ h7 h8
    have hmlt : m.toNat < M.length := by omega
    simp -implicitDefEqProofs [go_sem, -List.set_cons_succ, -List.set_cons_zero]
    refine row_int M[m.toNat].row m0 (by simp [hmlt]) rfl ?_
    simp -implicitDefEqProofs [Ins.row, hf, go_sem, -List.set_cons_succ, -List.set_cons_zero]
    exact ⟨M[m.toNat], rfl, hMo _ (List.getElem_mem hmlt)⟩
set_option maxHeartbeats 3200000 in
theorem drawPi_calls (c : List UInt8) (hc : c.length ≤ 1048576) (H : Heap) : ACalls Tryz.prog 12 [.c (.d (.sl (bytesRows c)))] H (fun r H' => H' = H ∧ StrR 100 r) := by
  refine acalls Tryz.func12 (by kernel_rfl) ac12_ok fun hf => ?_
  simp -implicitDefEqProofs [ac12, go_sem, -List.set_cons_succ, -List.set_cons_zero]
  refine (open_calls c hc _).mono fun r H' ⟨h1, c', hc', h2⟩ => ⟨H, [Rd c' 0], .c (.ptr (.l 0) 0), by rw [h2]; simp [Rd, Ob.re, C.re], rfl, by simp, hf, by rw [h1]; simp [A.re, C.re, Ref.re], ?_⟩
  simp -implicitDefEqProofs [go_sem, -List.set_cons_succ, -List.set_cons_zero]
  refine call_drawL (j := 0) clause_draws hc' (by omega) (by omega) rfl (by simp [Rd, Ob.re, C.re]) (fun r => ClT.re) hf ?_
  rintro _ p1 ⟨d, rfl, hd, hdl, hv⟩ h3 h4
  obtain ⟨BB, hB, hfit⟩ := codeC_fit d hv
  obtain ⟨L, hL, hne, hok⟩ := code_fin hd hv
  have hcl : (codeC d).length ≤ _ := hfit.code
  have hLl : L.length ≤ 1000000 := by rw [hL] at hcl; simp at hcl; omega
  have hLi : inR .i64 (L.length : Int) := small_i64 (by omega) (by omega)
  have hLp : 1 ≤ L.length := List.length_pos_iff.2 hne
  have cc := l8Clause_calls d hd hv
  rw [hL] at cc
  simp -implicitDefEqProofs [pure_d, re_d, go_sem, -List.set_cons_succ, -List.set_cons_zero]
  refine qcall_pure cc hf rfl ?_
  simp -implicitDefEqProofs [hLi, go_sem, -List.set_cons_succ, -List.set_cons_zero]
  refine call_drawL (j := 0) (pick_draws L.length (by omega)) hc' (by omega) (by omega) rfl (by simp [Rd, Ob.re, C.re]) (fun r => IntIn.re) hf ?_
  rintro _ p2 ⟨m, rfl, m0, m1⟩ h5 h6
  have hmlt : m.toNat < L.length := by omega
  have hx := hok _ (List.getElem_mem hmlt)
  simp -implicitDefEqProofs [go_sem, -List.set_cons_succ, -List.set_cons_zero]
  refine row_int L[m.toNat].row m0 (by simp [hmlt]) rfl ?_
  have cf := fmtSpec_calls L[m.toNat] hx.1 hx.2
  have hf60 : L[m.toNat].fmt.length ≤ 60 := fmt_len60 _
  simp -implicitDefEqProofs [Ins.row, hf, go_sem, -List.set_cons_succ, -List.set_cons_zero]
  refine qcall_pure cf hf rfl ?_
  simp -implicitDefEqProofs [go_sem, -List.set_cons_succ, -List.set_cons_zero]
  refine call_drawL (j := 0) (bend_draws L[m.toNat].fmt (by omega) [[], [32], [48], [97], [45]] (by decide)) hc' (by omega) (by omega) rfl (by simp [Rd, Ob.re, C.re]) (fun r => StrR.re) hf ?_
  rintro _ p3 ⟨u, rfl, hu⟩ h7 h8
  simp -implicitDefEqProofs [hf, go_sem, -List.set_cons_succ, -List.set_cons_zero]
  exact ⟨u, rfl, by omega⟩
end Go.Proofs.YtbblefjbgbocoaaGreatDoor

/-
  strings.Split and strconv.Atoi as calls of the abstract machine, where what they read is told; what the rows list.
  Conditions: none.
-/
open Go Go.AM Go.Proofs
namespace Go.Proofs
open Go.Shelf
def Tryz.laysM146_ren : Go.Shelf.Ren := ⟨fun | 146 => 48 | 221 => 101 | 268 => 156 | 138 => 157 | 143 => 158 | 195 => 191 | 197 => 192 | 218 => 193 | 219 => 194 | 260 => 223 | 217 => 224 | 225 => 225 | 224 => 226 | 267 => 227 | 266 => 239 | 314 => 240 | n => n, fun | 9 => 9 | 31 => 74 | 3 => 3 | 4 => 4 | 0 => 0 | 105 => 199 | 21 => 21 | 5 => 5 | 46 => 204 | 119 => 230 | 139 => 233 | 138 => 232 | 146 => 234 | 51 => 219 | n => n, fun | 1 => 3 | 3 => 4 | 4 => 5 | n => n⟩
theorem Tryz.laysM146 : Go.Proofs.LaysM.n146 Tryz.prog Tryz.laysM146_ren := {
  mixed := by kernel_rfl
  f138 := Tryz.func157.trans (congrArg some (by kernel_rfl))
  f143 := Tryz.func158.trans (congrArg some (by kernel_rfl))
  f146 := Tryz.func48.trans (congrArg some (by kernel_rfl))
  f195 := Tryz.func191.trans (congrArg some (by kernel_rfl))
  f197 := Tryz.func192.trans (congrArg some (by kernel_rfl))
  f217 := Tryz.func224.trans (congrArg some (by kernel_rfl))
  f218 := Tryz.func193.trans (congrArg some (by kernel_rfl))
  f219 := Tryz.func194.trans (congrArg some (by kernel_rfl))
  f221 := Tryz.func101.trans (congrArg some (by kernel_rfl))
  f224 := Tryz.func226.trans (congrArg some (by kernel_rfl))
  f225 := Tryz.func225.trans (congrArg some (by kernel_rfl))
  f260 := Tryz.func223.trans (congrArg some (by kernel_rfl))
  f266 := Tryz.func239.trans (congrArg some (by kernel_rfl))
  f267 := Tryz.func227.trans (congrArg some (by kernel_rfl))
  f268 := Tryz.func156.trans (congrArg some (by kernel_rfl))
  f314 := Tryz.func240.trans (congrArg some (by kernel_rfl))
  t0 := Tryz.underlying0
  a0 := Tryz.isAgg0
  z0 := Tryz.sizeOf0
  v0 := Tryz.zeroValue0
  t3 := Tryz.underlying3
  a3 := Tryz.isAgg3
  z3 := Tryz.sizeOf3
  v3 := Tryz.zeroValue3
  t4 := Tryz.underlying4
  a4 := Tryz.isAgg4
  z4 := Tryz.sizeOf4
  v4 := Tryz.zeroValue4
  t5 := Tryz.underlying5
  a5 := Tryz.isAgg5
  z5 := Tryz.sizeOf5
  v5 := Tryz.zeroValue5
  t9 := Tryz.underlying9
  a9 := Tryz.isAgg9
  z9 := Tryz.sizeOf9
  v9 := Tryz.zeroValue9
  t21 := Tryz.underlying21
  a21 := Tryz.isAgg21
  z21 := Tryz.sizeOf21
  v21 := Tryz.zeroValue21
  t31 := Tryz.underlying74
  a31 := Tryz.isAgg74
  z31 := Tryz.sizeOf74
  v31 := Tryz.zeroValue74
  t46 := Tryz.underlying204
  a46 := Tryz.isAgg204
  z46 := Tryz.sizeOf204
  v46 := Tryz.zeroValue204
  t51 := Tryz.underlying219
  a51 := Tryz.isAgg219
  z51 := Tryz.sizeOf219
  v51 := Tryz.zeroValue219
  t105 := Tryz.underlying199
  a105 := Tryz.isAgg199
  z105 := Tryz.sizeOf199
  v105 := Tryz.zeroValue199
  t119 := Tryz.underlying230
  a119 := Tryz.isAgg230
  z119 := Tryz.sizeOf230
  t138 := Tryz.underlying232
  a138 := Tryz.isAgg232
  z138 := Tryz.sizeOf232
  v138 := Tryz.zeroValue232
  t139 := Tryz.underlying233
  a139 := Tryz.isAgg233
  z139 := Tryz.sizeOf233
  v139 := Tryz.zeroValue233
  t146 := Tryz.underlying234
  a146 := Tryz.isAgg234
  z146 := Tryz.sizeOf234
  v146 := Tryz.zeroValue234
  g1 := by kernel_rfl
  g3 := by kernel_rfl
  g4 := by kernel_rfl
  i0 := by kernel_rfl
  i3 := by kernel_rfl
  i4 := by kernel_rfl
  i5 := by kernel_rfl
  i9 := by kernel_rfl
  i21 := by kernel_rfl
  i31 := by kernel_rfl
  i46 := by kernel_rfl
  i51 := by kernel_rfl
  i105 := by kernel_rfl
  i138 := by kernel_rfl
  i139 := by kernel_rfl
  i146 := by kernel_rfl
  m1 := by kernel_rfl
  s1_3 := fun w h => Go.Proofs.cell_of_shapedOpen_int (zero := #[.int .i64 0]) (t := 3) h (of_decide_eq_true (by kernel_rfl)) (by kernel_rfl) rfl (by kernel_rfl) (by kernel_rfl) Tryz.underlying3
  m3 := by kernel_rfl
  m4 := by kernel_rfl }
end Go.Proofs
namespace Go.Proofs.YtbblefjbgbocoaaGreatDoor
open Go.Lib Go.RowKit Go.ChangeShapes Go.WideShapes Go.ChangeAt
set_option linter.unusedVariables false
set_option linter.unusedSimpArgs false
set_option maxRecDepth 100000
/-- the other variable of strconv, and the one of bytealg -/
def ESy (o : Obj) : Prop := ∀ w : World, w.heap[0]? = some o → ∃ u v, w.cell? ⟨0, 0, none⟩ = some (.iface u v)
def MLn (o : Obj) : Prop := ∀ w : World, w.heap[3]? = some o → ∃ m, w.cell? ⟨3, 0, none⟩ = some (.int .i64 m)
def Lib4 (ts : List (Nat × Obj)) : Prop := ∃ o o2 o3 o4, ts = [(2, o), (1, o2), (0, o3), (3, o4)] ∧ Tab 2 o ∧ ERg o2 ∧ ESy o3 ∧ MLn o4
def Hq (H : Heap) : Prop := ∃ o o2 o3 o4, (H[0]? = some (.tab 2 o) ∧ H[1]? = some (.tab 1 o2) ∧ H[2]? = some (.tab 0 o3) ∧ H[3]? = some (.tab 3 o4)) ∧ Tab 2 o ∧ ERg o2 ∧ ESy o3 ∧ MLn o4
theorem hq_app {H : Heap} (h : Hq H) (L : Heap) : Hq (H ++ L) := by
  obtain ⟨o, o2, o3, o4, ⟨h0, h1, h2, h3⟩, h4⟩ := h
  have app : ∀ {i : Nat} {x : Ob}, H[i]? = some x → (H ++ L)[i]? = some x := fun hi => by
    rw [List.getElem?_append_left (List.getElem?_eq_some_iff.1 hi).1]; exact hi
  exact ⟨o, o2, o3, o4, ⟨app h0, app h1, app h2, app h3⟩, h4⟩
theorem max_told {W : World} (h : W.ShapedOpen Tryz.prog) : ∃ o, W.heap[3]? = some o ∧ MLn o := by
  obtain ⟨m, hm⟩ := Tryz.laysM146.s1_3 W h
  have hm : W.cell? ⟨3, 0, none⟩ = some (.int .i64 m) := hm
  cases ho : W.heap[3]? with
  | none => simp [World.cell?, ho] at hm
  | some o => exact ⟨o, rfl, fun w hw => ⟨m, by rw [← hm]; exact cell_of_heap (hw.trans ho.symm) 0⟩⟩
/-- a call's outcome, where what the rows list is met and the world has its shape -/
theorem returns_shaped {H : Type} {enc : TypeId × Value → H} {a : Assume} {C : Checked} {os : Os} {f : FuncId} {fn : Func} {s : ChangeSpec} {conds : List PathCond} {apart fresh handsOn again : Bool} {X : World → Array Value → Prop}
    (hX : ∀ (w w' : World) (args : Array Value), w.heap = w'.heap → X w args → X w' args) (own : ownKnob C.prog.godebug = none) (started : os.Started) (noInit : C.prog.inits.idxOf? f = none) (hfn : C.prog.funcs[f]? = some fn)
    (witness : ∃ (w : World) (tape : Tape) (i : Input), w.os = os ∧ (w.forCall tape i).Shaped C.prog ∧ i.vars = [] ∧ Input.okWide C.prog (w.forCall tape i) .any w.heap.size f i ∧
      ((s.pre enc C.prog fn conds apart (w.forCall tape i).memory i.args ∧ X (w.forCall tape i).memory i.args) ∧ sizedMet enc C.prog fn (OpenSpec.ofChange s) apart (w.forCall tape i).memory i.args) ∧ a.holds C.prog (lone (Frame.enter C.prog f i.args .normal) [] (w.forCall tape i)))
    (contract : ∀ (W : World) (base : Nat) (args : Array Value) (ds gs : List (DataW H)) (before : List MemPlace), (∀ (j : Nat) t v, fn.params[j]? = some t → args[j]? = some v → Value.okWide C.prog W .any base t v) → DataW.Whole enc C.prog fn.params.toList s.vars apart W args.toList ds gs before →
      conds.all (PathCond.test C.prog ⟨fn.params.toList, ds, s.plain.varTypes C.prog, gs⟩) = true → (DataW.weightsEach C.prog (fn.params.toList ++ s.plain.varTypes C.prog) (ds ++ gs)).all (· ≤ reachBytes) = true → X W args → W.ShapedOpen C.prog →
      a.holds C.prog (lone (Frame.enter C.prog f args .normal) [] W) → Calls C.prog f args W fun e W' => ∃ v, e = .returned v ∧ s.post enc C.prog fn apart fresh handsOn again W args v W') :
    ReturnsInHanded a C os f .any (fun w args => (s.pre enc C.prog fn conds apart w args ∧ X w args) ∧ sizedMet enc C.prog fn (OpenSpec.ofChange s) apart w args) (s.post enc C.prog fn apart fresh handsOn again) := by
  refine returnsInHanded_of_calls own started noInit witness fun w tape i _ hsh _ hok hpre hholds => ?_
  obtain ⟨_, _, _, fn', hfn', _, _, _, _, hval⟩ := hok
  obtain rfl : fn' = fn := Option.some.inj (hfn'.symm.trans hfn)
  obtain ⟨⟨⟨ds, gs, before, hw, hc⟩, hx⟩, hz⟩ := hpre
  refine (contract _ w.heap.size i.args ds gs before hval (DataW.Whole.of_heap (w' := w.forCall tape i) (by rfl) hw) hc (hz.weights hw) (hX _ _ _ (by rfl) hx) hsh hholds).mono fun e W' ⟨v, he, hp⟩ => ?_
  subst he
  exact ChangeSpec.post_blind hp
/-- what strconv.Atoi gives for whatever text -/
def AtoiA (s : List UInt8) (r : A) : Prop := ∃ n e, inR .i64 n ∧ r = .tup [.c (.d (.int .i64 n)), .c (.d (.v e))] ∧ ∀ m, atoiAll s = .ok m → n = m
theorem atoi_any {H : Heap} (hq : Hq H) (s : List UInt8) (hs : s.length ≤ 1048576) : ACalls Tryz.prog 50 [.c (.d (.str s))] H (fun r H' => H' = H ∧ AtoiA s r) := by
  obtain ⟨o, o2, o3, o4, ⟨h0, h1, h2, h3⟩, hT, hR, hS, hM⟩ := hq
  by_cases hsy : endOk (atoiAll s) = true
  · refine (atoi_call hR s (by omega) hsy H h1).mono fun r H' ⟨h, n, e, h5, h6, h7⟩ => ⟨h, n, e, h5, h6, fun m hm => ?_⟩
    rcases h7 with ⟨_, h⟩ | ⟨_, _, _, h⟩
    · rw [h] at hm; cases hm; rfl
    · rw [h] at hm; cases hm
  · refine acalls_tab_any h2 ⟨_, Tryz.func50, by kernel_rfl, by decide⟩ ?_
    intro w ι k cargs hw hl ha
    obtain ⟨v, rfl⟩ : ∃ v, cargs = [v] := by
      match cargs, hl with
      | [v], _ => exact ⟨v, rfl⟩
    have h1 := ha 0 _ _ rfl rfl
    obtain ⟨t, rfl, ht⟩ : ∃ t : ByteArray, v = .string t ∧ t.data.toList = s := by
      cases h1 with
      | c h => cases h with
        | d h => cases h with
          | str t ht => exact ⟨t, rfl, rfl⟩
    have hsz : t.size = s.length := by rw [← ht]; rfl
    obtain ⟨u, v, hc⟩ := hS w hw
    rw [← ht] at hsy
    cases hr : atoiAll t.data.toList with
    | ok n => rw [hr] at hsy; exact absurd rfl hsy
    | range => rw [hr] at hsy; exact absurd rfl hsy
    | _ =>
      refine (Any.strconv_Atoi_syntax Tryz.laysC172 t (by omega) hr _ w hc (.inr ⟨_, _, rfl⟩)).mono ?_
      rintro e w' ⟨N, rfl, _, _, hb⟩
      have key : ∀ e : Value, e.oneCell' = true → (∃ p q, e = .iface p q) → ∃ v r, (Ending.returned (.tuple #[.int .i64 0, e])) = .returned v ∧ AtoiA s r ∧ (∀ (w : World) (ι : List K) (n : Nat), RA w ι n r v) ∧ Below w.heap.size w w' := fun e he hpq => by
        obtain ⟨p, q, rfl⟩ := hpq
        refine ⟨_, .tup [.c (.d (.int .i64 0)), .c (.d (.v (.iface p q)))], rfl, ⟨0, .iface p q, small_i64 (by omega) (by omega), rfl, fun m hm => by rw [← ht, hr] at hm; cases hm⟩, fun w ι m => ?_, hb⟩
        exact RA.tup (vs := [.int .i64 _, .iface _ _]) rfl fun i a v h1 h2 => by
          match i with
          | 0 => cases h1; cases h2; exact .mkInt (small_i64 (by omega) (by omega))
          | 1 => cases h1; cases h2; exact .c (.d (.v _ rfl))
      exact key _ rfl ⟨_, _, rfl⟩
theorem split_words (t : ByteArray) (c : UInt8) : ((splitB ⟨#[c]⟩ 0 (countB t ⟨#[c]⟩) t).map (·.data.toList)) = cutAt c t.data.toList := by
  rw [splitB_data]
  have h : countB t ⟨#[c]⟩ = t.data.toList.count c := count_one c _
  rw [h]
  exact split_cut c _ _ rfl
set_option maxHeartbeats 3200000 in
theorem split_calls {H : Heap} (hq : Hq H) (s : List UInt8) (c : UInt8) (hs : s.length ≤ 1048576) : ACalls Tryz.prog 48 [.c (.d (.str s)), .c (.d (.str [c]))] H (fun r H' => H' = H ∧ r = .c (.d (.sl ((cutAt c s).map strRow)))) := by
  obtain ⟨o, o2, o3, o4, ⟨g0, g1, g2, g3⟩, hT, hR, hS, hM⟩ := hq
  refine ⟨⟨_, Tryz.func48, by kernel_rfl, by decide⟩, fun w ι cargs hsim hl ha => ?_⟩
  obtain ⟨v0, v1, rfl⟩ : ∃ v0 v1, cargs = [v0, v1] := by
    match cargs, hl with
    | [a, b], _ => exact ⟨a, b, rfl⟩
  have h0 := ha 0 _ _ rfl rfl
  have h1 := ha 1 _ _ rfl rfl
  obtain ⟨t, rfl, ht⟩ : ∃ t : ByteArray, v0 = .string t ∧ t.data.toList = s := by
    cases h0 with
    | c h => cases h with
      | d h => cases h with
        | str t ht => exact ⟨t, rfl, rfl⟩
  obtain ⟨sep, rfl, hsep⟩ : ∃ sep : ByteArray, v1 = .string sep ∧ sep = ⟨#[c]⟩ := by
    cases h1 with
    | c h => cases h with
      | d h =>
        generalize hcl : [c] = l at h
        cases h with
        | str s _ => exact ⟨s, rfl, by
            have : s.data = #[c] := by rw [← Array.toArray_toList (xs := s.data), ← hcl]
            cases s; simp only at this; rw [this]⟩
  subst hsep
  obtain ⟨m, hm⟩ := hM w (hsim.tabs_get g3)
  have hsz : t.size = s.length := by rw [← ht]; rfl
  have hone : 1 ≤ (⟨#[c]⟩ : ByteArray).size := Nat.le_refl 1
  have hlen := splitB_all ⟨#[c]⟩ hone 0 (countB t ⟨#[c]⟩) t rfl
  have hw := split_words t c
  refine (Any.strings_Split { Tryz.laysM146 with } Tryz.laysM146.i9 t ⟨#[c]⟩ m w (by omega) hm hone).mono ?_
  rintro e w' ⟨rfl, hw'⟩
  generalize hws : splitB ⟨#[c]⟩ 0 (countB t ⟨#[c]⟩) t = ws at hlen hw hw'
  have hwl : ws.length ≤ 1048577 := by
    have e := congrArg List.length hw
    rw [List.length_map] at e
    have := (cutw_len c t.data.toList).2
    rw [e, ht] at *
    omega
  have hb : Below w.heap.size w w' := by rw [hw']; exact (Below.refl _ _).alloc (Nat.le_refl _) _
  have hx : Ext w ι w' ι := Ext.of_blocks hb.os hb.tape hb.output hb.size hb.block
  rw [← hlen]
  refine ⟨_, H, ι, _, rfl, ⟨rfl, rfl⟩, hsim.of_blocks hx hb.block, .c (.d ?_), hx, Nat.le_refl _⟩
  rw [← ht, ← hw, List.map_map]
  have hrl : (ws.map (strRow ∘ fun x => x.data.toList)).length = ws.length := by simp
  have := RD.sl (w := w') (S := AM.Safe w' ι) (ws.map (strRow ∘ fun x => x.data.toList)) w.heap.size 0 ws.length 1 (fun i => .string (ws.getD i ByteArray.empty)) (by omega) (by rw [hrl]; unfold maxRows; omega)
    (fun i r h => by
      simp only [List.getElem?_map, Option.map_eq_some_iff] at h
      obtain ⟨a, _, rfl⟩ := h
      rfl)
    (fun i r j x h h2 => by
      simp only [List.getElem?_map, Option.map_eq_some_iff] at h
      obtain ⟨a, ha, rfl⟩ := h
      have hj : j = 0 := by
        have := (List.getElem?_eq_some_iff.1 h2).1
        simp [strRow] at this
        exact this
      subst hj
      have hil := (List.getElem?_eq_some_iff.1 ha).1
      refine ⟨?_, ?_, fun k hk ho => ?_⟩
      · rw [hw']
        rw [World.cell?_alloc_new]
        simp only [Nat.zero_add, Nat.mul_one, Nat.add_zero, List.getElem?_toArray, List.getElem?_map, ha, Option.map_some, List.getD, Option.getD_some]
      · rw [hw']; simp only [World.alloc, Array.size_push]; omega
      · have := hsim.low k w.heap.size hk (K.at_of_owns ho)
        omega)
    (fun i r j x h h2 => by
      simp only [List.getElem?_map, Option.map_eq_some_iff] at h
      obtain ⟨a, ha, rfl⟩ := h
      have hj : j = 0 := by
        have := (List.getElem?_eq_some_iff.1 h2).1
        simp [strRow] at this
        exact this
      subst hj
      simp [strRow] at h2
      subst h2
      have hal : a.data.toList.length ≤ 1048576 := by
        have h3 := cutw_mem c t.data.toList a.data.toList (by rw [← hw]; exact List.mem_map.2 ⟨a, List.mem_of_getElem? ha, rfl⟩)
        rw [ht] at h3
        omega
      simp only [Nat.mul_one, Nat.add_zero]
      rw [show ws.getD i ByteArray.empty = a by simp [List.getD, ha]]
      exact .str a (by unfold maxStr; omega))
  rw [hrl] at this
  exact this
end Go.Proofs.YtbblefjbgbocoaaGreatDoor

/-
  Instructions, read from texts: the program.
  Conditions: none.
-/
open Go Go.AM Go.Proofs
namespace Go.Proofs.YtbblefjbgbocoaaGreatDoor
open Go.ChangeShapes Go.WideShapes Go.ChangeAt Go.RowKit
set_option linter.unusedVariables false
set_option linter.unusedSimpArgs false
set_option maxRecDepth 100000
-- 49 loop.example/prologserver/impl.ParseInstr$1 params 1 ntmps 18
def ac49 : Cd := .seq (.region [⟨(some 3),.mv (.k (.c (.d (.str [])))),none⟩] [3])
 (.seq (.seq (.region [⟨(some 5),.mv (.t 0),none⟩,
 ⟨(some 6),.un .not (.t 5),none⟩,
 ⟨(some 7),.mv (.t 6),none⟩,
 ⟨(some 8),.load none (.t 1),some (7,false)⟩,
 ⟨(some 9),.len 1 (.t 8),some (7,false)⟩,
 ⟨(some 10),.bin .eql (.t 9) (.k (.c (.d (.int .i64 0)))),some (7,false)⟩,
 ⟨(some 11),.pick (.t 7) (.k (.c (.d (.bool true)))) (.t 10),none⟩] [0,5,6,7,8,9,10])
 (.cond (.t 11)
 (.seq (.region [⟨(some 3),.mv (.k (.c (.d (.str [48])))),none⟩] [11])
 (.ret))
 (.skip)))
 (.seq (.region [⟨(some 12),.load none (.t 1),none⟩,
 ⟨(some 13),.indexAddr 1 (.t 12) (.k (.c (.d (.int .i64 0)))),none⟩,
 ⟨(some 14),.load none (.t 13),none⟩,
 ⟨(some 4),.mv (.t 14),none⟩] [3,11,12,13,14])
 (.seq (.region [⟨(some 15),.load none (.t 1),none⟩,
 ⟨(some 16),.slice 1 (.t 15) (some (.k (.c (.d (.int .i64 1))))) none none,none⟩,
 ⟨none,.store 1 (.t 1) (.t 16),none⟩] [15,16])
 (.seq (.region [⟨(some 17),.mv (.t 4),none⟩,
 ⟨(some 3),.mv (.t 17),none⟩] [4,17])
 (.ret)))))
theorem ac49_ok : cFunc Tryz.prog [] [(0,[3],[]),(1,[0,5,6,7,8,9,10],[]),(2,[11],[]),(3,[3,11,12,13,14],[]),(4,[15,16],[]),(5,[4,17],[])] Tryz.f49 = some (ac49,[.tmp 3],18) := by kernel_rfl
-- 10 loop.example/prologserver/impl.ParseInstr params 1 ntmps 70
-- loop head live: [0,2,4,5]
def ac10 : Cd := .seq (.region [⟨(some 2),.alloc [(.d (.int .i64 0)),(.d (.int .i64 0)),(.d (.int .i64 0)),(.d (.str []))],none⟩,
 ⟨(some 3),.mv (.k (.c (.d (.bool false)))),none⟩] [3])
 (.seq (.region [⟨(some 11),.mv (.t 0),none⟩,
 ⟨(some 12),.qcall 48 [(.t 11),(.k (.c (.d (.str [32]))))],none⟩,
 ⟨(some 4),.mv (.t 12),none⟩] [11,12])
 (.seq (.seq (.region [⟨(some 13),.mv (.t 4),none⟩,
 ⟨(some 14),.len 1 (.t 13),none⟩,
 ⟨(some 15),.bin .gtr (.t 14) (.k (.c (.d (.int .i64 4)))),none⟩] [13,14])
 (.cond (.t 15)
 (.seq (.region [⟨(some 16),.build [(.d (.int .i64 0)),(.d (.int .i64 0)),(.d (.int .i64 0)),(.d (.str []))] [],none⟩,
 ⟨none,.store 4 (.t 2) (.t 16),none⟩,
 ⟨(some 3),.mv (.k (.c (.d (.bool false)))),none⟩] [0,4,15,16])
 (.ret))
 (.skip)))
 (.seq (.seq (.region [⟨(some 5),.mv (.k (.c (.d (.int .i64 1)))),none⟩] [3,15])
 (.block 0 (.loop (.seq (.seq (.region [⟨(some 17),.mv (.t 5),none⟩,
 ⟨(some 18),.bin .leq (.t 17) (.k (.c (.d (.int .i64 14)))),none⟩] [17])
 (.cond (.t 18)
 (.skip)
 (.exit 0)))
 (.seq (.block 1 (.seq (.region [⟨(some 22),.mv (.t 5),none⟩,
 ⟨(some 23),.qcall 44 [(.t 22)],none⟩,
 ⟨(some 21),.mv (.t 23),none⟩,
 ⟨(some 24),.extract 0 (.t 21),none⟩,
 ⟨(some 25),.extract 1 (.t 21),none⟩,
 ⟨(some 6),.alloc [(.d (.str [])),(.d (.bool false)),(.d (.bool false)),(.d (.bool false))],none⟩,
 ⟨none,.store 4 (.t 6) (.t 24),none⟩,
 ⟨(some 7),.mv (.t 25),none⟩] [18,21,22,23,24,25])
 (.seq (.seq (.region [⟨(some 26),.mv (.t 7),none⟩,
 ⟨(some 27),.un .not (.t 26),none⟩,
 ⟨(some 28),.mv (.t 27),none⟩,
 ⟨(some 29),.fieldAddr 0 (.t 6),some (28,false)⟩,
 ⟨(some 31),.mv (.t 4),some (28,false)⟩,
 ⟨(some 32),.indexAddr 1 (.t 31) (.k (.c (.d (.int .i64 0)))),some (28,false)⟩,
 ⟨(some 30),.load none (.t 29),some (28,false)⟩,
 ⟨(some 33),.load none (.t 32),some (28,false)⟩,
 ⟨(some 34),.bin .neq (.t 30) (.t 33),some (28,false)⟩,
 ⟨(some 35),.pick (.t 28) (.k (.c (.d (.bool true)))) (.t 34),none⟩] [7,26,27,28,29,30,31,32,33,34])
 (.cond (.t 35)
 (.exit 1)
 (.skip)))
 (.seq (.region [⟨(some 36),.mv (.t 5),none⟩,
 ⟨(some 37),.build [(.d (.int .i64 0)),(.d (.int .i64 0)),(.d (.int .i64 0)),(.d (.str []))] [(0,1,(.t 36))],none⟩,
 ⟨(some 8),.alloc [(.d (.int .i64 0)),(.d (.int .i64 0)),(.d (.int .i64 0)),(.d (.str []))],none⟩,
 ⟨none,.store 4 (.t 8) (.t 37),none⟩] [35,36,37])
 (.seq (.region [⟨(some 38),.mv (.t 4),none⟩,
 ⟨(some 39),.slice 1 (.t 38) (some (.k (.c (.d (.int .i64 1))))) none none,none⟩,
 ⟨(some 9),.alloc [(.full [])],none⟩,
 ⟨none,.store 1 (.t 9) (.t 39),none⟩] [38,39])
 (.seq (.region [⟨(some 40),.mkFunc 49 [(.t 9)],none⟩,
 ⟨(some 10),.mv (.t 40),none⟩] [9,40])
 (.seq (.region [⟨(some 42),.mv (.t 10),none⟩,
 ⟨(some 43),.fieldAddr 1 (.t 6),none⟩,
 ⟨(some 44),.load none (.t 43),none⟩,
 ⟨(some 45),.callv (.t 42) [(.t 44)],none⟩,
 ⟨(some 46),.call false 50 [(.t 45)],none⟩,
 ⟨(some 41),.mv (.t 46),none⟩,
 ⟨(some 47),.extract 0 (.t 41),none⟩,
 ⟨(some 48),.extract 1 (.t 41),none⟩,
 ⟨(some 49),.fieldAddr 1 (.t 8),none⟩,
 ⟨none,.store 1 (.t 49) (.t 47),none⟩] [41,42,43,44,45,46,47,48,49])
 (.seq (.region [⟨(some 51),.mv (.t 10),none⟩,
 ⟨(some 52),.fieldAddr 2 (.t 6),none⟩,
 ⟨(some 53),.load none (.t 52),none⟩,
 ⟨(some 54),.callv (.t 51) [(.t 53)],none⟩,
 ⟨(some 55),.call false 50 [(.t 54)],none⟩,
 ⟨(some 50),.mv (.t 55),none⟩,
 ⟨(some 56),.extract 0 (.t 50),none⟩,
 ⟨(some 57),.extract 1 (.t 50),none⟩,
 ⟨(some 58),.fieldAddr 2 (.t 8),none⟩,
 ⟨none,.store 1 (.t 58) (.t 56),none⟩] [50,51,52,53,54,55,56,57,58])
 (.seq (.seq (.region [⟨(some 59),.fieldAddr 3 (.t 6),none⟩,
 ⟨(some 60),.load none (.t 59),none⟩] [6,59])
 (.cond (.t 60)
 (.region [⟨(some 61),.mv (.t 10),none⟩,
 ⟨(some 62),.callv (.t 61) [(.k (.c (.d (.bool true))))],none⟩,
 ⟨(some 63),.fieldAddr 3 (.t 8),none⟩,
 ⟨none,.store 1 (.t 63) (.t 62),none⟩] [10,60,61,62,63])
 (.skip)))
 (.seq (.region [⟨(some 64),.load (some 4) (.t 8),none⟩,
 ⟨(some 65),.qcall 9 [(.t 64)],none⟩,
 ⟨(some 66),.mv (.t 0),none⟩,
 ⟨(some 67),.bin .eql (.t 65) (.t 66),none⟩] [10,60,64,65,66])
 (.cond (.t 67)
 (.seq (.region [⟨(some 68),.load (some 4) (.t 8),none⟩,
 ⟨none,.store 4 (.t 2) (.t 68),none⟩,
 ⟨(some 3),.mv (.k (.c (.d (.bool true)))),none⟩] [0,4,5,8,67,68])
 (.ret))
 (.skip))))))))))))
 (.region [⟨(some 19),.mv (.t 5),none⟩,
 ⟨(some 20),.bin .add (.t 19) (.k (.c (.d (.int .i64 1)))),none⟩,
 ⟨(some 5),.mv (.t 20),none⟩] [3,8,19,20,67]))))))
 (.seq (.region [⟨(some 69),.build [(.d (.int .i64 0)),(.d (.int .i64 0)),(.d (.int .i64 0)),(.d (.str []))] [],none⟩,
 ⟨none,.store 4 (.t 2) (.t 69),none⟩,
 ⟨(some 3),.mv (.k (.c (.d (.bool false)))),none⟩] [69])
 (.ret)))))
theorem ac10_ok : cFunc Tryz.prog [1000009,1000044,1000048] [(0,[3],[]),(1,[11,12],[]),(2,[13,14],[]),(3,[0,4,15,16],[]),(4,[3,15],[]),(5,[17],[]),(7,[18,21,22,23,24,25],[]),(8,[7,26,27,28,29,30,31,32,33,34],[0,1,2,3,5,6,4,7,8,9]),(9,[35,36,37],[]),(10,[38,39],[]),(11,[9,40],[]),(12,[41,42,43,44,45,46,47,48,49],[]),(13,[50,51,52,53,54,55,56,57,58],[]),(14,[6,59],[]),(15,[10,60,61,62,63],[]),(16,[10,60,64,65,66],[]),(17,[0,4,5,8,67,68],[]),(6,[3,8,19,20,67],[]),(18,[69],[])] Tryz.f10 = some (ac10,[.cell 2 (some 4),.tmp 3],70) := by kernel_rfl
/-- a call that leaves all objects as they were, with one of several results -/
theorem call_relA {P : Program} {f : FuncId} {xs : List A} {sl : List A} {ext loc H₂ : Heap} {R : A → Prop} {K : A → St → Prop} (hc : ACalls P f xs H₂ (fun r' H' => H' = H₂ ∧ R r')) (hf : Obs.fits ext.length 0 ext) (hH : H₂ = ext ++ loc.map (Ob.re ext.length))
    (hk : ∀ r, R r → A.re ext.length r = r ∧ K r ⟨sl, ext, loc⟩) : ACalls P f xs H₂ (CallK K ⟨sl, ext, loc⟩) := by
  subst hH
  exact hc.mono fun r' H' ⟨h1, h2⟩ => ⟨ext, loc, r', h1, rfl, Nat.le_refl _, hf, (hk r' h2).1.symm, (hk r' h2).2⟩
/-- a call that changes one of the caller's own objects -/
theorem call_atL {P : Program} {f : FuncId} {args : List A} {sl : List A} {ext loc H₂ : Heap} {j : Nat} {g : Ob} {r : A} {K : A → St → Prop} (hc : ACalls P f args H₂ (fun r' H' => H' = H₂.set (ext.length + j) g ∧ r' = r)) (hg : Ob.re ext.length g = g) (hr : A.re ext.length r = r)
    (hf : Obs.fits ext.length 0 ext) (hH : H₂ = ext ++ loc.map (Ob.re ext.length)) (hk : K r ⟨sl, ext, loc.set j g⟩) : ACalls P f args H₂ (CallK K ⟨sl, ext, loc⟩) := by
  subst hH
  refine hc.mono fun r' H' ⟨h1, h2⟩ => ⟨ext, loc.set j g, r, ?_, rfl, by simp, hf, by rw [h2, hr], hk⟩
  rw [h1, List.set_append_right _ _ (by omega), Nat.add_sub_cancel_left, List.map_set, hg]
theorem set_same {H : Heap} {i : Nat} {x : Ob} (h : H[i]? = some x) : H.set i x = H := by
  obtain ⟨h1, h2⟩ := List.getElem?_eq_some_iff.1 h
  rw [← h2]
  simp
set_option maxHeartbeats 3200000 in
/-- the closure that takes the next word -/
theorem take_calls (b : Bool) (rest : List (List UInt8)) (hr : rest.length ≤ 1048576) (H : Heap) (i : Nat) (hi : H[i]? = some (.cells [.d (.sl (rest.map strRow))])) :
    ACalls Tryz.prog 49 [.c (.d (.bool b)), .c (.ptr (.e i) 0)] H (fun r H' => H' = H.set i (.cells [.d (.sl ((tk b rest).2.map strRow))]) ∧ r = .c (.d (.str (tk b rest).1))) := by
  refine acalls Tryz.func49 (by kernel_rfl) ac49_ok fun hf => ?_
  have hs := set_same hi
  cases b with
  | false => simp -implicitDefEqProofs [ac49, tk, hi, hs, hf, go_sem, -List.set_cons_succ, -List.set_cons_zero]
  | true =>
    cases rest with
    | nil =>
      simp only [List.map_nil] at hi hs
      have h0 : inR .i64 (0 : Int) := small_i64 (by omega) (by omega)
      simp -implicitDefEqProofs [ac49, tk, hi, hs, h0, hf, go_sem, -List.set_cons_succ, -List.set_cons_zero]
    | cons w rest =>
      have hli : inR .i64 ((rest.length : Int) + 1) := small_i64 (by omega) (by simp at hr; omega)
      have hz : ((rest.length : Int) + 1 == 0) = false := by simp; omega
      simp only [List.map_cons] at hi hs
      simp -implicitDefEqProofs [ac49, tk, hi, hli, hz, hf, go_sem, -List.set_cons_succ, -List.set_cons_zero]
      refine row_int (strRow w) (by omega) (by simp) rfl ?_
      simp -implicitDefEqProofs [strRow, hi, hli, hz, hf, go_sem, -List.set_cons_succ, -List.set_cons_zero]
      exact ⟨allLen_map fun _ => rfl, by omega, Obs_fits_set hf ⟨trivial, trivial⟩⟩
theorem tk_le {N : Nat} {b : Bool} {rest : List (List UInt8)} {w : List UInt8} {r : List (List UInt8)} (hN : 1 ≤ N) (h : ∀ x ∈ rest, x.length ≤ N) (he : tk b rest = (w, r)) : w.length ≤ N ∧ r.length ≤ rest.length ∧ ∀ x ∈ r, x.length ≤ N := by
  unfold tk at he
  split at he
  · rename_i hc
    cases rest with
    | nil => simp at hc
    | cons a l =>
      simp at he
      obtain ⟨rfl, rfl⟩ := he
      exact ⟨h _ (by simp), by simp, fun x hx => h x (by simp [hx])⟩
  · cases he
    exact ⟨hN, Nat.le_refl _, h⟩
theorem grown_tab {ext loc ext' loc' : Heap} {i g : Nat} {o : Obj} (hg : Grown ext loc ext' loc') (h : ext[i]? = some (.tab g o)) : (ext' ++ loc'.map (Ob.re ext.length))[i]? = some (.tab g o) := by
  have hi := (List.getElem?_eq_some_iff.1 h).1
  have := hg.2.2 [] [] (.e i) (.tab g o) (by simp [z_, List.getD, h]) (by simp) (by simp)
  simp only [z_, List.getD] at this
  rw [List.getElem?_append_left (by rw [hg.1]; exact hi)]
  rw [List.getElem?_eq_getElem (by rw [hg.1]; exact hi)] at this ⊢
  simpa using this
theorem hq_grown {ext loc ext' loc' : Heap} (hg : Grown ext loc ext' loc') (h : Hq ext) : Hq (ext' ++ loc'.map (Ob.re ext.length)) := by
  obtain ⟨o, o2, o3, o4, ⟨h0, h1, h2, h3⟩, h4⟩ := h
  exact ⟨o, o2, o3, o4, ⟨grown_tab hg h0, grown_tab hg h1, grown_tab hg h2, grown_tab hg h3⟩, h4⟩
def zeroI : Ins := ⟨0, 0, 0, []⟩
def insA : Option Ins → A
  | some x => .tup [.agg (x.row.map .d), .c (.d (.bool true))]
  | none => .tup [.agg (zeroI.row.map .d), .c (.d (.bool false))]
theorem Pa.no {s : List UInt8} (h : ∀ y : Ins, y.okB = true → y.fmt ≠ s) : Pa s none := ⟨fun x hx => (by cases hx), fun _ => h⟩
theorem Pa.yes {s : List UInt8} {x : Ins} (h : x.fmt = s) (hs : s ≠ []) (ho : x.ok) : Pa s (some x) := by
  refine ⟨fun y hy => ?_, fun h => by cases h⟩
  cases hy
  refine ⟨?_, h, ho⟩
  cases hb : x.okB with
  | true => rfl
  | false => unfold Ins.fmt at h; rw [hb] at h; exact absurd h.symm hs
set_option maxHeartbeats 3200000 in
theorem piImpl_calls (s : List UInt8) (hs : s.length ≤ 1048576) (H : Heap) (hq : Hq H) : ACalls Tryz.prog 10 [.c (.d (.str s))] H (fun r H' => H' = H ∧ ∃ R, Pa s R ∧ r = insA R) := by
  refine acalls Tryz.func10 (by kernel_rfl) ac10_ok fun hf => ?_
  have hcl := cutw_len 32 s
  have hcm := cutw_mem 32 s
  have hwd : ∀ y : Ins, y.okB = true → y.fmt = s → cutAt 32 s = y.wds := fun y hy h => by rw [← h, fmt_wds hy]
  simp -implicitDefEqProofs [ac10, hf, go_sem, -List.set_cons_succ, -List.set_cons_zero]
  refine ⟨hf, _, rfl, fun st' hg => split_calls (hq_grown hg hq) s 32 hs, ?_⟩
  have hbt := @bt_back s
  have hno := @no_op s
  have hs0 : s = [] → (cutAt 32 s).headD [] = [] := fun h => by rw [h]; rfl
  generalize cutAt 32 s = W at hcl hcm hwd hbt hno hs0
  obtain ⟨o, o2, o3, o4, ⟨g0, _⟩, hT, _⟩ := id hq
  have hwi : inR .i64 (W.length : Int) := small_i64 (by omega) (by omega)
  by_cases h4 : 4 < W.length
  · have h4' : (4 : Int) < W.length := by omega
    simp -implicitDefEqProofs [hwi, h4', hf, zeroI, Ins.row, go_sem, -List.set_cons_succ, -List.set_cons_zero]
    exact ⟨none, Pa.no fun y hy h => by have := (wds_len y).2; rw [← hwd y hy h] at this; omega, rfl⟩
  · have h4' : ¬ (4 : Int) < W.length := by omega
    obtain ⟨w0, wr, rfl⟩ : ∃ w0 wr, W = w0 :: wr := by
      cases W with
      | nil => simp at hcl
      | cons a b => exact ⟨a, b, rfl⟩
    simp only [List.length_cons, Int.natCast_add, Int.cast_ofNat_Int] at hwi h4'
    simp -implicitDefEqProofs [hwi, h4', hf, go_sem, -List.set_cons_succ, -List.set_cons_zero]
    refine loop_set (σ := Nat) (fun i => [(5, .c (.d (.int .i64 i)))]) (fun _ => H) (fun i => [.cells (zeroI.row.map .d)]) (fun i => 1 ≤ i ∧ i ≤ 15 ∧ ∀ y : Ins, y.okB = true → y.op < i → y.fmt ≠ s) (fun i => 15 - i) 1 (by simp [setAll, zeroI, Ins.row]) ⟨by omega, by omega, fun y hy h => ?_⟩ ?_
    · have := (okB_all hy).1
      simp [opOk] at this
      omega
    rintro i ⟨i1, i15, hlow⟩
    by_cases hle : i ≤ 14
    · have hle' : (i : Int) ≤ 14 := by omega
      have hadd : inR .i64 ((i : Int) + 1) := small_i64 (by omega) (by omega)
      have hok : opOk (i : Int) = true := by simp [opOk]; omega
      simp -implicitDefEqProofs [setAll, hle, hle', hf, go_sem, -List.set_cons_succ, -List.set_cons_zero]
      refine qcall_pure (formOf_calls i) hf (by simp [A.re, A.res, C.re]) ?_
      rw [hok]
      simp -implicitDefEqProofs [hf, go_sem, -List.set_cons_succ, -List.set_cons_zero]
      refine row_int (strRow w0) (by omega) (by simp) rfl ?_
      by_cases hw : opWord (i : Int) = w0
      · have hw2 : (opWord (i : Int) != w0) = false := by simp [hw]
        have hwr : wr.length ≤ 1048576 := by simp at hcl; omega
        have hwl : ∀ w ∈ w0 :: wr, w.length ≤ 1048576 := fun w h => Nat.le_trans (hcm w h) hs
        obtain ⟨W1, R1, e1⟩ : ∃ W1 R1, tk (opIA (i : Int)) wr = (W1, R1) := ⟨_, _, rfl⟩
        obtain ⟨W2, R2, e2⟩ : ∃ W2 R2, tk (opB (i : Int)) R1 = (W2, R2) := ⟨_, _, rfl⟩
        obtain ⟨W3, R3, e3⟩ : ∃ W3 R3, tk true R2 = (W3, R3) := ⟨_, _, rfl⟩
        have k1 := tk_le (N := 1048576) (by omega) (fun w h => hwl w (by simp [h])) e1
        have k2 := tk_le (N := 1048576) (by omega) k1.2.2 e2
        have k3 := tk_le (N := 1048576) (by omega) k2.2.2 e3
        have c1 := fun H j hj => take_calls (opIA (i : Int)) wr hwr H j hj
        have c2 := fun H j hj => take_calls (opB (i : Int)) R1 (by omega) H j hj
        have c3 := fun H j hj => take_calls true R2 (by omega) H j hj
        simp only [e1, e2, e3] at c1 c2 c3
        simp -implicitDefEqProofs [strRow, hw, hw2, hf, go_sem, -List.set_cons_succ, -List.set_cons_zero]
        refine ⟨allLen_map fun _ => rfl, by omega, ?_⟩
        simp -implicitDefEqProofs [ptrsOf, go_sem, -List.set_cons_succ, -List.set_cons_zero]
        refine call_atL (j := 3) (c1 _ (H.length + 3) (by simp [strRow])) (by simp [Ob.re, C.re]) (by simp [A.re, C.re]) hf (by simp [zeroI, Ins.row, Ob.re, C.re]) ?_
        simp -implicitDefEqProofs [hf, go_sem, -List.set_cons_succ, -List.set_cons_zero]
        refine call_relA (atoi_any (hq_app hq _) W1 k1.1) hf (by simp [zeroI, Ins.row, Ob.re, C.re]) ?_
        rintro _ ⟨n1, x1, hn1, rfl, hv1⟩
        refine ⟨by simp [A.re, A.res, C.re], ?_⟩
        simp -implicitDefEqProofs [hn1, hf, ptrsOf, go_sem, -List.set_cons_succ, -List.set_cons_zero]
        refine call_atL (j := 3) (c2 _ (H.length + 3) (by simp [strRow])) (by simp [Ob.re, C.re]) (by simp [A.re, C.re]) hf (by simp [zeroI, Ins.row, Ob.re, C.re]) ?_
        simp -implicitDefEqProofs [hf, go_sem, -List.set_cons_succ, -List.set_cons_zero]
        refine call_relA (atoi_any (hq_app hq _) W2 k2.1) hf (by simp [zeroI, Ins.row, Ob.re, C.re]) ?_
        rintro _ ⟨n2, x2, hn2, rfl, hv2⟩
        refine ⟨by simp [A.re, A.res, C.re], ?_⟩
        simp -implicitDefEqProofs [hn2, hf, ptrsOf, go_sem, -List.set_cons_succ, -List.set_cons_zero]
        have hsne : s ≠ [] := fun h => word_ne hok (hw.trans (hs0 h))
        have hii : inR .i64 (i : Int) := small_i64 (by omega) (by omega)
        have step : ∀ T : List UInt8, T = (if opN (i : Int) then W3 else []) → (⟨i, n1, n2, T⟩ : Ins).fmt ≠ s → ∀ y : Ins, y.okB = true → y.op < (i + 1 : Nat) → y.fmt ≠ s := fun T hT' hne y hy h hfy => by
          by_cases ho : y.op = i
          · have := hbt (show Bt (w0 :: wr) (i : Int) ⟨i, n1, n2, T⟩ from ⟨rfl, by show Apv (tk (opIA i) wr).1 n1; rw [e1]; exact hv1, by show Apv (tk (opB i) (tk (opIA i) wr).2).1 n2; rw [e1, e2]; exact hv2, by show T = if opN (i : Int) then (tk true (tk (opB i) (tk (opIA i) wr).2).2).1 else []; rw [e1, e2, e3]; exact hT'⟩) hy hfy ho
            rw [this] at hne
            exact hne hfy
          · exact hlow y hy (by omega) hfy
        cases hN : opN (i : Int) with
        | false =>
          have hx : (⟨i, n1, n2, []⟩ : Ins).ok := ⟨hii, hn1, hn2, by simp⟩
          have cf := fun H' hH' => fmtImpl_calls hT ⟨i, n1, n2, []⟩ hx (by simp) H' hH'
          simp -implicitDefEqProofs [hf, go_sem, -List.set_cons_succ, -List.set_cons_zero]
          refine qcall_tab cf hf g0 rfl ?_
          by_cases hfm : (⟨i, n1, n2, []⟩ : Ins).fmt = s
          · simp -implicitDefEqProofs [hfm, zeroI, Ins.row, hf, go_sem, -List.set_cons_succ, -List.set_cons_zero]
            exact ⟨some _, Pa.yes hfm hsne hx, rfl⟩
          · simp -implicitDefEqProofs [hfm, hadd, hf, go_sem, -List.set_cons_succ, -List.set_cons_zero]
            refine loop_less (i + 1) (St.le_cut [_, _, _] ?_ (by simp [Sl.le, A.le_refl_iff, A.le_u_iff, As.lo, A.lo, C.lo, Ref.lo, Cs.lo, Obs.lo, Ob.lo, setAll, and_true, true_and, List.length_nil, List.length_cons]) rfl (by simp [zeroI, Ins.row, Sl.le, A.le_refl_iff, A.le_u_iff, As.lo, A.lo, C.lo, Ref.lo, Cs.lo, Obs.lo, Ob.lo, setAll, and_true, true_and, List.length_nil, List.length_cons])) ⟨by omega, by omega, step [] (by rw [hN]; rfl) hfm⟩ (by show 15 - (i + 1) < 15 - i; omega)
            simp [setAll, Sl.le, A.le_refl_iff, A.le_u_iff, As.lo, A.lo, C.lo, Ref.lo, Cs.lo, Obs.lo, Ob.lo, setAll, and_true, true_and, List.length_nil, List.length_cons]
        | true =>
          have hx : (⟨i, n1, n2, W3⟩ : Ins).ok := ⟨hii, hn1, hn2, by have := k3.1; show W3.length ≤ reachBytes; unfold reachBytes; omega⟩
          have cf := fun H' hH' => fmtImpl_calls hT ⟨i, n1, n2, W3⟩ hx (by have := k3.1; simp only; omega) H' hH'
          simp -implicitDefEqProofs [hf, ptrsOf, go_sem, -List.set_cons_succ, -List.set_cons_zero]
          refine call_atL (j := 3) (c3 _ (H.length + 3) (by simp [strRow])) (by simp [Ob.re, C.re]) (by simp [A.re, C.re]) hf (by simp [zeroI, Ins.row, Ob.re, C.re]) ?_
          simp -implicitDefEqProofs [hf, go_sem, -List.set_cons_succ, -List.set_cons_zero]
          refine qcall_tab cf hf g0 rfl ?_
          by_cases hfm : (⟨i, n1, n2, W3⟩ : Ins).fmt = s
          · simp -implicitDefEqProofs [hfm, zeroI, Ins.row, hf, go_sem, -List.set_cons_succ, -List.set_cons_zero]
            exact ⟨some _, Pa.yes hfm hsne hx, rfl⟩
          · simp -implicitDefEqProofs [hfm, hadd, hf, go_sem, -List.set_cons_succ, -List.set_cons_zero]
            refine loop_less (i + 1) (St.le_cut [_, _, _] ?_ (by simp [Sl.le, A.le_refl_iff, A.le_u_iff, As.lo, A.lo, C.lo, Ref.lo, Cs.lo, Obs.lo, Ob.lo, setAll, and_true, true_and, List.length_nil, List.length_cons]) rfl (by simp [zeroI, Ins.row, Sl.le, A.le_refl_iff, A.le_u_iff, As.lo, A.lo, C.lo, Ref.lo, Cs.lo, Obs.lo, Ob.lo, setAll, and_true, true_and, List.length_nil, List.length_cons])) ⟨by omega, by omega, step W3 (by rw [hN]; rfl) hfm⟩ (by show 15 - (i + 1) < 15 - i; omega)
            simp [setAll, Sl.le, A.le_refl_iff, A.le_u_iff, As.lo, A.lo, C.lo, Ref.lo, Cs.lo, Obs.lo, Ob.lo, setAll, and_true, true_and, List.length_nil, List.length_cons]
      · have hw2 : (opWord (i : Int) != w0) = true := by simp [hw]
        simp -implicitDefEqProofs [strRow, hw, hw2, hadd, hf, go_sem, -List.set_cons_succ, -List.set_cons_zero]
        refine loop_less (i + 1) (St.le_cut [_] ?_ (by simp [Sl.le, A.le_refl_iff, A.le_u_iff, As.lo, A.lo, C.lo, Ref.lo, Cs.lo, Obs.lo, Ob.lo, setAll, and_true, true_and, List.length_nil, List.length_cons]) rfl (by simp [zeroI, Ins.row, Sl.le, A.le_refl_iff, A.le_u_iff, As.lo, A.lo, C.lo, Ref.lo, Cs.lo, Obs.lo, Ob.lo, setAll, and_true, true_and, List.length_nil, List.length_cons])) ⟨by omega, by omega, fun y hy h => ?_⟩ (by show 15 - (i + 1) < 15 - i; omega)
        · simp [setAll, Sl.le, A.le_refl_iff, A.le_u_iff, As.lo, A.lo, C.lo, Ref.lo, Cs.lo, Obs.lo, Ob.lo, setAll, and_true, true_and, List.length_nil, List.length_cons]
        · by_cases ho : y.op = i
          · exact hno (show (w0 :: wr).headD [] ≠ opWord (i : Int) from fun e => hw e.symm) y hy ho
          · exact hlow y hy (by omega)
    · have hle' : ¬ (i : Int) ≤ 14 := by omega
      simp -implicitDefEqProofs [setAll, hle, hle', hf, zeroI, Ins.row, go_sem, -List.set_cons_succ, -List.set_cons_zero]
      refine ⟨none, Pa.no fun y hy => hlow y hy ?_, rfl⟩
      have := (okB_all hy).1
      simp [opOk] at this
      omega
end Go.Proofs.YtbblefjbgbocoaaGreatDoor

/-
  Instructions, read from texts: the reference.
  Conditions: none.
-/
open Go Go.AM Go.Proofs
namespace Go.Proofs.YtbblefjbgbocoaaGreatDoor
open Go.ChangeShapes Go.WideShapes Go.ChangeAt Go.RowKit
set_option linter.unusedVariables false
set_option linter.unusedSimpArgs false
set_option maxRecDepth 100000
-- 57 loop.example/prologserver/spec.l8Int params 1 ntmps 18
def ac57 : Cd := .seq (.region [⟨(some 2),.mv (.k (.c (.d (.int .i64 0)))),none⟩] [2])
 (.seq (.region [⟨(some 3),.mv (.k (.c (.d (.int .i64 1)))),none⟩] [])
 (.seq (.seq (.region [⟨(some 6),.mv (.t 0),none⟩,
 ⟨(some 7),.qcall 106 [(.t 6),(.k (.c (.d (.int .i64 0)))),(.k (.c (.d (.int .u8 45))))],none⟩] [6])
 (.cond (.t 7)
 (.seq (.region [⟨(some 3),.mv (.k (.c (.d (.int .i64 (-1))))),none⟩] [7])
 (.region [⟨(some 8),.mv (.t 0),none⟩,
 ⟨(some 9),.slice 0 (.t 8) (some (.k (.c (.d (.int .i64 1))))) none none,none⟩,
 ⟨(some 0),.mv (.t 9),none⟩] [8,9]))
 (.skip)))
 (.seq (.region [⟨(some 11),.mv (.t 0),none⟩,
 ⟨(some 12),.call false 107 [(.t 11)],none⟩,
 ⟨(some 10),.mv (.t 12),none⟩,
 ⟨(some 13),.extract 0 (.t 10),none⟩,
 ⟨(some 14),.extract 1 (.t 10),none⟩,
 ⟨(some 4),.mv (.t 13),none⟩,
 ⟨(some 5),.mv (.t 14),none⟩] [0,5,7,10,11,12,13,14])
 (.seq (.region [⟨(some 15),.mv (.t 3),none⟩,
 ⟨(some 16),.mv (.t 4),none⟩,
 ⟨(some 17),.bin .mul (.t 15) (.t 16),none⟩,
 ⟨(some 2),.mv (.t 17),none⟩] [3,4,15,16,17])
 (.ret)))))
theorem ac57_ok : cFunc Tryz.prog [1000106] [(0,[2],[]),(1,[],[]),(2,[6],[]),(3,[7],[]),(4,[8,9],[]),(5,[0,5,7,10,11,12,13,14],[]),(6,[3,4,15,16,17],[])] Tryz.f57 = some (ac57,[.tmp 2],18) := by kernel_rfl
-- 13 loop.example/prologserver/spec.ParseInstr params 1 ntmps 86
-- loop head live: [0,2,4,5,6,7]
-- loop head live: [0,2,4,5,8,9]
def ac13 : Cd := .seq (.region [⟨(some 2),.alloc [(.d (.int .i64 0)),(.d (.int .i64 0)),(.d (.int .i64 0)),(.d (.str []))],none⟩,
 ⟨(some 3),.mv (.k (.c (.d (.bool false)))),none⟩] [3])
 (.seq (.region [⟨(some 10),.mv (.t 0),none⟩,
 ⟨(some 11),.qcall 56 [(.t 10),(.k (.c (.d (.int .u8 32))))],none⟩,
 ⟨(some 4),.mv (.t 11),none⟩] [10,11])
 (.seq (.region [⟨(some 12),.build [(.d (.int .i64 0)),(.d (.int .i64 0)),(.d (.int .i64 0)),(.d (.str []))] [],none⟩,
 ⟨(some 5),.alloc [(.d (.int .i64 0)),(.d (.int .i64 0)),(.d (.int .i64 0)),(.d (.str []))],none⟩,
 ⟨none,.store 4 (.t 5) (.t 12),none⟩] [12])
 (.seq (.region [⟨(some 13),.qcall 52 [],none⟩,
 ⟨(some 6),.mv (.t 13),none⟩] [13])
 (.seq (.seq (.region [⟨(some 7),.mv (.k (.c (.d (.int .i64 1)))),none⟩] [])
 (.block 0 (.loop (.seq (.seq (.region [⟨(some 14),.mv (.t 7),none⟩,
 ⟨(some 15),.mv (.t 6),none⟩,
 ⟨(some 16),.len 1 (.t 15),none⟩,
 ⟨(some 17),.bin .lss (.t 14) (.t 16),none⟩] [14,15,16])
 (.cond (.t 17)
 (.skip)
 (.exit 0)))
 (.seq (.block 1 (.seq (.region [⟨(some 20),.mv (.t 6),none⟩,
 ⟨(some 21),.mv (.t 7),none⟩,
 ⟨(some 22),.indexAddr 1 (.t 20) (.t 21),none⟩,
 ⟨(some 24),.mv (.t 4),none⟩,
 ⟨(some 25),.indexAddr 1 (.t 24) (.k (.c (.d (.int .i64 0)))),none⟩,
 ⟨(some 23),.load none (.t 22),none⟩,
 ⟨(some 26),.load none (.t 25),none⟩,
 ⟨(some 27),.bin .eql (.t 23) (.t 26),none⟩] [17,20,21,22,23,24,25,26])
 (.cond (.t 27)
 (.region [⟨(some 28),.mv (.t 7),none⟩,
 ⟨(some 29),.fieldAddr 0 (.t 5),none⟩,
 ⟨none,.store 1 (.t 29) (.t 28),none⟩] [27,28,29])
 (.skip))))
 (.region [⟨(some 18),.mv (.t 7),none⟩,
 ⟨(some 19),.bin .add (.t 18) (.k (.c (.d (.int .i64 1)))),none⟩,
 ⟨(some 7),.mv (.t 19),none⟩] [18,19,27]))))))
 (.seq (.region [⟨(some 30),.fieldAddr 0 (.t 5),none⟩,
 ⟨(some 31),.load none (.t 30),none⟩,
 ⟨(some 32),.qcall 53 [(.t 31)],none⟩,
 ⟨(some 8),.mv (.t 32),none⟩] [30,31,32])
 (.seq (.seq (.region [⟨(some 33),.mv (.t 4),none⟩,
 ⟨(some 34),.len 1 (.t 33),none⟩,
 ⟨(some 35),.mv (.t 8),none⟩,
 ⟨(some 36),.len 0 (.t 35),none⟩,
 ⟨(some 37),.bin .add (.t 36) (.k (.c (.d (.int .i64 1)))),none⟩,
 ⟨(some 38),.bin .neq (.t 34) (.t 37),none⟩,
 ⟨(some 39),.mv (.t 38),none⟩,
 ⟨(some 40),.mv (.t 0),some (39,false)⟩,
 ⟨(some 41),.len 0 (.t 40),some (39,false)⟩,
 ⟨(some 42),.bin .gtr (.t 41) (.k (.c (.d (.int .i64 60)))),some (39,false)⟩,
 ⟨(some 43),.pick (.t 39) (.k (.c (.d (.bool true)))) (.t 42),none⟩] [33,34,35,36,37,38,39,40,41,42])
 (.cond (.t 43)
 (.seq (.region [⟨(some 44),.build [(.d (.int .i64 0)),(.d (.int .i64 0)),(.d (.int .i64 0)),(.d (.str []))] [],none⟩,
 ⟨none,.store 4 (.t 2) (.t 44),none⟩,
 ⟨(some 3),.mv (.k (.c (.d (.bool false)))),none⟩] [0,4,5,8,43,44])
 (.ret))
 (.skip)))
 (.seq (.seq (.region [⟨(some 9),.mv (.k (.c (.d (.int .i64 0)))),none⟩] [3,43])
 (.block 2 (.loop (.seq (.seq (.region [⟨(some 45),.mv (.t 9),none⟩,
 ⟨(some 46),.mv (.t 8),none⟩,
 ⟨(some 47),.len 0 (.t 46),none⟩,
 ⟨(some 48),.bin .lss (.t 45) (.t 47),none⟩] [45,46,47])
 (.cond (.t 48)
 (.skip)
 (.exit 2)))
 (.seq (.block 3 (.seq (.region [⟨(some 51),.mv (.t 8),none⟩,
 ⟨(some 52),.mv (.t 9),none⟩,
 ⟨(some 53),.index (.t 51) (.t 52),none⟩] [48,51,52])
 (.block 4 (.seq (.region [⟨(some 55),.bin .eql (.t 53) (.k (.c (.d (.int .u8 97)))),none⟩,
 ⟨(some 54),.mv (.t 55),none⟩] [55])
 (.cond (.t 54)
 (.region [⟨(some 56),.mv (.t 4),none⟩,
 ⟨(some 57),.mv (.t 9),none⟩,
 ⟨(some 58),.bin .add (.t 57) (.k (.c (.d (.int .i64 1)))),none⟩,
 ⟨(some 59),.indexAddr 1 (.t 56) (.t 58),none⟩,
 ⟨(some 60),.load none (.t 59),none⟩,
 ⟨(some 61),.call false 57 [(.t 60)],none⟩,
 ⟨(some 62),.fieldAddr 1 (.t 5),none⟩,
 ⟨none,.store 1 (.t 62) (.t 61),none⟩] [53,54,56,57,58,59,60,61,62])
 (.seq (.region [⟨(some 64),.bin .eql (.t 53) (.k (.c (.d (.int .u8 98)))),none⟩,
 ⟨(some 63),.mv (.t 64),none⟩] [54,64])
 (.cond (.t 63)
 (.region [⟨(some 65),.mv (.t 4),none⟩,
 ⟨(some 66),.mv (.t 9),none⟩,
 ⟨(some 67),.bin .add (.t 66) (.k (.c (.d (.int .i64 1)))),none⟩,
 ⟨(some 68),.indexAddr 1 (.t 65) (.t 67),none⟩,
 ⟨(some 69),.load none (.t 68),none⟩,
 ⟨(some 70),.call false 57 [(.t 69)],none⟩,
 ⟨(some 71),.fieldAddr 2 (.t 5),none⟩,
 ⟨none,.store 1 (.t 71) (.t 70),none⟩] [53,63,65,66,67,68,69,70,71])
 (.seq (.region [⟨(some 73),.bin .eql (.t 53) (.k (.c (.d (.int .u8 110)))),none⟩,
 ⟨(some 72),.mv (.t 73),none⟩] [53,63,73])
 (.cond (.t 72)
 (.region [⟨(some 74),.mv (.t 4),none⟩,
 ⟨(some 75),.mv (.t 9),none⟩,
 ⟨(some 76),.bin .add (.t 75) (.k (.c (.d (.int .i64 1)))),none⟩,
 ⟨(some 77),.indexAddr 1 (.t 74) (.t 76),none⟩,
 ⟨(some 78),.load none (.t 77),none⟩,
 ⟨(some 79),.fieldAddr 3 (.t 5),none⟩,
 ⟨none,.store 1 (.t 79) (.t 78),none⟩] [72,74,75,76,77,78,79])
 (.skip))))))))))
 (.region [⟨(some 49),.mv (.t 9),none⟩,
 ⟨(some 50),.bin .add (.t 49) (.k (.c (.d (.int .i64 1)))),none⟩,
 ⟨(some 9),.mv (.t 50),none⟩] [49,50,72]))))))
 (.seq (.seq (.region [⟨(some 80),.load (some 4) (.t 5),none⟩,
 ⟨(some 81),.qcall 11 [(.t 80)],none⟩,
 ⟨(some 82),.mv (.t 0),none⟩,
 ⟨(some 83),.bin .neq (.t 81) (.t 82),none⟩] [0,80,81,82])
 (.cond (.t 83)
 (.seq (.region [⟨(some 84),.build [(.d (.int .i64 0)),(.d (.int .i64 0)),(.d (.int .i64 0)),(.d (.str []))] [],none⟩,
 ⟨none,.store 4 (.t 2) (.t 84),none⟩,
 ⟨(some 3),.mv (.k (.c (.d (.bool false)))),none⟩] [5,83,84])
 (.ret))
 (.skip)))
 (.seq (.region [⟨(some 85),.load (some 4) (.t 5),none⟩,
 ⟨none,.store 4 (.t 2) (.t 85),none⟩,
 ⟨(some 3),.mv (.k (.c (.d (.bool true)))),none⟩] [5,83,85])
 (.ret))))))))))
theorem ac13_ok : cFunc Tryz.prog [1000011,1000052,1000053,1000056] [(0,[3],[]),(1,[10,11],[]),(2,[12],[]),(3,[13],[]),(4,[],[]),(5,[14,15,16],[]),(7,[17,20,21,22,23,24,25,26],[0,1,2,4,5,3,6,7]),(8,[27,28,29],[]),(6,[18,19,27],[]),(9,[30,31,32],[]),(10,[33,34,35,36,37,38,39,40,41,42],[]),(11,[0,4,5,8,43,44],[]),(12,[3,43],[]),(13,[45,46,47],[]),(15,[48,51,52],[]),(16,[55],[]),(17,[53,54,56,57,58,59,60,61,62],[]),(18,[54,64],[]),(19,[53,63,65,66,67,68,69,70,71],[]),(20,[53,63,73],[]),(21,[72,74,75,76,77,78,79],[]),(14,[49,50,72],[]),(22,[0,80,81,82],[]),(23,[5,83,84],[]),(24,[5,83,85],[])] Tryz.f13 = some (ac13,[.cell 2 (some 4),.tmp 3],86) := by kernel_rfl
def p10 (i : Nat) : Nat := 10 ^ i
theorem p10_succ (i : Nat) : p10 (i + 1) = 10 * p10 i := by unfold p10; rw [Nat.pow_succ, Nat.mul_comm]
theorem p10_le {i : Nat} (h : i ≤ 17) : p10 i ≤ 100000000000000000 := Nat.pow_le_pow_right (n := 10) (by omega) h
def big17 : Int := 100000000000000000
def NumA (t : List UInt8) (r : A) : Prop := ∃ (n : Int) (b : Bool), r = .tup [.c (.d (.int .i64 n)), .c (.d (.bool b))] ∧ -big17 ≤ n ∧ n ≤ big17 ∧ (t.all digB = true → t.length ≤ 17 → n = if canB t then (numV t : Int) else 0)
theorem numV_le17 {t : List UInt8} (h : t.length ≤ 17) (hd : t.all digB = true) : numV t < 10 ^ 17 := Nat.lt_of_lt_of_le (numV_lt t.length t rfl hd) (Nat.pow_le_pow_right (by omega) h)
set_option maxHeartbeats 3200000 in
theorem num_any (t : List UInt8) (hl : t.length ≤ 1048576) (H : Heap) : ACalls Tryz.prog 107 [.c (.d (.str t))] H (fun r H' => H' = H ∧ NumA t r) := by
  by_cases hA : t.all digB = true ∧ t.length ≤ 17
  · refine (num_calls t hA.2 hA.1 H).mono fun r H' ⟨h1, h2⟩ => ⟨h1, _, _, h2, ?_, ?_, fun _ _ => rfl⟩
    · split <;> unfold big17 <;> omega
    · split
      · have := numV_le17 hA.2 hA.1
        unfold big17; omega
      · unfold big17; omega
  · have weak : ∀ (n : Int) (b : Bool), -big17 ≤ n → n ≤ big17 → NumA t (.tup [.c (.d (.int .i64 n)), .c (.d (.bool b))]) := fun n b h1 h2 => ⟨n, b, rfl, h1, h2, fun h3 h4 => absurd ⟨h3, h4⟩ hA⟩
    refine acalls Tryz.func107 (by kernel_rfl) ac107_ok fun hf => ?_
    cases t with
    | nil => exact absurd ⟨rfl, by simp⟩ hA
    | cons b l =>
      have hli : inR .i64 ((l.length : Int) + 1) := small_i64 (by omega) (by simp at hl; omega)
      have hpos : (0 : Int) < (l.length : Int) + 1 := by omega
      have hz : ((l.length : Int) + 1 == 0) = false := by simp; omega
      by_cases hb : b = 45
      · subst hb
        simp -implicitDefEqProofs [ac107, hli, hpos, hf, go_sem, -List.set_cons_succ, -List.set_cons_zero]
        refine byte_int 45 (by omega) (by simp) ?_
        simp -implicitDefEqProofs [hz, hli, hf, go_sem, -List.set_cons_succ, -List.set_cons_zero]
        refine ⟨by omega, small_i64 (by omega) (by simp at hl; omega), fun _ => small_i64 (by omega) (by simp at hl; omega), ?_⟩
        cases l with
        | nil =>
          simp -implicitDefEqProofs [hf, go_sem, -List.set_cons_succ, -List.set_cons_zero]
          refine byte_off 0 ?_
          simp -implicitDefEqProofs [hf, go_sem, -List.set_cons_succ, -List.set_cons_zero]
          exact weak 0 false (by unfold big17; omega) (by unfold big17; omega)
        | cons c m =>
          have hmi : inR .i64 ((m.length : Int) + 1) := small_i64 (by omega) (by simp at hl; omega)
          have hz2 : ((m.length : Int) + 1 == 0) = false := by simp; omega
          by_cases h17 : (17 : Int) < (m.length : Int) + 1
          · simp -implicitDefEqProofs [hz2, h17, hf, go_sem, -List.set_cons_succ, -List.set_cons_zero]
            refine byte_off 0 ?_
            simp -implicitDefEqProofs [hz2, h17, hf, go_sem, -List.set_cons_succ, -List.set_cons_zero]
            exact weak 0 false (by unfold big17; omega) (by unfold big17; omega)
          · simp -implicitDefEqProofs [hz2, h17, hf, go_sem, -List.set_cons_succ, -List.set_cons_zero]
            refine byte_int c (by omega) (by simp) ?_
            by_cases hc : (c.toNat : Int) = 48
            · simp -implicitDefEqProofs [hz2, h17, hc, hmi, hf, go_sem, -List.set_cons_succ, -List.set_cons_zero]
              exact weak 0 false (by unfold big17; omega) (by unfold big17; omega)
            · simp -implicitDefEqProofs [hz2, h17, hc, hmi, hf, go_sem, -List.set_cons_succ, -List.set_cons_zero]
              obtain ⟨r, hrr⟩ : ∃ r, r = c :: m := ⟨_, rfl⟩
              have hr17 : r.length ≤ 17 := by rw [hrr]; simp; omega
              have hri : inR .i64 (r.length : Int) := small_i64 (by omega) (by omega)
              rw [← hrr] at weak ⊢
              refine loop_set (σ := Nat × Int) (fun x => [(6, .c (.d (.int .i64 x.1))), (5, .c (.d (.int .i64 x.2)))]) (fun _ => H) (fun _ => []) (fun x => x.1 ≤ r.length ∧ 0 ≤ x.2 ∧ x.2 < (p10 x.1 : Int)) (fun x => r.length - x.1) (0, 0) (by simp [setAll]) ⟨Nat.zero_le _, by simp, by simp [p10]⟩ ?_
              rintro ⟨i, n⟩ ⟨hi, hn0, hn1⟩
              simp only at hi hn0 hn1
              have hp : p10 i ≤ 100000000000000000 := p10_le (by omega)
              have hni : inR .i64 n := i64_def.2 (by omega)
              by_cases hlt : i < r.length
              · have hadd : inR .i64 ((i : Int) + 1) := small_i64 (by omega) (by omega)
                simp -implicitDefEqProofs [setAll, hri, hlt, hf, go_sem, -List.set_cons_succ, -List.set_cons_zero]
                refine byte_nat hlt ?_
                by_cases q1 : (r[i].toNat : Int) < 48
                · simp -implicitDefEqProofs [q1, hf, go_sem, -List.set_cons_succ, -List.set_cons_zero]
                  refine byte_off 0 ?_
                  simp -implicitDefEqProofs [hf, go_sem, -List.set_cons_succ, -List.set_cons_zero]
                  exact weak 0 false (by unfold big17; omega) (by unfold big17; omega)
                · simp -implicitDefEqProofs [q1, hf, go_sem, -List.set_cons_succ, -List.set_cons_zero]
                  refine byte_nat hlt ?_
                  by_cases q2 : (57 : Int) < r[i].toNat
                  · simp -implicitDefEqProofs [q2, hf, go_sem, -List.set_cons_succ, -List.set_cons_zero]
                    exact weak 0 false (by unfold big17; omega) (by unfold big17; omega)
                  · have hp1 : p10 (i + 1) = 10 * p10 i := p10_succ i
                    have hp2 : p10 (i + 1) ≤ 100000000000000000 := p10_le (by omega)
                    have hw : IntKind.i64.wrap ((r[i].toNat : Int) - 48) = (r[i].toNat : Int) - 48 := by rw [IntKind.wrap_i64]; omega
                    have hr1 : inR .i64 (n * 10) := i64_def.2 (by omega)
                    have hr2 : inR .i64 (n * 10 + ((r[i].toNat : Int) - 48)) := i64_def.2 (by omega)
                    have hr3 : inR .u8 ((r[i].toNat : Int) - 48) := by simp [inR, IntKind.min, IntKind.max, IntKind.signed, IntKind.bits]; omega
                    simp -implicitDefEqProofs [q2, hni, hr1, hf, go_sem, -List.set_cons_succ, -List.set_cons_zero]
                    refine byte_nat hlt ?_
                    simp -implicitDefEqProofs [hr1, hr2, hr3, hw, hadd, hf, go_sem, -List.set_cons_succ, -List.set_cons_zero]
                    exact loop_back (i + 1, n * 10 + ((r[i].toNat : Int) - 48)) (by simp [setAll]) ⟨hlt, by simp only; omega, by simp only; omega⟩ (by show r.length - (i + 1) < r.length - i; omega)
              · have hneg : inR .i64 (-n) := i64_def.2 (by omega)
                simp -implicitDefEqProofs [setAll, hri, hlt, hni, hneg, hf, go_sem, -List.set_cons_succ, -List.set_cons_zero]
                exact weak _ true (by unfold big17; omega) (by unfold big17; omega)
      · have hb45 : ((b.toNat : Int) == 45) = false := by
          have : b.toNat ≠ 45 := fun e => hb (UInt8.toNat_inj.1 e)
          simp; omega
        simp -implicitDefEqProofs [ac107, hli, hpos, hf, go_sem, -List.set_cons_succ, -List.set_cons_zero]
        refine byte_int b (by omega) (by simp) ?_
        simp -implicitDefEqProofs [hb45, hz, hli, hf, go_sem, -List.set_cons_succ, -List.set_cons_zero]
        by_cases h17 : (17 : Int) < (l.length : Int) + 1
        · simp -implicitDefEqProofs [h17, hf, go_sem, -List.set_cons_succ, -List.set_cons_zero]
          refine byte_off 0 ?_
          simp -implicitDefEqProofs [h17, hf, go_sem, -List.set_cons_succ, -List.set_cons_zero]
          exact weak 0 false (by unfold big17; omega) (by unfold big17; omega)
        · simp -implicitDefEqProofs [h17, hf, go_sem, -List.set_cons_succ, -List.set_cons_zero]
          refine byte_int b (by omega) (by simp) ?_
          by_cases hc : (b.toNat : Int) = 48 ∧ (1 : Int) < (l.length : Int) + 1
          · simp -implicitDefEqProofs [h17, hc.1, hc.2, hli, hf, go_sem, -List.set_cons_succ, -List.set_cons_zero]
            exact weak 0 false (by unfold big17; omega) (by unfold big17; omega)
          · simp -implicitDefEqProofs [h17, hli, hf, go_sem, -List.set_cons_succ, -List.set_cons_zero]
            refine ⟨fun e1 e2 => absurd ⟨e1, by omega⟩ hc, fun _ => ?_⟩
            obtain ⟨r, hrr⟩ : ∃ r, r = b :: l := ⟨_, rfl⟩
            have hr17 : r.length ≤ 17 := by rw [hrr]; simp; omega
            have hri : inR .i64 (r.length : Int) := small_i64 (by omega) (by omega)
            rw [← hrr] at weak ⊢
            refine loop_set (σ := Nat × Int) (fun x => [(6, .c (.d (.int .i64 x.1))), (5, .c (.d (.int .i64 x.2)))]) (fun _ => H) (fun _ => []) (fun x => x.1 ≤ r.length ∧ 0 ≤ x.2 ∧ x.2 < (p10 x.1 : Int)) (fun x => r.length - x.1) (0, 0) (by simp [setAll]) ⟨Nat.zero_le _, by simp, by simp [p10]⟩ ?_
            rintro ⟨i, n⟩ ⟨hi, hn0, hn1⟩
            simp only at hi hn0 hn1
            have hp : p10 i ≤ 100000000000000000 := p10_le (by omega)
            have hni : inR .i64 n := i64_def.2 (by omega)
            by_cases hlt : i < r.length
            · have hadd : inR .i64 ((i : Int) + 1) := small_i64 (by omega) (by omega)
              simp -implicitDefEqProofs [setAll, hri, hlt, hf, go_sem, -List.set_cons_succ, -List.set_cons_zero]
              refine byte_nat hlt ?_
              by_cases q1 : (r[i].toNat : Int) < 48
              · simp -implicitDefEqProofs [q1, hf, go_sem, -List.set_cons_succ, -List.set_cons_zero]
                refine byte_off 0 ?_
                simp -implicitDefEqProofs [hf, go_sem, -List.set_cons_succ, -List.set_cons_zero]
                exact weak 0 false (by unfold big17; omega) (by unfold big17; omega)
              · simp -implicitDefEqProofs [q1, hf, go_sem, -List.set_cons_succ, -List.set_cons_zero]
                refine byte_nat hlt ?_
                by_cases q2 : (57 : Int) < r[i].toNat
                · simp -implicitDefEqProofs [q2, hf, go_sem, -List.set_cons_succ, -List.set_cons_zero]
                  exact weak 0 false (by unfold big17; omega) (by unfold big17; omega)
                · have hp1 : p10 (i + 1) = 10 * p10 i := p10_succ i
                  have hp2 : p10 (i + 1) ≤ 100000000000000000 := p10_le (by omega)
                  have hw : IntKind.i64.wrap ((r[i].toNat : Int) - 48) = (r[i].toNat : Int) - 48 := by rw [IntKind.wrap_i64]; omega
                  have hr1 : inR .i64 (n * 10) := i64_def.2 (by omega)
                  have hr2 : inR .i64 (n * 10 + ((r[i].toNat : Int) - 48)) := i64_def.2 (by omega)
                  have hr3 : inR .u8 ((r[i].toNat : Int) - 48) := by simp [inR, IntKind.min, IntKind.max, IntKind.signed, IntKind.bits]; omega
                  simp -implicitDefEqProofs [q2, hni, hr1, hf, go_sem, -List.set_cons_succ, -List.set_cons_zero]
                  refine byte_nat hlt ?_
                  simp -implicitDefEqProofs [hr1, hr2, hr3, hw, hadd, hf, go_sem, -List.set_cons_succ, -List.set_cons_zero]
                  exact loop_back (i + 1, n * 10 + ((r[i].toNat : Int) - 48)) (by simp [setAll]) ⟨hlt, by simp only; omega, by simp only; omega⟩ (by show r.length - (i + 1) < r.length - i; omega)
            · have hneg : inR .i64 (-n) := i64_def.2 (by omega)
              simp -implicitDefEqProofs [setAll, hri, hlt, hni, hneg, hf, go_sem, -List.set_cons_succ, -List.set_cons_zero]
              exact weak _ true (by unfold big17; omega) (by unfold big17; omega)
/-- what the reference reads as a number -/
def L8 (t : List UInt8) (r : A) : Prop := ∃ n : Int, r = .c (.d (.int .i64 n)) ∧ inR .i64 n ∧ ∀ a : Int, -999 ≤ a → a ≤ 999 → t = Lib.itoa a → n = a
set_option maxHeartbeats 3200000 in
theorem l8Int_calls (t : List UInt8) (hl : t.length ≤ 1048576) (H : Heap) : ACalls Tryz.prog 57 [.c (.d (.str t))] H (fun r H' => H' = H ∧ L8 t r) := by
  refine acalls Tryz.func57 (by kernel_rfl) ac57_ok fun hf => ?_
  have hli : inR .i64 (t.length : Int) := small_i64 (by omega) (by omega)
  simp -implicitDefEqProofs [ac57, hf, go_sem, -List.set_cons_succ, -List.set_cons_zero]
  refine qcall_pure (sign_callsL t (by omega) 0 (by omega) 45) hf rfl ?_
  cases hs : sgn t 0 45 with
  | true =>
    simp -implicitDefEqProofs [hli, hf, go_sem, -List.set_cons_succ, -List.set_cons_zero]
    have htl : t.tail.length ≤ 1048576 := by simp; omega
    have hpos : (1 : Int) ≤ t.length := by have := sgn_lt hs; omega
    refine ⟨hpos, call_relA (num_any t.tail htl _) hf (by simp) ?_⟩
    rintro _ ⟨n, b, rfl, b1, b2, hv⟩
    have hm : inR .i64 (-1 * n) := i64_def.2 (by unfold big17 at b1 b2; omega)
    have hm2 : inR .i64 (-n) := i64_def.2 (by unfold big17 at b1 b2; omega)
    refine ⟨by simp [A.re, A.res, C.re], ?_⟩
    simp -implicitDefEqProofs [hm, hm2, hf, go_sem, -List.set_cons_succ, -List.set_cons_zero]
    refine ⟨-n, rfl, hm2, fun a a0 a1 ha => ?_⟩
    rw [← itoa3_eq a0 a1] at ha
    by_cases hneg : a < 0
    · have e3 : itoa3 a = 45 :: dec3 a.natAbs := by unfold itoa3; rw [if_pos hneg]
      obtain ⟨d1, d2, d3, d4⟩ := dec3_ok (u := a.natAbs) (by omega)
      rw [ha, e3] at hv
      simp only [List.tail_cons] at hv
      have := hv (can_digs d1) (by omega)
      simp [d1] at this
      omega
    · have e3 : itoa3 a = dec3 a.toNat := by unfold itoa3; rw [if_neg hneg]
      obtain ⟨d1, d2, d3, d4⟩ := dec3_ok (u := a.toNat) (by omega)
      rw [ha, e3] at hs
      cases hq : dec3 a.toNat with
      | nil => rw [hq] at d4; simp at d4
      | cons x y =>
        have hx := List.all_eq_true.1 (can_digs d1) x (by rw [hq]; simp)
        rw [hq] at hs
        simp [sgn] at hs
        subst hs
        simp [digB] at hx
  | false =>
    simp -implicitDefEqProofs [hli, hf, go_sem, -List.set_cons_succ, -List.set_cons_zero]
    refine call_relA (num_any t (by omega) _) hf (by simp) ?_
    rintro _ ⟨n, b, rfl, b1, b2, hv⟩
    have hm : inR .i64 (1 * n) := i64_def.2 (by unfold big17 at b1 b2; omega)
    have hm2 : inR .i64 n := i64_def.2 (by unfold big17 at b1 b2; omega)
    refine ⟨by simp [A.re, A.res, C.re], ?_⟩
    simp -implicitDefEqProofs [hm, hm2, hf, go_sem, -List.set_cons_succ, -List.set_cons_zero]
    refine ⟨n, rfl, hm2, fun a a0 a1 ha => ?_⟩
    rw [← itoa3_eq a0 a1] at ha
    by_cases hneg : a < 0
    · have e3 : itoa3 a = 45 :: dec3 a.natAbs := by unfold itoa3; rw [if_pos hneg]
      rw [ha, e3] at hs
      simp [sgn] at hs
    · have e3 : itoa3 a = dec3 a.toNat := by unfold itoa3; rw [if_neg hneg]
      obtain ⟨d1, d2, d3, d4⟩ := dec3_ok (u := a.toNat) (by omega)
      rw [ha, e3] at hv
      have := hv (can_digs d1) (by omega)
      simp [d1] at this
      omega
def L8v (w : List UInt8) (v : Int) : Prop := ∀ a : Int, -999 ≤ a → a ≤ 999 → w = Lib.itoa a → v = a
/-- an instruction, built of words so far -/
def Sb (W : List (List UInt8)) (o : Int) (j : Nat) (x : Ins) : Prop := x.op = o ∧ (if 1 ≤ j ∧ opIA o = true then L8v (W.getD 1 []) x.a else x.a = 0) ∧ (if 2 ≤ j ∧ opB o = true then L8v (W.getD 2 []) x.b else x.b = 0) ∧
  (if (if opB o then 2 else 1) < j ∧ opN o = true then x.text = W.getD (if opB o then 3 else 2) [] else x.text = [])
theorem shape_at {o : Int} {j : Nat} (h : j < (opShape o).length) : ((opShape o)[j] = 97 ∧ j = 0 ∧ opIA o = true) ∨ ((opShape o)[j] = 98 ∧ j = 1 ∧ opB o = true) ∨ ((opShape o)[j] = 110 ∧ opN o = true ∧ j = (if opB o then 2 else 1)) ∨ ((opShape o)[j] = 63 ∧ opIA o = false ∧ opB o = false ∧ opN o = false) := by
  rcases op_bits o with ⟨e1, e2, e3, e4⟩ | ⟨e1, e2, e3, e4⟩ | ⟨e1, e2, e3, e4⟩ | ⟨e1, e2, e3, e4⟩ | ⟨e1, e2, e3, e4⟩ | ⟨e1, e2, e3, e4⟩
  all_goals
    have hsh : opShape o = opShape o := rfl
    conv at hsh => rhs; unfold opShape
    simp [e1, e2, e3, e4] at hsh
    simp only [hsh, e2, e3, e4] at h ⊢
    simp at h
  · subst h; simp
  · obtain rfl | rfl : j = 0 ∨ j = 1 := by omega
    all_goals simp
  · obtain rfl | rfl | rfl : j = 0 ∨ j = 1 ∨ j = 2 := by omega
    all_goals simp
  · subst h; simp
  · obtain rfl | rfl : j = 0 ∨ j = 1 := by omega
    all_goals simp
theorem sb_a {W : List (List UInt8)} {o xo xa xb n : Int} {xt : List UInt8} (h : Sb W o 0 ⟨xo, xa, xb, xt⟩) (ho : opIA o = true) (hv : L8v (W.getD 1 []) n) : Sb W o 1 ⟨xo, n, xb, xt⟩ := by
  obtain ⟨b1, b2, b3, b4⟩ := h
  refine ⟨b1, by rw [if_pos ⟨Nat.le_refl _, ho⟩]; exact hv, by rw [if_neg (by omega)] at b3 ⊢; exact b3, ?_⟩
  rw [if_neg (by split <;> omega)] at b4 ⊢
  exact b4
theorem sb_b {W : List (List UInt8)} {o xo xa xb n : Int} {xt : List UInt8} (h : Sb W o 1 ⟨xo, xa, xb, xt⟩) (ho : opB o = true) (hv : L8v (W.getD 2 []) n) : Sb W o 2 ⟨xo, xa, n, xt⟩ := by
  obtain ⟨b1, b2, b3, b4⟩ := h
  refine ⟨b1, ?_, by rw [if_pos ⟨Nat.le_refl _, ho⟩]; exact hv, ?_⟩
  · by_cases hA : opIA o = true
    · rw [if_pos ⟨by omega, hA⟩] at b2 ⊢; exact b2
    · rw [if_neg (fun e => hA e.2)] at b2 ⊢; exact b2
  · rw [if_neg (by rw [if_pos ho]; omega)] at b4 ⊢
    exact b4
theorem sb_n {W : List (List UInt8)} {o xo xa xb : Int} {xt : List UInt8} {q : Nat} (hq : q = if opB o then 2 else 1) (h : Sb W o q ⟨xo, xa, xb, xt⟩) (ho : opN o = true) : Sb W o (q + 1) ⟨xo, xa, xb, W.getD (q + 1) []⟩ := by
  obtain ⟨b1, b2, b3, b4⟩ := h
  have hq1 : 1 ≤ q := by rw [hq]; split <;> omega
  refine ⟨b1, ?_, ?_, ?_⟩
  · by_cases hA : opIA o = true
    · rw [if_pos ⟨by omega, hA⟩] at b2 ⊢; exact b2
    · rw [if_neg (fun e => hA e.2)] at b2 ⊢; exact b2
  · by_cases hB : opB o = true
    · rw [if_pos hB] at hq
      rw [if_pos ⟨by omega, hB⟩] at b3 ⊢; exact b3
    · rw [if_neg (fun e => hB e.2)] at b3 ⊢; exact b3
  · rw [if_pos ⟨by omega, ho⟩]
    show W.getD (q + 1) [] = _
    rw [hq]
    split <;> rfl
theorem sb_skip {W : List (List UInt8)} {o : Int} {x : Ins} {j : Nat} (h : Sb W o j x) (hA : opIA o = false) (hB : opB o = false) (hN : opN o = false) : Sb W o (j + 1) x := by
  obtain ⟨b1, b2, b3, b4⟩ := h
  exact ⟨b1, by simpa [hA] using b2, by simpa [hB] using b3, by simpa [hN] using b4⟩
theorem sb_back {s : List UInt8} {o : Int} {x y : Ins} (hb : Sb (cutAt 32 s) o (opShape o).length x) (h : y.okB = true) (hs : y.fmt = s) (ho : y.op = o) : x = y := by
  obtain ⟨b1, b2, b3, b4⟩ := hb
  have hw := fmt_wds h
  rw [hs] at hw
  rw [hw] at b2 b3 b4
  have hl := wds_shape h
  obtain ⟨h1, h2, h3, h4, h5, h6, h7⟩ := okB_all h
  obtain ⟨yo, ya, yb, yt⟩ := y
  obtain ⟨xo, xa, xb, xt⟩ := x
  simp only at ho b1 b2 b3 b4 h1 h2 h3 h4 h5 h6 h7 hl
  subst ho; subst b1
  simp only [Ins.wds] at b2 b3 b4 hl
  have hAB : opB xo = true → opIA xo = true := fun hB => by rcases op_bits xo with ⟨e1, e2, e3, e4⟩ | ⟨e1, e2, e3, e4⟩ | ⟨e1, e2, e3, e4⟩ | ⟨e1, e2, e3, e4⟩ | ⟨e1, e2, e3, e4⟩ | ⟨e1, e2, e3, e4⟩ <;> simp_all
  have hNA : opN xo = true → opIA xo = true := fun hB => by rcases op_bits xo with ⟨e1, e2, e3, e4⟩ | ⟨e1, e2, e3, e4⟩ | ⟨e1, e2, e3, e4⟩ | ⟨e1, e2, e3, e4⟩ | ⟨e1, e2, e3, e4⟩ | ⟨e1, e2, e3, e4⟩ <;> simp_all
  have hsl : (opShape xo).length = (if opIA xo then 1 else 0) + (if opB xo then 1 else 0) + (if opN xo then 1 else 0) := by
    unfold opShape; rw [if_pos h1]
    cases opIA xo <;> cases opB xo <;> cases opN xo <;> rfl
  have ea : xa = ya := by
    cases hA : opIA xo with
    | true =>
      have hc : 1 ≤ (opShape xo).length ∧ opIA xo = true := ⟨by rw [hsl, if_pos hA]; omega, hA⟩
      rw [if_pos hc] at b2
      exact b2 ya h2.1 h2.2 (by simp [hA])
    | false => rw [if_neg (by simp [hA])] at b2; rw [b2, h4 hA]
  have eb : xb = yb := by
    cases hB : opB xo with
    | true =>
      have hA := hAB hB
      have hc : 2 ≤ (opShape xo).length ∧ opB xo = true := ⟨by rw [hsl, if_pos hA, if_pos hB]; omega, hB⟩
      rw [if_pos hc] at b3
      exact b3 yb (by omega) h3.2 (by simp [hA, hB])
    | false => rw [if_neg (by simp [hB])] at b3; rw [b3, h5 hB]
  have et : xt = yt := by
    cases hN : opN xo with
    | true =>
      have hA := hNA hN
      cases hB : opB xo with
      | true =>
        rw [if_pos ⟨by rw [hsl, if_pos hA, if_pos hB, if_pos hN, if_pos hB]; omega, hN⟩] at b4
        simpa [hA, hB, hN] using b4
      | false =>
        have hB2 : ¬ opB xo = true := by simp [hB]
        rw [if_pos ⟨by rw [hsl, if_pos hA, if_neg hB2, if_pos hN, if_neg hB2]; omega, hN⟩] at b4
        simpa [hA, hB, hN] using b4
    | false => rw [if_neg (by simp [hN])] at b4; rw [b4, h7 hN]
  rw [ea, eb, et]
set_option maxHeartbeats 3200000 in
theorem piSpec_calls (s : List UInt8) (hs : s.length ≤ 1048576) (H : Heap) : ACalls Tryz.prog 13 [.c (.d (.str s))] H (fun r H' => H' = H ∧ ∃ R, Pa s R ∧ r = insA R) := by
  refine acalls Tryz.func13 (by kernel_rfl) ac13_ok fun hf => ?_
  have hcl := cutw_len 32 s
  have hcm := cutw_mem 32 s
  have hsi : inR .i64 (s.length : Int) := small_i64 (by omega) (by omega)
  have hwd : ∀ y : Ins, y.okB = true → y.fmt = s → cutAt 32 s = y.wds := fun y hy h => by rw [← h, fmt_wds hy]
  simp -implicitDefEqProofs [ac13, hf, go_sem, -List.set_cons_succ, -List.set_cons_zero]
  refine qcall_pure (cut_calls s (by omega) 32) hf (by simp [A.re, C.re]) ?_
  have hbt := @sb_back s
  have hno := @no_op s
  have hs0 : s = [] → (cutAt 32 s).headD [] = [] := fun h => by rw [h]; rfl
  have hs1 : s = [] → (cutAt 32 s).length = 1 := fun h => by rw [h]; rfl
  generalize cutAt 32 s = W at hcl hcm hwd hbt hno hs0 hs1
  have hwi : inR .i64 (W.length : Int) := small_i64 (by omega) (by omega)
  obtain ⟨w0, wr, hW⟩ : ∃ w0 wr, W = w0 :: wr := by
    cases W with
    | nil => simp at hcl
    | cons a b => exact ⟨a, b, rfl⟩
  simp -implicitDefEqProofs [hf, go_sem, -List.set_cons_succ, -List.set_cons_zero]
  refine qcall_pure names_calls hf (by simp [A.re, C.re]) ?_
  simp -implicitDefEqProofs [hf, go_sem, -List.set_cons_succ, -List.set_cons_zero]
  refine loop_set (σ := Nat × Nat) (fun x => [(7, .c (.d (.int .i64 x.1)))]) (fun _ => H) (fun x => [.cells (zeroI.row.map .d), .cells [.d (.int .i64 x.2), .d (.int .i64 0), .d (.int .i64 0), .d (.str [])]]) (fun x => 1 ≤ x.1 ∧ x.1 ≤ 15 ∧ x.2 ≤ 14 ∧ (x.2 = 0 ∨ (1 ≤ x.2 ∧ opWord (x.2 : Int) = w0)) ∧ ∀ k : Nat, 1 ≤ k → k < x.1 → opWord (k : Int) = w0 → x.2 = k) (fun x => 15 - x.1) (1, 0) (by simp [setAll, zeroI, Ins.row]) ⟨by simp, by simp, by simp, .inl rfl, fun k h1 h2 => by simp only at h2; omega⟩ ?_
  rintro ⟨i, o⟩ ⟨i1, i15, ho, hko, hk⟩
  simp only at i1 i15 ho hko hk
  have h15 : inR .i64 (15 : Int) := small_i64 (by omega) (by omega)
  by_cases hlt : i < 15
  · have hlt' : (i : Int) < 15 := by omega
    have hadd : inR .i64 ((i : Int) + 1) := small_i64 (by omega) (by omega)
    simp -implicitDefEqProofs [setAll, namesL_len, h15, hlt, hlt', hf, go_sem, -List.set_cons_succ, -List.set_cons_zero]
    refine row_int [.str (opWord (i : Int))] (by omega) (by have := names_at (op := (i : Int)) (by omega) (by omega); exact this) rfl ?_
    simp -implicitDefEqProofs [hf, go_sem, -List.set_cons_succ, -List.set_cons_zero]
    refine row_int (strRow w0) (by omega) (by simp [hW]) rfl ?_
    by_cases hw : opWord (i : Int) = w0
    · simp -implicitDefEqProofs [strRow, hw, hadd, hf, go_sem, -List.set_cons_succ, -List.set_cons_zero]
      refine loop_back (i + 1, i) (by simp [setAll]) ⟨by simp, by simp only; omega, by simp only; omega, .inr ⟨i1, hw⟩, fun k h1 h2 h3 => ?_⟩ (by show 15 - (i + 1) < 15 - i; omega)
      simp only at h2
      have := word_inj (i := (i : Int)) (j := (k : Int)) (by simp [opOk]; omega) (by simp [opOk]; omega) (by rw [hw, h3])
      simp only
      omega
    · simp -implicitDefEqProofs [strRow, hw, hadd, hf, go_sem, -List.set_cons_succ, -List.set_cons_zero]
      refine loop_back (i + 1, o) (by simp [setAll]) ⟨by simp, by simp only; omega, ho, hko, fun k h1 h2 h3 => ?_⟩ (by show 15 - (i + 1) < 15 - i; omega)
      simp only at h2
      by_cases e : k = i
      · subst e; exact absurd h3 hw
      · exact hk k h1 (by omega) h3
  · obtain rfl : i = 15 := by omega
    simp -implicitDefEqProofs [setAll, namesL_len, h15, hf, go_sem, -List.set_cons_succ, -List.set_cons_zero]
    refine qcall_pure (shapeOf_calls o) hf rfl ?_
    have hfind : ∀ y : Ins, y.okB = true → y.fmt = s → y.op = o := fun y hy h => by
      have h1 := (okB_all hy).1
      simp only [opOk, Bool.and_eq_true, decide_eq_true_eq] at h1
      have h2 := hwd y hy h
      rw [hW] at h2
      have h3 : w0 = opWord y.op := by unfold Ins.wds at h2; exact (List.cons.inj h2).1
      obtain ⟨k, hk2⟩ := Int.eq_ofNat_of_zero_le (show 0 ≤ y.op by omega)
      have := hk k (by omega) (by omega) (by rw [h3, hk2])
      omega
    have hsl : (opShape (o : Int)).length ≤ 3 := by
      unfold opShape
      cases opOk (o : Int) <;> cases opIA (o : Int) <;> cases opB (o : Int) <;> cases opN (o : Int) <;> simp
    have hshi : inR .i64 ((opShape (o : Int)).length : Int) := small_i64 (by omega) (by omega)
    have hshi1 : inR .i64 (((opShape (o : Int)).length : Int) + 1) := small_i64 (by omega) (by omega)
    by_cases hlen : W.length = (opShape (o : Int)).length + 1
    · have hlen' : (W.length : Int) = ((opShape (o : Int)).length : Int) + 1 := by omega
      by_cases h60 : 60 < s.length
      · have h60' : (60 : Int) < s.length := by omega
        simp -implicitDefEqProofs [hwi, hsi, hshi, hshi1, hlen', h60', hf, zeroI, Ins.row, go_sem, -List.set_cons_succ, -List.set_cons_zero]
        exact ⟨none, Pa.no fun y hy h => by have := fmt_60 hy; rw [h] at this; omega, rfl⟩
      · have h60' : ¬ (60 : Int) < s.length := by omega
        simp -implicitDefEqProofs [hwi, hsi, hshi, hshi1, hlen', h60', hf, go_sem, -List.set_cons_succ, -List.set_cons_zero]
        refine loop_set (σ := Nat × Ins) (fun x => [(9, .c (.d (.int .i64 x.1)))]) (fun _ => H) (fun x => [.cells (zeroI.row.map .d), .cells (x.2.row.map .d)]) (fun x => x.1 ≤ (opShape (o : Int)).length ∧ x.2.ok ∧ Sb W o x.1 x.2) (fun x => (opShape (o : Int)).length - x.1) (0, ⟨o, 0, 0, []⟩) (by simp [setAll, zeroI, Ins.row]) ⟨Nat.zero_le _, ⟨small_i64 (by simp only; omega) (by simp only; omega), small_i64 (by simp) (by simp), small_i64 (by simp) (by simp), by simp⟩, ⟨rfl, by simp, by simp, by simp⟩⟩ ?_
        rintro ⟨j, x⟩ ⟨hj, hx, hb⟩
        simp only at hj hx hb
        obtain ⟨xo, xa, xb, xt⟩ := x
        by_cases hjl : j < (opShape (o : Int)).length
        · have hadd : inR .i64 ((j : Int) + 1) := small_i64 (by omega) (by omega)
          have hjl' : (j : Int) < (opShape (o : Int)).length := by omega
          have hWj : j + 1 < W.length := by omega
          have hwl : W[j + 1].length ≤ s.length := hcm _ (List.getElem_mem hWj)
          have hgd : W.getD (j + 1) [] = W[j + 1] := by simp [List.getD, hWj]
          obtain ⟨x1, x2, x3, x4⟩ := hx
          simp -implicitDefEqProofs [setAll, Ins.row, hshi, hjl, hjl', hf, go_sem, -List.set_cons_succ, -List.set_cons_zero]
          refine byte_nat hjl ?_
          rcases shape_at hjl with ⟨h1, h2, h3⟩ | ⟨h1, h2, h3⟩ | ⟨h1, h2, h3⟩ | ⟨h1, h2, h3, h4⟩
          · rw [h1]
            simp -implicitDefEqProofs [hadd, hf, go_sem, -List.set_cons_succ, -List.set_cons_zero]
            refine row_int (strRow W[j + 1]) (by omega) (by simp [hWj]) rfl ?_
            simp -implicitDefEqProofs [strRow, hf, go_sem, -List.set_cons_succ, -List.set_cons_zero]
            refine call_relA (l8Int_calls W[j + 1] (by omega) _) hf (by simp [zeroI, Ins.row, Ob.re, C.re]) ?_
            rintro _ ⟨n, rfl, hn, hv⟩
            refine ⟨by simp [A.re, C.re], ?_⟩
            simp -implicitDefEqProofs [hn, hadd, hf, go_sem, -List.set_cons_succ, -List.set_cons_zero]
            refine loop_back (j + 1, ⟨xo, n, xb, xt⟩) (by simp [setAll, Ins.row]) ⟨hjl, ⟨x1, hn, x3, x4⟩, ?_⟩ (by show (opShape (o : Int)).length - (j + 1) < (opShape (o : Int)).length - j; omega)
            subst h2
            exact sb_a hb h3 (by rw [hgd]; exact hv)
          · rw [h1]
            simp -implicitDefEqProofs [hadd, hf, go_sem, -List.set_cons_succ, -List.set_cons_zero]
            refine row_int (strRow W[j + 1]) (by omega) (by simp [hWj]) rfl ?_
            simp -implicitDefEqProofs [strRow, hf, go_sem, -List.set_cons_succ, -List.set_cons_zero]
            refine call_relA (l8Int_calls W[j + 1] (by omega) _) hf (by simp [zeroI, Ins.row, Ob.re, C.re]) ?_
            rintro _ ⟨n, rfl, hn, hv⟩
            refine ⟨by simp [A.re, C.re], ?_⟩
            simp -implicitDefEqProofs [hn, hadd, hf, go_sem, -List.set_cons_succ, -List.set_cons_zero]
            refine loop_back (j + 1, ⟨xo, xa, n, xt⟩) (by simp [setAll, Ins.row]) ⟨hjl, ⟨x1, x2, hn, x4⟩, ?_⟩ (by show (opShape (o : Int)).length - (j + 1) < (opShape (o : Int)).length - j; omega)
            subst h2
            exact sb_b hb h3 (by rw [hgd]; exact hv)
          · rw [h1]
            simp -implicitDefEqProofs [hadd, hf, go_sem, -List.set_cons_succ, -List.set_cons_zero]
            refine row_int (strRow W[j + 1]) (by omega) (by simp [hWj]) rfl ?_
            simp -implicitDefEqProofs [strRow, hadd, hf, go_sem, -List.set_cons_succ, -List.set_cons_zero]
            refine loop_back (j + 1, ⟨xo, xa, xb, W[j + 1]⟩) (by simp [setAll, Ins.row]) ⟨hjl, ⟨x1, x2, x3, by show W[j + 1].length ≤ reachBytes; unfold reachBytes; omega⟩, ?_⟩ (by show (opShape (o : Int)).length - (j + 1) < (opShape (o : Int)).length - j; omega)
            have := sb_n h3 hb h2
            rw [hgd] at this
            exact this
          · rw [h1]
            simp -implicitDefEqProofs [hadd, hf, go_sem, -List.set_cons_succ, -List.set_cons_zero]
            refine loop_back (j + 1, ⟨xo, xa, xb, xt⟩) (by simp [setAll, Ins.row]) ⟨hjl, ⟨x1, x2, x3, x4⟩, sb_skip hb h2 h3 h4⟩ (by show (opShape (o : Int)).length - (j + 1) < (opShape (o : Int)).length - j; omega)
        · obtain rfl : j = (opShape (o : Int)).length := by omega
          have hxt : xt.length ≤ 1048576 := by
            have h5 : xt = [] ∨ ∃ i, xt = W.getD i [] := by
              obtain ⟨_, _, _, b4⟩ := hb
              simp only at b4
              (repeat' split at b4)
              all_goals first
                | exact .inl b4
                | exact .inr ⟨_, b4⟩
            rcases h5 with h5 | ⟨i, h5⟩
            · rw [h5]; simp
            · rw [h5, List.getD]
              cases hg : W[i]? with
              | none => simp
              | some w => have := hcm w (List.mem_of_getElem? hg); simp; omega
          simp -implicitDefEqProofs [setAll, Ins.row, hshi, hf, go_sem, -List.set_cons_succ, -List.set_cons_zero]
          refine qcall_pure (fmtSpec_calls ⟨xo, xa, xb, xt⟩ hx hxt) hf rfl ?_
          by_cases hfm : (⟨xo, xa, xb, xt⟩ : Ins).fmt = s
          · simp -implicitDefEqProofs [hfm, zeroI, Ins.row, hf, go_sem, -List.set_cons_succ, -List.set_cons_zero]
            have hsne : s ≠ [] := fun h => by
              have h1 := hs0 h
              have h2 := hs1 h
              rw [hW] at h1
              simp at h1
              rcases hko with h3 | ⟨h3, h4⟩
              · subst h3
                have : (opShape ((0 : Nat) : Int)).length = 1 := by decide
                rw [this] at hlen
                omega
              · exact word_ne (op := (o : Int)) (by simp [opOk]; omega) (by rw [h4, h1])
            exact ⟨some ⟨xo, xa, xb, xt⟩, Pa.yes hfm hsne hx, rfl⟩
          · simp -implicitDefEqProofs [hfm, zeroI, Ins.row, hf, go_sem, -List.set_cons_succ, -List.set_cons_zero]
            refine ⟨none, Pa.no fun y hy h => ?_, rfl⟩
            have := hbt hb hy h (hfind y hy h)
            rw [this] at hfm
            exact hfm h
    · have hlen' : ¬ (W.length : Int) = ((opShape (o : Int)).length : Int) + 1 := by omega
      simp -implicitDefEqProofs [hwi, hsi, hshi, hshi1, hlen', hf, zeroI, Ins.row, go_sem, -List.set_cons_succ, -List.set_cons_zero]
      exact ⟨none, Pa.no fun y hy h => by have := wds_shape hy; rw [← hwd y hy h, hfind y hy h] at this; exact hlen this, rfl⟩
end Go.Proofs.YtbblefjbgbocoaaGreatDoor
