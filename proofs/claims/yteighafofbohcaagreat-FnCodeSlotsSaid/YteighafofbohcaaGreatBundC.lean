/-
  Contracts of functions that the law reaches, and plain lemmas: several texts in one.
  Conditions: none.
-/
import Derived.Test.YteighafofbohcaaGreatBundB
import Derived.Test.YteighafofbohcaaGreatBundA
import Derived.Test.YteighafofbohcaaGreatAbsN
open Go Go.AM Go.Proofs
attribute [local go_sem] kw ew sw tw a_ b_ c_ A.ok A.val d_ e_ f_ g_ h_ i_ j_ k_ l_ m_ unA unD n_ AOp.total o_ p_ q_ r_ s_ t_ u_ v_ A.thaw C.thaw A.fits As.fits C.fits evs oks w_ A.pure C.pure A.re C.re x_ y_ cut A.cells C.rows? z_ A_ B_ C_ D_ Ob.re Cs.fits E_ F_ G_ H_ I_ J_ K_ L_ M_ N_ O_ C.toD P_ Q_ R_ S_ T_ Obs.fits U_ eqD V_ W_ X_ Y_ Z_
/-
  The source of draws: its first functions, each by what it answers.
  Conditions: none.
-/
open Go Go.AM Go.Proofs
namespace Go.Proofs.YteighafofbohcaaGreat
open Go.ChangeShapes Go.WideShapes Go.ChangeAt Go.RowKit
set_option linter.unusedVariables false
set_option linter.unusedSimpArgs false
set_option maxRecDepth 100000
-- 42 (*loop.example/prologserver/spec.l18Rd).pick params 2 ntmps 99
def ac42 : Cd := .seq (.region [⟨(some 4),.mv (.k (.c (.d (.int .i64 0)))),none⟩] [4])
 (.seq (.region [⟨(some 7),.mv (.t 0),none⟩,
 ⟨(some 8),.mv (.t 0),none⟩,
 ⟨(some 9),.nilCheck (.t 8),none⟩,
 ⟨(some 10),.fieldAddr 1 (.t 9),none⟩,
 ⟨(some 11),.load none (.t 10),none⟩,
 ⟨(some 12),.bin .add (.t 11) (.k (.c (.d (.int .i64 1)))),none⟩,
 ⟨(some 13),.nilCheck (.t 7),none⟩,
 ⟨(some 14),.fieldAddr 1 (.t 13),none⟩,
 ⟨none,.store 1 (.t 14) (.t 12),none⟩] [7,8,9,10,11,12,13,14])
 (.seq (.seq (.region [⟨(some 15),.mv (.t 1),none⟩,
 ⟨(some 16),.bin .lss (.t 15) (.k (.c (.d (.int .i64 1)))),none⟩,
 ⟨(some 17),.mv (.t 16),none⟩,
 ⟨(some 18),.mv (.t 0),some (17,false)⟩,
 ⟨(some 19),.nilCheck (.t 18),some (17,false)⟩,
 ⟨(some 20),.fieldAddr 0 (.t 19),some (17,false)⟩,
 ⟨(some 21),.load none (.t 20),some (17,false)⟩,
 ⟨(some 22),.len 1 (.t 21),some (17,false)⟩,
 ⟨(some 23),.bin .eql (.t 22) (.k (.c (.d (.int .i64 0)))),some (17,false)⟩,
 ⟨(some 24),.pick (.t 17) (.k (.c (.d (.bool true)))) (.t 23),none⟩] [15,16,17,18,19,20,21,22,23])
 (.cond (.t 24)
 (.seq (.region [⟨(some 4),.mv (.k (.c (.d (.int .i64 0)))),none⟩] [0,1,24])
 (.ret))
 (.skip)))
 (.seq (.region [⟨(some 25),.mv (.t 0),none⟩,
 ⟨(some 26),.nilCheck (.t 25),none⟩,
 ⟨(some 27),.fieldAddr 1 (.t 26),none⟩,
 ⟨(some 28),.load none (.t 27),none⟩,
 ⟨(some 29),.bin .sub (.t 28) (.k (.c (.d (.int .i64 1)))),none⟩,
 ⟨(some 5),.mv (.t 29),none⟩] [4,24,25,26,27,28,29])
 (.seq (.seq (.region [⟨(some 30),.mv (.t 5),none⟩,
 ⟨(some 31),.mv (.t 0),none⟩,
 ⟨(some 32),.nilCheck (.t 31),none⟩,
 ⟨(some 33),.fieldAddr 0 (.t 32),none⟩,
 ⟨(some 34),.load none (.t 33),none⟩,
 ⟨(some 35),.len 1 (.t 34),none⟩,
 ⟨(some 36),.bin .lss (.t 30) (.t 35),none⟩] [30,31,32,33,34,35])
 (.cond (.t 36)
 (.seq (.region [⟨(some 37),.mv (.t 0),none⟩,
 ⟨(some 38),.nilCheck (.t 37),none⟩,
 ⟨(some 39),.fieldAddr 0 (.t 38),none⟩,
 ⟨(some 40),.load none (.t 39),none⟩,
 ⟨(some 41),.mv (.t 5),none⟩,
 ⟨(some 42),.indexAddr 1 (.t 40) (.t 41),none⟩,
 ⟨(some 43),.load none (.t 42),none⟩,
 ⟨(some 44),.cvInt .i64 (.t 43),none⟩,
 ⟨(some 45),.mv (.t 1),none⟩,
 ⟨(some 46),.bin .rem (.t 44) (.t 45),none⟩,
 ⟨(some 4),.mv (.t 46),none⟩] [0,1,5,36,37,38,39,40,41,42,43,44,45,46])
 (.ret))
 (.skip)))
 (.seq (.region [⟨(some 47),.mv (.t 0),none⟩,
 ⟨(some 48),.nilCheck (.t 47),none⟩,
 ⟨(some 49),.fieldAddr 0 (.t 48),none⟩,
 ⟨(some 51),.mv (.t 5),none⟩,
 ⟨(some 52),.mv (.t 0),none⟩,
 ⟨(some 53),.nilCheck (.t 52),none⟩,
 ⟨(some 54),.fieldAddr 0 (.t 53),none⟩,
 ⟨(some 62),.mv (.t 0),none⟩,
 ⟨(some 63),.nilCheck (.t 62),none⟩,
 ⟨(some 64),.fieldAddr 0 (.t 63),none⟩,
 ⟨(some 66),.mv (.t 5),none⟩,
 ⟨(some 67),.bin .mul (.t 66) (.k (.c (.d (.int .i64 7)))),none⟩,
 ⟨(some 68),.bin .add (.t 67) (.k (.c (.d (.int .i64 3)))),none⟩,
 ⟨(some 69),.mv (.t 0),none⟩,
 ⟨(some 70),.nilCheck (.t 69),none⟩,
 ⟨(some 71),.fieldAddr 0 (.t 70),none⟩,
 ⟨(some 80),.mv (.t 5),none⟩,
 ⟨(some 81),.bin .mul (.t 80) (.k (.c (.d (.int .i64 29)))),none⟩,
 ⟨(some 83),.mv (.t 5),none⟩,
 ⟨(some 84),.mv (.t 0),none⟩,
 ⟨(some 85),.nilCheck (.t 84),none⟩,
 ⟨(some 86),.fieldAddr 0 (.t 85),none⟩,
 ⟨(some 50),.load none (.t 49),none⟩,
 ⟨(some 55),.load none (.t 54),none⟩,
 ⟨(some 56),.len 1 (.t 55),none⟩,
 ⟨(some 57),.bin .rem (.t 51) (.t 56),none⟩,
 ⟨(some 58),.indexAddr 1 (.t 50) (.t 57),none⟩,
 ⟨(some 59),.load none (.t 58),none⟩,
 ⟨(some 60),.cvInt .i64 (.t 59),none⟩,
 ⟨(some 61),.bin .mul (.t 60) (.k (.c (.d (.int .i64 131)))),none⟩,
 ⟨(some 65),.load none (.t 64),none⟩,
 ⟨(some 72),.load none (.t 71),none⟩,
 ⟨(some 73),.len 1 (.t 72),none⟩,
 ⟨(some 74),.bin .rem (.t 68) (.t 73),none⟩,
 ⟨(some 75),.indexAddr 1 (.t 65) (.t 74),none⟩,
 ⟨(some 76),.load none (.t 75),none⟩,
 ⟨(some 77),.cvInt .i64 (.t 76),none⟩,
 ⟨(some 78),.bin .mul (.t 77) (.k (.c (.d (.int .i64 1117)))),none⟩,
 ⟨(some 79),.bin .add (.t 61) (.t 78),none⟩,
 ⟨(some 82),.bin .add (.t 79) (.t 81),none⟩,
 ⟨(some 87),.load none (.t 86),none⟩,
 ⟨(some 88),.len 1 (.t 87),none⟩,
 ⟨(some 89),.bin .quo (.t 83) (.t 88),none⟩,
 ⟨(some 90),.bin .mul (.t 89) (.k (.c (.d (.int .i64 53)))),none⟩,
 ⟨(some 91),.bin .add (.t 82) (.t 90),none⟩,
 ⟨(some 6),.mv (.t 91),none⟩] [0,4,5,36,47,48,49,50,51,52,53,54,55,56,57,58,59,60,61,62,63,64,65,66,67,68,69,70,71,72,73,74,75,76,77,78,79,80,81,82,83,84,85,86,87,88,89,90,91])
 (.seq (.region [⟨(some 92),.mv (.t 6),none⟩,
 ⟨(some 93),.mv (.t 6),none⟩,
 ⟨(some 94),.bin .quo (.t 93) (.k (.c (.d (.int .i64 64)))),none⟩,
 ⟨(some 95),.bin .xor (.t 92) (.t 94),none⟩,
 ⟨(some 6),.mv (.t 95),none⟩] [92,93,94,95])
 (.seq (.region [⟨(some 96),.mv (.t 6),none⟩,
 ⟨(some 97),.mv (.t 1),none⟩,
 ⟨(some 98),.bin .rem (.t 96) (.t 97),none⟩,
 ⟨(some 4),.mv (.t 98),none⟩] [1,6,96,97,98])
 (.ret))))))))
theorem ac42_ok : cFunc Tryz.prog [] [(0,[4],[]),(1,[7,8,9,10,11,12,13,14],[]),(2,[15,16,17,18,19,20,21,22,23],[]),(3,[0,1,24],[]),(4,[4,24,25,26,27,28,29],[]),(5,[30,31,32,33,34,35],[]),(6,[0,1,5,36,37,38,39,40,41,42,43,44,45,46],[]),(7,[0,4,5,36,47,48,49,50,51,52,53,54,55,56,57,58,59,60,61,62,63,64,65,66,67,68,69,70,71,72,73,74,75,76,77,78,79,80,81,82,83,84,85,86,87,88,89,90,91],[0,1,2,4,5,6,7,15,16,17,19,20,21,22,23,24,33,34,36,37,38,39,3,8,9,10,11,12,13,14,18,25,26,27,28,29,30,31,32,35,40,41,42,43,44,45]),(8,[92,93,94,95],[]),(9,[1,6,96,97,98],[])] Tryz.f42 = some (ac42,[.tmp 4],99) := by kernel_rfl
-- 21 loop.example/prologserver/spec.l18Open params 1 ntmps 11
def ac21 : Cd := .seq (.region [⟨(some 2),.mv (.k (.c (.d (.v (.pointer none))))),none⟩] [2])
 (.seq (.seq (.region [⟨(some 3),.mv (.t 0),none⟩,
 ⟨(some 4),.len 1 (.t 3),none⟩,
 ⟨(some 5),.bin .gtr (.t 4) (.k (.c (.d (.int .i64 2000)))),none⟩] [3,4])
 (.cond (.t 5)
 (.region [⟨(some 6),.mv (.t 0),none⟩,
 ⟨(some 7),.slice 1 (.t 6) none (some (.k (.c (.d (.int .i64 2000))))) none,none⟩,
 ⟨(some 0),.mv (.t 7),none⟩] [5,6,7])
 (.skip)))
 (.seq (.region [⟨(some 8),.mv (.t 0),none⟩,
 ⟨(some 9),.build [(.full []),(.d (.int .i64 0))] [(0,1,(.t 8))],none⟩,
 ⟨(some 10),.box (.t 9),none⟩,
 ⟨(some 2),.mv (.t 10),none⟩] [0,5,8,9,10])
 (.ret)))
theorem ac21_ok : cFunc Tryz.prog [] [(0,[2],[]),(1,[3,4],[]),(2,[5,6,7],[]),(3,[0,5,8,9,10],[])] Tryz.f21 = some (ac21,[.tmp 2],11) := by kernel_rfl
-- 69 (*loop.example/prologserver/spec.l18Rd).num params 2 ntmps 12
def ac69 : Cd := .seq (.region [⟨(some 4),.mv (.k (.c (.d (.int .i64 0)))),none⟩] [4])
 (.seq (.region [⟨(some 5),.mv (.t 1),none⟩,
 ⟨(some 6),.mv (.t 0),none⟩,
 ⟨(some 7),.mv (.t 1),none⟩,
 ⟨(some 8),.len 1 (.t 7),none⟩,
 ⟨(some 9),.call false 42 [(.t 6),(.t 8)],none⟩,
 ⟨(some 10),.indexAddr 1 (.t 5) (.t 9),none⟩,
 ⟨(some 11),.load none (.t 10),none⟩,
 ⟨(some 4),.mv (.t 11),none⟩] [0,1,5,6,7,8,9,10,11])
 (.ret))
theorem ac69_ok : cFunc Tryz.prog [] [(0,[4],[]),(1,[0,1,5,6,7,8,9,10,11],[])] Tryz.f69 = some (ac69,[.tmp 4],12) := by kernel_rfl
/-- a source of draws, at a place -/
def Rd (c : List UInt8) (p : Int) : Ob := .cells [.d (.sl (bytesRows c)), .d (.int .i64 p)]
theorem xor_small {x y : Int} (hx : 0 ≤ x) (hx1 : x < 1099511627776) (hy : 0 ≤ y) (hy1 : y < 1099511627776) : 0 ≤ bitsVal .xor .i64 x y ∧ bitsVal .xor .i64 x y < 1099511627776 := by
  obtain ⟨a, rfl⟩ := Int.eq_ofNat_of_zero_le hx
  obtain ⟨b, rfl⟩ := Int.eq_ofNat_of_zero_le hy
  have hx : a < 2 ^ 40 := by omega
  have hy : b < 2 ^ 40 := by omega
  have hxor : a ^^^ b < 2 ^ 40 := Nat.xor_lt_two_pow hx hy
  have e : ((BitVec.ofInt 64 (a : Int)) ^^^ (BitVec.ofInt 64 (b : Int))).toNat = a ^^^ b := by
    rw [BitVec.toNat_xor]
    have h1 : (BitVec.ofInt 64 (a : Int)).toNat = a := by rw [BitVec.ofInt_natCast, BitVec.toNat_ofNat, Nat.mod_eq_of_lt (by omega)]
    have h2 : (BitVec.ofInt 64 (b : Int)).toNat = b := by rw [BitVec.ofInt_natCast, BitVec.toNat_ofNat, Nat.mod_eq_of_lt (by omega)]
    rw [h1, h2]
  have : bitsVal .xor .i64 (a : Int) (b : Int) = ((a ^^^ b : Nat) : Int) := by
    show IntKind.wrap .i64 (((BitVec.ofInt 64 (a : Int)) ^^^ (BitVec.ofInt 64 (b : Int))).toNat : Int) = _
    rw [e, IntKind.wrap_i64]
    omega
  rw [this]
  omega
theorem pick_calls (c : List UInt8) (hc : c.length ≤ 2000) (p m : Int) (hp : 0 ≤ p) (hp1 : p ≤ 1000000) (hm : -1000000000 ≤ m ∧ m ≤ 1000000000) (H : Heap) (i : Nat) (hi : i < H.length) :
    ACalls Tryz.prog 42 [.c (.ptr (.e i) 0), .c (.d (.int .i64 m))] (H.set i (Rd c p)) (fun r H' => ∃ k : Int, r = .c (.d (.int .i64 k)) ∧ 0 ≤ k ∧ (0 < m → k < m) ∧ H' = H.set i (Rd c (p + 1))) := by
  refine acalls Tryz.func42 (by kernel_rfl) ac42_ok fun hf => ?_
  have hadd : inR .i64 (p + 1) := small_i64 (by omega) (by omega)
  have hl : inR .i64 (c.length : Int) := small_i64 (by omega) (by omega)
  have hi64 : inR .i64 p := small_i64 (by omega) (by omega)
  simp only [List.length_set] at hf
  simp -implicitDefEqProofs [ac42, Rd, hadd, hl, hi64, hi, List.getElem?_set, bytesRows_len, go_sem, -List.set_cons_succ, -List.set_cons_zero]
  have hfit : Obs.fits H.length 0 (H.set i (.cells [.d (.sl (bytesRows c)), .d (.int .i64 (p + 1))])) := fits_reset hf ⟨trivial, trivial, trivial⟩
  refine ⟨hfit, fun h1 hc0 => ⟨fun h2 => ?_, fun h2 => ?_⟩⟩
  · refine byteRow hp (by omega) ?_
    simp -implicitDefEqProofs [u8_i64, go_sem, -List.set_cons_succ, -List.set_cons_zero]
    refine ⟨by omega, Int.tmod_nonneg _ (by omega), fun h => Int.tmod_lt_of_pos _ h⟩
  · have hcl : 0 < c.length := by cases c with | nil => exact absurd rfl hc0 | cons a l => simp
    refine ⟨small_i64 (by omega) (by omega), small_i64 (by omega) (by omega), small_i64 (by omega) (by omega), hc0, ?_⟩
    have hm1 := Int.tmod_nonneg (a := p) (c.length : Int) hp
    have hm2 := Int.tmod_lt_of_pos p (b := (c.length : Int)) (by omega)
    refine byteRow hm1 (by omega) ?_
    have hb1 := (c[(p.tmod ↑c.length).toNat]'(by omega)).toNat_lt
    have hq : 0 ≤ (p * 7 + 3).tmod (c.length : Int) := Int.tmod_nonneg _ (by omega)
    have hq2 := Int.tmod_lt_of_pos (p * 7 + 3) (b := (c.length : Int)) (by omega)
    simp -implicitDefEqProofs [u8_i64, hcl, hi, hl, bytesRows_len, bytesRows_nil, hc0, List.getElem?_set, go_sem, -List.set_cons_succ, -List.set_cons_zero]
    refine ⟨small_i64 (by omega) (by omega), byteRow hq (by omega) ?_⟩
    have hb2 := (c[((p * 7 + 3).tmod ↑c.length).toNat]'(by omega)).toNat_lt
    have hd0 : 0 ≤ p.tdiv (c.length : Int) := Int.tdiv_nonneg hp (by omega)
    have hd1 : p.tdiv (c.length : Int) ≤ p := Int.tdiv_le_self _ hp
    generalize ((c[(p.tmod ↑c.length).toNat]'(by omega)).toNat : Nat) = b1 at hb1
    generalize ((c[((p * 7 + 3).tmod ↑c.length).toNat]'(by omega)).toNat : Nat) = b2 at hb2
    generalize hdd : p.tdiv (c.length : Int) = d at hd0 hd1
    have i1 : inR .i64 ((b2 : Int) * 1117) := small_i64 (by omega) (by omega)
    have i2 : inR .i64 ((b1 : Int) * 131 + (b2 : Int) * 1117) := small_i64 (by omega) (by omega)
    have i3 : inR .i64 ((b1 : Int) * 131 + (b2 : Int) * 1117 + p * 29) := small_i64 (by omega) (by omega)
    have i4 : inR .i64 d := small_i64 (by omega) (by omega)
    have i5 : inR .i64 (d * 53) := small_i64 (by omega) (by omega)
    have i6 : inR .i64 ((b1 : Int) * 131 + (b2 : Int) * 1117 + p * 29 + d * 53) := small_i64 (by omega) (by omega)
    have hw : IntKind.wrap .i64 (b2 : Int) = b2 := by rw [IntKind.wrap_i64]; omega
    generalize hX : (b1 : Int) * 131 + (b2 : Int) * 1117 + p * 29 + d * 53 = X at i6
    have hx0 : 0 ≤ X := by omega
    have hx1 : X < 1099511627776 := by omega
    have j1 : 0 ≤ X.tdiv 64 := Int.tdiv_nonneg hx0 (by omega)
    have j2 : X.tdiv 64 ≤ X := Int.tdiv_le_self _ hx0
    obtain ⟨k1, k2⟩ := xor_small hx0 hx1 j1 (by omega)
    have i7 : inR .i64 (X.tdiv 64) := small_i64 (by omega) (by omega)
    simp -implicitDefEqProofs [hw, hcl, hi, hl, hdd, i1, i2, i3, i4, i5, hX, i6, i7, bytesRows_len, bytesRows_nil, hc0, List.getElem?_set, go_sem, -List.set_cons_succ, -List.set_cons_zero]
    exact ⟨by omega, Int.tmod_nonneg _ k1, fun h => Int.tmod_lt_of_pos _ h⟩

/-- what a function that draws gives: its source stands behind where it stood -/
def Drew (R : A → Prop) (N : Int) (c : List UInt8) (p : Int) (H : Heap) (i : Nat) (r : A) (H' : Heap) : Prop := R r ∧ ∃ p', p ≤ p' ∧ p' ≤ p + N ∧ H' = H.set i (Rd c p')
/-- what a function that draws is shown to give -/
def Draws (f : FuncId) (xs : List A) (N : Int) (R : A → Prop) : Prop :=
  ∀ (c : List UInt8) (p : Int) (H : Heap) (i : Nat), c.length ≤ 2000 → 0 ≤ p → p + N ≤ 1000000 → i < H.length → ACalls Tryz.prog f (.c (.ptr (.e i) 0) :: xs) (H.set i (Rd c p)) (Drew R N c p H i)
/-- an integer in a range -/
def IntIn (lo hi : Int) (r : A) : Prop := ∃ k : Int, r = .c (.d (.int .i64 k)) ∧ lo ≤ k ∧ k < hi
theorem pick_draws (m : Int) (hm : 1 ≤ m ∧ m ≤ 1000000000) : Draws 42 [.c (.d (.int .i64 m))] 1 (IntIn 0 m) := fun c p H i hc hp hp1 hi =>
  (pick_calls c hc p m hp (by omega) ⟨by omega, hm.2⟩ H i hi).mono fun r H' ⟨k, h1, h2, h3, h4⟩ => ⟨⟨k, h1, h2, h3 (by omega)⟩, p + 1, by omega, by omega, h4⟩

/-- a call that draws from a source that was handed in -/
theorem call_drawE {f : FuncId} {xs : List A} {N : Int} {R : A → Prop} (hd : Draws f xs N R) {c : List UInt8} {p : Int} {H : Heap} {i : Nat} {sl : List A} {loc H₂ : Heap} {K : A → St → Prop} (hc : c.length ≤ 2000) (hp : 0 ≤ p) (hp1 : p + N ≤ 1000000) (hi : i < H.length)
    (hH : H₂ = H.set i (Rd c p) ++ loc.map (Ob.re H.length)) (hr : ∀ r, R r → A.re H.length r = r) (hf : Obs.fits H.length 0 (H.set i (Rd c p))) (hk : ∀ r p', R r → p ≤ p' → p' ≤ p + N → K r ⟨sl, H.set i (Rd c p'), loc⟩) :
    ACalls Tryz.prog f (.c (.ptr (.e i) 0) :: xs) H₂ (CallK K ⟨sl, H.set i (Rd c p), loc⟩) := by
  subst hH
  have h := hd c p (H ++ loc.map (Ob.re H.length)) i hc hp hp1 (by simp; omega)
  rw [List.set_append_left _ _ hi] at h
  refine h.mono fun r H' ⟨h1, p', h2, h3, h4⟩ => ?_
  rw [List.set_append_left _ _ hi] at h4
  exact ⟨H.set i (Rd c p'), loc, r, by simpa using h4, by simp, Nat.le_refl _, by simpa using fits_reset (b := Rd c p') hf ⟨trivial, trivial, trivial⟩, by simpa using (hr r h1).symm, hk r p' h1 h2 h3⟩
/-- a call that draws from an own source, the first own object -/
theorem call_drawL {f : FuncId} {xs : List A} {N : Int} {R : A → Prop} (hd : Draws f xs N R) {c : List UInt8} {p : Int} {H : Heap} {sl : List A} {loc H₂ : Heap} {j : Nat} {K : A → St → Prop} (hc : c.length ≤ 2000) (hp : 0 ≤ p) (hp1 : p + N ≤ 1000000) (hj : loc[j]? = some (Rd c p))
    (hH : H₂ = H ++ loc.map (Ob.re H.length)) (hr : ∀ r, R r → A.re H.length r = r) (hf : Obs.fits H.length 0 H) (hk : ∀ r p', R r → p ≤ p' → p' ≤ p + N → K r ⟨sl, H, loc.set j (Rd c p')⟩) :
    ACalls Tryz.prog f (.c (.ptr (.e (H.length + j)) 0) :: xs) H₂ (CallK K ⟨sl, H, loc⟩) := by
  subst hH
  have hjl : j < loc.length := (List.getElem?_eq_some_iff.1 hj).1
  have h := hd c p (H ++ loc.map (Ob.re H.length)) (H.length + j) hc hp hp1 (by simp; omega)
  have e : ∀ q, (H ++ loc.map (Ob.re H.length)).set (H.length + j) (Rd c q) = H ++ (loc.set j (Rd c q)).map (Ob.re H.length) := fun q => by
    rw [List.set_append_right _ _ (by omega), Nat.add_sub_cancel_left, List.map_set]
    rfl
  have e0 : loc.set j (Rd c p) = loc := by
    apply List.ext_getElem?
    intro k
    rw [List.getElem?_set]
    split
    · rename_i h; subst h; rw [hj]
    · rfl
  rw [e, e0] at h
  refine h.mono fun r H' ⟨h1, p', h2, h3, h4⟩ => ?_
  rw [e] at h4
  exact ⟨H, loc.set j (Rd c p'), r, h4, rfl, by simp, hf, (hr r h1).symm, hk r p' h1 h2 h3⟩
theorem IntIn.re {lo hi : Int} {n : Nat} {r : A} (h : IntIn lo hi r) : A.re n r = r := by
  obtain ⟨k, rfl, _⟩ := h
  rfl

theorem num_draws (l : List Int) (hl : 1 ≤ l.length ∧ l.length ≤ 1000) : Draws 69 [.c (.d (.sl (l.map fun n => [.int .i64 n])))] 1 (fun r => ∃ n ∈ l, r = .c (.d (.int .i64 n))) := fun c p H i hc hp hp1 hi => by
  refine acalls Tryz.func69 (by kernel_rfl) ac69_ok fun hf => ?_
  simp only [List.length_set] at hf
  have hll : inR .i64 (l.length : Int) := small_i64 (by omega) (by omega)
  simp -implicitDefEqProofs [ac69, hll, go_sem, -List.set_cons_succ, -List.set_cons_zero]
  refine call_drawE (pick_draws l.length ⟨by omega, by omega⟩) hc hp hp1 hi (by simp) (fun r => IntIn.re) hf ?_
  rintro _ p' ⟨k, rfl, h1, h2⟩ h3 h4
  simp -implicitDefEqProofs [go_sem, -List.set_cons_succ, -List.set_cons_zero]
  have hk : k.toNat < l.length := by omega
  refine row_int [.int .i64 l[k.toNat]] h1 (by simp [hk]) rfl ?_
  simp -implicitDefEqProofs [go_sem, -List.set_cons_succ, -List.set_cons_zero]
  exact ⟨⟨_, List.getElem_mem hk, rfl⟩, p', h3, h4, rfl⟩
theorem open_calls (c : List UInt8) (hc : c.length ≤ 1048576) (H : Heap) : ACalls Tryz.prog 21 [.c (.d (.sl (bytesRows c)))] H (fun r H' => r = .c (.ptr (.e H.length) 0) ∧ ∃ c' : List UInt8, c'.length ≤ 2000 ∧ H' = H ++ [Rd c' 0]) := by
  refine acallsK Tryz.func21 (by kernel_rfl) ac21_ok fun hf => ?_
  have hl : inR .i64 (c.length : Int) := small_i64 (by omega) (by omega)
  simp -implicitDefEqProofs [ac21, hl, bytesRows_len, go_sem, -List.set_cons_succ, -List.set_cons_zero]
  refine ⟨fun h => ⟨?_, by omega, ?_⟩, fun h => ?_⟩
  · intro r hr
    simp only [bytesRows, List.mem_map] at hr
    obtain ⟨b, _, rfl⟩ := hr
    rfl
  · refine finK_ret _ ⟨trivial, trivial⟩ rfl ⟨rfl, c.take 2000, by simp; omega, ?_⟩
    simp [Rd, bytesRows, Ob.re, C.re]
  · refine finK_ret _ ⟨trivial, trivial⟩ rfl ⟨rfl, c, by omega, ?_⟩
    simp [Rd, Ob.re, C.re]
end Go.Proofs.YteighafofbohcaaGreat

/-
  Terms that are drawn.
  Conditions: none.
-/
open Go Go.AM Go.Proofs
namespace Go.Proofs.YteighafofbohcaaGreat
open Go.ChangeShapes Go.WideShapes Go.ChangeAt Go.RowKit
set_option linter.unusedVariables false
set_option linter.unusedSimpArgs false
set_option maxRecDepth 100000
-- 46 (*loop.example/prologserver/spec.l18Rd).of params 2 ntmps 12
def ac46 : Cd := .seq (.region [⟨(some 4),.mv (.k (.c (.d (.str [])))),none⟩] [4])
 (.seq (.region [⟨(some 5),.mv (.t 1),none⟩,
 ⟨(some 6),.mv (.t 0),none⟩,
 ⟨(some 7),.mv (.t 1),none⟩,
 ⟨(some 8),.len 1 (.t 7),none⟩,
 ⟨(some 9),.call false 42 [(.t 6),(.t 8)],none⟩,
 ⟨(some 10),.indexAddr 1 (.t 5) (.t 9),none⟩,
 ⟨(some 11),.load none (.t 10),none⟩,
 ⟨(some 4),.mv (.t 11),none⟩] [0,1,5,6,7,8,9,10,11])
 (.ret))
theorem ac46_ok : cFunc Tryz.prog [] [(0,[4],[]),(1,[0,1,5,6,7,8,9,10,11],[])] Tryz.f46 = some (ac46,[.tmp 4],12) := by kernel_rfl
-- 48 loop.example/prologserver/spec.l1Draw params 2 ntmps 65
-- loop head live: [0,1,4,5,6]
def ac48 : Cd := .seq (.region [⟨(some 4),.alloc [(.d (.int .i64 0)),(.d (.int .i64 0)),(.d (.str [])),(.full [])],none⟩] [])
 (.seq (.seq (.region [⟨(some 7),.mv (.t 1),none⟩,
 ⟨(some 8),.bin .lss (.t 7) (.k (.c (.d (.int .i64 2)))),none⟩,
 ⟨(some 9),.mv (.t 8),none⟩,
 ⟨(some 10),.mv (.t 0),some (9,false)⟩,
 ⟨(some 11),.call false 42 [(.t 10),(.k (.c (.d (.int .i64 4))))],some (9,false)⟩,
 ⟨(some 12),.bin .eql (.t 11) (.k (.c (.d (.int .i64 0)))),some (9,false)⟩,
 ⟨(some 13),.pick (.t 9) (.k (.c (.d (.bool true)))) (.t 12),none⟩] [7,8,9,10,11,12])
 (.cond (.t 13)
 (.seq (.seq (.region [⟨(some 14),.mv (.t 0),none⟩,
 ⟨(some 15),.call false 42 [(.t 14),(.k (.c (.d (.int .i64 4))))],none⟩] [1,13,14])
 (.block 0 (.seq (.region [⟨(some 17),.bin .eql (.t 15) (.k (.c (.d (.int .i64 0)))),none⟩,
 ⟨(some 16),.mv (.t 17),none⟩] [17])
 (.cond (.t 16)
 (.seq (.region [⟨(some 18),.mv (.t 0),none⟩,
 ⟨(some 19),.call false 42 [(.t 18),(.k (.c (.d (.int .i64 4))))],none⟩,
 ⟨(some 20),.qcall 77 [(.t 19)],none⟩,
 ⟨none,.store 4 (.t 4) (.t 20),none⟩] [0,15,16,18,19,20])
 (.ret))
 (.seq (.region [⟨(some 22),.bin .eql (.t 15) (.k (.c (.d (.int .i64 1)))),none⟩,
 ⟨(some 21),.mv (.t 22),none⟩] [15,16,22])
 (.cond (.t 21)
 (.seq (.region [⟨(some 23),.mv (.t 0),none⟩,
 ⟨(some 24),.buildSlice 1 6 [(.int .i64 0)] [(0,(.k (.c (.d (.int .i64 0))))),(1,(.k (.c (.d (.int .i64 1))))),(2,(.k (.c (.d (.int .i64 7))))),(3,(.k (.c (.d (.int .i64 (-3)))))),(4,(.k (.c (.d (.int .i64 999))))),(5,(.k (.c (.d (.int .i64 (-999))))))],none⟩,
 ⟨(some 25),.call false 69 [(.t 23),(.t 24)],none⟩,
 ⟨(some 26),.qcall 74 [(.t 25)],none⟩,
 ⟨none,.store 4 (.t 4) (.t 26),none⟩] [0,21,23,24,25,26])
 (.ret))
 (.skip)))))))
 (.seq (.region [⟨(some 27),.mv (.t 0),none⟩,
 ⟨(some 28),.buildSlice 1 6 [(.str [])] [(0,(.k (.c (.d (.str [97]))))),(1,(.k (.c (.d (.str [98]))))),(2,(.k (.c (.d (.str [110,105,108]))))),(3,(.k (.c (.d (.str [91,93]))))),(4,(.k (.c (.d (.str [102,111,111]))))),(5,(.k (.c (.d (.str [43])))))],none⟩,
 ⟨(some 29),.call false 46 [(.t 27),(.t 28)],none⟩,
 ⟨(some 30),.call false 45 [(.t 29),(.k (.c (.full [])))],none⟩,
 ⟨none,.store 4 (.t 4) (.t 30),none⟩] [0,21,27,28,29,30])
 (.ret)))
 (.skip)))
 (.seq (.seq (.region [⟨(some 31),.mv (.t 0),none⟩,
 ⟨(some 32),.call false 42 [(.t 31),(.k (.c (.d (.int .i64 3))))],none⟩,
 ⟨(some 33),.bin .eql (.t 32) (.k (.c (.d (.int .i64 0)))),none⟩] [13,31,32])
 (.cond (.t 33)
 (.seq (.region [⟨(some 34),.mv (.t 0),none⟩,
 ⟨(some 35),.mv (.t 1),none⟩,
 ⟨(some 36),.bin .sub (.t 35) (.k (.c (.d (.int .i64 1)))),none⟩,
 ⟨(some 37),.callL false false 48 [(.t 34),(.t 36)],none⟩,
 ⟨(some 38),.mv (.t 0),none⟩,
 ⟨(some 39),.mv (.t 1),none⟩,
 ⟨(some 40),.bin .sub (.t 39) (.k (.c (.d (.int .i64 1)))),none⟩,
 ⟨(some 41),.callL false false 48 [(.t 38),(.t 40)],none⟩,
 ⟨(some 42),.buildSlice 4 2 [(.int .i64 0),(.int .i64 0),(.str []),(.sl [])] [(0,(.t 37)),(1,(.t 41))],none⟩,
 ⟨(some 43),.call false 45 [(.k (.c (.d (.str [46])))),(.t 42)],none⟩,
 ⟨none,.store 4 (.t 4) (.t 43),none⟩] [0,1,33,34,35,36,37,38,39,40,41,42,43])
 (.ret))
 (.skip)))
 (.seq (.region [⟨(some 44),.mv (.t 0),none⟩,
 ⟨(some 45),.buildSlice 1 7 [(.str [])] [(0,(.k (.c (.d (.str [102]))))),(1,(.k (.c (.d (.str [103]))))),(2,(.k (.c (.d (.str [115]))))),(3,(.k (.c (.d (.str [43]))))),(4,(.k (.c (.d (.str [61]))))),(5,(.k (.c (.d (.str [105,115]))))),(6,(.k (.c (.d (.str [102,111,111])))))],none⟩,
 ⟨(some 46),.call false 46 [(.t 44),(.t 45)],none⟩,
 ⟨(some 47),.call false 45 [(.t 46),(.k (.c (.full [])))],none⟩,
 ⟨(some 5),.alloc [(.d (.int .i64 0)),(.d (.int .i64 0)),(.d (.str [])),(.full [])],none⟩,
 ⟨none,.store 4 (.t 5) (.t 47),none⟩] [33,44,45,46,47])
 (.seq (.seq (.region [⟨(some 48),.mv (.t 0),none⟩,
 ⟨(some 49),.buildSlice 1 4 [(.int .i64 0)] [(0,(.k (.c (.d (.int .i64 2))))),(1,(.k (.c (.d (.int .i64 1))))),(2,(.k (.c (.d (.int .i64 3))))),(3,(.k (.c (.d (.int .i64 2)))))],none⟩,
 ⟨(some 50),.call false 69 [(.t 48),(.t 49)],none⟩,
 ⟨(some 6),.mv (.t 50),none⟩] [48,49,50])
 (.block 1 (.loop (.seq (.seq (.region [⟨(some 51),.mv (.t 6),none⟩,
 ⟨(some 52),.bin .gtr (.t 51) (.k (.c (.d (.int .i64 0)))),none⟩] [51])
 (.cond (.t 52)
 (.skip)
 (.exit 1)))
 (.seq (.block 2 (.region [⟨(some 55),.fieldAddr 3 (.t 5),none⟩,
 ⟨(some 57),.mv (.t 0),none⟩,
 ⟨(some 58),.mv (.t 1),none⟩,
 ⟨(some 59),.bin .sub (.t 58) (.k (.c (.d (.int .i64 1)))),none⟩,
 ⟨(some 56),.loadL false none (.t 55),none⟩,
 ⟨(some 60),.callL false false 48 [(.t 57),(.t 59)],none⟩,
 ⟨(some 61),.buildSlice 4 1 [(.int .i64 0),(.int .i64 0),(.str []),(.sl [])] [(0,(.t 60))],none⟩,
 ⟨(some 62),.append false 4 (.t 56) (.t 61),none⟩,
 ⟨(some 63),.fieldAddr 3 (.t 5),none⟩,
 ⟨none,.store 1 (.t 63) (.t 62),none⟩] [52,55,56,57,58,59,60,61,62,63]))
 (.region [⟨(some 53),.mv (.t 6),none⟩,
 ⟨(some 54),.bin .sub (.t 53) (.k (.c (.d (.int .i64 1)))),none⟩,
 ⟨(some 6),.mv (.t 54),none⟩] [53,54]))))))
 (.seq (.region [⟨(some 64),.load (some 4) (.t 5),none⟩,
 ⟨none,.store 4 (.t 4) (.t 64),none⟩] [5,64])
 (.ret))))))
theorem ac48_ok : cFunc Tryz.prog [1000074,1000077,5000055,6000048] [(0,[],[]),(1,[7,8,9,10,11,12],[]),(2,[1,13,14],[]),(3,[17],[]),(4,[0,15,16,18,19,20],[]),(5,[15,16,22],[]),(6,[0,21,23,24,25,26],[]),(7,[0,21,27,28,29,30],[]),(8,[13,31,32],[]),(9,[0,1,33,34,35,36,37,38,39,40,41,42,43],[]),(10,[33,44,45,46,47],[]),(11,[48,49,50],[]),(12,[51],[]),(14,[52,55,56,57,58,59,60,61,62,63],[0,2,3,4,1,5,6,7,8,9]),(13,[53,54],[]),(15,[5,64],[])] Tryz.f48 = some (ac48,[.cell 4 (some 4)],65) := by kernel_rfl
namespace Full
-- 45 loop.example/prologserver/spec.l1Struct params 2 ntmps 10
def ac45 : Cd := .seq (.region [⟨(some 4),.alloc [(.d (.int .i64 0)),(.d (.int .i64 0)),(.d (.str [])),(.full [])],none⟩] [])
 (.seq (.region [⟨(some 5),.mv (.t 0),none⟩,
 ⟨(some 6),.buildSlice 4 0 [(.int .i64 0),(.int .i64 0),(.str []),(.sl [])] [],none⟩,
 ⟨(some 7),.mv (.t 1),none⟩,
 ⟨(some 8),.appendF 4 (.t 6) (.t 7),none⟩,
 ⟨(some 9),.build [(.d (.int .i64 0)),(.d (.int .i64 0)),(.d (.str [])),(.full [])] [(0,1,(.k (.c (.d (.int .i64 3))))),(2,1,(.t 5)),(3,1,(.t 8))],none⟩,
 ⟨none,.store 4 (.t 4) (.t 9),none⟩] [0,1,5,6,7,8,9])
 (.ret))
theorem ac45_ok : cFunc Tryz.prog [3000006] [(0,[],[]),(1,[0,1,5,6,7,8,9],[])] Tryz.f45 = some (ac45,[.cell 4 (some 4)],10) := by kernel_rfl
end Full
theorem of_draws (l : List (List UInt8)) (hl : 1 ≤ l.length ∧ l.length ≤ 1000) : Draws 46 [.c (.d (.sl (l.map fun s => [.str s])))] 1 (fun r => ∃ s ∈ l, r = .c (.d (.str s))) := fun c p H i hc hp hp1 hi => by
  refine acalls Tryz.func46 (by kernel_rfl) ac46_ok fun hf => ?_
  simp only [List.length_set] at hf
  have hll : inR .i64 (l.length : Int) := small_i64 (by omega) (by omega)
  simp -implicitDefEqProofs [ac46, hll, go_sem, -List.set_cons_succ, -List.set_cons_zero]
  refine call_drawE (pick_draws l.length ⟨by omega, by omega⟩) hc hp hp1 hi (by simp) (fun r => IntIn.re) hf ?_
  rintro _ p' ⟨k, rfl, h1, h2⟩ h3 h4
  simp -implicitDefEqProofs [go_sem, -List.set_cons_succ, -List.set_cons_zero]
  have hk : k.toNat < l.length := by omega
  refine row_int [.str l[k.toNat]] h1 (by simp [hk]) rfl ?_
  simp -implicitDefEqProofs [go_sem, -List.set_cons_succ, -List.set_cons_zero]
  exact ⟨⟨_, List.getElem_mem hk, rfl⟩, p', h3, h4, rfl⟩
/-- a structure without arguments: nothing stands behind its arguments -/
theorem struct_full (name : List UInt8) (H : Heap) : ACalls Tryz.prog 45 [.c (.d (.str name)), .c (.d (.sl []))] H (fun r H' => H' = H ++ [.cells [.d (.int .i64 3), .d (.int .i64 0), .d (.str name), .full []]] ∧ r = .agg [.d (.int .i64 3), .d (.int .i64 0), .d (.str name), .full []]) := by
  refine acallsK Tryz.func45 (by kernel_rfl) Full.ac45_ok fun hf => ?_
  simp -implicitDefEqProofs [Full.ac45, hf, go_sem, -List.set_cons_succ, -List.set_cons_zero]
  refine finK_ret _ ⟨trivial, trivial⟩ rfl ?_
  simp [Ob.re, C.re, A.re]
/-- a call that leaves one object more, which looks at no other -/
theorem call_new {P : Program} {f : FuncId} {xs : List A} {sl : List A} {ext loc H₂ : Heap} {o : Ob} {r : A} {K : A → St → Prop} (hc : ∀ H, ACalls P f xs H (fun r' H' => H' = H ++ [o] ∧ r' = r)) (ho : Ob.re ext.length o = o) (hr : A.re ext.length r = r)
    (hf : Obs.fits ext.length 0 ext) (hH : H₂ = ext ++ loc.map (Ob.re ext.length)) (hk : K r ⟨sl, ext, loc ++ [o]⟩) : ACalls P f xs H₂ (CallK K ⟨sl, ext, loc⟩) := by
  subst hH
  exact (hc _).mono fun r' H' ⟨h1, h2⟩ => ⟨ext, loc ++ [o], r, by rw [h1, List.append_assoc, List.map_append]; simp [ho], rfl, by simp, hf, by rw [h2]; exact hr.symm, hk⟩
/-- a term that a law looks at -/
def TmR (r : A) : Prop := ∃ t : Tm, r = .agg (t.row.map .d) ∧ t.fits
theorem TmR.re {n : Nat} {r : A} (h : TmR r) : A.re n r = r := by
  obtain ⟨t, rfl, _⟩ := h
  simp [A.re, re_d]
/-- the names that are drawn -/
def drawNames : List (List UInt8) := [[97], [98], [110, 105, 108], [91, 93], [102, 111, 111], [43], [46], [102], [103], [115], [61], [105, 115]]
theorem draw_names {l : List (List UInt8)} {s : List UInt8} (h : s ∈ l) (hl : l.all (drawNames.contains ·) = true := by decide) : s ∈ drawNames := by
  simp only [List.all_eq_true, List.contains_iff_mem] at hl
  exact hl s h
/-- a term that is drawn -/
def TmP (P : Tm → Prop) (r : A) : Prop := ∃ t : Tm, r = .agg (t.row.map .d) ∧ t.fits ∧ P t
theorem TmP.re {P : Tm → Prop} {n : Nat} {r : A} (h : TmP P r) : A.re n r = r := by
  obtain ⟨t, rfl, _⟩ := h
  simp [A.re, re_d]
theorem draw_of {P Q : Tm → Prop} (hP1 : ∀ n, 0 ≤ n → n ≤ 25 → P (.mk 1 n [] [])) (hP2 : ∀ n, -999 ≤ n → n ≤ 999 → P (.mk 2 n [] [])) (hP3 : ∀ s ∈ drawNames, ∀ l : List Tm, l.length ≤ 3 → (∀ t ∈ l, Q t) → P (.mk 3 0 s l))
    (d : Nat) (hd : d ≤ 6) (M N : Int) (hM : 0 ≤ M) (hN : 4 + 3 * M ≤ N) (ih : 2 ≤ d → Draws 48 [.c (.d (.int .i64 ((d : Int) - 1)))] M (TmP Q)) : Draws 48 [.c (.d (.int .i64 d))] N (TmP P) := fun c p H i hc hp hp1 hi => by
  refine acalls Tryz.func48 (by kernel_rfl) ac48_ok fun hf => ?_
  simp only [List.length_set] at hf
  simp -implicitDefEqProofs [ac48, go_sem, -List.set_cons_succ, -List.set_cons_zero]
  have hf0 : ∀ q, Obs.fits H.length 0 (H.set i (Rd c q)) := fun q => fits_reset (b := Rd c q) hf ⟨trivial, trivial, trivial⟩
  have hf1 : ∀ q, Obs.fits (H.set i (Rd c q)).length 0 (H.set i (Rd c q)) := fun q => by simpa using hf0 q
  have done : ∀ (t : Tm) (q : Int), p ≤ q → q ≤ p + N → t.fits → P t → ∀ r, r = .agg (t.row.map .d) → Drew (TmP P) N c p H i r (H.set i (Rd c q)) := fun t q a1 a2 a3 a4 r hr => ⟨⟨t, hr, a3, a4⟩, q, a1, a2, rfl⟩
  refine ⟨fun h2 => ⟨h2, ?_⟩, fun h2 => ?_⟩
  · refine call_drawE (pick_draws 4 (by omega)) hc hp (by omega) hi (by simp [Ob.re, C.re]) (fun r => IntIn.re) (hf0 _) ?_
    rintro _ p0 ⟨k, rfl, k0, k1⟩ h3 h4
    have hd0 : ¬ ((d : Int) < 2) := by omega
    simp -implicitDefEqProofs [hf0, hd0, go_sem, -List.set_cons_succ, -List.set_cons_zero]
    refine ⟨fun _ => ?_, fun _ => ?_⟩
    · skip
      refine call_drawE (pick_draws 4 (by omega)) hc (by omega) (by omega) hi (by simp [Ob.re, C.re]) (fun r => IntIn.re) (hf0 _) ?_
      rintro _ p1 ⟨k, rfl, k0, k1⟩ h3 h4
      simp -implicitDefEqProofs [hf0, go_sem, -List.set_cons_succ, -List.set_cons_zero]
      refine ⟨fun _ => ?_, fun _ => ⟨fun _ => ?_, fun _ => ?_⟩⟩
      · refine call_drawE (pick_draws 4 (by omega)) hc (by omega) (by omega) hi (by simp [Ob.re, C.re]) (fun r => IntIn.re) (hf0 _) ?_
        rintro _ p2 ⟨n, rfl, n0, n1⟩ h5 h6
        simp -implicitDefEqProofs [hf0, go_sem, -List.set_cons_succ, -List.set_cons_zero]
        refine qcall_pure (var_calls n) (hf1 _) (by simp [A.re, re_d]) ?_
        simp -implicitDefEqProofs [hf0, row_mk, go_sem, -List.set_cons_succ, -List.set_cons_zero]
        exact done (.mk 1 n [] []) p2 (by omega) (by omega) (.mk (small_i64 (by omega) (by omega)) (small_i64 (by omega) (by omega)) (by simp) (by simp) (by simp)) (hP1 n (by omega) (by omega)) _ (by simp [row_mk])
      · refine call_drawE (num_draws [0, 1, 7, -3, 999, -999] (by decide)) hc (by omega) (by omega) hi (by simp [Ob.re, C.re]) (fun r ⟨n, _, hn⟩ => by subst hn; rfl) (hf0 _) ?_
        rintro _ p2 ⟨n, hn, rfl⟩ h5 h6
        have hn : -999 ≤ n ∧ n ≤ 999 := by simp at hn; omega
        simp -implicitDefEqProofs [hf0, go_sem, -List.set_cons_succ, -List.set_cons_zero]
        refine qcall_pure (int_calls n) (hf1 _) (by simp [A.re, re_d]) ?_
        simp -implicitDefEqProofs [hf0, row_mk, go_sem, -List.set_cons_succ, -List.set_cons_zero]
        exact done (.mk 2 n [] []) p2 (by omega) (by omega) (.mk (small_i64 (by omega) (by omega)) (small_i64 (by omega) (by omega)) (by simp) (by simp) (by simp)) (hP2 n (by omega) (by omega)) _ (by simp [row_mk])
      · refine call_drawE (of_draws [[97], [98], [110, 105, 108], [91, 93], [102, 111, 111], [43]] (by decide)) hc (by omega) (by omega) hi (by simp [Ob.re, C.re]) (fun r ⟨n, _, hn⟩ => by subst hn; rfl) (hf0 _) ?_
        rintro _ p2 ⟨s, hs, rfl⟩ h5 h6
        have hsm : s ∈ drawNames := draw_names hs
        have hs : s.length ≤ 3 := by simp at hs; rcases hs with rfl | rfl | rfl | rfl | rfl | rfl <;> decide
        simp -implicitDefEqProofs [hf0, go_sem, -List.set_cons_succ, -List.set_cons_zero]
        refine call_new (struct_full s) (by simp [Ob.re, C.re]) (by simp [A.re, C.re]) (hf1 _) (by simp [Ob.re, C.re]) ?_
        simp -implicitDefEqProofs [hf0, go_sem, -List.set_cons_succ, -List.set_cons_zero]
        exact done (.mk 3 0 s []) p2 (by omega) (by omega) (.mk (small_i64 (by omega) (by omega)) (small_i64 (by omega) (by omega)) (by omega) (by simp) (by simp)) (hP3 s hsm [] (by simp) (by simp)) _ (by simp [row_mk])
    · refine call_drawE (pick_draws 3 (by omega)) hc (by omega) (by omega) hi (by simp [Ob.re, C.re]) (fun r => IntIn.re) (hf0 _) ?_
      rintro _ p1 ⟨k2, rfl, k3, k4⟩ h5 h6
      have hsub : inR .i64 ((d : Int) - 1) := small_i64 (by omega) (by omega)
      simp -implicitDefEqProofs [hf0, hsub, go_sem, -List.set_cons_succ, -List.set_cons_zero]
      refine ⟨fun _ => ?_, fun _ => ?_⟩
      · refine call_drawE (ih (by omega)) hc (by omega) (by omega) hi (by simp [Ob.re, C.re]) (fun r => TmP.re) (hf0 _) ?_
        rintro _ p2 ⟨a, rfl, ha, haQ⟩ h7 h8
        refine ⟨LocSame.refl _, ?_⟩
        simp -implicitDefEqProofs [hf0, hsub, row_len, take_row, go_sem, -List.set_cons_succ, -List.set_cons_zero]
        refine call_drawE (ih (by omega)) hc (by omega) (by omega) hi (by simp [Ob.re, C.re]) (fun r => TmP.re) (hf0 _) ?_
        rintro _ p3 ⟨b, rfl, hb, hbQ⟩ h9 h10
        refine ⟨LocSame.refl _, ?_⟩
        simp -implicitDefEqProofs [hf0, hsub, row_len, take_row, toDs_map, go_sem, -List.set_cons_succ, -List.set_cons_zero]
        have hs := struct_calls [46] [a, b] (by simp)
        simp only [List.map_cons, List.map_nil] at hs
        refine call_same (r := .agg ((Tm.mk 3 0 [46] [a, b]).row.map .d)) (hs _) (by simp [Ob.re, C.re]) (by simp [A.re, re_d]) (hf1 _) ?_
        simp -implicitDefEqProofs [hf0, row_mk, go_sem, -List.set_cons_succ, -List.set_cons_zero]
        exact done (.mk 3 0 [46] [a, b]) p3 (by omega) (by omega) (.mk (small_i64 (by omega) (by omega)) (small_i64 (by omega) (by omega)) (by simp) (by simp) (by simp [ha, hb])) (hP3 [46] (by decide) [a, b] (by simp) (by simp [haQ, hbQ])) _ (by simp [row_mk])
      · refine call_drawE (of_draws [[102], [103], [115], [43], [61], [105, 115], [102, 111, 111]] (by decide)) hc (by omega) (by omega) hi (by simp [Ob.re, C.re]) (fun r ⟨n, _, hn⟩ => by subst hn; rfl) (hf0 _) ?_
        rintro _ p2 ⟨s, hs, rfl⟩ h7 h8
        have hsm : s ∈ drawNames := draw_names hs
        have hs : s.length ≤ 3 := by simp at hs; rcases hs with rfl | rfl | rfl | rfl | rfl | rfl | rfl <;> decide
        simp -implicitDefEqProofs [hf0, go_sem, -List.set_cons_succ, -List.set_cons_zero]
        refine call_new (struct_full s) (by simp [Ob.re, C.re]) (by simp [A.re, C.re]) (hf1 _) (by simp [Ob.re, C.re]) ?_
        simp -implicitDefEqProofs [hf0, go_sem, -List.set_cons_succ, -List.set_cons_zero]
        refine call_drawE (num_draws [2, 1, 3, 2] (by decide)) hc (by omega) (by omega) hi (by simp [Ob.re, C.re]) (fun r ⟨n, _, hn⟩ => by subst hn; rfl) (hf0 _) ?_
        rintro _ p3 ⟨n, hn, rfl⟩ h9 h10
        have hn : 0 ≤ n ∧ n ≤ 3 := by simp at hn; omega
        have hnM : n * M ≤ 3 * M := Int.mul_le_mul_of_nonneg_right hn.2 hM
        simp -implicitDefEqProofs [hf0, go_sem, -List.set_cons_succ, -List.set_cons_zero]
        refine loop_enter (St.le_tokenC 2 3 4 rfl rfl) ?_
        refine loop_set (σ := Int × List Tm × Int) (fun x => [(6, .c (.d (.int .i64 x.1)))]) (fun x => H.set i (Rd c x.2.2)) (fun x => [.cells [.d (.int .i64 0), .d (.int .i64 0), .d (.str []), .full []], .cells [.d (.int .i64 3), .d (.int .i64 0), .d (.str s), .full []], .cells [.d (.int .i64 3), .d (.int .i64 0), .d (.str s), .own (.l 3) x.2.1.length (x.2.1.map Tm.row)], .grow x.2.1.length 4])
          (fun x => 0 ≤ x.1 ∧ x.1 + x.2.1.length ≤ 3 ∧ p ≤ x.2.2 ∧ x.2.2 + x.1 * M ≤ p + N ∧ (∀ t ∈ x.2.1, t.fits) ∧ ∀ t ∈ x.2.1, Q t) (fun x => x.1.toNat) (n, [], p3) rfl ⟨hn.1, by simp; omega, by simp; omega, by simp; omega, by simp, by simp⟩ ?_
        rintro ⟨m, l, q⟩ ⟨i0, i1, i2, i3, i4, i5⟩
        simp only at i0 i1 i2 i3 i4 i5
        have hmM : 0 ≤ m * M := Int.mul_nonneg i0 hM
        simp -implicitDefEqProofs [setAll, hf0, hsub, go_sem, -List.set_cons_succ, -List.set_cons_zero]
        refine ⟨fun hlt => ?_, fun hge => ?_⟩
        · have hm1 : (m - 1) * M = m * M - M := by rw [Int.sub_mul, Int.one_mul]
          have hm2 : 0 ≤ (m - 1) * M := Int.mul_nonneg (by omega) hM
          have hsubm : inR .i64 (m - 1) := small_i64 (by omega) (by omega)
          refine call_drawE (ih (by omega)) hc (by omega) (by omega) hi (by simp [Ob.re, C.re]) (fun r => TmP.re) (hf0 _) ?_
          rintro _ q2 ⟨a, rfl, ha, haQ⟩ h11 h12
          refine ⟨LocSame.refl _, ?_⟩
          simp -implicitDefEqProofs [hf0, hsubm, row_len, take_row, toDs_map, go_sem, -List.set_cons_succ, -List.set_cons_zero]
          refine ⟨allLen_map row_len, by unfold maxApp; omega, ?_⟩
          refine loop_back (m - 1, l ++ [a], q2) (by simp [setAll]) ⟨by simp; omega, by simp; omega, by simp; omega, by simp; omega, fun t ht => ?_, fun t ht => ?_⟩ (by show (m - 1).toNat < m.toNat; omega)
          · rcases List.mem_append.1 ht with ht | ht
            · exact i4 t ht
            · simp at ht; subst ht; exact ha
          · rcases List.mem_append.1 ht with ht | ht
            · exact i5 t ht
            · simp at ht; subst ht; exact haQ
        · exact done (.mk 3 0 s l) q i2 (by omega) (.mk (small_i64 (by omega) (by omega)) (small_i64 (by omega) (by omega)) (by omega) (by omega) i4) (hP3 s hsm l (by omega) i5) _ (by simp [row_mk])
  · skip
    refine call_drawE (pick_draws 4 (by omega)) hc (by omega) (by omega) hi (by simp [Ob.re, C.re]) (fun r => IntIn.re) (hf0 _) ?_
    rintro _ p1 ⟨k, rfl, k0, k1⟩ h3 h4
    simp -implicitDefEqProofs [hf0, go_sem, -List.set_cons_succ, -List.set_cons_zero]
    refine ⟨fun _ => ?_, fun _ => ⟨fun _ => ?_, fun _ => ?_⟩⟩
    · refine call_drawE (pick_draws 4 (by omega)) hc (by omega) (by omega) hi (by simp [Ob.re, C.re]) (fun r => IntIn.re) (hf0 _) ?_
      rintro _ p2 ⟨n, rfl, n0, n1⟩ h5 h6
      simp -implicitDefEqProofs [hf0, go_sem, -List.set_cons_succ, -List.set_cons_zero]
      refine qcall_pure (var_calls n) (hf1 _) (by simp [A.re, re_d]) ?_
      simp -implicitDefEqProofs [hf0, row_mk, go_sem, -List.set_cons_succ, -List.set_cons_zero]
      exact done (.mk 1 n [] []) p2 (by omega) (by omega) (.mk (small_i64 (by omega) (by omega)) (small_i64 (by omega) (by omega)) (by simp) (by simp) (by simp)) (hP1 n (by omega) (by omega)) _ (by simp [row_mk])
    · refine call_drawE (num_draws [0, 1, 7, -3, 999, -999] (by decide)) hc (by omega) (by omega) hi (by simp [Ob.re, C.re]) (fun r ⟨n, _, hn⟩ => by subst hn; rfl) (hf0 _) ?_
      rintro _ p2 ⟨n, hn, rfl⟩ h5 h6
      have hn : -999 ≤ n ∧ n ≤ 999 := by simp at hn; omega
      simp -implicitDefEqProofs [hf0, go_sem, -List.set_cons_succ, -List.set_cons_zero]
      refine qcall_pure (int_calls n) (hf1 _) (by simp [A.re, re_d]) ?_
      simp -implicitDefEqProofs [hf0, row_mk, go_sem, -List.set_cons_succ, -List.set_cons_zero]
      exact done (.mk 2 n [] []) p2 (by omega) (by omega) (.mk (small_i64 (by omega) (by omega)) (small_i64 (by omega) (by omega)) (by simp) (by simp) (by simp)) (hP2 n (by omega) (by omega)) _ (by simp [row_mk])
    · refine call_drawE (of_draws [[97], [98], [110, 105, 108], [91, 93], [102, 111, 111], [43]] (by decide)) hc (by omega) (by omega) hi (by simp [Ob.re, C.re]) (fun r ⟨n, _, hn⟩ => by subst hn; rfl) (hf0 _) ?_
      rintro _ p2 ⟨s, hs, rfl⟩ h5 h6
      have hsm : s ∈ drawNames := draw_names hs
      have hs : s.length ≤ 3 := by simp at hs; rcases hs with rfl | rfl | rfl | rfl | rfl | rfl <;> decide
      simp -implicitDefEqProofs [hf0, go_sem, -List.set_cons_succ, -List.set_cons_zero]
      refine call_new (struct_full s) (by simp [Ob.re, C.re]) (by simp [A.re, C.re]) (hf1 _) (by simp [Ob.re, C.re]) ?_
      simp -implicitDefEqProofs [hf0, go_sem, -List.set_cons_succ, -List.set_cons_zero]
      exact done (.mk 3 0 s []) p2 (by omega) (by omega) (.mk (small_i64 (by omega) (by omega)) (small_i64 (by omega) (by omega)) (by omega) (by simp) (by simp)) (hP3 s hsm [] (by simp) (by simp)) _ (by simp [row_mk])
/-- whatever holds of leaves and is handed on, holds of what is drawn -/
theorem l1DrawP_draws (P : Nat → Tm → Prop) (h1 : ∀ d n, 0 ≤ n → n ≤ 25 → P d (.mk 1 n [] [])) (h2 : ∀ d n, -999 ≤ n → n ≤ 999 → P d (.mk 2 n [] [])) (h30 : ∀ s ∈ drawNames, P 0 (.mk 3 0 s []))
    (h3 : ∀ d, ∀ s ∈ drawNames, ∀ l : List Tm, l.length ≤ 3 → (∀ t ∈ l, P d t) → P (d + 1) (.mk 3 0 s l)) : ∀ d : Nat, d ≤ 6 → Draws 48 [.c (.d (.int .i64 d))] ((5 * 4 ^ d : Nat) : Int) (TmP (P d))
  | 0, h => draw_of (P := P 0) (Q := fun _ => False) (h1 0) (h2 0) (fun s hs l hl hq => by
      cases l with
      | nil => exact h30 s hs
      | cons a l => exact (hq a (by simp)).elim) 0 h 0 _ (by omega) (by decide) (fun h => absurd h (by omega))
  | d + 1, h => by
    refine draw_of (h1 _) (h2 _) (h3 d) (d + 1) h ((5 * 4 ^ d : Nat) : Int) _ (by omega) ?_ fun _ => ?_
    · have : 0 < 4 ^ d := Nat.pos_of_ne_zero (by simp)
      rw [Nat.pow_succ]; omega
    · have := l1DrawP_draws P h1 h2 h30 h3 d (by omega)
      rw [show (((d + 1 : Nat) : Int) - 1) = (d : Int) by omega]
      exact this
theorem l1Draw_draws (d : Nat) (hd : d ≤ 6) : Draws 48 [.c (.d (.int .i64 d))] ((5 * 4 ^ d : Nat) : Int) TmR := fun c p H i hc hp hp1 hi =>
  (l1DrawP_draws (fun _ _ => True) (fun _ _ _ _ => trivial) (fun _ _ _ _ => trivial) (fun _ _ => trivial) (fun _ _ _ _ _ _ => trivial) d hd c p H i hc hp hp1 hi).mono fun r H' ⟨⟨t, h1, h2, _⟩, h3⟩ => ⟨⟨t, h1, h2⟩, h3⟩
end Go.Proofs.YteighafofbohcaaGreat

/-
  Terms that are drawn: copies that are changed.
  Conditions: none.
-/
open Go Go.AM Go.Proofs
namespace Go.Proofs.YteighafofbohcaaGreat
open Go.ChangeShapes Go.WideShapes Go.ChangeAt Go.RowKit
set_option linter.unusedVariables false
set_option linter.unusedSimpArgs false
set_option maxRecDepth 100000
-- 44 loop.example/prologserver/spec.l1Some params 1 ntmps 8
def ac44 : Cd := .seq (.region [⟨(some 2),.alloc [(.d (.int .i64 0)),(.d (.int .i64 0)),(.d (.str [])),(.full [])],none⟩] [])
 (.seq (.region [⟨(some 3),.mv (.t 0),none⟩,
 ⟨(some 4),.mv (.t 0),none⟩,
 ⟨(some 5),.buildSlice 1 4 [(.int .i64 0)] [(0,(.k (.c (.d (.int .i64 3))))),(1,(.k (.c (.d (.int .i64 2))))),(2,(.k (.c (.d (.int .i64 4))))),(3,(.k (.c (.d (.int .i64 1)))))],none⟩,
 ⟨(some 6),.call false 69 [(.t 4),(.t 5)],none⟩,
 ⟨(some 7),.call false 48 [(.t 3),(.t 6)],none⟩,
 ⟨none,.store 4 (.t 2) (.t 7),none⟩] [0,3,4,5,6,7])
 (.ret))
theorem ac44_ok : cFunc Tryz.prog [] [(0,[],[]),(1,[0,3,4,5,6,7],[])] Tryz.f44 = some (ac44,[.cell 2 (some 4)],8) := by kernel_rfl
-- 43 loop.example/prologserver/spec.l1Mutate params 2 ntmps 51
-- loop head live: [4,5]
-- loop head live: [4,5,6]
def ac43 : Cd := .seq (.region [⟨(some 3),.box (.t 1),none⟩,
 ⟨(some 4),.alloc [(.d (.int .i64 0)),(.d (.int .i64 0)),(.d (.str [])),(.full [])],none⟩] [1])
 (.seq (.region [⟨(some 7),.load (some 4) (.t 3),none⟩,
 ⟨(some 8),.call false 73 [(.t 7)],none⟩,
 ⟨(some 5),.alloc [(.d (.int .i64 0)),(.d (.int .i64 0)),(.d (.str [])),(.full [])],none⟩,
 ⟨none,.store 4 (.t 5) (.t 8),none⟩] [3,7,8])
 (.seq (.seq (.region [⟨(some 9),.mv (.t 0),none⟩,
 ⟨(some 10),.call false 42 [(.t 9),(.k (.c (.d (.int .i64 50))))],none⟩] [9])
 (.block 0 (.seq (.region [⟨(some 12),.bin .eql (.t 10) (.k (.c (.d (.int .i64 0)))),none⟩,
 ⟨(some 11),.mv (.t 12),none⟩] [12])
 (.cond (.t 11)
 (.region [⟨(some 13),.mv (.t 0),none⟩,
 ⟨(some 14),.buildSlice 1 5 [(.int .i64 0)] [(0,(.k (.c (.d (.int .i64 0))))),(1,(.k (.c (.d (.int .i64 4))))),(2,(.k (.c (.d (.int .i64 1))))),(3,(.k (.c (.d (.int .i64 2))))),(4,(.k (.c (.d (.int .i64 3)))))],none⟩,
 ⟨(some 15),.call false 69 [(.t 13),(.t 14)],none⟩,
 ⟨(some 16),.fieldAddr 0 (.t 5),none⟩,
 ⟨none,.store 1 (.t 16) (.t 15),none⟩] [0,10,11,13,14,15,16])
 (.seq (.region [⟨(some 18),.bin .eql (.t 10) (.k (.c (.d (.int .i64 1)))),none⟩,
 ⟨(some 17),.mv (.t 18),none⟩] [11,18])
 (.cond (.t 17)
 (.region [⟨(some 19),.mv (.t 0),none⟩,
 ⟨(some 20),.buildSlice 1 5 [(.int .i64 0)] [(0,(.k (.c (.d (.int .i64 26))))),(1,(.k (.c (.d (.int .i64 1000))))),(2,(.k (.c (.d (.int .i64 (-1000)))))),(3,(.k (.c (.d (.int .i64 (-1)))))),(4,(.k (.c (.d (.int .i64 1)))))],none⟩,
 ⟨(some 21),.call false 69 [(.t 19),(.t 20)],none⟩,
 ⟨(some 22),.fieldAddr 1 (.t 5),none⟩,
 ⟨none,.store 1 (.t 22) (.t 21),none⟩] [0,10,17,19,20,21,22])
 (.seq (.region [⟨(some 24),.bin .eql (.t 10) (.k (.c (.d (.int .i64 2)))),none⟩,
 ⟨(some 23),.mv (.t 24),none⟩] [17,24])
 (.cond (.t 23)
 (.region [⟨(some 25),.mv (.t 0),none⟩,
 ⟨(some 26),.buildSlice 1 5 [(.str [])] [(0,(.k (.c (.d (.str []))))),(1,(.k (.c (.d (.str [88]))))),(2,(.k (.c (.d (.str [116,111,111,108,111,110,103]))))),(3,(.k (.c (.d (.str [195,169]))))),(4,(.k (.c (.d (.str [97])))))],none⟩,
 ⟨(some 27),.call false 46 [(.t 25),(.t 26)],none⟩,
 ⟨(some 28),.fieldAddr 2 (.t 5),none⟩,
 ⟨none,.store 1 (.t 28) (.t 27),none⟩] [0,10,23,25,26,27,28])
 (.seq (.region [⟨(some 30),.bin .eql (.t 10) (.k (.c (.d (.int .i64 3)))),none⟩,
 ⟨(some 29),.mv (.t 30),none⟩] [0,23,30])
 (.cond (.t 29)
 (.block 1 (.loop (.seq (.seq (.region [⟨(some 31),.fieldAddr 3 (.t 5),none⟩,
 ⟨(some 32),.load none (.t 31),none⟩,
 ⟨(some 33),.len 1 (.t 32),none⟩,
 ⟨(some 34),.bin .leq (.t 33) (.k (.c (.d (.int .i64 4)))),none⟩] [31,32,33])
 (.cond (.t 34)
 (.skip)
 (.exit 1)))
 (.block 2 (.region [⟨(some 35),.fieldAddr 3 (.t 5),none⟩,
 ⟨(some 36),.load none (.t 35),none⟩,
 ⟨(some 37),.qcall 74 [(.k (.c (.d (.int .i64 1))))],none⟩,
 ⟨(some 38),.buildSlice 4 1 [(.int .i64 0),(.int .i64 0),(.str []),(.sl [])] [(0,(.t 37))],none⟩,
 ⟨(some 39),.append false 4 (.t 36) (.t 38),none⟩,
 ⟨(some 40),.fieldAddr 3 (.t 5),none⟩,
 ⟨none,.store 1 (.t 40) (.t 39),none⟩] [34,35,36,37,38,39,40])))))
 (.seq (.region [⟨(some 42),.bin .eql (.t 10) (.k (.c (.d (.int .i64 4)))),none⟩,
 ⟨(some 41),.mv (.t 42),none⟩] [10,29,42])
 (.cond (.t 41)
 (.seq (.region [⟨(some 6),.mv (.k (.c (.d (.int .i64 0)))),none⟩] [41])
 (.block 3 (.loop (.seq (.seq (.region [⟨(some 43),.mv (.t 6),none⟩,
 ⟨(some 44),.bin .lss (.t 43) (.k (.c (.d (.int .i64 30)))),none⟩] [43])
 (.cond (.t 44)
 (.skip)
 (.exit 3)))
 (.seq (.block 4 (.region [⟨(some 47),.load (some 4) (.t 5),none⟩,
 ⟨(some 48),.buildSlice 4 1 [(.int .i64 0),(.int .i64 0),(.str []),(.sl [])] [(0,(.t 47))],none⟩,
 ⟨(some 49),.qcall 45 [(.k (.c (.d (.str [115])))),(.t 48)],none⟩,
 ⟨none,.store 4 (.t 5) (.t 49),none⟩] [44,47,48,49]))
 (.region [⟨(some 45),.mv (.t 6),none⟩,
 ⟨(some 46),.bin .add (.t 45) (.k (.c (.d (.int .i64 1)))),none⟩,
 ⟨(some 6),.mv (.t 46),none⟩] [45,46]))))))
 (.skip)))))))))))))
 (.seq (.region [⟨(some 50),.load (some 4) (.t 5),none⟩,
 ⟨none,.store 4 (.t 4) (.t 50),none⟩] [5,41,50])
 (.ret))))
theorem ac43_ok : cFunc Tryz.prog [1000045,1000074] [(0,[1],[]),(1,[3,7,8],[]),(2,[9],[]),(3,[12],[]),(4,[0,10,11,13,14,15,16],[]),(5,[11,18],[]),(6,[0,10,17,19,20,21,22],[]),(7,[17,24],[]),(8,[0,10,23,25,26,27,28],[]),(9,[0,23,30],[]),(10,[31,32,33],[]),(11,[34,35,36,37,38,39,40],[0,1,2,3,4,5,6]),(12,[10,29,42],[]),(13,[41],[]),(14,[43],[]),(16,[44,47,48,49],[]),(15,[45,46],[]),(17,[5,41,50],[])] Tryz.f43 = some (ac43,[.cell 4 (some 4)],51) := by kernel_rfl
theorem Draws.mono {f : FuncId} {xs : List A} {N N' : Int} {R : A → Prop} (h : Draws f xs N R) (hN : N ≤ N') : Draws f xs N' R := fun c p H i hc hp hp1 hi =>
  (h c p H i hc hp (by omega) hi).mono fun r H' ⟨h1, p', h2, h3, h4⟩ => ⟨h1, p', h2, by omega, h4⟩
theorem l1Some_draws : Draws 44 [] 1281 TmR := fun c p H i hc hp hp1 hi => by
  refine acalls Tryz.func44 (by kernel_rfl) ac44_ok fun hf => ?_
  simp only [List.length_set] at hf
  have hf0 : ∀ q, Obs.fits H.length 0 (H.set i (Rd c q)) := fun q => fits_reset (b := Rd c q) hf ⟨trivial, trivial, trivial⟩
  simp -implicitDefEqProofs [ac44, hf0, go_sem, -List.set_cons_succ, -List.set_cons_zero]
  refine call_drawE (num_draws [3, 2, 4, 1] (by decide)) hc (by omega) (by omega) hi (by simp [Ob.re, C.re]) (fun r ⟨n, _, hn⟩ => by subst hn; rfl) (hf0 _) ?_
  rintro _ p1 ⟨n, hn, rfl⟩ h1 h2
  obtain ⟨d, rfl, hd⟩ : ∃ d : Nat, n = (d : Int) ∧ d ≤ 4 := ⟨n.toNat, by simp at hn; omega, by simp at hn; omega⟩
  have hdr : Draws 48 [.c (.d (.int .i64 d))] 1280 TmR := (l1Draw_draws d (by omega)).mono (by
    have : 4 ^ d ≤ 4 ^ 4 := Nat.pow_le_pow_right (by omega) hd
    omega)
  simp -implicitDefEqProofs [hf0, go_sem, -List.set_cons_succ, -List.set_cons_zero]
  refine call_drawE hdr hc (by omega) (by omega) hi (by simp [Ob.re, C.re]) (fun r => TmR.re) (hf0 _) ?_
  rintro _ p2 ⟨t, rfl, ht⟩ h3 h4
  rw [row_eq]
  simp -implicitDefEqProofs [hf0, go_sem, -List.set_cons_succ, -List.set_cons_zero]
  exact ⟨⟨t, by rw [row_eq]; rfl, ht⟩, p2, by omega, by omega, rfl⟩
theorem copy_own (k n : Int) (s : List UInt8) (l : List Tm) (hfits : (Tm.mk k n s l).fits) (H : Heap) : ACalls Tryz.prog 73 [.agg ((Tm.mk k n s l).row.map .d)] H (fun r H' =>
    H' = H ++ [.cells [.d (.int .i64 k), .d (.int .i64 n), .d (.str s), .d (.sl (l.map Tm.row))], .cells [.d (.int .i64 k), .d (.int .i64 n), .d (.str s), .own (.e (H.length + 3)) l.length (l.map Tm.row)], .cells [.d (.int .i64 k), .d (.int .i64 n), .d (.str s), .own (.e (H.length + 3)) l.length (l.map Tm.row)], .grow l.length 4] ∧
    r = .agg [.d (.int .i64 k), .d (.int .i64 n), .d (.str s), .own (.e (H.length + 3)) l.length (l.map Tm.row)]) := by
  obtain ⟨hk, hn, hs, hl, hkids⟩ := hfits
  refine acallsK Tryz.func73 (by kernel_rfl) ac73_ok fun hf => ?_
  have hli : inR .i64 (l.length : Int) := small_i64 (by omega) (by omega)
  simp -implicitDefEqProofs [ac73, row_mk, hf, hli, go_sem, -List.set_cons_succ, -List.set_cons_zero]
  refine loop_enter (St.le_tokenC 2 3 4 rfl rfl) ?_
  refine loop_set (σ := Nat) (fun i => [(4, .c (.d (.int .i64 i)))]) (fun _ => H) (fun i => [.cells [.d (.int .i64 k), .d (.int .i64 n), .d (.str s), .d (.sl (l.map Tm.row))], .cells [.d (.int .i64 0), .d (.int .i64 0), .d (.str []), .full []], .cells [.d (.int .i64 k), .d (.int .i64 n), .d (.str s), .own (.l 3) i ((l.map Tm.row).take i)], .grow i 4])
    (fun i => i ≤ l.length) (fun i => l.length - i) 0 rfl (Nat.zero_le _) ?_
  intro i hi
  simp -implicitDefEqProofs [setAll, hli, go_sem, -List.set_cons_succ, -List.set_cons_zero]
  refine ⟨fun hlt => ?_, fun hge => ?_⟩
  · have hadd : inR .i64 ((i : Int) + 1) := small_i64 (by omega) (by omega)
    refine row_of hlt (row_len _) ?_
    simp -implicitDefEqProofs [row_len, take_row, pure_d, re_d, go_sem, -List.set_cons_succ, -List.set_cons_zero]
    refine qcall_pure (copy_calls l[i] (hkids _ (List.getElem_mem hlt))) hf (by simp [A.re, re_d]) ?_
    simp -implicitDefEqProofs [row_len, toDs_map, hadd, hf, Nat.min_eq_left hi, go_sem, -List.set_cons_succ, -List.set_cons_zero]
    refine ⟨fun r hr => allLen_map row_len r (List.mem_of_mem_take hr), by unfold maxApp; omega, ?_⟩
    refine loop_back (i + 1) ?_ hlt (by show l.length - (i + 1) < l.length - i; omega)
    simp [setAll, take_map_succ hlt]
  · have hil : i = l.length := by omega
    subst hil
    rw [show (l.map Tm.row).take l.length = l.map Tm.row from List.take_of_length_le (by simp)]
    simp -implicitDefEqProofs [hf, go_sem, -List.set_cons_succ, -List.set_cons_zero]
    refine finK_ret _ ⟨trivial, trivial⟩ rfl ?_
    simp [Ob.re, C.re, A.re, Ref.re]
theorem l1Mutate_draws (t : Tm) (ht : t.fits) : Draws 43 [.agg (t.row.map .d)] 2 TmR := fun c p H i hc hp hp1 hi => by
  obtain ⟨k, n, s, l⟩ := t
  refine acalls Tryz.func43 (by kernel_rfl) ac43_ok fun hf => ?_
  simp only [List.length_set] at hf
  have hf0 : ∀ q, Obs.fits H.length 0 (H.set i (Rd c q)) := fun q => fits_reset (b := Rd c q) hf ⟨trivial, trivial, trivial⟩
  have hf1 : ∀ q, Obs.fits (H.set i (Rd c q)).length 0 (H.set i (Rd c q)) := fun q => by simpa using hf0 q
  have hcopy := copy_own k n s l ht
  obtain ⟨hk, hn, hs, hl, hkids⟩ := ht
  rw [row_mk] at hcopy ⊢
  simp -implicitDefEqProofs [ac43, hf0, go_sem, -List.set_cons_succ, -List.set_cons_zero]
  have done : ∀ (t : Tm) (q : Int), p ≤ q → q ≤ p + 2 → t.fits → ∀ r, r = .agg (t.row.map .d) → Drew TmR 2 c p H i r (H.set i (Rd c q)) := fun t q a1 a2 a3 r hr => ⟨⟨t, hr, a3⟩, q, a1, a2, rfl⟩
  refine (hcopy _).mono fun r H' ⟨g1, g2⟩ => ⟨H.set i (Rd c p), [.cells [.d (.int .i64 k), .d (.int .i64 n), .d (.str s), .d (.sl (l.map Tm.row))], .cells [.d (.int .i64 0), .d (.int .i64 0), .d (.str []), .full []], .cells [.d (.int .i64 k), .d (.int .i64 n), .d (.str s), .d (.sl (l.map Tm.row))], .cells [.d (.int .i64 k), .d (.int .i64 n), .d (.str s), .own (.l 5) l.length (l.map Tm.row)], .cells [.d (.int .i64 k), .d (.int .i64 n), .d (.str s), .own (.l 5) l.length (l.map Tm.row)], .grow l.length 4],
    .agg [.d (.int .i64 k), .d (.int .i64 n), .d (.str s), .own (.l 5) l.length (l.map Tm.row)], by rw [g1]; simp [Ob.re, C.re, Ref.re], by simp, by simp, by simpa using hf0 p, by rw [g2]; simp [A.re, C.re, Ref.re], ?_⟩
  clear hcopy
  simp -implicitDefEqProofs [hf0, go_sem, -List.set_cons_succ, -List.set_cons_zero]
  refine call_drawE (pick_draws 50 (by omega)) hc (by omega) (by omega) hi (by simp [Ob.re, C.re, Ref.re]) (fun r => IntIn.re) (hf0 _) ?_
  rintro _ p1 ⟨m, rfl, m0, m1⟩ h1 h2
  simp -implicitDefEqProofs [hf0, go_sem, -List.set_cons_succ, -List.set_cons_zero]
  refine ⟨fun _ => ?_, fun _ => ⟨fun _ => ?_, fun _ => ⟨fun _ => ?_, fun _ => ⟨fun _ => ?_, fun _ => ⟨fun _ => ?_, fun _ => ?_⟩⟩⟩⟩⟩
  · refine call_drawE (num_draws [0, 4, 1, 2, 3] (by decide)) hc (by omega) (by omega) hi (by simp [Ob.re, C.re]) (fun r ⟨n, _, hn⟩ => by subst hn; rfl) (hf0 _) ?_
    rintro _ p2 ⟨x, hx, rfl⟩ h3 h4
    have hx : -1000 ≤ x ∧ x ≤ 1000 := by simp at hx; omega
    simp -implicitDefEqProofs [hf0, go_sem, -List.set_cons_succ, -List.set_cons_zero]
    exact done (.mk x n s l) p2 (by omega) (by omega) (.mk (small_i64 (by omega) (by omega)) hn hs hl hkids) _ (by simp [row_mk])
  · refine call_drawE (num_draws [26, 1000, -1000, -1, 1] (by decide)) hc (by omega) (by omega) hi (by simp [Ob.re, C.re]) (fun r ⟨n, _, hn⟩ => by subst hn; rfl) (hf0 _) ?_
    rintro _ p2 ⟨x, hx, rfl⟩ h3 h4
    have hx : -1000 ≤ x ∧ x ≤ 1000 := by simp at hx; omega
    simp -implicitDefEqProofs [hf0, go_sem, -List.set_cons_succ, -List.set_cons_zero]
    exact done (.mk k x s l) p2 (by omega) (by omega) (.mk hk (small_i64 (by omega) (by omega)) hs hl hkids) _ (by simp [row_mk])
  · refine call_drawE (of_draws [[], [88], [116, 111, 111, 108, 111, 110, 103], [195, 169], [97]] (by decide)) hc (by omega) (by omega) hi (by simp [Ob.re, C.re]) (fun r ⟨n, _, hn⟩ => by subst hn; rfl) (hf0 _) ?_
    rintro _ p2 ⟨x, hx, rfl⟩ h3 h4
    have hx : x.length ≤ 1000 := by simp at hx; rcases hx with rfl | rfl | rfl | rfl | rfl <;> decide
    simp -implicitDefEqProofs [hf0, go_sem, -List.set_cons_succ, -List.set_cons_zero]
    exact done (.mk k n x l) p2 (by omega) (by omega) (.mk hk hn (by omega) hl hkids) _ (by simp [row_mk])
  · refine loop_set (σ := List Tm) (fun _ => []) (fun _ => H.set i (Rd c p1)) (fun y => [.cells [.d (.int .i64 k), .d (.int .i64 n), .d (.str s), .d (.sl (l.map Tm.row))], .cells [.d (.int .i64 0), .d (.int .i64 0), .d (.str []), .full []], .cells [.d (.int .i64 k), .d (.int .i64 n), .d (.str s), .d (.sl (l.map Tm.row))], .cells [.d (.int .i64 k), .d (.int .i64 n), .d (.str s), .own (.l 5) l.length (l.map Tm.row)], .cells [.d (.int .i64 k), .d (.int .i64 n), .d (.str s), .own (.l 5) l.length (l.map Tm.row)], .grow y.length 4, .cells [.d (.int .i64 k), .d (.int .i64 n), .d (.str s), .own (.l 5) y.length (y.map Tm.row)]])
      (fun y => y.length ≤ 1048576 ∧ ∀ t ∈ y, t.fits) (fun y => 5 - y.length) l rfl ⟨hl, hkids⟩ ?_
    rintro y ⟨hy, hyf⟩
    have hly : inR .i64 (y.length : Int) := small_i64 (by omega) (by omega)
    simp -implicitDefEqProofs [setAll, hf0, hly, go_sem, -List.set_cons_succ, -List.set_cons_zero]
    refine ⟨fun hlt => ?_, fun hge => ?_⟩
    · refine qcall_pure (int_calls 1) (hf1 _) (by simp [A.re, re_d]) ?_
      simp -implicitDefEqProofs [hf0, row_mk, go_sem, -List.set_cons_succ, -List.set_cons_zero]
      refine ⟨allLen_map row_len, by unfold maxApp; omega, ?_⟩
      refine loop_back (y ++ [Tm.mk 2 1 [] []]) (by simp [setAll, row_mk]) ⟨by simp; omega, fun t ht => ?_⟩ (by show 5 - (y ++ [Tm.mk 2 1 [] []]).length < 5 - y.length; simp; omega)
      rcases List.mem_append.1 ht with ht | ht
      · exact hyf t ht
      · simp at ht; subst ht; exact .mk (small_i64 (by omega) (by omega)) (small_i64 (by omega) (by omega)) (by simp) (by simp) (by simp)
    · exact done (.mk k n s y) p1 (by omega) (by omega) (.mk hk hn hs hy hyf) _ (by simp [row_mk])
  · refine loop_set (σ := Nat × Tm) (fun x => [(6, .c (.d (.int .i64 x.1)))]) (fun _ => H.set i (Rd c p1)) (fun x => [.cells [.d (.int .i64 k), .d (.int .i64 n), .d (.str s), .d (.sl (l.map Tm.row))], .cells [.d (.int .i64 0), .d (.int .i64 0), .d (.str []), .full []], .cells [.d (.int .i64 k), .d (.int .i64 n), .d (.str s), .d (.sl (l.map Tm.row))], .cells [.d (.int .i64 k), .d (.int .i64 n), .d (.str s), .own (.l 5) l.length (l.map Tm.row)], .cells [.d (.int .i64 k), .d (.int .i64 n), .d (.str s), .own (.l 5) l.length (l.map Tm.row)], .grow l.length 4, .cells (if x.1 = 0 then [.d (.int .i64 k), .d (.int .i64 n), .d (.str s), .own (.l 5) l.length (l.map Tm.row)] else x.2.row.map .d)])
      (fun x => x.1 ≤ 30 ∧ x.2.fits ∧ (x.1 = 0 → x.2 = .mk k n s l)) (fun x => 30 - x.1) (0, Tm.mk k n s l) rfl ⟨by omega, .mk hk hn hs hl hkids, fun _ => rfl⟩ ?_
    rintro ⟨j, u⟩ ⟨hj, hu, hj0⟩
    simp only at hj hu hj0
    have hadd : inR .i64 ((j : Int) + 1) := small_i64 (by omega) (by omega)
    have hone : (Tm.mk 3 0 [115] [u]).fits := .mk (small_i64 (by omega) (by omega)) (small_i64 (by omega) (by omega)) (by simp) (by simp) (by simpa using hu)
    have hst := struct_calls [115] [u] (by simp)
    simp only [List.map_cons, List.map_nil] at hst
    by_cases hz : j = 0
    · subst hz
      have hu := hj0 rfl
      subst hu
      have h1 : inR .i64 1 := small_i64 (by omega) (by omega)
      simp -implicitDefEqProofs [setAll, hf0, go_sem, -List.set_cons_succ, -List.set_cons_zero]
      rw [row_mk] at hst
      refine qcall_pure hst (hf1 _) (by simp [A.re, re_d]) ?_
      simp -implicitDefEqProofs [hf0, h1, row_len, take_row, go_sem, -List.set_cons_succ, -List.set_cons_zero]
      exact loop_back (1, Tm.mk 3 0 [115] [Tm.mk k n s l]) (by simp [setAll]) ⟨by simp, hone, fun h => by simp at h⟩ (by show 30 - 1 < 30 - 0; omega)
    · simp -implicitDefEqProofs [setAll, hf0, hz, hadd, row_len, take_row, toDs_map, go_sem, -List.set_cons_succ, -List.set_cons_zero]
      refine ⟨fun hlt => ?_, fun hge => ?_⟩
      · refine qcall_pure hst (hf1 _) (by simp [A.re, re_d, row_len]) ?_
        simp -implicitDefEqProofs [hf0, hadd, row_len, take_row, go_sem, -List.set_cons_succ, -List.set_cons_zero]
        exact loop_back (j + 1, Tm.mk 3 0 [115] [u]) (by simp [setAll, row_len]) ⟨by show j + 1 ≤ 30; omega, hone, fun h => by simp at h⟩ (by show 30 - (j + 1) < 30 - j; omega)
      · simp [thaw_d, fits_map]
        exact done u p1 (by omega) (by omega) hu _ rfl
  · exact done (.mk k n s l) p1 (by omega) (by omega) (.mk hk hn hs hl hkids) _ (by simp [row_mk])
end Go.Proofs.YteighafofbohcaaGreat

/-
  Programs and clauses that are drawn.
  Conditions: none.
-/
open Go Go.AM Go.Proofs
namespace Go.Proofs.YteighafofbohcaaGreat
open Go.ChangeShapes Go.WideShapes Go.ChangeAt Go.RowKit
set_option linter.unusedVariables false
set_option linter.unusedSimpArgs false
set_option maxRecDepth 100000
-- 75 loop.example/prologserver/spec.l4Texts params 0 ntmps 2
def ac75 : Cd := .seq (.region [⟨(some 0),.mv (.k (.c (.full []))),none⟩] [0])
 (.seq (.region [⟨(some 1),.buildSlice 1 11 [(.str [])] [(0,(.k (.c (.d (.str [97,112,112,40,91,93,44,65,44,65,41,46,10,97,112,112,40,91,65,124,66,93,44,67,44,91,65,124,68,93,41,58,45,97,112,112,40,66,44,67,44,68,41,46,10]))))),(1,(.k (.c (.d (.str [109,101,109,40,65,44,91,65,124,66,93,41,46,10,109,101,109,40,65,44,91,66,124,67,93,41,58,45,109,101,109,40,65,44,67,41,46,10]))))),(2,(.k (.c (.d (.str [112,40,49,41,46,10,112,40,50,41,46,10,112,40,51,41,46,10,113,40,65,41,58,45,112,40,65,41,44,65,62,49,44,33,46,10,114,40,65,44,66,41,58,45,112,40,65,41,44,112,40,66,41,46,10]))))),(3,(.k (.c (.d (.str [108,101,110,40,91,93,44,48,41,46,10,108,101,110,40,91,65,124,66,93,44,67,41,58,45,108,101,110,40,66,44,68,41,44,67,32,105,115,32,68,43,49,46,10]))))),(4,(.k (.c (.d (.str [109,97,120,40,65,44,66,44,65,41,58,45,65,62,61,66,44,33,46,10,109,97,120,40,65,44,66,44,66,41,46,10]))))),(5,(.k (.c (.d (.str [101,40,97,44,98,41,46,10,101,40,98,44,99,41,46,10,101,40,99,44,100,41,46,10,116,40,65,44,66,41,58,45,101,40,65,44,66,41,46,10,116,40,65,44,66,41,58,45,101,40,65,44,67,41,44,116,40,67,44,66,41,46,10]))))),(6,(.k (.c (.d (.str [108,111,111,112,58,45,108,111,111,112,46,10,111,107,46,10]))))),(7,(.k (.c (.d (.str [102,97,99,40,48,44,49,41,58,45,33,46,10,102,97,99,40,65,44,66,41,58,45,65,62,48,44,67,32,105,115,32,65,45,49,44,102,97,99,40,67,44,68,41,44,66,32,105,115,32,65,42,68,46,10]))))),(8,(.k (.c (.d (.str [115,40,65,41,58,45,65,61,102,40,66,41,44,97,114,103,40,49,44,65,44,66,41,44,66,61,49,46,10,115,40,65,41,58,45,118,97,114,40,65,41,44,65,61,110,111,110,101,46,10]))))),(9,(.k (.c (.d (.str [114,101,118,40,91,93,44,65,44,65,41,46,10,114,101,118,40,91,65,124,66,93,44,67,44,68,41,58,45,114,101,118,40,66,44,91,65,124,67,93,44,68,41,46,10]))))),(10,(.k (.c (.d (.str [98,97,100,40,65,41,58,45,66,32,105,115,32,65,43,102,111,111,44,67,61,66,46,10,98,105,103,40,65,41,58,45,65,32,105,115,32,57,57,57,43,49,46,10,117,110,40,65,41,58,45,110,111,115,117,99,104,40,65,41,46,10])))))],none⟩,
 ⟨(some 0),.mv (.t 1),none⟩] [1])
 (.ret))
theorem ac75_ok : cFunc Tryz.prog [] [(0,[0],[]),(1,[1],[])] Tryz.f75 = some (ac75,[.tmp 0],2) := by kernel_rfl
-- 47 loop.example/prologserver/spec.l4Program params 1 ntmps 19
def ac47 : Cd := .seq (.region [⟨(some 2),.mv (.k (.c (.full []))),none⟩] [2])
 (.seq (.region [⟨(some 6),.qcall 75 [],none⟩,
 ⟨(some 3),.mv (.t 6),none⟩] [6])
 (.seq (.region [⟨(some 8),.mv (.t 3),none⟩,
 ⟨(some 9),.mv (.t 0),none⟩,
 ⟨(some 10),.mv (.t 3),none⟩,
 ⟨(some 11),.len 1 (.t 10),none⟩,
 ⟨(some 12),.call false 42 [(.t 9),(.t 11)],none⟩,
 ⟨(some 13),.indexAddr 1 (.t 8) (.t 12),none⟩,
 ⟨(some 14),.load none (.t 13),none⟩,
 ⟨(some 15),.qcall 76 [(.t 14)],none⟩,
 ⟨(some 7),.mv (.t 15),none⟩,
 ⟨(some 16),.extract 0 (.t 7),none⟩,
 ⟨(some 17),.extract 1 (.t 7),none⟩,
 ⟨(some 4),.mv (.t 16),none⟩,
 ⟨(some 5),.mv (.t 17),none⟩] [0,3,5,7,8,9,10,11,12,13,14,15,16,17])
 (.seq (.region [⟨(some 18),.mv (.t 4),none⟩,
 ⟨(some 2),.mv (.t 18),none⟩] [4,18])
 (.ret))))
theorem ac47_ok : cFunc Tryz.prog [1000075,1000076] [(0,[2],[]),(1,[6],[]),(2,[0,3,5,7,8,9,10,11,12,13,14,15,16,17],[]),(3,[4,18],[])] Tryz.f47 = some (ac47,[.tmp 2],19) := by kernel_rfl
-- 23 loop.example/prologserver/spec.l4Clause params 1 ntmps 47
-- loop head live: [0,2,4,5]
def ac23 : Cd := .seq (.region [⟨(some 2),.alloc [(.d (.int .i64 0)),(.d (.int .i64 0)),(.d (.str [])),(.full []),(.full [])],none⟩] [])
 (.seq (.region [⟨(some 6),.mv (.t 0),none⟩,
 ⟨(some 7),.call false 47 [(.t 6)],none⟩,
 ⟨(some 3),.mv (.t 7),none⟩] [6,7])
 (.seq (.seq (.region [⟨(some 8),.mv (.t 0),none⟩,
 ⟨(some 9),.call false 42 [(.t 8),(.k (.c (.d (.int .i64 4))))],none⟩,
 ⟨(some 10),.bin .gtr (.t 9) (.k (.c (.d (.int .i64 0)))),none⟩] [8,9])
 (.cond (.t 10)
 (.seq (.region [⟨(some 11),.mv (.t 3),none⟩,
 ⟨(some 12),.mv (.t 0),none⟩,
 ⟨(some 13),.mv (.t 3),none⟩,
 ⟨(some 14),.len 1 (.t 13),none⟩,
 ⟨(some 15),.call false 42 [(.t 12),(.t 14)],none⟩,
 ⟨(some 16),.indexAddr 5 (.t 11) (.t 15),none⟩,
 ⟨(some 17),.load (some 5) (.t 16),none⟩,
 ⟨none,.store 5 (.t 2) (.t 17),none⟩] [0,3,10,11,12,13,14,15,16,17])
 (.ret))
 (.skip)))
 (.seq (.region [⟨(some 18),.mv (.t 0),none⟩,
 ⟨(some 19),.buildSlice 1 3 [(.str [])] [(0,(.k (.c (.d (.str [112]))))),(1,(.k (.c (.d (.str [113]))))),(2,(.k (.c (.d (.str [102,111,111])))))],none⟩,
 ⟨(some 20),.callL false false 46 [(.t 18),(.t 19)],none⟩,
 ⟨(some 21),.mv (.t 0),none⟩,
 ⟨(some 22),.callL false false 48 [(.t 21),(.k (.c (.d (.int .i64 2))))],none⟩,
 ⟨(some 23),.buildSlice 4 1 [(.int .i64 0),(.int .i64 0),(.str []),(.sl [])] [(0,(.t 22))],none⟩,
 ⟨(some 24),.qcall 45 [(.t 20),(.t 23)],none⟩,
 ⟨(some 25),.build [(.d (.int .i64 0)),(.d (.int .i64 0)),(.d (.str [])),(.full []),(.full [])] [(0,4,(.t 24))],none⟩,
 ⟨(some 4),.alloc [(.d (.int .i64 0)),(.d (.int .i64 0)),(.d (.str [])),(.full []),(.full [])],none⟩,
 ⟨none,.store 5 (.t 4) (.t 25),none⟩] [3,10,18,19,20,21,22,23,24,25])
 (.seq (.seq (.region [⟨(some 26),.mv (.t 0),none⟩,
 ⟨(some 27),.call false 42 [(.t 26),(.k (.c (.d (.int .i64 3))))],none⟩,
 ⟨(some 5),.mv (.t 27),none⟩] [26,27])
 (.block 0 (.loop (.seq (.seq (.region [⟨(some 28),.mv (.t 5),none⟩,
 ⟨(some 29),.bin .gtr (.t 28) (.k (.c (.d (.int .i64 0)))),none⟩] [28])
 (.cond (.t 29)
 (.skip)
 (.exit 0)))
 (.seq (.block 1 (.region [⟨(some 32),.fieldAddr 4 (.t 4),none⟩,
 ⟨(some 34),.mv (.t 0),none⟩,
 ⟨(some 35),.buildSlice 1 4 [(.str [])] [(0,(.k (.c (.d (.str [112]))))),(1,(.k (.c (.d (.str [61]))))),(2,(.k (.c (.d (.str [60]))))),(3,(.k (.c (.d (.str [113])))))],none⟩,
 ⟨(some 37),.mv (.t 0),none⟩,
 ⟨(some 39),.mv (.t 0),none⟩,
 ⟨(some 33),.loadL false none (.t 32),none⟩,
 ⟨(some 36),.callL false false 46 [(.t 34),(.t 35)],none⟩,
 ⟨(some 38),.callL false false 48 [(.t 37),(.k (.c (.d (.int .i64 2))))],none⟩,
 ⟨(some 40),.callL false false 48 [(.t 39),(.k (.c (.d (.int .i64 2))))],none⟩,
 ⟨(some 41),.buildSlice 4 2 [(.int .i64 0),(.int .i64 0),(.str []),(.sl [])] [(0,(.t 38)),(1,(.t 40))],none⟩,
 ⟨(some 42),.qcall 45 [(.t 36),(.t 41)],none⟩,
 ⟨(some 43),.buildSlice 4 1 [(.int .i64 0),(.int .i64 0),(.str []),(.sl [])] [(0,(.t 42))],none⟩,
 ⟨(some 44),.append false 4 (.t 33) (.t 43),none⟩,
 ⟨(some 45),.fieldAddr 4 (.t 4),none⟩,
 ⟨none,.store 1 (.t 45) (.t 44),none⟩] [29,32,33,34,35,36,37,38,39,40,41,42,43,44,45]))
 (.region [⟨(some 30),.mv (.t 5),none⟩,
 ⟨(some 31),.bin .sub (.t 30) (.k (.c (.d (.int .i64 1)))),none⟩,
 ⟨(some 5),.mv (.t 31),none⟩] [30,31]))))))
 (.seq (.region [⟨(some 46),.load (some 5) (.t 4),none⟩,
 ⟨none,.store 5 (.t 2) (.t 46),none⟩] [4,46])
 (.ret))))))
theorem ac23_ok : cFunc Tryz.prog [1000045,5000032,6000046,6000048] [(0,[],[]),(1,[6,7],[]),(2,[8,9],[]),(3,[0,3,10,11,12,13,14,15,16,17],[]),(4,[3,10,18,19,20,21,22,23,24,25],[]),(5,[26,27],[]),(6,[28],[]),(8,[29,32,33,34,35,36,37,38,39,40,41,42,43,44,45],[0,2,3,5,7,1,4,6,8,9,10,11,12,13,14]),(7,[30,31],[]),(9,[4,46],[])] Tryz.f23 = some (ac23,[.cell 2 (some 5)],47) := by kernel_rfl
-- 22 loop.example/prologserver/spec.l4Mutate params 2 ntmps 48
-- loop head live: [4,5]
def ac22 : Cd := .seq (.region [⟨(some 3),.box (.t 1),none⟩,
 ⟨(some 4),.alloc [(.d (.int .i64 0)),(.d (.int .i64 0)),(.d (.str [])),(.full []),(.full [])],none⟩] [1])
 (.seq (.region [⟨(some 6),.load (some 5) (.t 3),none⟩,
 ⟨(some 7),.call false 41 [(.t 6)],none⟩,
 ⟨(some 5),.alloc [(.d (.int .i64 0)),(.d (.int .i64 0)),(.d (.str [])),(.full []),(.full [])],none⟩,
 ⟨none,.store 5 (.t 5) (.t 7),none⟩] [3,6,7])
 (.seq (.seq (.region [⟨(some 8),.mv (.t 0),none⟩,
 ⟨(some 9),.call false 42 [(.t 8),(.k (.c (.d (.int .i64 40))))],none⟩] [8])
 (.block 0 (.seq (.region [⟨(some 11),.bin .eql (.t 9) (.k (.c (.d (.int .i64 0)))),none⟩,
 ⟨(some 10),.mv (.t 11),none⟩] [11])
 (.cond (.t 10)
 (.region [⟨(some 12),.mv (.t 0),none⟩,
 ⟨(some 13),.mv (.t 0),none⟩,
 ⟨(some 14),.callL false false 44 [(.t 13)],none⟩,
 ⟨(some 15),.callL false false 43 [(.t 12),(.t 14)],none⟩,
 ⟨(some 16),.fieldAddr 0 (.t 5),none⟩,
 ⟨none,.store 4 (.t 16) (.t 15),none⟩] [0,9,10,12,13,14,15,16])
 (.seq (.region [⟨(some 18),.bin .eql (.t 9) (.k (.c (.d (.int .i64 1)))),none⟩,
 ⟨(some 17),.mv (.t 18),none⟩] [10,18])
 (.cond (.t 17)
 (.region [⟨(some 19),.fieldAddr 4 (.t 5),none⟩,
 ⟨(some 21),.mv (.t 0),none⟩,
 ⟨(some 22),.mv (.t 0),none⟩,
 ⟨(some 20),.loadL false none (.t 19),none⟩,
 ⟨(some 23),.callL false false 44 [(.t 22)],none⟩,
 ⟨(some 24),.callL false false 43 [(.t 21),(.t 23)],none⟩,
 ⟨(some 25),.buildSlice 4 1 [(.int .i64 0),(.int .i64 0),(.str []),(.sl [])] [(0,(.t 24))],none⟩,
 ⟨(some 26),.append false 4 (.t 20) (.t 25),none⟩,
 ⟨(some 27),.fieldAddr 4 (.t 5),none⟩,
 ⟨none,.store 1 (.t 27) (.t 26),none⟩] [0,9,17,19,20,21,22,23,24,25,26,27])
 (.seq (.region [⟨(some 29),.bin .eql (.t 9) (.k (.c (.d (.int .i64 2)))),none⟩,
 ⟨(some 28),.mv (.t 29),none⟩] [17,29])
 (.cond (.t 28)
 (.block 1 (.loop (.seq (.seq (.region [⟨(some 30),.fieldAddr 4 (.t 5),none⟩,
 ⟨(some 31),.load none (.t 30),none⟩,
 ⟨(some 32),.len 1 (.t 31),none⟩,
 ⟨(some 33),.bin .leq (.t 32) (.k (.c (.d (.int .i64 6)))),none⟩] [30,31,32])
 (.cond (.t 33)
 (.skip)
 (.exit 1)))
 (.block 2 (.region [⟨(some 34),.fieldAddr 4 (.t 5),none⟩,
 ⟨(some 35),.load none (.t 34),none⟩,
 ⟨(some 36),.qcall 45 [(.k (.c (.d (.str [116,114,117,101])))),(.k (.c (.full [])))],none⟩,
 ⟨(some 37),.buildSlice 4 1 [(.int .i64 0),(.int .i64 0),(.str []),(.sl [])] [(0,(.t 36))],none⟩,
 ⟨(some 38),.append false 4 (.t 35) (.t 37),none⟩,
 ⟨(some 39),.fieldAddr 4 (.t 5),none⟩,
 ⟨none,.store 1 (.t 39) (.t 38),none⟩] [33,34,35,36,37,38,39])))))
 (.seq (.region [⟨(some 41),.bin .eql (.t 9) (.k (.c (.d (.int .i64 3)))),none⟩,
 ⟨(some 40),.mv (.t 41),none⟩] [9,28,41])
 (.cond (.t 40)
 (.region [⟨(some 42),.mv (.t 0),none⟩,
 ⟨(some 43),.buildSlice 1 5 [(.str [])] [(0,(.k (.c (.d (.str [116,114,117,101]))))),(1,(.k (.c (.d (.str [105,115]))))),(2,(.k (.c (.d (.str [61]))))),(3,(.k (.c (.d (.str [109,111,100]))))),(4,(.k (.c (.d (.str [113])))))],none⟩,
 ⟨(some 44),.call false 46 [(.t 42),(.t 43)],none⟩,
 ⟨(some 45),.fieldAddr 0 (.t 5),none⟩,
 ⟨(some 46),.fieldAddr 2 (.t 45),none⟩,
 ⟨none,.store 1 (.t 46) (.t 44),none⟩] [0,40,42,43,44,45,46])
 (.skip)))))))))))
 (.seq (.region [⟨(some 47),.load (some 5) (.t 5),none⟩,
 ⟨none,.store 5 (.t 4) (.t 47),none⟩] [0,5,40,47])
 (.ret))))
theorem ac22_ok : cFunc Tryz.prog [1000045,5000019,6000044,6000043] [(0,[1],[]),(1,[3,6,7],[]),(2,[8],[]),(3,[11],[]),(4,[0,9,10,12,13,14,15,16],[]),(5,[10,18],[]),(6,[0,9,17,19,20,21,22,23,24,25,26,27],[0,2,3,1,4,5,6,7,8,9]),(7,[17,29],[]),(8,[30,31,32],[]),(9,[33,34,35,36,37,38,39],[0,1,2,3,4,5,6]),(10,[9,28,41],[]),(11,[0,40,42,43,44,45,46],[]),(12,[0,5,40,47],[])] Tryz.f22 = some (ac22,[.cell 4 (some 5)],48) := by kernel_rfl
-- 13 loop.example/prologserver/spec.DrawClauseValid params 1 ntmps 10
def ac13 : Cd := .seq (.region [⟨(some 2),.alloc [(.d (.int .i64 0)),(.d (.int .i64 0)),(.d (.str [])),(.full []),(.full [])],none⟩] [])
 (.seq (.region [⟨(some 4),.mv (.t 0),none⟩,
 ⟨(some 5),.call false 21 [(.t 4)],none⟩,
 ⟨(some 3),.mv (.t 5),none⟩] [0,4,5])
 (.seq (.region [⟨(some 6),.mv (.t 3),none⟩,
 ⟨(some 7),.mv (.t 3),none⟩,
 ⟨(some 8),.call false 23 [(.t 7)],none⟩,
 ⟨(some 9),.call false 22 [(.t 6),(.t 8)],none⟩,
 ⟨none,.store 5 (.t 2) (.t 9),none⟩] [3,6,7,8,9])
 (.ret)))
theorem ac13_ok : cFunc Tryz.prog [] [(0,[],[]),(1,[0,4,5],[]),(2,[3,6,7,8,9],[])] Tryz.f13 = some (ac13,[.cell 2 (some 5)],10) := by kernel_rfl
-- 5 loop.example/prologserver/spec.DrawCompileClause params 1 ntmps 5
def ac5 : Cd := .seq (.region [⟨(some 2),.alloc [(.d (.int .i64 0)),(.d (.int .i64 0)),(.d (.str [])),(.full []),(.full [])],none⟩] [])
 (.seq (.region [⟨(some 3),.mv (.t 0),none⟩,
 ⟨(some 4),.call false 13 [(.t 3)],none⟩,
 ⟨none,.store 5 (.t 2) (.t 4),none⟩] [0,3,4])
 (.ret))
theorem ac5_ok : cFunc Tryz.prog [] [(0,[],[]),(1,[0,3,4],[])] Tryz.f5 = some (ac5,[.cell 2 (some 5)],5) := by kernel_rfl
def progTexts : List (List UInt8) := [[97, 112, 112, 40, 91, 93, 44, 65, 44, 65, 41, 46, 10, 97, 112, 112, 40, 91, 65, 124, 66, 93, 44, 67, 44, 91, 65, 124, 68, 93, 41, 58, 45, 97, 112, 112, 40, 66, 44, 67, 44, 68, 41, 46, 10], [109, 101, 109, 40, 65, 44, 91, 65, 124, 66, 93, 41, 46, 10, 109, 101, 109, 40, 65, 44, 91, 66, 124, 67, 93, 41, 58, 45, 109, 101, 109, 40, 65, 44, 67, 41, 46, 10], [112, 40, 49, 41, 46, 10, 112, 40, 50, 41, 46, 10, 112, 40, 51, 41, 46, 10, 113, 40, 65, 41, 58, 45, 112, 40, 65, 41, 44, 65, 62, 49, 44, 33, 46, 10, 114, 40, 65, 44, 66, 41, 58, 45, 112, 40, 65, 41, 44, 112, 40, 66, 41, 46, 10], [108, 101, 110, 40, 91, 93, 44, 48, 41, 46, 10, 108, 101, 110, 40, 91, 65, 124, 66, 93, 44, 67, 41, 58, 45, 108, 101, 110, 40, 66, 44, 68, 41, 44, 67, 32, 105, 115, 32, 68, 43, 49, 46, 10], [109, 97, 120, 40, 65, 44, 66, 44, 65, 41, 58, 45, 65, 62, 61, 66, 44, 33, 46, 10, 109, 97, 120, 40, 65, 44, 66, 44, 66, 41, 46, 10], [101, 40, 97, 44, 98, 41, 46, 10, 101, 40, 98, 44, 99, 41, 46, 10, 101, 40, 99, 44, 100, 41, 46, 10, 116, 40, 65, 44, 66, 41, 58, 45, 101, 40, 65, 44, 66, 41, 46, 10, 116, 40, 65, 44, 66, 41, 58, 45, 101, 40, 65, 44, 67, 41, 44, 116, 40, 67, 44, 66, 41, 46, 10], [108, 111, 111, 112, 58, 45, 108, 111, 111, 112, 46, 10, 111, 107, 46, 10], [102, 97, 99, 40, 48, 44, 49, 41, 58, 45, 33, 46, 10, 102, 97, 99, 40, 65, 44, 66, 41, 58, 45, 65, 62, 48, 44, 67, 32, 105, 115, 32, 65, 45, 49, 44, 102, 97, 99, 40, 67, 44, 68, 41, 44, 66, 32, 105, 115, 32, 65, 42, 68, 46, 10], [115, 40, 65, 41, 58, 45, 65, 61, 102, 40, 66, 41, 44, 97, 114, 103, 40, 49, 44, 65, 44, 66, 41, 44, 66, 61, 49, 46, 10, 115, 40, 65, 41, 58, 45, 118, 97, 114, 40, 65, 41, 44, 65, 61, 110, 111, 110, 101, 46, 10], [114, 101, 118, 40, 91, 93, 44, 65, 44, 65, 41, 46, 10, 114, 101, 118, 40, 91, 65, 124, 66, 93, 44, 67, 44, 68, 41, 58, 45, 114, 101, 118, 40, 66, 44, 91, 65, 124, 67, 93, 44, 68, 41, 46, 10], [98, 97, 100, 40, 65, 41, 58, 45, 66, 32, 105, 115, 32, 65, 43, 102, 111, 111, 44, 67, 61, 66, 46, 10, 98, 105, 103, 40, 65, 41, 58, 45, 65, 32, 105, 115, 32, 57, 57, 57, 43, 49, 46, 10, 117, 110, 40, 65, 41, 58, 45, 110, 111, 115, 117, 99, 104, 40, 65, 41, 46, 10]]
theorem texts_calls (H : Heap) : ACalls Tryz.prog 75 [] H (fun r H' => H' = H ∧ r = .c (.d (.sl (progTexts.map strRow)))) := by
  refine acalls Tryz.func75 (by kernel_rfl) ac75_ok fun hf => ?_
  simp -implicitDefEqProofs [ac75, progTexts, strRow, go_sem, -List.set_cons_succ, -List.set_cons_zero]
theorem linesR_fits : ∀ (L : List (List UInt8)), (∀ l ∈ L, l.length ≤ 1000000) → ∀ p, linesR Tm.wr L = some p → ∀ c ∈ p, c.fits ∧ c.validB = true
  | [], _, p, h => by cases h; simp
  | [a], _, p, h => by cases h; simp
  | a :: b :: L, hl, p, h => by
    rw [linesR_cons] at h
    cases hc : clauseR Tm.wr a with
    | none => rw [hc] at h; cases h
    | some c =>
      cases hr : linesR Tm.wr (b :: L) with
      | none => rw [hc, hr] at h; cases h
      | some q =>
        rw [hc, hr] at h
        cases h
        intro d hd
        rcases List.mem_cons.1 hd with rfl | hd
        · exact clauseR_fits a (hl a (by simp)) hc
        · exact linesR_fits (b :: L) (fun l hm => hl l (by simp [List.mem_cons.1 hm])) q hr d hd
theorem progR_fits (s : List UInt8) (hs : s.length ≤ 1000000) : ∀ c ∈ (progR Tm.wr s).1, c.fits ∧ c.validB = true := by
  unfold progR
  split
  · simp
  · cases hr : linesR Tm.wr (cutAt 10 s) with
    | none => simp
    | some p =>
      exact linesR_fits _ (fun l hl => by have := cut_mem 10 s l hl; omega) p hr
theorem progs_len : (progTexts.map fun t => (progR Tm.wr3 t).1.length) = [2, 2, 5, 2, 2, 5, 2, 2, 2, 2, 3] := by kernel_rfl
theorem prog_len {m : Nat} (h : m < progTexts.length) : 1 ≤ (progR Tm.wr progTexts[m]).1.length ∧ (progR Tm.wr progTexts[m]).1.length ≤ 5 := by
  rw [← progR_eq]
  have h1 : ((progTexts.map fun t => (progR Tm.wr3 t).1.length)[m]?) = some (progR Tm.wr3 progTexts[m]).1.length := by simp [h]
  rw [progs_len] at h1
  have h2 := List.mem_of_getElem? h1
  have key : ∀ x ∈ [2, 2, 5, 2, 2, 5, 2, 2, 2, 2, 3], 1 ≤ x ∧ x ≤ 5 := by decide
  exact key _ h2
/-- a clause, somewhere -/
def ClR (n : Nat) (r : A) : Prop := ∃ c : Cl, r = .agg (c.row.map .d) ∧ c.fits ∧ c.body.length ≤ n
theorem ClR.re {m n : Nat} {r : A} (h : ClR m r) : A.re n r = r := by
  obtain ⟨c, rfl, _⟩ := h
  simp [A.re, re_d]
def PgR (r : A) : Prop := ∃ p : List Cl, r = .c (.d (.sl (p.map Cl.row))) ∧ 1 ≤ p.length ∧ p.length ≤ 5 ∧ ∀ c ∈ p, c.fits ∧ c.validB = true
theorem PgR.re {n : Nat} {r : A} (h : PgR r) : A.re n r = r := by
  obtain ⟨l, rfl, _⟩ := h
  rfl
theorem program_draws : Draws 47 [] 1 PgR := fun c p H i hc hp hp1 hi => by
  refine acalls Tryz.func47 (by kernel_rfl) ac47_ok fun hf => ?_
  simp only [List.length_set] at hf
  have hf0 : ∀ q, Obs.fits H.length 0 (H.set i (Rd c q)) := fun q => fits_reset (b := Rd c q) hf ⟨trivial, trivial, trivial⟩
  have hf1 : ∀ q, Obs.fits (H.set i (Rd c q)).length 0 (H.set i (Rd c q)) := fun q => by simpa using hf0 q
  have hql : progTexts.length = 11 := rfl
  have h11 : inR .i64 (11 : Int) := small_i64 (by omega) (by omega)
  simp -implicitDefEqProofs [ac47, hf0, go_sem, -List.set_cons_succ, -List.set_cons_zero]
  refine qcall_pure texts_calls (hf1 _) rfl ?_
  simp -implicitDefEqProofs [hql, h11, hf0, go_sem, -List.set_cons_succ, -List.set_cons_zero]
  refine call_drawE (pick_draws 11 (by omega)) hc (by omega) (by omega) hi (by simp [Ob.re, C.re]) (fun r => IntIn.re) (hf0 _) ?_
  rintro _ p1 ⟨m, rfl, m0, m1⟩ h1 h2
  have hmlt : m.toNat < progTexts.length := by rw [hql]; omega
  have hql2 : (progTexts[m.toNat]).length ≤ 1000000 := by
    have : ∀ q ∈ progTexts, q.length ≤ 1000 := by decide
    have := this _ (List.getElem_mem hmlt)
    omega
  obtain ⟨g1, g2⟩ := prog_len hmlt
  have g3 := progR_fits _ hql2
  simp -implicitDefEqProofs [hf0, go_sem, -List.set_cons_succ, -List.set_cons_zero]
  refine row_int [.str progTexts[m.toNat]] m0 (by simp [hmlt, strRow]) rfl ?_
  simp -implicitDefEqProofs [hf0, go_sem, -List.set_cons_succ, -List.set_cons_zero]
  refine qcall_pure (ppSpec_calls progTexts[m.toNat] hql2) (hf1 _) (by simp [progA, A.re, A.res, C.re]) ?_
  simp -implicitDefEqProofs [progA, hf0, go_sem, -List.set_cons_succ, -List.set_cons_zero]
  exact ⟨⟨_, rfl, g1, g2, g3⟩, p1, h1, h2, rfl⟩
theorem clCopy_own (c : Cl) (hc : c.fits) (H : Heap) : ACalls Tryz.prog 41 [.agg (c.row.map .d)] H (fun r H' =>
    H' = H ++ [.cells (c.row.map .d), .cells [.d (.int .i64 c.head.k), .d (.int .i64 c.head.n), .d (.str c.head.s), .d (.sl (c.head.kids.map Tm.row)), .own (.e (H.length + 3)) c.body.length (c.body.map Tm.row)], .cells [.d (.int .i64 c.head.k), .d (.int .i64 c.head.n), .d (.str c.head.s), .d (.sl (c.head.kids.map Tm.row)), .own (.e (H.length + 3)) c.body.length (c.body.map Tm.row)], .grow c.body.length 4] ∧
    r = .agg [.d (.int .i64 c.head.k), .d (.int .i64 c.head.n), .d (.str c.head.s), .d (.sl (c.head.kids.map Tm.row)), .own (.e (H.length + 3)) c.body.length (c.body.map Tm.row)]) := by
  obtain ⟨h, b⟩ := c
  obtain ⟨hh, hl, hb⟩ := hc
  simp only at hh hl hb
  have c1 := copy_calls h hh
  rw [row_eq] at c1
  simp only [List.map_cons, List.map_nil] at c1
  have hbl : inR .i64 (b.length : Int) := small_i64 (by omega) (by omega)
  refine acallsK Tryz.func41 (by kernel_rfl) ac41_ok fun hf => ?_
  simp -implicitDefEqProofs [ac41, Cl.row, hf, go_sem, -List.set_cons_succ, -List.set_cons_zero]
  refine qcall_pure c1 hf (by simp [A.re, C.re]) ?_
  simp -implicitDefEqProofs [hf, go_sem, -List.set_cons_succ, -List.set_cons_zero]
  refine loop_enter (St.le_tokenC 2 4 4 rfl rfl) ?_
  refine loop_set (σ := Nat) (fun i => [(4, .c (.d (.int .i64 i)))]) (fun _ => H) (fun i => [.cells [.d (.int .i64 h.k), .d (.int .i64 h.n), .d (.str h.s), .d (.sl (h.kids.map Tm.row)), .d (.sl (b.map Tm.row))], .cells [.d (.int .i64 0), .d (.int .i64 0), .d (.str []), .full [], .full []], .cells [.d (.int .i64 h.k), .d (.int .i64 h.n), .d (.str h.s), .d (.sl (h.kids.map Tm.row)), .own (.l 3) i ((b.map Tm.row).take i)], .grow i 4])
    (fun i => i ≤ b.length) (fun i => b.length - i) 0 rfl (Nat.zero_le _) ?_
  intro i hi
  simp -implicitDefEqProofs [setAll, hbl, go_sem, -List.set_cons_succ, -List.set_cons_zero]
  refine ⟨fun hlt => ?_, fun hge => ?_⟩
  · have hadd : inR .i64 ((i : Int) + 1) := small_i64 (by omega) (by omega)
    refine row_of hlt (row_len _) ?_
    simp -implicitDefEqProofs [row_len, take_row, pure_d, re_d, hf, go_sem, -List.set_cons_succ, -List.set_cons_zero]
    refine qcall_pure (copy_calls b[i] (hb _ (List.getElem_mem hlt))) hf (by simp [A.re, re_d]) ?_
    simp -implicitDefEqProofs [row_len, toDs_map, hadd, hf, Nat.min_eq_left hi, go_sem, -List.set_cons_succ, -List.set_cons_zero]
    refine ⟨fun r hr => allLen_map row_len r (List.mem_of_mem_take hr), by unfold maxApp; omega, ?_⟩
    refine loop_back (i + 1) ?_ hlt (by show b.length - (i + 1) < b.length - i; omega)
    simp [setAll, take_map_succ hlt]
  · have hil : i = b.length := by omega
    subst hil
    rw [show (b.map Tm.row).take b.length = b.map Tm.row from List.take_of_length_le (by simp)]
    simp -implicitDefEqProofs [hf, go_sem, -List.set_cons_succ, -List.set_cons_zero]
    refine finK_ret _ ⟨trivial, trivial⟩ rfl ?_
    simp [Ob.re, C.re, A.re, Ref.re]
/-- a clause that is drawn -/
theorem mutC_draws (c0 : Cl) (h0 : c0.fits) (hb7 : c0.body.length ≤ 900) : Draws 22 [.agg (c0.row.map .d)] 1284 (ClR 1000) := fun c p H i hc hp hp1 hi => by
  obtain ⟨⟨k, n, s, l⟩, b⟩ := c0
  refine acalls Tryz.func22 (by kernel_rfl) ac22_ok fun hf => ?_
  simp only [List.length_set] at hf
  have hf0 : ∀ q, Obs.fits H.length 0 (H.set i (Rd c q)) := fun q => fits_reset (b := Rd c q) hf ⟨trivial, trivial, trivial⟩
  have hf1 : ∀ q, Obs.fits (H.set i (Rd c q)).length 0 (H.set i (Rd c q)) := fun q => by simpa using hf0 q
  have hcopy := clCopy_own _ h0
  obtain ⟨hh, hbl, hbf⟩ := h0
  simp only at hh hbl hbf hb7
  have hhf := hh
  obtain ⟨hk, hn, hs, hl, hkids⟩ := hh
  simp only [Cl.row, Tm.k, Tm.n, Tm.s, Tm.kids, List.map_cons, List.map_nil] at hcopy ⊢
  simp -implicitDefEqProofs [ac22, hf0, go_sem, -List.set_cons_succ, -List.set_cons_zero]
  have done : ∀ (d : Cl) (q : Int), p ≤ q → q ≤ p + 1284 → d.fits → d.body.length ≤ 1000 → ∀ r, r = .agg (d.row.map .d) → Drew (ClR 1000) 1284 c p H i r (H.set i (Rd c q)) := fun d q a1 a2 a3 a4 r hr => ⟨⟨d, hr, a3, a4⟩, q, a1, a2, rfl⟩
  refine (hcopy _).mono fun r H' ⟨g1, g2⟩ => ⟨H.set i (Rd c p), [.cells [.d (.int .i64 k), .d (.int .i64 n), .d (.str s), .d (.sl (l.map Tm.row)), .d (.sl (b.map Tm.row))], .cells [.d (.int .i64 0), .d (.int .i64 0), .d (.str []), .full [], .full []], .cells [.d (.int .i64 k), .d (.int .i64 n), .d (.str s), .d (.sl (l.map Tm.row)), .d (.sl (b.map Tm.row))], .cells [.d (.int .i64 k), .d (.int .i64 n), .d (.str s), .d (.sl (l.map Tm.row)), .own (.l 5) b.length (b.map Tm.row)], .cells [.d (.int .i64 k), .d (.int .i64 n), .d (.str s), .d (.sl (l.map Tm.row)), .own (.l 5) b.length (b.map Tm.row)], .grow b.length 4],
    .agg [.d (.int .i64 k), .d (.int .i64 n), .d (.str s), .d (.sl (l.map Tm.row)), .own (.l 5) b.length (b.map Tm.row)], by rw [g1]; simp [Ob.re, C.re, Ref.re], by simp, by simp, by simpa using hf0 p, by rw [g2]; simp [A.re, C.re, Ref.re], ?_⟩
  clear hcopy
  simp -implicitDefEqProofs [hf0, go_sem, -List.set_cons_succ, -List.set_cons_zero]
  refine call_drawE (pick_draws 40 (by omega)) hc (by omega) (by omega) hi (by simp [Ob.re, C.re, Ref.re]) (fun r => IntIn.re) (hf0 _) ?_
  rintro _ p1 ⟨m, rfl, m0, m1⟩ h1 h2
  simp -implicitDefEqProofs [hf0, go_sem, -List.set_cons_succ, -List.set_cons_zero]
  refine ⟨fun _ => ?_, fun _ => ⟨fun _ => ?_, fun _ => ⟨fun _ => ?_, fun _ => ⟨fun _ => ?_, fun _ => ?_⟩⟩⟩⟩
  · refine call_drawE l1Some_draws hc (by omega) (by omega) hi (by simp [Ob.re, C.re]) (fun r => TmR.re) (hf0 _) ?_
    rintro _ p2 ⟨t, rfl, ht⟩ h3 h4
    refine ⟨LocSame.refl _, ?_⟩
    simp -implicitDefEqProofs [pure_d, re_d, hf0, go_sem, -List.set_cons_succ, -List.set_cons_zero]
    refine call_drawE (l1Mutate_draws t ht) hc (by omega) (by omega) hi (by simp [Ob.re, C.re, Ref.re]) (fun r => TmR.re) (hf0 _) ?_
    rintro _ p3 ⟨u, rfl, hu⟩ h5 h6
    refine ⟨LocSame.refl _, ?_⟩
    obtain ⟨k2, n2, s2, l2⟩ := u
    simp -implicitDefEqProofs [row_mk, hf0, go_sem, -List.set_cons_succ, -List.set_cons_zero]
    exact done ⟨.mk k2 n2 s2 l2, b⟩ p3 (by omega) (by omega) ⟨hu, hbl, hbf⟩ (by show b.length ≤ 1000; omega) _ (by simp [Cl.row, Tm.k, Tm.n, Tm.s, Tm.kids])
  · refine call_drawE l1Some_draws hc (by omega) (by omega) hi (by simp [Ob.re, C.re]) (fun r => TmR.re) (hf0 _) ?_
    rintro _ p2 ⟨t, rfl, ht⟩ h3 h4
    refine ⟨LocSame.refl _, ?_⟩
    simp -implicitDefEqProofs [pure_d, re_d, hf0, go_sem, -List.set_cons_succ, -List.set_cons_zero]
    refine call_drawE (l1Mutate_draws t ht) hc (by omega) (by omega) hi (by simp [Ob.re, C.re, Ref.re]) (fun r => TmR.re) (hf0 _) ?_
    rintro _ p3 ⟨u, rfl, hu⟩ h5 h6
    refine ⟨LocSame.refl _, ?_⟩
    simp -implicitDefEqProofs [row_len, take_row, toDs_map, hf0, go_sem, -List.set_cons_succ, -List.set_cons_zero]
    refine ⟨allLen_map row_len, by unfold maxApp; omega, ?_⟩
    exact done ⟨.mk k n s l, b ++ [u]⟩ p3 (by omega) (by omega) ⟨hhf, by show (b ++ [u]).length ≤ 1048576; simp; omega, fun x hx => by
      rcases List.mem_append.1 hx with hx | hx
      · exact hbf x hx
      · simp at hx; subst hx; exact hu⟩ (by show (b ++ [u]).length ≤ 1000; simp; omega) _ (by simp [Cl.row, Tm.k, Tm.n, Tm.s, Tm.kids])
  · refine loop_set (σ := List Tm) (fun _ => []) (fun _ => H.set i (Rd c p1)) (fun y => [.cells [.d (.int .i64 k), .d (.int .i64 n), .d (.str s), .d (.sl (l.map Tm.row)), .d (.sl (b.map Tm.row))], .cells [.d (.int .i64 0), .d (.int .i64 0), .d (.str []), .full [], .full []], .cells [.d (.int .i64 k), .d (.int .i64 n), .d (.str s), .d (.sl (l.map Tm.row)), .d (.sl (b.map Tm.row))], .cells [.d (.int .i64 k), .d (.int .i64 n), .d (.str s), .d (.sl (l.map Tm.row)), .own (.l 5) b.length (b.map Tm.row)], .cells [.d (.int .i64 k), .d (.int .i64 n), .d (.str s), .d (.sl (l.map Tm.row)), .own (.l 5) b.length (b.map Tm.row)], .grow y.length 4, .cells [.d (.int .i64 k), .d (.int .i64 n), .d (.str s), .d (.sl (l.map Tm.row)), .own (.l 5) y.length (y.map Tm.row)]])
      (fun y => y.length ≤ 900 ∧ ∀ t ∈ y, t.fits) (fun y => 7 - y.length) b rfl ⟨hb7, hbf⟩ ?_
    rintro y ⟨hy, hyf⟩
    have hly : inR .i64 (y.length : Int) := small_i64 (by omega) (by omega)
    simp -implicitDefEqProofs [setAll, hf0, hly, go_sem, -List.set_cons_succ, -List.set_cons_zero]
    refine ⟨fun hlt => ?_, fun hge => ?_⟩
    · have hst := struct_calls [116, 114, 117, 101] [] (by simp)
      simp only [List.map_nil] at hst
      refine qcall_pure hst (hf1 _) (by simp [A.re, re_d]) ?_
      simp -implicitDefEqProofs [hf0, row_len, take_row, toDs_map, go_sem, -List.set_cons_succ, -List.set_cons_zero]
      refine ⟨allLen_map row_len, by unfold maxApp; omega, ?_⟩
      refine loop_back (y ++ [Tm.mk 3 0 [116, 114, 117, 101] []]) (by first | rfl | simp [setAll]) ⟨by simp; omega, fun t ht => ?_⟩ (by show 7 - (y ++ [Tm.mk 3 0 [116, 114, 117, 101] []]).length < 7 - y.length; simp; omega)
      rcases List.mem_append.1 ht with ht | ht
      · exact hyf t ht
      · simp at ht; subst ht; exact fits_st (by simp) (by simp) (by simp)
    · exact done ⟨.mk k n s l, y⟩ p1 (by omega) (by omega) ⟨hhf, by show y.length ≤ 1048576; omega, hyf⟩ (by show y.length ≤ 1000; omega) _ (by simp [Cl.row, Tm.k, Tm.n, Tm.s, Tm.kids])
  · refine call_drawE (of_draws [[116, 114, 117, 101], [105, 115], [61], [109, 111, 100], [113]] (by decide)) hc (by omega) (by omega) hi (by simp [Ob.re, C.re]) (fun r ⟨n, _, hn⟩ => by subst hn; rfl) (hf0 _) ?_
    rintro _ p2 ⟨x, hx, rfl⟩ h3 h4
    have hx : x.length ≤ 1000 := by simp at hx; rcases hx with rfl | rfl | rfl | rfl | rfl <;> decide
    simp -implicitDefEqProofs [hf0, go_sem, -List.set_cons_succ, -List.set_cons_zero]
    exact done ⟨.mk k n x l, b⟩ p2 (by omega) (by omega) ⟨.mk hk hn (by omega) hl hkids, hbl, hbf⟩ (by show b.length ≤ 1000; omega) _ (by simp [Cl.row, Tm.k, Tm.n, Tm.s, Tm.kids])
  · exact done ⟨.mk k n s l, b⟩ p1 (by omega) (by omega) ⟨hhf, hbl, hbf⟩ (by show b.length ≤ 1000; omega) _ (by simp [Cl.row, Tm.k, Tm.n, Tm.s, Tm.kids])
/-- what is drawn is well-formed -/
def VP (d : Nat) (t : Tm) : Prop := t.shape (d + 1) = true ∧ t.size ≤ 4 ^ d
theorem names_ok : ∀ s ∈ drawNames, nameB s = true := by decide
theorem shapes_of {d : Nat} : ∀ {l : List Tm}, (∀ t ∈ l, t.shape d = true) → shapes d l = true := fun h => by
  rw [shapes_all, List.all_eq_true]
  exact h
theorem sizes_of {n : Nat} : ∀ {l : List Tm}, (∀ t ∈ l, t.size ≤ n) → sizes l ≤ l.length * n
  | [], _ => by simp [sizes]
  | t :: l, h => by
    have h1 := h t (by simp)
    have h2 := sizes_of (l := l) fun u hu => h u (by simp [hu])
    simp only [sizes, List.length_cons, Nat.add_mul, Nat.one_mul]
    omega
theorem struct_shape {d : Nat} {s : List UInt8} {l : List Tm} (hs : nameB s = true) (hl : l.length ≤ 4) (h : ∀ t ∈ l, t.shape d = true) : (Tm.mk 3 0 s l).shape (d + 1) = true := by
  simp [Tm.shape, Tm.ownB, hs, hl, shapes_of h]
theorem leaf_size (d : Nat) {k n : Int} : (Tm.mk k n [] []).size ≤ 4 ^ d := by
  have h4 : 0 < 4 ^ d := Nat.pos_of_ne_zero (by simp)
  simp only [Tm.size, sizes]
  omega
theorem drawV : Draws 48 [.c (.d (.int .i64 2))] 80 (TmP (VP 2)) :=
  l1DrawP_draws VP (fun d n h0 h1 => ⟨by simp [Tm.shape, Tm.ownB, shapes, h0, h1], leaf_size d⟩)
    (fun d n h0 h1 => ⟨by simp [Tm.shape, Tm.ownB, shapes, h0, h1], leaf_size d⟩)
    (fun s hs => ⟨struct_shape (names_ok s hs) (by simp) (by simp), by simp [Tm.size, sizes]⟩)
    (fun d s hs l hl h => ⟨struct_shape (names_ok s hs) (by omega) fun t ht => (h t ht).1, by
      have h1 := sizes_of (l := l) fun t ht => (h t ht).2
      have h2 : l.length * 4 ^ d ≤ 3 * 4 ^ d := Nat.mul_le_mul_right _ hl
      have h3 : 0 < 4 ^ d := Nat.pos_of_ne_zero (by simp)
      rw [Tm.size, Nat.pow_succ]
      omega⟩) 2 (by omega)
theorem shape_mono : ∀ t : Tm, ∀ d e : Nat, d ≤ e → t.shape d = true → t.shape e = true := by
  refine Tm.ind fun k n s l ih d e hde h => ?_
  simp only [Tm.shape, Bool.and_eq_true, decide_eq_true_eq] at h ⊢
  obtain ⟨h1, h2, h3⟩ := h
  refine ⟨by omega, h2, ?_⟩
  rw [shapes_all, List.all_eq_true] at h3 ⊢
  exact fun t ht => ih t ht (d - 1) (e - 1) (by omega) (h3 t ht)
theorem VP.valid {s : List UInt8} {l : List Tm} (hs : nameB s = true) (hl : l.length ≤ 4) (h : ∀ t ∈ l, VP 2 t) : (Tm.mk 3 0 s l).valid = true := by
  have h1 := sizes_of (l := l) fun t ht => (h t ht).2
  have h2 : l.length * 4 ^ 2 ≤ 4 * 4 ^ 2 := Nat.mul_le_mul_right _ hl
  have h3 : (Tm.mk 3 0 s l).shape 30 = true := shape_mono _ 4 30 (by omega) (struct_shape hs hl fun t ht => (h t ht).1)
  show ((Tm.mk 3 0 s l).shape 30 && decide ((Tm.mk 3 0 s l).size ≤ 120)) = true
  rw [h3, Bool.true_and, decide_eq_true_eq, Tm.size]
  omega
/-- a valid clause, somewhere -/
def ClT (r : A) : Prop := ∃ c : Cl, r = .agg (c.row.map .d) ∧ c.fits ∧ c.body.length ≤ 6 ∧ c.validB = true
theorem ClT.re {n : Nat} {r : A} (h : ClT r) : A.re n r = r := by
  obtain ⟨c, rfl, _⟩ := h
  simp [A.re, re_d]
theorem clause_draws : Draws 23 [] 600 ClT := fun c p H i hc hp hp1 hi => by
  refine acalls Tryz.func23 (by kernel_rfl) ac23_ok fun hf => ?_
  simp only [List.length_set] at hf
  have hf0 : ∀ q, Obs.fits H.length 0 (H.set i (Rd c q)) := fun q => fits_reset (b := Rd c q) hf ⟨trivial, trivial, trivial⟩
  have hf1 : ∀ q, Obs.fits (H.set i (Rd c q)).length 0 (H.set i (Rd c q)) := fun q => by simpa using hf0 q
  have done : ∀ (d : Cl) (q : Int), p ≤ q → q ≤ p + 600 → d.fits → d.body.length ≤ 6 → d.validB = true → ∀ r, r = .agg (d.row.map .d) → Drew ClT 600 c p H i r (H.set i (Rd c q)) := fun d q a1 a2 a3 a4 a5 r hr => ⟨⟨d, hr, a3, a4, a5⟩, q, a1, a2, rfl⟩
  have hdr := drawV
  simp -implicitDefEqProofs [ac23, hf0, go_sem, -List.set_cons_succ, -List.set_cons_zero]
  refine call_drawE program_draws hc (by omega) (by omega) hi (by simp [Ob.re, C.re]) (fun r => PgR.re) (hf0 _) ?_
  rintro _ p1 ⟨P, rfl, hP1, hP5, hPf⟩ h1 h2
  have hPl : inR .i64 (P.length : Int) := small_i64 (by omega) (by omega)
  simp -implicitDefEqProofs [hf0, go_sem, -List.set_cons_succ, -List.set_cons_zero]
  refine call_drawE (pick_draws 4 (by omega)) hc (by omega) (by omega) hi (by simp [Ob.re, C.re]) (fun r => IntIn.re) (hf0 _) ?_
  rintro _ p2 ⟨m, rfl, m0, m1⟩ h3 h4
  simp -implicitDefEqProofs [hPl, hf0, go_sem, -List.set_cons_succ, -List.set_cons_zero]
  refine ⟨fun hm => ?_, fun hm => ?_⟩
  · refine call_drawE (pick_draws P.length (by omega)) hc (by omega) (by omega) hi (by simp [Ob.re, C.re]) (fun r => IntIn.re) (hf0 _) ?_
    rintro _ p3 ⟨j, rfl, j0, j1⟩ h5 h6
    have hjl : j.toNat < P.length := by omega
    simp -implicitDefEqProofs [hf0, go_sem, -List.set_cons_succ, -List.set_cons_zero]
    refine row_int (P[j.toNat]).row j0 (by simp [hjl]) (crow_len _) ?_
    simp -implicitDefEqProofs [crow_len, take_crow, thaw_d, fits_map, hf0, go_sem, -List.set_cons_succ, -List.set_cons_zero]
    obtain ⟨g1, g2⟩ := hPf _ (List.getElem_mem hjl)
    have g3 := (Cl.validB.parts g2).2.1
    exact done P[j.toNat] p3 (by omega) (by omega) g1 (by omega) g2 _ rfl
  · refine call_drawE (of_draws [[112], [113], [102, 111, 111]] (by decide)) hc (by omega) (by omega) hi (by simp [Ob.re, C.re]) (fun r ⟨n, _, hn⟩ => by subst hn; rfl) (hf0 _) ?_
    rintro _ p3 ⟨s, hs, rfl⟩ h5 h6
    have hsp : nameB s = true ∧ lettersB s = true ∧ levelN s = 0 ∧ builtB s 1 = false := by simp at hs; rcases hs with rfl | rfl | rfl <;> decide
    have hs : s.length ≤ 3 := by simp at hs; rcases hs with rfl | rfl | rfl <;> decide
    refine ⟨LocSame.refl _, ?_⟩
    simp -implicitDefEqProofs [hf0, go_sem, -List.set_cons_succ, -List.set_cons_zero]
    refine call_drawE hdr hc (by omega) (by omega) hi (by simp [Ob.re, C.re]) (fun r => TmP.re) (hf0 _) ?_
    rintro _ p4 ⟨a, rfl, ha, haV⟩ h7 h8
    refine ⟨LocSame.refl _, ?_⟩
    simp -implicitDefEqProofs [row_len, take_row, toDs_map, hf0, go_sem, -List.set_cons_succ, -List.set_cons_zero]
    have hst := struct_calls s [a] (by simp)
    simp only [List.map_cons, List.map_nil] at hst
    refine qcall_pure hst (hf1 _) (by simp [A.re, re_d]) ?_
    have hhd : (Tm.mk 3 0 s [a]).fits := fits_st (by omega) (by simp) (by simpa using ha)
    simp -implicitDefEqProofs [row_mk, hf0, go_sem, -List.set_cons_succ, -List.set_cons_zero]
    refine call_drawE (pick_draws 3 (by omega)) hc (by omega) (by omega) hi (by simp [Ob.re, C.re]) (fun r => IntIn.re) (hf0 _) ?_
    rintro _ p5 ⟨m, rfl, m0, m1⟩ h9 h10
    simp -implicitDefEqProofs [hf0, go_sem, -List.set_cons_succ, -List.set_cons_zero]
    refine loop_enter (St.le_tokenC 1 4 4 rfl rfl) ?_
    refine loop_set (σ := Int × List Tm × Int) (fun x => [(5, .c (.d (.int .i64 x.1)))]) (fun x => H.set i (Rd c x.2.2)) (fun x => [.cells [.d (.int .i64 0), .d (.int .i64 0), .d (.str []), .full [], .full []], .cells [.d (.int .i64 3), .d (.int .i64 0), .d (.str s), .d (.sl [a.row]), .own (.l 2) x.2.1.length (x.2.1.map Tm.row)], .grow x.2.1.length 4])
      (fun x => 0 ≤ x.1 ∧ x.1 + x.2.1.length ≤ 2 ∧ p ≤ x.2.2 ∧ x.2.2 + x.1 * 161 ≤ p + 600 ∧ (∀ t ∈ x.2.1, t.fits) ∧ ∀ t ∈ x.2.1, t.goal = true) (fun x => x.1.toNat) (m, [], p5) rfl ⟨m0, by simp; omega, by simp; omega, by simp; omega, by simp, by simp⟩ ?_
    rintro ⟨m, l, q⟩ ⟨i0, i1, i2, i3, i4, i5⟩
    simp only at i0 i1 i2 i3 i4 i5
    have hsubm : inR .i64 (m - 1) := small_i64 (by omega) (by omega)
    simp -implicitDefEqProofs [setAll, hf0, hsubm, go_sem, -List.set_cons_succ, -List.set_cons_zero]
    refine ⟨fun hlt => ?_, fun hge => ?_⟩
    · refine call_drawE (of_draws [[112], [61], [60], [113]] (by decide)) hc (by omega) (by omega) hi (by simp [Ob.re, C.re]) (fun r ⟨n, _, hn⟩ => by subst hn; rfl) (hf0 _) ?_
      rintro _ q1 ⟨s2, hs2, rfl⟩ k1 k2
      have hsq : nameB s2 = true ∧ ((lettersB s2 && (levelN s2 == 0 && !builtB s2 2)) || builtB s2 2) = true := by simp at hs2; rcases hs2 with rfl | rfl | rfl | rfl <;> decide
      have hs2 : s2.length ≤ 3 := by simp at hs2; rcases hs2 with rfl | rfl | rfl | rfl <;> decide
      refine ⟨LocSame.refl _, ?_⟩
      simp -implicitDefEqProofs [hf0, go_sem, -List.set_cons_succ, -List.set_cons_zero]
      refine call_drawE hdr hc (by omega) (by omega) hi (by simp [Ob.re, C.re]) (fun r => TmP.re) (hf0 _) ?_
      rintro _ q2 ⟨u, rfl, hu, huV⟩ k3 k4
      refine ⟨LocSame.refl _, ?_⟩
      simp -implicitDefEqProofs [hf0, go_sem, -List.set_cons_succ, -List.set_cons_zero]
      refine call_drawE hdr hc (by omega) (by omega) hi (by simp [Ob.re, C.re]) (fun r => TmP.re) (hf0 _) ?_
      rintro _ q3 ⟨w, rfl, hw, hwV⟩ k5 k6
      refine ⟨LocSame.refl _, ?_⟩
      simp -implicitDefEqProofs [row_len, take_row, toDs_map, hf0, go_sem, -List.set_cons_succ, -List.set_cons_zero]
      have hst2 := struct_calls s2 [u, w] (by simp)
      simp only [List.map_cons, List.map_nil] at hst2
      refine qcall_pure hst2 (hf1 _) (by simp [A.re, re_d]) ?_
      simp -implicitDefEqProofs [row_len, take_row, toDs_map, hf0, hsubm, go_sem, -List.set_cons_succ, -List.set_cons_zero]
      refine ⟨allLen_map row_len, by unfold maxApp; omega, ?_⟩
      refine loop_back (m - 1, l ++ [.mk 3 0 s2 [u, w]], q3) (by simp [setAll]) ⟨by simp; omega, by simp; omega, by simp; omega, by simp; omega, fun t ht => ?_, fun t ht => ?_⟩ (by show (m - 1).toNat < m.toNat; omega)
      · rcases List.mem_append.1 ht with ht | ht
        · exact i4 t ht
        · simp at ht; subst ht; exact fits_st (by omega) (by simp) (by simp [hu, hw])
      · rcases List.mem_append.1 ht with ht | ht
        · exact i5 t ht
        · simp at ht; subst ht
          have hv2 : (Tm.mk 3 0 s2 [u, w]).valid = true := VP.valid hsq.1 (by simp) (by simp [huV, hwV])
          have h5 := hsq.2
          simp only [Tm.goal, hv2, Tm.plain, Tm.built, Tm.k, Tm.s, Tm.kids, List.length_cons, List.length_nil, Bool.true_and]
          have e2 : ((0 + 1 + 1 : Nat) : Int) = 2 := rfl
          simp only [decide_true, Bool.true_and]
          rw [e2, h5, Bool.true_or]
    · exact done ⟨.mk 3 0 s [a], l⟩ q i2 (by omega) ⟨hhd, by show l.length ≤ 1048576; omega, i4⟩ (by show l.length ≤ 6; omega) (by
      have hv1 : (Tm.mk 3 0 s [a]).valid = true := VP.valid hsp.1 (by simp) (by simpa using haV)
      simp [Cl.validB, goalsB, hv1, Tm.plain, Tm.k, Tm.s, Tm.kids, hsp.2.1, hsp.2.2.1, hsp.2.2.2]
      exact ⟨by omega, i5⟩) _ (by simp [Cl.row, Tm.k, Tm.n, Tm.s, Tm.kids])
theorem drawCv_calls (c : List UInt8) (hc : c.length ≤ 1048576) (H : Heap) : ACalls Tryz.prog 13 [.c (.d (.sl (bytesRows c)))] H (fun r H' => H' = H ∧ ClR 1000 r) := by
  refine acalls Tryz.func13 (by kernel_rfl) ac13_ok fun hf => ?_
  simp -implicitDefEqProofs [ac13, go_sem, -List.set_cons_succ, -List.set_cons_zero]
  refine (open_calls c hc _).mono fun r H' ⟨h1, c', hc', h2⟩ => ⟨H, [.cells [.d (.int .i64 0), .d (.int .i64 0), .d (.str []), .full [], .full []], Rd c' 0], .c (.ptr (.l 1) 0), by rw [h2]; simp [Rd, Ob.re, C.re], rfl, by simp, hf, by rw [h1]; simp [A.re, C.re, Ref.re], ?_⟩
  simp -implicitDefEqProofs [go_sem, -List.set_cons_succ, -List.set_cons_zero]
  refine call_drawL (j := 1) clause_draws hc' (by omega) (by omega) rfl (by simp [Rd, Ob.re, C.re]) (fun r => ClT.re) hf ?_
  rintro _ p1 ⟨d, rfl, hd, hdl, _⟩ h3 h4
  simp -implicitDefEqProofs [go_sem, -List.set_cons_succ, -List.set_cons_zero]
  refine call_drawL (j := 1) (mutC_draws d hd (by omega)) hc' (by omega) (by omega) rfl (by simp [Rd, Ob.re, C.re]) (fun r => ClR.re) hf ?_
  rintro _ p2 ⟨d2, rfl, hd2, hdl2⟩ h5 h6
  simp -implicitDefEqProofs [crow_len, take_crow, thaw_d, fits_map, hf, go_sem, -List.set_cons_succ, -List.set_cons_zero]
  exact ⟨d2, rfl, hd2, hdl2⟩
theorem drawCc_calls (c : List UInt8) (hc : c.length ≤ 1048576) (H : Heap) : ACalls Tryz.prog 5 [.c (.d (.sl (bytesRows c)))] H (fun r H' => H' = H ∧ ClR 1000 r) := by
  refine acalls Tryz.func5 (by kernel_rfl) ac5_ok fun hf => ?_
  simp -implicitDefEqProofs [ac5, go_sem, -List.set_cons_succ, -List.set_cons_zero]
  refine call_some (drawCv_calls c hc _) (by simp [Ob.re, C.re]) (fun r => ClR.re) hf ?_
  rintro _ ⟨d, rfl, hd, hdl⟩
  simp -implicitDefEqProofs [crow_len, take_crow, thaw_d, fits_map, hf, go_sem, -List.set_cons_succ, -List.set_cons_zero]
  exact ⟨d, rfl, hd, hdl⟩
end Go.Proofs.YteighafofbohcaaGreat

/-
  Instructions as data.
  Conditions: none.
-/
open Go Go.AM Go.Proofs
namespace Go.Proofs.YteighafofbohcaaGreat
open Go.ChangeShapes Go.WideShapes Go.ChangeAt Go.RowKit
set_option linter.unusedVariables false
set_option linter.unusedSimpArgs false
set_option maxRecDepth 100000
/-- an instruction -/
structure Ins where
  op : Int
  a : Int
  b : Int
  text : List UInt8
def Ins.row (x : Ins) : List D := [.int .i64 x.op, .int .i64 x.a, .int .i64 x.b, .str x.text]
structure Ins.ok (x : Ins) : Prop where
  op : inR .i64 x.op
  a : inR .i64 x.a
  b : inR .i64 x.b
  text : x.text.length ≤ reachBytes
end Go.Proofs.YteighafofbohcaaGreat

/-
  Code as it is made: the plain law.
  Conditions: none.
-/
open Go Go.AM Go.Proofs
namespace Go.Proofs.YteighafofbohcaaGreat
open Go.ChangeShapes Go.WideShapes Go.ChangeAt Go.RowKit
set_option linter.unusedVariables false
set_option linter.unusedSimpArgs false
set_option maxRecDepth 100000
/-- what is known while code is made: the slots of variables, the next slot, the rows of the code -/
structure Mk where
  sl : List (Int × Nat)
  next : Nat
  code : List (List D)
def slotO (m : List (Int × Nat)) (n : Int) : Option Nat := (m.find? fun p => p.1 == n).map (·.2)
def insR (op a b : Int) (s : List UInt8) : List D := [.int .i64 op, .int .i64 a, .int .i64 b, .str s]
def Mk.emit (M : Mk) (op a b : Int) (s : List UInt8) : Mk := ⟨M.sl, M.next, M.code ++ [insR op a b s]⟩
def Mk.give (M : Mk) (n : Int) (v : Nat) : Mk := ⟨M.sl ++ [(n, v)], M.next, M.code⟩
def Mk.bump (M : Mk) : Mk := ⟨M.sl, M.next + 1, M.code⟩
/-- an argument of a structure that is no structure -/
def Mk.desc (M : Mk) (t : Tm) : Mk := if t.k = 2 then M.emit 6 t.n 0 [] else match slotO M.sl t.n with
  | some v => M.emit 5 v 0 []
  | none => ((M.give t.n M.next).emit 4 M.next 0 []).bump
def argsT : List Tm → Mk → Mk × List (Tm × Nat)
  | [], M => (M, [])
  | t :: l, M => if t.k = 3 then ((argsT l (M.emit 4 M.next 0 []).bump).1, (t, M.next) :: (argsT l (M.emit 4 M.next 0 []).bump).2) else argsT l (M.desc t)
/-- the structures that are left -/
def headQ : Nat → List (Tm × Nat) → Mk → Mk
  | _, [], M => M
  | 0, _ :: _, M => M
  | f + 1, p :: q, M => headQ f (q ++ (argsT p.1.kids (M.emit 3 p.1.kids.length p.2 p.1.s)).2) (argsT p.1.kids (M.emit 3 p.1.kids.length p.2 p.1.s)).1
def qsize (q : List (Tm × Nat)) : Nat := (q.map fun p => p.1.size).sum
/-- the arguments of a head, from the i-th on -/
def headA : List Tm → Nat → Mk → Mk × List (Tm × Nat)
  | [], _, M => (M, [])
  | t :: l, i, M => if t.k = 2 then headA l (i + 1) (M.emit 2 t.n i [])
    else if t.k = 1 then headA l (i + 1) (match slotO M.sl t.n with | some v => M.emit 1 v i [] | none => M.give t.n i)
    else ((headA l (i + 1) M).1, (t, i) :: (headA l (i + 1) M).2)
def headT (l : List Tm) (M : Mk) : Mk := headQ (qsize (headA l 0 M).2) (headA l 0 M).2 (headA l 0 M).1
/-- what stands behind the instruction of a structure that is built -/
def partsT : List Tm → List Int → Mk → Mk
  | t :: l, b :: bs, M => partsT l bs (if t.k = 3 then M.emit 5 b 0 [] else M.desc t)
  | _, _, M => M
mutual
def buildT : Tm → Mk → Mk × Nat
  | .mk k n s l, M => (partsT l (buildL l M).2 ((buildL l M).1.bump.emit 7 l.length (buildL l M).1.next s), (buildL l M).1.next)
def buildL : List Tm → Mk → Mk × List Int
  | [], M => (M, [])
  | t :: l, M => if t.k = 3 then ((buildL l (buildT t M).1).1, ((buildT t M).2 : Int) :: (buildL l (buildT t M).1).2) else ((buildL l M).1, (-1) :: (buildL l M).2)
end
def putT (M : Mk) (t : Tm) (i : Nat) : Mk := if t.k = 2 then M.emit 10 t.n i []
  else if t.k = 1 then (match slotO M.sl t.n with | some v => M.emit 9 v i [] | none => ((M.give t.n M.next).bump).emit 8 M.next i [])
  else (buildT t M).1.emit 9 (buildT t M).2 i []
def putsT : List Tm → Nat → Mk → Mk
  | [], _, M => M
  | t :: l, i, M => putsT l (i + 1) (putT M t i)
/-- everything is small -/
structure Mk.fit (M : Mk) (B : Nat) : Prop where
  next : M.next ≤ B
  code : M.code.length ≤ B
  vals : ∀ p ∈ M.sl, p.2 ≤ B
  rows : ∀ r ∈ M.code, ∃ x : Ins, r = x.row
theorem Mk.fit.all {M : Mk} {B : Nat} (h : M.fit B) : allLen 4 M.code := fun r hr => by obtain ⟨x, rfl⟩ := h.rows r hr; rfl
theorem Mk.fit.mono {M : Mk} {B C : Nat} (h : M.fit B) (hb : B ≤ C) : M.fit C :=
  ⟨by have := h.next; omega, by have := h.code; omega, fun p hp => by have := h.vals p hp; omega, h.rows⟩
theorem Mk.fit.emit {M : Mk} {B : Nat} (h : M.fit B) (op a b : Int) (s : List UInt8) : (M.emit op a b s).fit (B + 1) := by
  refine ⟨by have := h.next; show M.next ≤ _; omega, by have := h.code; simp [Mk.emit]; omega, fun p hp => by have := h.vals p hp; omega, fun r hr => ?_⟩
  rcases List.mem_append.1 hr with hr | hr
  · exact h.rows r hr
  · simp at hr; exact ⟨⟨op, a, b, s⟩, hr⟩
theorem Mk.fit.give {M : Mk} {B : Nat} (h : M.fit B) (n : Int) (v : Nat) (hv : v ≤ B) : (M.give n v).fit B := by
  refine ⟨h.next, h.code, fun p hp => ?_, h.rows⟩
  rcases List.mem_append.1 hp with hp | hp
  · exact h.vals p hp
  · simp at hp; subst hp; exact hv
theorem Mk.fit.bump {M : Mk} {B : Nat} (h : M.fit B) : M.bump.fit (B + 1) :=
  ⟨by have := h.next; show M.next + 1 ≤ _; omega, by have := h.code; show M.code.length ≤ _; omega, fun p hp => by have := h.vals p hp; omega, h.rows⟩
theorem slotO_mem {m : List (Int × Nat)} {n : Int} {v : Nat} (h : slotO m n = some v) : (n, v) ∈ m := by
  simp only [slotO, Option.map_eq_some_iff] at h
  obtain ⟨p, h1, rfl⟩ := h
  have h2 := List.find?_some h1
  have h3 := List.mem_of_find?_eq_some h1
  simp at h2
  rw [← h2]; exact h3
theorem Mk.fit.desc {M : Mk} {B : Nat} (h : M.fit B) (t : Tm) : (M.desc t).fit (B + 2) := by
  unfold Mk.desc
  split
  · exact (h.emit ..).mono (by omega)
  · split
    · exact (h.emit ..).mono (by omega)
    · exact ((h.give _ _ h.next).emit ..).bump
theorem args_fit : ∀ (l : List Tm) (M : Mk) (B : Nat), M.fit B → (argsT l M).1.fit (B + 2 * l.length) ∧ ∀ p ∈ (argsT l M).2, p.1 ∈ l ∧ p.1.k = 3 ∧ p.2 ≤ B + 2 * l.length
  | [], M, B, h => ⟨by simpa [argsT] using h, by simp [argsT]⟩
  | t :: l, M, B, h => by
    unfold argsT
    split
    · rename_i hk
      have ih := args_fit l _ _ (h.emit 4 M.next 0 []).bump
      refine ⟨ih.1.mono (by simp; omega), fun p hp => ?_⟩
      rcases List.mem_cons.1 hp with rfl | hp
      · exact ⟨by simp, hk, by have := h.next; simp; omega⟩
      · obtain ⟨h1, h2, h3⟩ := ih.2 p hp
        exact ⟨by simp [h1], h2, by simp; omega⟩
    · have ih := args_fit l _ _ (h.desc t)
      refine ⟨ih.1.mono (by simp; omega), fun p hp => ?_⟩
      obtain ⟨h1, h2, h3⟩ := ih.2 p hp
      exact ⟨by simp [h1], h2, by simp; omega⟩
theorem parts_fit : ∀ (l : List Tm) (bs : List Int) (M : Mk) (B : Nat), M.fit B → (partsT l bs M).fit (B + 2 * l.length)
  | [], _, M, B, h => by simpa [partsT] using h
  | t :: l, [], M, B, h => by simpa [partsT] using h.mono (by omega)
  | t :: l, b :: bs, M, B, h => by
    unfold partsT
    refine (parts_fit l bs _ (B + 2) ?_).mono (by simp; omega)
    split
    · exact (h.emit ..).mono (by omega)
    · exact h.desc t
theorem buildL_len : ∀ (l : List Tm) (M : Mk), (buildL l M).2.length = l.length
  | [], M => by simp [buildL]
  | t :: l, M => by
    unfold buildL
    split <;> simp [buildL_len l]
/-- how much a structure that is built adds -/
theorem build_fit4 : ∀ (t : Tm) (M : Mk) (B : Nat), M.fit B → ∃ C, (buildT t M).1.fit C ∧ (buildT t M).2 ≤ C ∧ C + 4 ≤ B + 6 * t.size := by
  refine Tm.ind fun k n s l ih M B h => ?_
  have key : ∀ (l : List Tm), (∀ t ∈ l, ∀ (M : Mk) (B : Nat), M.fit B → ∃ C, (buildT t M).1.fit C ∧ (buildT t M).2 ≤ C ∧ C + 4 ≤ B + 6 * t.size) → ∀ (M : Mk) (B : Nat), M.fit B → ∃ C, (buildL l M).1.fit C ∧ C + 4 * l.length ≤ B + 6 * sizes l := by
    intro l
    induction l with
    | nil => intro _ M B h; exact ⟨B, by simpa [buildL] using h, by simp [sizes]⟩
    | cons t l ih2 =>
      intro hh M B h
      have hs := size_pos t
      unfold buildL
      split
      · obtain ⟨C, h1, _, h2⟩ := hh t (by simp) M B h
        obtain ⟨C2, h3, h4⟩ := ih2 (fun u hu => hh u (by simp [hu])) _ _ h1
        exact ⟨C2, h3, by simp [sizes]; omega⟩
      · obtain ⟨C2, h3, h4⟩ := ih2 (fun u hu => hh u (by simp [hu])) _ _ h
        exact ⟨C2, h3, by simp [sizes]; omega⟩
  obtain ⟨C, h1, hC⟩ := key l ih M B h
  have h2 := (h1.bump.emit 7 l.length (buildL l M).1.next s)
  have h3 := parts_fit l (buildL l M).2 _ _ h2
  have h5 := h1.next
  unfold buildT
  exact ⟨_, h3, by simp only; omega, by simp [Tm.size]; omega⟩
theorem build_fit (t : Tm) (M : Mk) (B : Nat) (h : M.fit B) : (buildT t M).1.fit (B + 6 * t.size) ∧ (buildT t M).2 ≤ B + 6 * t.size := by
  obtain ⟨C, h1, h2, h3⟩ := build_fit4 t M B h
  exact ⟨h1.mono (by omega), by omega⟩
theorem put_fit {M : Mk} {B : Nat} (h : M.fit B) (t : Tm) (i : Nat) : (putT M t i).fit (B + 6 * t.size + 2) := by
  unfold putT
  split
  · exact (h.emit ..).mono (by omega)
  · split
    · split
      · exact (h.emit ..).mono (by omega)
      · exact ((h.give _ _ h.next).bump.emit ..).mono (by omega)
    · exact ((build_fit t M B h).1.emit ..).mono (by omega)
theorem args_size : ∀ (l : List Tm) (M : Mk), 2 * l.length + 6 * qsize (argsT l M).2 ≤ 6 * sizes l + 4 * (argsT l M).2.length ∧ qsize (argsT l M).2 ≤ sizes l
  | [], M => by simp [argsT, qsize, sizes]
  | t :: l, M => by
    have hp := size_pos t
    unfold argsT
    split
    · have ih := args_size l (M.emit 4 M.next 0 []).bump
      simp only [qsize, List.map_cons, List.sum_cons, List.length_cons, sizes] at ih ⊢
      omega
    · have ih := args_size l (M.desc t)
      simp only [List.length_cons, sizes] at ih ⊢
      omega
theorem qsize_pos (q : List (Tm × Nat)) : q.length ≤ qsize q := by
  induction q with
  | nil => simp [qsize]
  | cons p q ih =>
    have := size_pos p.1
    simp only [qsize, List.map_cons, List.sum_cons, List.length_cons] at ih ⊢
    omega
theorem headA_fit : ∀ (l : List Tm) (i : Nat) (M : Mk) (B : Nat), M.fit B → i + l.length ≤ B → (headA l i M).1.fit (B + l.length) ∧ (∀ p ∈ (headA l i M).2, p.1 ∈ l ∧ p.1.k ≠ 2 ∧ p.1.k ≠ 1) ∧ qsize (headA l i M).2 ≤ sizes l ∧ (headA l i M).2.length ≤ l.length
  | [], _, M, B, h, _ => by simpa [headA, qsize, sizes] using h
  | t :: l, i, M, B, h, hi => by
    simp only [List.length_cons] at hi ⊢
    unfold headA
    split
    · obtain ⟨h1, h2, h3, h4⟩ := headA_fit l (i + 1) _ (B + 1) (h.emit 2 t.n i []) (by omega)
      exact ⟨h1.mono (by omega), fun p hp => ⟨by simp [(h2 p hp).1], (h2 p hp).2⟩, by simp only [sizes]; omega, by omega⟩
    · split
      · have hf : Mk.fit (match slotO M.sl t.n with | some v => M.emit 1 v i [] | none => M.give t.n i) (B + 1) := by
          split
          · exact h.emit ..
          · exact (h.give _ _ (by omega)).mono (by omega)
        obtain ⟨h1, h2, h3, h4⟩ := headA_fit l (i + 1) _ (B + 1) hf (by omega)
        exact ⟨h1.mono (by omega), fun p hp => ⟨by simp [(h2 p hp).1], (h2 p hp).2⟩, by simp only [sizes]; omega, by omega⟩
      · rename_i k2 k1
        obtain ⟨h1, h2, h3, h4⟩ := headA_fit l (i + 1) M (B + 1) (h.mono (by omega)) (by omega)
        refine ⟨h1.mono (by omega), fun p hp => ?_, by simp only [qsize, List.map_cons, List.sum_cons, sizes] at h3 ⊢; omega, by simp; omega⟩
        rcases List.mem_cons.1 hp with rfl | hp
        · exact ⟨by simp, k2, k1⟩
        · exact ⟨by simp [(h2 p hp).1], (h2 p hp).2⟩
/-- the slots as the reference keeps them -/
def slotsR (m : List (Int × Nat)) : List (List D) := (List.range 26).map fun i : Nat => [.int .i64 (match slotO m i with | some v => (v : Int) | none => -1)]
theorem slotsR_len (m : List (Int × Nat)) : (slotsR m).length = 26 := by simp [slotsR]
theorem slotsR_all (m : List (Int × Nat)) : allLen 1 (slotsR m) := allLen_map fun _ => rfl
theorem slotsR_get (m : List (Int × Nat)) {i : Nat} (h : i < 26) : (slotsR m)[i]? = some [.int .i64 (match slotO m i with | some v => (v : Int) | none => -1)] := by
  simp [slotsR, h]
theorem slotO_snoc (m : List (Int × Nat)) (n k : Int) (v : Nat) (h : slotO m n = none) : slotO (m ++ [(n, v)]) k = if k = n then some v else slotO m k := by
  unfold slotO at h ⊢
  rw [List.find?_append]
  by_cases hk : k = n
  · subst hk
    simp only [Option.map_eq_none_iff] at h
    simp [h]
  · have hk' : ¬ n = k := fun e => hk e.symm
    simp [hk, hk']
theorem slotsR_set (m : List (Int × Nat)) (n v : Nat) (hn : n < 26) (h : slotO m n = none) : (slotsR m).set n [.int .i64 v] = slotsR (m ++ [((n : Int), v)]) := by
  refine List.ext_getElem? fun i => ?_
  rcases Nat.lt_or_ge i 26 with hi | hi
  · rw [slotsR_get _ hi, slotO_snoc m n i v h, List.getElem?_set]
    by_cases he : n = i
    · subst he
      simp [slotsR_len, hn]
    · have : ¬ ((i : Int) = n) := by omega
      rw [if_neg he, slotsR_get _ hi, if_neg this]
  · rw [List.getElem?_eq_none (by simp [slotsR_len]; omega), List.getElem?_eq_none (by simp [slotsR_len]; omega)]
/-- the slots as the program keeps them -/
def slotsM (m : List (Int × Nat)) : List (Int × List D) := m.map fun p => (p.1, [.int .i64 p.2])
theorem slotsM_row (n : Int) : ∀ m : List (Int × Nat), V_ (slotsM m) n = (slotO m n).map fun v => [.int .i64 (v : Int)]
  | [] => rfl
  | (k, v) :: m => by
    have ih := slotsM_row n m
    unfold slotsM slotO at ih ⊢
    simp only [List.map_cons, V_, List.find?_cons]
    by_cases h : k = n
    · simp [h]
    · have : (k == n) = false := by simpa using h
      rw [if_neg h, this]
      exact ih
theorem slotsM_put (n : Int) (v : Nat) : ∀ m : List (Int × Nat), slotO m n = none → W_ (slotsM m) n [.int .i64 (v : Int)] = slotsM (m ++ [(n, v)])
  | [], _ => rfl
  | (k, w) :: m, h => by
    unfold slotO at h
    simp only [List.find?_cons] at h
    by_cases hk : k = n
    · simp [hk] at h
    · have : (k == n) = false := by simpa using hk
      rw [this] at h
      have ih := slotsM_put n v m h
      unfold slotsM at ih ⊢
      simp only [List.map_cons, W_, List.cons_append]
      rw [if_neg hk, ih]
end Go.Proofs.YteighafofbohcaaGreat

/-
  Code as the reference makes it.
  Conditions: none.
-/
open Go Go.AM Go.Proofs
namespace Go.Proofs.YteighafofbohcaaGreat
open Go.ChangeShapes Go.WideShapes Go.ChangeAt Go.RowKit
set_option linter.unusedVariables false
set_option linter.unusedSimpArgs false
set_option maxRecDepth 100000
-- 35 loop.example/prologserver/spec.l8Start params 0 ntmps 14
-- loop head live: [0,1,2]
def ac35 : Cd := .seq (.region [⟨(some 0),.alloc [(.full []),(.d (.int .i64 0)),(.full [])],none⟩] [])
 (.seq (.region [⟨(some 3),.build [(.full []),(.d (.int .i64 0)),(.full [])] [(1,1,(.k (.c (.d (.int .i64 4)))))],none⟩,
 ⟨(some 1),.alloc [(.full []),(.d (.int .i64 0)),(.full [])],none⟩,
 ⟨none,.store 3 (.t 1) (.t 3),none⟩] [3])
 (.seq (.seq (.region [⟨(some 2),.mv (.k (.c (.d (.int .i64 0)))),none⟩] [])
 (.block 0 (.loop (.seq (.seq (.region [⟨(some 4),.mv (.t 2),none⟩,
 ⟨(some 5),.bin .leq (.t 4) (.k (.c (.d (.int .i64 25)))),none⟩] [4])
 (.cond (.t 5)
 (.skip)
 (.exit 0)))
 (.seq (.block 1 (.region [⟨(some 8),.fieldAddr 0 (.t 1),none⟩,
 ⟨(some 9),.load none (.t 8),none⟩,
 ⟨(some 10),.buildSlice 1 1 [(.int .i64 0)] [(0,(.k (.c (.d (.int .i64 (-1))))))],none⟩,
 ⟨(some 11),.append false 1 (.t 9) (.t 10),none⟩,
 ⟨(some 12),.fieldAddr 0 (.t 1),none⟩,
 ⟨none,.store 1 (.t 12) (.t 11),none⟩] [5,8,9,10,11,12]))
 (.region [⟨(some 6),.mv (.t 2),none⟩,
 ⟨(some 7),.bin .add (.t 6) (.k (.c (.d (.int .i64 1)))),none⟩,
 ⟨(some 2),.mv (.t 7),none⟩] [6,7]))))))
 (.seq (.region [⟨(some 13),.load (some 3) (.t 1),none⟩,
 ⟨none,.store 3 (.t 0) (.t 13),none⟩] [1,13])
 (.ret))))
theorem ac35_ok : cFunc Tryz.prog [] [(0,[],[]),(1,[3],[]),(2,[],[]),(3,[4],[]),(5,[5,8,9,10,11,12],[]),(4,[6,7],[]),(6,[1,13],[])] Tryz.f35 = some (ac35,[.cell 0 (some 3)],14) := by kernel_rfl
-- 65 loop.example/prologserver/spec.l8Emit params 2 ntmps 14
def ac65 : Cd := .seq (.region [⟨(some 2),.box (.t 0),none⟩,
 ⟨(some 3),.box (.t 1),none⟩,
 ⟨(some 4),.alloc [(.full []),(.d (.int .i64 0)),(.full [])],none⟩] [0,1])
 (.seq (.region [⟨(some 5),.buildSlice 4 0 [(.int .i64 0),(.int .i64 0),(.int .i64 0),(.str [])] [],none⟩,
 ⟨(some 6),.fieldAddr 2 (.t 2),none⟩,
 ⟨(some 7),.load none (.t 6),none⟩,
 ⟨(some 9),.load (some 4) (.t 3),none⟩,
 ⟨(some 10),.buildSlice 4 1 [(.int .i64 0),(.int .i64 0),(.int .i64 0),(.str [])] [(0,(.t 9))],none⟩,
 ⟨(some 8),.append false 4 (.t 5) (.t 7),none⟩,
 ⟨(some 11),.append false 4 (.t 8) (.t 10),none⟩,
 ⟨(some 12),.fieldAddr 2 (.t 2),none⟩,
 ⟨none,.store 1 (.t 12) (.t 11),none⟩] [3,5,6,7,8,9,10,11,12])
 (.seq (.region [⟨(some 13),.load (some 3) (.t 2),none⟩,
 ⟨none,.store 3 (.t 4) (.t 13),none⟩] [2,13])
 (.ret)))
theorem ac65_ok : cFunc Tryz.prog [] [(0,[0,1],[]),(1,[3,5,6,7,8,9,10,11,12],[0,1,2,4,5,3,6,7,8]),(2,[2,13],[])] Tryz.f65 = some (ac65,[.cell 4 (some 3)],14) := by kernel_rfl
-- 67 loop.example/prologserver/spec.l8Slot params 3 ntmps 18
def ac67 : Cd := .seq (.region [⟨(some 3),.box (.t 0),none⟩,
 ⟨(some 6),.alloc [(.full []),(.d (.int .i64 0)),(.full [])],none⟩] [0])
 (.seq (.region [⟨(some 7),.buildSlice 1 0 [(.int .i64 0)] [],none⟩,
 ⟨(some 8),.fieldAddr 0 (.t 3),none⟩,
 ⟨(some 9),.load none (.t 8),none⟩,
 ⟨(some 10),.appendF 1 (.t 7) (.t 9),none⟩,
 ⟨(some 11),.fieldAddr 0 (.t 3),none⟩,
 ⟨none,.store 1 (.t 11) (.t 10),none⟩] [7,8,9,10,11])
 (.seq (.region [⟨(some 12),.fieldAddr 0 (.t 3),none⟩,
 ⟨(some 13),.load none (.t 12),none⟩,
 ⟨(some 14),.mv (.t 1),none⟩,
 ⟨(some 15),.mv (.t 2),none⟩,
 ⟨(some 16),.indexAddr 1 (.t 13) (.t 14),none⟩,
 ⟨none,.store 1 (.t 16) (.t 15),none⟩] [1,2,12,13,14,15,16])
 (.seq (.region [⟨(some 17),.load (some 3) (.t 3),none⟩,
 ⟨none,.store 3 (.t 6) (.t 17),none⟩] [3,17])
 (.ret))))
theorem ac67_ok : cFunc Tryz.prog [3000007] [(0,[0],[]),(1,[7,8,9,10,11],[]),(2,[1,2,12,13,14,15,16],[]),(3,[3,17],[])] Tryz.f67 = some (ac67,[.cell 6 (some 3)],18) := by kernel_rfl
-- 68 loop.example/prologserver/spec.l8Args params 2 ntmps 88
-- loop head live: [1,2,4,6,7]
def ac68 : Cd := .seq (.region [⟨(some 2),.box (.t 0),none⟩,
 ⟨(some 4),.alloc [(.full []),(.d (.int .i64 0)),(.full [])],none⟩,
 ⟨(some 5),.mv (.k (.c (.full []))),none⟩] [0,5])
 (.seq (.region [⟨(some 9),.buildSlice 5 0 [(.int .i64 0),(.int .i64 0),(.str []),(.sl []),(.int .i64 0)] [],none⟩,
 ⟨(some 6),.mv (.t 9),none⟩] [9])
 (.seq (.seq (.region [⟨(some 7),.mv (.k (.c (.d (.int .i64 0)))),none⟩] [])
 (.block 0 (.loop (.seq (.seq (.region [⟨(some 10),.mv (.t 7),none⟩,
 ⟨(some 11),.mv (.t 1),none⟩,
 ⟨(some 12),.len 1 (.t 11),none⟩,
 ⟨(some 13),.bin .lss (.t 10) (.t 12),none⟩] [10,11,12])
 (.cond (.t 13)
 (.skip)
 (.exit 0)))
 (.seq (.block 1 (.seq (.region [⟨(some 16),.mv (.t 1),none⟩,
 ⟨(some 17),.mv (.t 7),none⟩,
 ⟨(some 18),.indexAddr 4 (.t 16) (.t 17),none⟩,
 ⟨(some 19),.load (some 4) (.t 18),none⟩,
 ⟨(some 8),.alloc [(.d (.int .i64 0)),(.d (.int .i64 0)),(.d (.str [])),(.full [])],none⟩,
 ⟨none,.store 4 (.t 8) (.t 19),none⟩] [13,16,17,18,19])
 (.block 2 (.seq (.region [⟨(some 37),.fieldAddr 0 (.t 8),none⟩,
 ⟨(some 38),.load none (.t 37),none⟩,
 ⟨(some 39),.bin .eql (.t 38) (.k (.c (.d (.int .i64 2)))),none⟩,
 ⟨(some 36),.mv (.t 39),none⟩] [37,38,39])
 (.cond (.t 36)
 (.region [⟨(some 40),.load (some 3) (.t 2),none⟩,
 ⟨(some 41),.fieldAddr 1 (.t 8),none⟩,
 ⟨(some 42),.load none (.t 41),none⟩,
 ⟨(some 43),.build [(.d (.int .i64 0)),(.d (.int .i64 0)),(.d (.int .i64 0)),(.d (.str []))] [(0,1,(.k (.c (.d (.int .i64 6))))),(1,1,(.t 42))],none⟩,
 ⟨(some 44),.qcall 65 [(.t 40),(.t 43)],none⟩,
 ⟨none,.store 3 (.t 2) (.t 44),none⟩] [8,36,40,41,42,43,44])
 (.seq (.region [⟨(some 46),.fieldAddr 0 (.t 8),none⟩,
 ⟨(some 47),.load none (.t 46),none⟩,
 ⟨(some 48),.bin .eql (.t 47) (.k (.c (.d (.int .i64 1)))),none⟩,
 ⟨(some 49),.mv (.t 48),none⟩,
 ⟨(some 50),.fieldAddr 0 (.t 2),some (49,true)⟩,
 ⟨(some 51),.load none (.t 50),some (49,true)⟩,
 ⟨(some 52),.fieldAddr 1 (.t 8),some (49,true)⟩,
 ⟨(some 53),.load none (.t 52),some (49,true)⟩,
 ⟨(some 54),.indexAddr 1 (.t 51) (.t 53),some (49,true)⟩,
 ⟨(some 55),.load none (.t 54),some (49,true)⟩,
 ⟨(some 56),.bin .geq (.t 55) (.k (.c (.d (.int .i64 0)))),some (49,true)⟩,
 ⟨(some 57),.pick (.t 49) (.t 56) (.k (.c (.d (.bool false)))),none⟩,
 ⟨(some 45),.mv (.t 57),none⟩] [36,46,47,48,49,50,51,52,53,54,55,56,57])
 (.cond (.t 45)
 (.region [⟨(some 59),.fieldAddr 0 (.t 2),none⟩,
 ⟨(some 61),.fieldAddr 1 (.t 8),none⟩,
 ⟨(some 58),.load (some 3) (.t 2),none⟩,
 ⟨(some 60),.load none (.t 59),none⟩,
 ⟨(some 62),.load none (.t 61),none⟩,
 ⟨(some 63),.indexAddr 1 (.t 60) (.t 62),none⟩,
 ⟨(some 64),.load none (.t 63),none⟩,
 ⟨(some 65),.build [(.d (.int .i64 0)),(.d (.int .i64 0)),(.d (.int .i64 0)),(.d (.str []))] [(0,1,(.k (.c (.d (.int .i64 5))))),(1,1,(.t 64))],none⟩,
 ⟨(some 66),.qcall 65 [(.t 58),(.t 65)],none⟩,
 ⟨none,.store 3 (.t 2) (.t 66),none⟩] [8,45,58,59,60,61,62,63,64,65,66])
 (.seq (.region [⟨(some 68),.fieldAddr 0 (.t 8),none⟩,
 ⟨(some 69),.load none (.t 68),none⟩,
 ⟨(some 70),.bin .eql (.t 69) (.k (.c (.d (.int .i64 1)))),none⟩,
 ⟨(some 67),.mv (.t 70),none⟩] [45,68,69,70])
 (.cond (.t 67)
 (.seq (.region [⟨(some 71),.load (some 3) (.t 2),none⟩,
 ⟨(some 72),.fieldAddr 1 (.t 8),none⟩,
 ⟨(some 73),.load none (.t 72),none⟩,
 ⟨(some 74),.fieldAddr 1 (.t 2),none⟩,
 ⟨(some 75),.load none (.t 74),none⟩,
 ⟨(some 76),.qcall 67 [(.t 71),(.t 73),(.t 75)],none⟩,
 ⟨none,.store 3 (.t 2) (.t 76),none⟩] [8,67,71,72,73,74,75,76])
 (.seq (.region [⟨(some 77),.load (some 3) (.t 2),none⟩,
 ⟨(some 78),.fieldAddr 1 (.t 2),none⟩,
 ⟨(some 79),.load none (.t 78),none⟩,
 ⟨(some 80),.build [(.d (.int .i64 0)),(.d (.int .i64 0)),(.d (.int .i64 0)),(.d (.str []))] [(0,1,(.k (.c (.d (.int .i64 4))))),(1,1,(.t 79))],none⟩,
 ⟨(some 81),.qcall 65 [(.t 77),(.t 80)],none⟩,
 ⟨none,.store 3 (.t 2) (.t 81),none⟩] [77,78,79,80,81])
 (.region [⟨(some 82),.fieldAddr 1 (.t 2),none⟩,
 ⟨(some 83),.load none (.t 82),none⟩,
 ⟨(some 84),.bin .add (.t 83) (.k (.c (.d (.int .i64 1)))),none⟩,
 ⟨(some 85),.fieldAddr 1 (.t 2),none⟩,
 ⟨none,.store 1 (.t 85) (.t 84),none⟩] [82,83,84,85])))
 (.seq (.region [⟨(some 20),.mv (.t 6),none⟩,
 ⟨(some 21),.load (some 4) (.t 8),none⟩,
 ⟨(some 22),.fieldAddr 1 (.t 2),none⟩,
 ⟨(some 23),.load none (.t 22),none⟩,
 ⟨(some 24),.build [(.d (.int .i64 0)),(.d (.int .i64 0)),(.d (.str [])),(.full []),(.d (.int .i64 0))] [(0,4,(.t 21)),(4,1,(.t 23))],none⟩,
 ⟨(some 25),.buildSlice 5 1 [(.int .i64 0),(.int .i64 0),(.str []),(.sl []),(.int .i64 0)] [(0,(.t 24))],none⟩,
 ⟨(some 26),.append false 5 (.t 20) (.t 25),none⟩,
 ⟨(some 6),.mv (.t 26),none⟩] [8,20,21,22,23,24,25,26,67])
 (.seq (.region [⟨(some 27),.load (some 3) (.t 2),none⟩,
 ⟨(some 28),.fieldAddr 1 (.t 2),none⟩,
 ⟨(some 29),.load none (.t 28),none⟩,
 ⟨(some 30),.build [(.d (.int .i64 0)),(.d (.int .i64 0)),(.d (.int .i64 0)),(.d (.str []))] [(0,1,(.k (.c (.d (.int .i64 4))))),(1,1,(.t 29))],none⟩,
 ⟨(some 31),.qcall 65 [(.t 27),(.t 30)],none⟩,
 ⟨none,.store 3 (.t 2) (.t 31),none⟩] [27,28,29,30,31])
 (.region [⟨(some 32),.fieldAddr 1 (.t 2),none⟩,
 ⟨(some 33),.load none (.t 32),none⟩,
 ⟨(some 34),.bin .add (.t 33) (.k (.c (.d (.int .i64 1)))),none⟩,
 ⟨(some 35),.fieldAddr 1 (.t 2),none⟩,
 ⟨none,.store 1 (.t 35) (.t 34),none⟩] [32,33,34,35]))))))))))))
 (.region [⟨(some 14),.mv (.t 7),none⟩,
 ⟨(some 15),.bin .add (.t 14) (.k (.c (.d (.int .i64 1)))),none⟩,
 ⟨(some 7),.mv (.t 15),none⟩] [14,15]))))))
 (.seq (.region [⟨(some 86),.load (some 3) (.t 2),none⟩,
 ⟨(some 87),.mv (.t 6),none⟩,
 ⟨none,.store 3 (.t 4) (.t 86),none⟩,
 ⟨(some 5),.mv (.t 87),none⟩] [2,6,86,87])
 (.ret))))
theorem ac68_ok : cFunc Tryz.prog [1000065,1000067] [(0,[0,5],[]),(1,[9],[]),(2,[],[]),(3,[10,11,12],[]),(5,[13,16,17,18,19],[]),(9,[37,38,39],[]),(10,[8,36,40,41,42,43,44],[]),(11,[36,46,47,48,49,50,51,52,53,54,55,56,57],[]),(12,[8,45,58,59,60,61,62,63,64,65,66],[1,3,0,2,4,5,6,7,8,9]),(13,[45,68,69,70],[]),(14,[8,67,71,72,73,74,75,76],[]),(15,[77,78,79,80,81],[]),(16,[82,83,84,85],[]),(6,[8,20,21,22,23,24,25,26,67],[]),(7,[27,28,29,30,31],[]),(8,[32,33,34,35],[]),(4,[14,15],[]),(17,[2,6,86,87],[])] Tryz.f68 = some (ac68,[.cell 4 (some 3),.tmp 5],88) := by kernel_rfl
theorem allLen_rep (i : Nat) (d : D) : allLen 1 (List.replicate i [d]) := fun r hr => by rw [List.eq_of_mem_replicate hr]; rfl
theorem start_calls (H : Heap) : ACalls Tryz.prog 35 [] H (fun r H' => H' = H ∧ r = .agg [.d (.sl (slotsR [])), .d (.int .i64 4), .d (.sl [])]) := by
  refine acalls Tryz.func35 (by kernel_rfl) ac35_ok fun hf => ?_
  simp -implicitDefEqProofs [ac35, go_sem, -List.set_cons_succ, -List.set_cons_zero]
  refine ⟨hf, loop_enter (St.le_tokenC 1 0 1 rfl rfl) ?_⟩
  refine loop_set (σ := Nat) (fun i => [(2, .c (.d (.int .i64 i)))]) (fun _ => H) (fun i => [.cells [.full [], .d (.int .i64 0), .full []], .cells [.own (.l 2) i (List.replicate i [.int .i64 (-1)]), .d (.int .i64 4), .full []], .grow i 1]) (fun i => i ≤ 26) (fun i => 26 - i) 0 (by simp [setAll]) (Nat.zero_le _) ?_
  intro i hi
  simp -implicitDefEqProofs [setAll, go_sem, -List.set_cons_succ, -List.set_cons_zero]
  refine ⟨fun hlt => ?_, fun hge => ?_⟩
  · have hadd : inR .i64 ((i : Int) + 1) := small_i64 (by omega) (by omega)
    simp -implicitDefEqProofs [hadd, go_sem, -List.set_cons_succ, -List.set_cons_zero]
    refine ⟨allLen_rep _ _, by unfold maxApp; omega, hf, loop_back (i + 1) ?_ (by omega) (by show 26 - (i + 1) < 26 - i; omega)⟩
    simp [setAll, List.replicate_succ']
  · obtain rfl : i = 26 := by omega
    have e : slotsR [] = List.replicate 26 [.int .i64 (-1)] := by kernel_rfl
    simp -implicitDefEqProofs [hf, e, go_sem, -List.set_cons_succ, -List.set_cons_zero]
theorem emit_calls (s code : List (List D)) (n op a b : Int) (t : List UInt8) (hc : code.length ≤ 1000000) (ha : allLen 4 code) (H : Heap) :
    ACalls Tryz.prog 65 [.agg [.d (.sl s), .d (.int .i64 n), .d (.sl code)], .agg [.d (.int .i64 op), .d (.int .i64 a), .d (.int .i64 b), .d (.str t)]] H
      (fun r H' => H' = H ∧ r = .agg [.d (.sl s), .d (.int .i64 n), .d (.sl (code ++ [insR op a b t]))]) := by
  refine acalls Tryz.func65 (by kernel_rfl) ac65_ok fun hf => ?_
  simp -implicitDefEqProofs [ac65, go_sem, -List.set_cons_succ, -List.set_cons_zero]
  exact ⟨ha, by unfold maxApp; omega, ha, by unfold maxApp; omega, hf, rfl⟩
theorem slot_calls (m : List (Int × Nat)) (code : List (List D)) (n : Int) (k v : Nat) (hk : k < 26) (hm : slotO m k = none) (hv : v ≤ 1000000) (H : Heap) :
    ACalls Tryz.prog 67 [.agg [.d (.sl (slotsR m)), .d (.int .i64 n), .d (.sl code)], .c (.d (.int .i64 k)), .c (.d (.int .i64 v))] H
      (fun r H' => H' = H ∧ r = .agg [.d (.sl (slotsR (m ++ [((k : Int), v)]))), .d (.int .i64 n), .d (.sl code)]) := by
  refine acalls Tryz.func67 (by kernel_rfl) ac67_ok fun hf => ?_
  simp -implicitDefEqProofs [ac67, slotsR_len, slotsR_all, go_sem, -List.set_cons_succ, -List.set_cons_zero]
  have hne : ¬ slotsR m = [] := fun h => by have := slotsR_len m; rw [h] at this; cases this
  refine ⟨by unfold maxApp; omega, fun h => absurd h hne, fun _ => ⟨hf, hk, ?_⟩⟩
  have hset := slotsR_set m k v hk hm
  rw [slotsR_get m hk, hm]
  simp -implicitDefEqProofs [hset, hf, go_sem, -List.set_cons_succ, -List.set_cons_zero]
theorem var_slot {t : Tm} (ht : t.good) (hk : t.k = 1) : ∃ v : Nat, t.n = v ∧ v < 26 := by
  obtain ⟨k, n, s, l⟩ := t
  cases ht with
  | mk ho _ =>
    rcases own_cases ho with ⟨_, h0, h1, _⟩ | ⟨h, _⟩ | ⟨h, _⟩
    · obtain ⟨v, rfl⟩ := Int.eq_ofNat_of_zero_le h0
      exact ⟨v, rfl, by omega⟩
    · simp only [Tm.k] at hk; omega
    · simp only [Tm.k] at hk; omega
def partR (p : Tm × Nat) : List D := p.1.row ++ [.int .i64 p.2]
theorem partR_len (p : Tm × Nat) : (partR p).length = 5 := by simp [partR, row_len]
theorem args_calls (l : List Tm) (hl : l.length ≤ 1000) (hg : ∀ t ∈ l, t.good) (M : Mk) (B : Nat) (hB : B ≤ 900000) (hM : M.fit B) (H : Heap) :
    ACalls Tryz.prog 68 [.agg [.d (.sl (slotsR M.sl)), .d (.int .i64 M.next), .d (.sl M.code)], .c (.d (.sl (l.map Tm.row)))] H
      (fun r H' => H' = H ∧ r = .tup [.agg [.d (.sl (slotsR (argsT l M).1.sl)), .d (.int .i64 (argsT l M).1.next), .d (.sl (argsT l M).1.code)], .c (.d (.sl ((argsT l M).2.map partR)))]) := by
  refine acalls Tryz.func68 (by kernel_rfl) ac68_ok fun hf => ?_
  have hli : inR .i64 (l.length : Int) := small_i64 (by omega) (by omega)
  simp -implicitDefEqProofs [ac68, hli, go_sem, -List.set_cons_succ, -List.set_cons_zero]
  refine loop_enter (St.le_token 6 5 rfl) ?_
  obtain ⟨F, hF⟩ : ∃ F, F = argsT l M := ⟨_, rfl⟩
  rw [← hF]
  refine loop_set (σ := Nat × Mk × List (Tm × Nat)) (fun x => [(7, .c (.d (.int .i64 x.1))), (6, .c (.own (.l 2) x.2.2.length (x.2.2.map partR)))]) (fun _ => H)
    (fun x => [.cells [.d (.sl (slotsR x.2.1.sl)), .d (.int .i64 x.2.1.next), .d (.sl x.2.1.code)], .cells [.full [], .d (.int .i64 0), .full []], .grow x.2.2.length 5])
    (fun x => x.1 ≤ l.length ∧ x.2.1.fit (B + 2 * x.1) ∧ F.1 = (argsT (l.drop x.1) x.2.1).1 ∧ F.2 = x.2.2 ++ (argsT (l.drop x.1) x.2.1).2 ∧ x.2.2.length ≤ x.1) (fun x => l.length - x.1) (0, M, []) (by simp [setAll]) ⟨Nat.zero_le _, hM.mono (by omega), by simp [hF], by simp [hF], by simp⟩ ?_
  rintro ⟨i, N, left⟩ ⟨hi, hN, h1, h2, h3⟩
  simp only at hi hN h1 h2 h3
  simp -implicitDefEqProofs [setAll, hli, go_sem, -List.set_cons_succ, -List.set_cons_zero]
  refine ⟨fun hlt => ?_, fun hge => ?_⟩
  · have hadd : inR .i64 ((i : Int) + 1) := small_i64 (by omega) (by omega)
    have hnx := hN.next
    have hcd := hN.code
    have hni : inR .i64 (N.next : Int) := small_i64 (by omega) (by omega)
    have hnj : inR .i64 ((N.next : Int) + 1) := small_i64 (by omega) (by omega)
    have hal := hN.all
    have hgt := hg l[i] (List.getElem_mem hlt)
    have hd : l.drop i = l[i] :: l.drop (i + 1) := List.drop_eq_getElem_cons hlt
    rw [hd, argsT] at h1 h2
    have hrow : (l.map Tm.row)[i]? = some l[i].row := by simp [hlt]
    have hvs := var_slot hgt
    obtain ⟨t, ht⟩ : ∃ t, t = l[i] := ⟨_, rfl⟩
    rw [← ht] at hgt h1 h2 hrow hvs
    clear ht
    obtain ⟨k, n, s, kids⟩ := t
    refine row_nat _ hrow rfl ?_
    cases hgt with
    | mk ho hk =>
      rcases own_cases ho with ⟨rfl, n0, n1, rfl, rfl⟩ | ⟨rfl, n0, n1, rfl, rfl⟩ | ⟨rfl, rfl, hs2, hl4⟩
      · obtain ⟨v, hv, hv26⟩ := hvs rfl
        simp only [Tm.n] at hv
        subst hv
        simp [Mk.desc, Tm.k, Tm.n] at h1 h2
        have hget := slotsR_get N.sl hv26
        simp -implicitDefEqProofs [row_mk, hf, go_sem, -List.set_cons_succ, -List.set_cons_zero]
        refine row_nat _ hget rfl ?_
        cases hsv : slotO N.sl v with
        | some u =>
          simp only [hsv] at h1 h2
          have hu0 : ¬ (u : Int) < 0 := by omega
          simp -implicitDefEqProofs [hu0, hf, go_sem, -List.set_cons_succ, -List.set_cons_zero]
          refine row_nat _ hget rfl ?_
          simp -implicitDefEqProofs [hsv, hf, go_sem, -List.set_cons_succ, -List.set_cons_zero]
          refine qcall_pure (emit_calls _ _ _ _ _ _ _ (by omega) hal) hf rfl ?_
          simp -implicitDefEqProofs [hadd, hf, go_sem, -List.set_cons_succ, -List.set_cons_zero]
          refine loop_less (i + 1, N.emit 5 u 0 [], left) (St.le_cut [_] ?_ (by simp [Sl.le, A.le_refl_iff, A.le_u_iff, As.lo, A.lo, C.lo, Ref.lo, Cs.lo, Obs.lo, Ob.lo, setAll, and_true, true_and, List.length_nil, List.length_cons]) rfl (by simp [Sl.le, A.le_refl_iff, A.le_u_iff, As.lo, A.lo, C.lo, Ref.lo, Cs.lo, Obs.lo, Ob.lo, setAll, and_true, true_and, List.length_nil, List.length_cons])) ⟨hlt, (hN.emit ..).mono (by omega), h1, h2, by simp only; omega⟩ (by show l.length - (i + 1) < l.length - i; omega)
          simp [setAll, Sl.le, A.le_refl_iff, A.le_u_iff, As.lo, A.lo, C.lo, Ref.lo, Cs.lo, Obs.lo, Ob.lo, setAll, and_true, true_and, List.length_nil, List.length_cons]
        | none =>
          simp only [hsv] at h1 h2
          simp -implicitDefEqProofs [hf, go_sem, -List.set_cons_succ, -List.set_cons_zero]
          refine qcall_pure (slot_calls N.sl N.code _ v N.next hv26 hsv (by omega)) hf rfl ?_
          simp -implicitDefEqProofs [hf, go_sem, -List.set_cons_succ, -List.set_cons_zero]
          refine qcall_pure (emit_calls _ _ _ _ _ _ _ (by omega) hal) hf rfl ?_
          simp -implicitDefEqProofs [hadd, hnj, hf, go_sem, -List.set_cons_succ, -List.set_cons_zero]
          refine loop_less (i + 1, ((N.give v N.next).emit 4 N.next 0 []).bump, left) (St.le_cut [_] ?_ (by simp [Sl.le, A.le_refl_iff, A.le_u_iff, As.lo, A.lo, C.lo, Ref.lo, Cs.lo, Obs.lo, Ob.lo, setAll, and_true, true_and, List.length_nil, List.length_cons]) rfl (by simp [Sl.le, A.le_refl_iff, A.le_u_iff, As.lo, A.lo, C.lo, Ref.lo, Cs.lo, Obs.lo, Ob.lo, setAll, and_true, true_and, List.length_nil, List.length_cons])) ⟨hlt, ((hN.give _ _ hnx).emit ..).bump.mono (by omega), h1, h2, by simp only; omega⟩ (by show l.length - (i + 1) < l.length - i; omega)
          simp [setAll, Sl.le, A.le_refl_iff, A.le_u_iff, As.lo, A.lo, C.lo, Ref.lo, Cs.lo, Obs.lo, Ob.lo, setAll, and_true, true_and, List.length_nil, List.length_cons]
      · simp [Mk.desc, Tm.k, Tm.n] at h1 h2
        simp -implicitDefEqProofs [row_mk, hf, go_sem, -List.set_cons_succ, -List.set_cons_zero]
        refine qcall_pure (emit_calls _ _ _ _ _ _ _ (by omega) hal) hf rfl ?_
        simp -implicitDefEqProofs [hadd, hf, go_sem, -List.set_cons_succ, -List.set_cons_zero]
        refine loop_less (i + 1, N.emit 6 n 0 [], left) (St.le_cut [_] ?_ (by simp [Sl.le, A.le_refl_iff, A.le_u_iff, As.lo, A.lo, C.lo, Ref.lo, Cs.lo, Obs.lo, Ob.lo, setAll, and_true, true_and, List.length_nil, List.length_cons]) rfl (by simp [Sl.le, A.le_refl_iff, A.le_u_iff, As.lo, A.lo, C.lo, Ref.lo, Cs.lo, Obs.lo, Ob.lo, setAll, and_true, true_and, List.length_nil, List.length_cons])) ⟨hlt, (hN.emit ..).mono (by omega), h1, h2, by simp only; omega⟩ (by show l.length - (i + 1) < l.length - i; omega)
        simp [setAll, Sl.le, A.le_refl_iff, A.le_u_iff, As.lo, A.lo, C.lo, Ref.lo, Cs.lo, Obs.lo, Ob.lo, setAll, and_true, true_and, List.length_nil, List.length_cons]
      · simp [Tm.k] at h1 h2
        simp -implicitDefEqProofs [row_mk, hf, go_sem, -List.set_cons_succ, -List.set_cons_zero]
        refine row_off [.int .i64 0] ?_
        simp -implicitDefEqProofs [hf, go_sem, -List.set_cons_succ, -List.set_cons_zero]
        refine ⟨allLen_map partR_len, by unfold maxApp; omega, qcall_pure (emit_calls _ _ _ _ _ _ _ (by omega) hal) hf rfl ?_⟩
        simp -implicitDefEqProofs [hadd, hnj, hf, go_sem, -List.set_cons_succ, -List.set_cons_zero]
        refine loop_less (i + 1, (N.emit 4 N.next 0 []).bump, left ++ [(.mk 3 0 s kids, N.next)]) (St.le_cut [_] ?_ (by simp [Sl.le, A.le_refl_iff, A.le_u_iff, As.lo, A.lo, C.lo, Ref.lo, Cs.lo, Obs.lo, Ob.lo, setAll, and_true, true_and, List.length_nil, List.length_cons]) (by simp [Mk.emit, Mk.bump]; rfl) (by simp [Sl.le, A.le_refl_iff, A.le_u_iff, As.lo, A.lo, C.lo, Ref.lo, Cs.lo, Obs.lo, Ob.lo, setAll, and_true, true_and, List.length_nil, List.length_cons])) ⟨hlt, (hN.emit ..).bump.mono (by omega), h1, by simp [h2], by simp; omega⟩ (by show l.length - (i + 1) < l.length - i; omega)
        simp [setAll, partR, row_mk, Sl.le, A.le_refl_iff, A.le_u_iff, As.lo, A.lo, C.lo, Ref.lo, Cs.lo, Obs.lo, Ob.lo, setAll, and_true, true_and, List.length_nil, List.length_cons]
  · obtain rfl : i = l.length := by omega
    simp [argsT] at h1 h2
    simp -implicitDefEqProofs [h1, h2, hf, go_sem, -List.set_cons_succ, -List.set_cons_zero]
-- 34 loop.example/prologserver/spec.l8Head params 2 ntmps 106
-- loop head live: [1,2,4,5,6]
-- loop head live: [2,4,5,8]
def ac34 : Cd := .seq (.region [⟨(some 2),.box (.t 0),none⟩,
 ⟨(some 4),.alloc [(.full []),(.d (.int .i64 0)),(.full [])],none⟩] [0])
 (.seq (.region [⟨(some 12),.buildSlice 5 0 [(.int .i64 0),(.int .i64 0),(.str []),(.sl []),(.int .i64 0)] [],none⟩,
 ⟨(some 5),.mv (.t 12),none⟩] [12])
 (.seq (.seq (.region [⟨(some 6),.mv (.k (.c (.d (.int .i64 0)))),none⟩] [])
 (.block 0 (.loop (.seq (.seq (.region [⟨(some 13),.mv (.t 6),none⟩,
 ⟨(some 14),.mv (.t 1),none⟩,
 ⟨(some 15),.len 1 (.t 14),none⟩,
 ⟨(some 16),.bin .lss (.t 13) (.t 15),none⟩] [13,14,15])
 (.cond (.t 16)
 (.skip)
 (.exit 0)))
 (.seq (.block 1 (.seq (.region [⟨(some 19),.mv (.t 1),none⟩,
 ⟨(some 20),.mv (.t 6),none⟩,
 ⟨(some 21),.indexAddr 4 (.t 19) (.t 20),none⟩,
 ⟨(some 22),.load (some 4) (.t 21),none⟩,
 ⟨(some 7),.alloc [(.d (.int .i64 0)),(.d (.int .i64 0)),(.d (.str [])),(.full [])],none⟩,
 ⟨none,.store 4 (.t 7) (.t 22),none⟩] [16,19,20,21,22])
 (.block 2 (.seq (.region [⟨(some 30),.fieldAddr 0 (.t 7),none⟩,
 ⟨(some 31),.load none (.t 30),none⟩,
 ⟨(some 32),.bin .eql (.t 31) (.k (.c (.d (.int .i64 2)))),none⟩,
 ⟨(some 29),.mv (.t 32),none⟩] [30,31,32])
 (.cond (.t 29)
 (.region [⟨(some 33),.load (some 3) (.t 2),none⟩,
 ⟨(some 34),.fieldAddr 1 (.t 7),none⟩,
 ⟨(some 35),.load none (.t 34),none⟩,
 ⟨(some 36),.mv (.t 6),none⟩,
 ⟨(some 37),.build [(.d (.int .i64 0)),(.d (.int .i64 0)),(.d (.int .i64 0)),(.d (.str []))] [(0,1,(.k (.c (.d (.int .i64 2))))),(1,1,(.t 35)),(2,1,(.t 36))],none⟩,
 ⟨(some 38),.qcall 65 [(.t 33),(.t 37)],none⟩,
 ⟨none,.store 3 (.t 2) (.t 38),none⟩] [7,29,33,34,35,36,37,38])
 (.seq (.region [⟨(some 40),.fieldAddr 0 (.t 7),none⟩,
 ⟨(some 41),.load none (.t 40),none⟩,
 ⟨(some 42),.bin .eql (.t 41) (.k (.c (.d (.int .i64 1)))),none⟩,
 ⟨(some 43),.mv (.t 42),none⟩,
 ⟨(some 44),.fieldAddr 0 (.t 2),some (43,true)⟩,
 ⟨(some 45),.load none (.t 44),some (43,true)⟩,
 ⟨(some 46),.fieldAddr 1 (.t 7),some (43,true)⟩,
 ⟨(some 47),.load none (.t 46),some (43,true)⟩,
 ⟨(some 48),.indexAddr 1 (.t 45) (.t 47),some (43,true)⟩,
 ⟨(some 49),.load none (.t 48),some (43,true)⟩,
 ⟨(some 50),.bin .geq (.t 49) (.k (.c (.d (.int .i64 0)))),some (43,true)⟩,
 ⟨(some 51),.pick (.t 43) (.t 50) (.k (.c (.d (.bool false)))),none⟩,
 ⟨(some 39),.mv (.t 51),none⟩] [29,40,41,42,43,44,45,46,47,48,49,50,51])
 (.cond (.t 39)
 (.region [⟨(some 53),.fieldAddr 0 (.t 2),none⟩,
 ⟨(some 55),.fieldAddr 1 (.t 7),none⟩,
 ⟨(some 59),.mv (.t 6),none⟩,
 ⟨(some 52),.load (some 3) (.t 2),none⟩,
 ⟨(some 54),.load none (.t 53),none⟩,
 ⟨(some 56),.load none (.t 55),none⟩,
 ⟨(some 57),.indexAddr 1 (.t 54) (.t 56),none⟩,
 ⟨(some 58),.load none (.t 57),none⟩,
 ⟨(some 60),.build [(.d (.int .i64 0)),(.d (.int .i64 0)),(.d (.int .i64 0)),(.d (.str []))] [(0,1,(.k (.c (.d (.int .i64 1))))),(1,1,(.t 58)),(2,1,(.t 59))],none⟩,
 ⟨(some 61),.qcall 65 [(.t 52),(.t 60)],none⟩,
 ⟨none,.store 3 (.t 2) (.t 61),none⟩] [7,39,52,53,54,55,56,57,58,59,60,61])
 (.seq (.region [⟨(some 63),.fieldAddr 0 (.t 7),none⟩,
 ⟨(some 64),.load none (.t 63),none⟩,
 ⟨(some 65),.bin .eql (.t 64) (.k (.c (.d (.int .i64 1)))),none⟩,
 ⟨(some 62),.mv (.t 65),none⟩] [39,63,64,65])
 (.cond (.t 62)
 (.region [⟨(some 66),.load (some 3) (.t 2),none⟩,
 ⟨(some 67),.fieldAddr 1 (.t 7),none⟩,
 ⟨(some 68),.load none (.t 67),none⟩,
 ⟨(some 69),.mv (.t 6),none⟩,
 ⟨(some 70),.qcall 67 [(.t 66),(.t 68),(.t 69)],none⟩,
 ⟨none,.store 3 (.t 2) (.t 70),none⟩] [7,62,66,67,68,69,70])
 (.region [⟨(some 23),.mv (.t 5),none⟩,
 ⟨(some 24),.load (some 4) (.t 7),none⟩,
 ⟨(some 25),.mv (.t 6),none⟩,
 ⟨(some 26),.build [(.d (.int .i64 0)),(.d (.int .i64 0)),(.d (.str [])),(.full []),(.d (.int .i64 0))] [(0,4,(.t 24)),(4,1,(.t 25))],none⟩,
 ⟨(some 27),.buildSlice 5 1 [(.int .i64 0),(.int .i64 0),(.str []),(.sl []),(.int .i64 0)] [(0,(.t 26))],none⟩,
 ⟨(some 28),.append false 5 (.t 23) (.t 27),none⟩,
 ⟨(some 5),.mv (.t 28),none⟩] [7,23,24,25,26,27,28,62]))))))))))
 (.region [⟨(some 17),.mv (.t 6),none⟩,
 ⟨(some 18),.bin .add (.t 17) (.k (.c (.d (.int .i64 1)))),none⟩,
 ⟨(some 6),.mv (.t 18),none⟩] [17,18]))))))
 (.seq (.seq (.region [⟨(some 8),.mv (.k (.c (.d (.int .i64 0)))),none⟩] [])
 (.block 3 (.loop (.seq (.seq (.region [⟨(some 71),.mv (.t 8),none⟩,
 ⟨(some 72),.mv (.t 5),none⟩,
 ⟨(some 73),.len 1 (.t 72),none⟩,
 ⟨(some 74),.bin .lss (.t 71) (.t 73),none⟩] [71,72,73])
 (.cond (.t 74)
 (.skip)
 (.exit 3)))
 (.seq (.block 4 (.seq (.region [⟨(some 77),.mv (.t 5),none⟩,
 ⟨(some 78),.mv (.t 8),none⟩,
 ⟨(some 79),.indexAddr 5 (.t 77) (.t 78),none⟩,
 ⟨(some 80),.load (some 5) (.t 79),none⟩,
 ⟨(some 9),.alloc [(.d (.int .i64 0)),(.d (.int .i64 0)),(.d (.str [])),(.full []),(.d (.int .i64 0))],none⟩,
 ⟨none,.store 5 (.t 9) (.t 80),none⟩] [74,77,78,79,80])
 (.seq (.region [⟨(some 81),.load (some 3) (.t 2),none⟩,
 ⟨(some 82),.fieldAddr 0 (.t 9),none⟩,
 ⟨(some 83),.fieldAddr 3 (.t 82),none⟩,
 ⟨(some 84),.load none (.t 83),none⟩,
 ⟨(some 85),.len 1 (.t 84),none⟩,
 ⟨(some 86),.fieldAddr 4 (.t 9),none⟩,
 ⟨(some 87),.load none (.t 86),none⟩,
 ⟨(some 88),.fieldAddr 0 (.t 9),none⟩,
 ⟨(some 89),.fieldAddr 2 (.t 88),none⟩,
 ⟨(some 90),.load none (.t 89),none⟩,
 ⟨(some 91),.build [(.d (.int .i64 0)),(.d (.int .i64 0)),(.d (.int .i64 0)),(.d (.str []))] [(0,1,(.k (.c (.d (.int .i64 3))))),(1,1,(.t 85)),(2,1,(.t 87)),(3,1,(.t 90))],none⟩,
 ⟨(some 92),.qcall 65 [(.t 81),(.t 91)],none⟩,
 ⟨none,.store 3 (.t 2) (.t 92),none⟩] [81,82,83,84,85,86,87,88,89,90,91,92])
 (.seq (.region [⟨(some 94),.load (some 3) (.t 2),none⟩,
 ⟨(some 95),.fieldAddr 0 (.t 9),none⟩,
 ⟨(some 96),.fieldAddr 3 (.t 95),none⟩,
 ⟨(some 97),.load none (.t 96),none⟩,
 ⟨(some 98),.qcall 68 [(.t 94),(.t 97)],none⟩,
 ⟨(some 93),.mv (.t 98),none⟩,
 ⟨(some 99),.extract 0 (.t 93),none⟩,
 ⟨(some 100),.extract 1 (.t 93),none⟩,
 ⟨(some 10),.alloc [(.full []),(.d (.int .i64 0)),(.full [])],none⟩,
 ⟨none,.store 3 (.t 10) (.t 99),none⟩,
 ⟨(some 11),.mv (.t 100),none⟩] [9,93,94,95,96,97,98,99,100])
 (.seq (.region [⟨(some 101),.load (some 3) (.t 10),none⟩,
 ⟨none,.store 3 (.t 2) (.t 101),none⟩] [10,101])
 (.region [⟨(some 102),.mv (.t 5),none⟩,
 ⟨(some 103),.mv (.t 11),none⟩,
 ⟨(some 104),.append false 5 (.t 102) (.t 103),none⟩,
 ⟨(some 5),.mv (.t 104),none⟩] [11,102,103,104]))))))
 (.region [⟨(some 75),.mv (.t 8),none⟩,
 ⟨(some 76),.bin .add (.t 75) (.k (.c (.d (.int .i64 1)))),none⟩,
 ⟨(some 8),.mv (.t 76),none⟩] [75,76]))))))
 (.seq (.region [⟨(some 105),.load (some 3) (.t 2),none⟩,
 ⟨none,.store 3 (.t 4) (.t 105),none⟩] [2,105])
 (.ret)))))
theorem ac34_ok : cFunc Tryz.prog [1000065,1000067,1000068] [(0,[0],[]),(1,[12],[]),(2,[],[]),(3,[13,14,15],[]),(5,[16,19,20,21,22],[]),(7,[30,31,32],[]),(8,[7,29,33,34,35,36,37,38],[]),(9,[29,40,41,42,43,44,45,46,47,48,49,50,51],[]),(10,[7,39,52,53,54,55,56,57,58,59,60,61],[1,3,7,0,2,4,5,6,8,9,10]),(11,[39,63,64,65],[]),(12,[7,62,66,67,68,69,70],[]),(6,[7,23,24,25,26,27,28,62],[]),(4,[17,18],[]),(13,[],[]),(14,[71,72,73],[]),(16,[74,77,78,79,80],[]),(17,[81,82,83,84,85,86,87,88,89,90,91,92],[]),(18,[9,93,94,95,96,97,98,99,100],[]),(19,[10,101],[]),(20,[11,102,103,104],[]),(15,[75,76],[]),(21,[2,105],[])] Tryz.f34 = some (ac34,[.cell 4 (some 3)],106) := by kernel_rfl
theorem qsize_app (a b : List (Tm × Nat)) : qsize (a ++ b) = qsize a + qsize b := by simp [qsize]
theorem good_kids {k n : Int} {s : List UInt8} {l : List Tm} (h : (Tm.mk k n s l).good) : l.length ≤ 4 ∧ ∀ t ∈ l, t.good := by
  cases h with
  | mk ho hk =>
    rcases own_cases ho with ⟨_, _, _, _, rfl⟩ | ⟨_, _, _, _, rfl⟩ | ⟨_, _, _, h4⟩
    · exact ⟨by simp, hk⟩
    · exact ⟨by simp, hk⟩
    · exact ⟨h4, hk⟩
theorem head_calls (l : List Tm) (hl : l.length ≤ 4) (hz : sizes l ≤ 1000) (hg : ∀ t ∈ l, t.good) (M : Mk) (B : Nat) (hB4 : 4 ≤ B) (hB : B ≤ 10000) (hM : M.fit B) (H : Heap) :
    ACalls Tryz.prog 34 [.agg [.d (.sl (slotsR M.sl)), .d (.int .i64 M.next), .d (.sl M.code)], .c (.d (.sl (l.map Tm.row)))] H
      (fun r H' => H' = H ∧ r = .agg [.d (.sl (slotsR (headT l M).sl)), .d (.int .i64 (headT l M).next), .d (.sl (headT l M).code)]) := by
  refine acalls Tryz.func34 (by kernel_rfl) ac34_ok fun hf => ?_
  have hli : inR .i64 (l.length : Int) := small_i64 (by omega) (by omega)
  simp -implicitDefEqProofs [ac34, hli, go_sem, -List.set_cons_succ, -List.set_cons_zero]
  refine loop_enter (St.le_token 5 5 rfl) ?_
  obtain ⟨F, hF⟩ : ∃ F, F = headA l 0 M := ⟨_, rfl⟩
  have hFT : headT l M = headQ (qsize F.2) F.2 F.1 := by rw [hF]; rfl
  rw [hFT]
  have hFf := headA_fit l 0 M B hM (by omega)
  rw [← hF] at hFf
  refine loop_set (σ := Nat × Mk × List (Tm × Nat)) (fun x => [(6, .c (.d (.int .i64 x.1))), (5, .c (.own (.l 2) x.2.2.length (x.2.2.map partR)))]) (fun _ => H)
    (fun x => [.cells [.d (.sl (slotsR x.2.1.sl)), .d (.int .i64 x.2.1.next), .d (.sl x.2.1.code)], .cells [.full [], .d (.int .i64 0), .full []], .grow x.2.2.length 5])
    (fun x => x.1 ≤ l.length ∧ x.2.1.fit (B + x.1) ∧ F.1 = (headA (l.drop x.1) x.1 x.2.1).1 ∧ F.2 = x.2.2 ++ (headA (l.drop x.1) x.1 x.2.1).2 ∧ x.2.2.length ≤ x.1) (fun x => l.length - x.1) (0, M, []) (by simp [setAll]) ⟨Nat.zero_le _, hM.mono (by omega), by simp [hF], by simp [hF], by simp⟩ ?_
  rintro ⟨i, N, left⟩ ⟨hi, hN, h1, h2, h3⟩
  simp only at hi hN h1 h2 h3
  simp -implicitDefEqProofs [setAll, hli, go_sem, -List.set_cons_succ, -List.set_cons_zero]
  refine ⟨fun hlt => ?_, fun hge => ?_⟩
  · have hadd : inR .i64 ((i : Int) + 1) := small_i64 (by omega) (by omega)
    have hnx := hN.next
    have hcd := hN.code
    have hal := hN.all
    have hgt := hg l[i] (List.getElem_mem hlt)
    have hd : l.drop i = l[i] :: l.drop (i + 1) := List.drop_eq_getElem_cons hlt
    rw [hd, headA] at h1 h2
    have hrow : (l.map Tm.row)[i]? = some l[i].row := by simp [hlt]
    have hvs := var_slot hgt
    obtain ⟨t, ht⟩ : ∃ t, t = l[i] := ⟨_, rfl⟩
    rw [← ht] at hgt h1 h2 hrow hvs
    clear ht
    obtain ⟨k, n, s, kids⟩ := t
    refine row_nat _ hrow rfl ?_
    cases hgt with
    | mk ho hk =>
      rcases own_cases ho with ⟨rfl, n0, n1, rfl, rfl⟩ | ⟨rfl, n0, n1, rfl, rfl⟩ | ⟨rfl, rfl, hs2, hl4⟩
      · obtain ⟨v, hv, hv26⟩ := hvs rfl
        simp only [Tm.n] at hv
        subst hv
        simp [Tm.k, Tm.n] at h1 h2
        have hget := slotsR_get N.sl hv26
        simp -implicitDefEqProofs [row_mk, hf, go_sem, -List.set_cons_succ, -List.set_cons_zero]
        refine row_nat _ hget rfl ?_
        cases hsv : slotO N.sl v with
        | some u =>
          simp only [hsv] at h1 h2
          have hu0 : ¬ (u : Int) < 0 := by omega
          simp -implicitDefEqProofs [hu0, hf, go_sem, -List.set_cons_succ, -List.set_cons_zero]
          refine row_nat _ hget rfl ?_
          simp -implicitDefEqProofs [hsv, hf, go_sem, -List.set_cons_succ, -List.set_cons_zero]
          refine qcall_pure (emit_calls _ _ _ _ _ _ _ (by omega) hal) hf rfl ?_
          simp -implicitDefEqProofs [hadd, hf, go_sem, -List.set_cons_succ, -List.set_cons_zero]
          refine loop_less (i + 1, N.emit 1 u i [], left) (St.le_cut [_] ?_ (by simp [Sl.le, A.le_refl_iff, A.le_u_iff, As.lo, A.lo, C.lo, Ref.lo, Cs.lo, Obs.lo, Ob.lo, setAll, and_true, true_and, List.length_nil, List.length_cons]) rfl (by simp [Sl.le, A.le_refl_iff, A.le_u_iff, As.lo, A.lo, C.lo, Ref.lo, Cs.lo, Obs.lo, Ob.lo, setAll, and_true, true_and, List.length_nil, List.length_cons])) ⟨hlt, (hN.emit ..).mono (by omega), h1, h2, by simp only; omega⟩ (by show l.length - (i + 1) < l.length - i; omega)
          simp [setAll, Sl.le, A.le_refl_iff, A.le_u_iff, As.lo, A.lo, C.lo, Ref.lo, Cs.lo, Obs.lo, Ob.lo, setAll, and_true, true_and, List.length_nil, List.length_cons]
        | none =>
          simp only [hsv] at h1 h2
          simp -implicitDefEqProofs [hf, go_sem, -List.set_cons_succ, -List.set_cons_zero]
          refine qcall_pure (slot_calls N.sl N.code _ v i hv26 hsv (by omega)) hf rfl ?_
          simp -implicitDefEqProofs [hadd, hf, go_sem, -List.set_cons_succ, -List.set_cons_zero]
          refine loop_less (i + 1, N.give v i, left) (St.le_cut [_] ?_ (by simp [Sl.le, A.le_refl_iff, A.le_u_iff, As.lo, A.lo, C.lo, Ref.lo, Cs.lo, Obs.lo, Ob.lo, setAll, and_true, true_and, List.length_nil, List.length_cons]) rfl (by simp [Sl.le, A.le_refl_iff, A.le_u_iff, As.lo, A.lo, C.lo, Ref.lo, Cs.lo, Obs.lo, Ob.lo, setAll, and_true, true_and, List.length_nil, List.length_cons])) ⟨hlt, (hN.give _ _ (by omega)).mono (by omega), h1, h2, by simp only; omega⟩ (by show l.length - (i + 1) < l.length - i; omega)
          simp [setAll, Sl.le, A.le_refl_iff, A.le_u_iff, As.lo, A.lo, C.lo, Ref.lo, Cs.lo, Obs.lo, Ob.lo, setAll, and_true, true_and, List.length_nil, List.length_cons]
      · simp [Tm.k, Tm.n] at h1 h2
        simp -implicitDefEqProofs [row_mk, hf, go_sem, -List.set_cons_succ, -List.set_cons_zero]
        refine qcall_pure (emit_calls _ _ _ _ _ _ _ (by omega) hal) hf rfl ?_
        simp -implicitDefEqProofs [hadd, hf, go_sem, -List.set_cons_succ, -List.set_cons_zero]
        refine loop_less (i + 1, N.emit 2 n i [], left) (St.le_cut [_] ?_ (by simp [Sl.le, A.le_refl_iff, A.le_u_iff, As.lo, A.lo, C.lo, Ref.lo, Cs.lo, Obs.lo, Ob.lo, setAll, and_true, true_and, List.length_nil, List.length_cons]) rfl (by simp [Sl.le, A.le_refl_iff, A.le_u_iff, As.lo, A.lo, C.lo, Ref.lo, Cs.lo, Obs.lo, Ob.lo, setAll, and_true, true_and, List.length_nil, List.length_cons])) ⟨hlt, (hN.emit ..).mono (by omega), h1, h2, by simp only; omega⟩ (by show l.length - (i + 1) < l.length - i; omega)
        simp [setAll, Sl.le, A.le_refl_iff, A.le_u_iff, As.lo, A.lo, C.lo, Ref.lo, Cs.lo, Obs.lo, Ob.lo, setAll, and_true, true_and, List.length_nil, List.length_cons]
      · simp [Tm.k] at h1 h2
        simp -implicitDefEqProofs [row_mk, hf, go_sem, -List.set_cons_succ, -List.set_cons_zero]
        refine row_off [.int .i64 0] ?_
        simp -implicitDefEqProofs [hadd, hf, go_sem, -List.set_cons_succ, -List.set_cons_zero]
        refine ⟨allLen_map partR_len, by unfold maxApp; omega, ?_⟩
        refine loop_less (i + 1, N, left ++ [(.mk 3 0 s kids, i)]) (St.le_cut [_] ?_ (by simp [Sl.le, A.le_refl_iff, A.le_u_iff, As.lo, A.lo, C.lo, Ref.lo, Cs.lo, Obs.lo, Ob.lo, setAll, and_true, true_and, List.length_nil, List.length_cons]) (by simp; rfl) (by simp [Sl.le, A.le_refl_iff, A.le_u_iff, As.lo, A.lo, C.lo, Ref.lo, Cs.lo, Obs.lo, Ob.lo, setAll, and_true, true_and, List.length_nil, List.length_cons])) ⟨hlt, hN.mono (by omega), h1, by simp [h2], by simp; omega⟩ (by show l.length - (i + 1) < l.length - i; omega)
        simp [setAll, partR, row_mk, Sl.le, A.le_refl_iff, A.le_u_iff, As.lo, A.lo, C.lo, Ref.lo, Cs.lo, Obs.lo, Ob.lo, setAll, and_true, true_and, List.length_nil, List.length_cons]
  · obtain rfl : i = l.length := by omega
    simp [headA] at h1 h2
    rw [h1, h2]
    rw [h1, h2] at hFf
    obtain ⟨_, g2, g3, g4⟩ := hFf
    obtain ⟨G, hG⟩ : ∃ G, G = headQ (qsize left) left N := ⟨_, rfl⟩
    rw [← hG]
    refine loop_set (σ := Nat × Nat × Mk × List (Tm × Nat)) (fun x => [(8, .c (.d (.int .i64 x.1))), (5, .c (.own (.l 2) x.2.2.2.length (x.2.2.2.map partR)))]) (fun _ => H)
      (fun x => [.cells [.d (.sl (slotsR x.2.2.1.sl)), .d (.int .i64 x.2.2.1.next), .d (.sl x.2.2.1.code)], .cells [.full [], .d (.int .i64 0), .full []], .grow x.2.2.2.length 5])
      (fun x => x.1 ≤ x.2.2.2.length ∧ headQ x.2.1 (x.2.2.2.drop x.1) x.2.2.1 = G ∧ qsize (x.2.2.2.drop x.1) ≤ x.2.1 ∧ (∃ C, x.2.2.1.fit C ∧ C + 6 * qsize (x.2.2.2.drop x.1) ≤ 20000 + 4 * (x.2.2.2.drop x.1).length) ∧ x.1 + qsize (x.2.2.2.drop x.1) ≤ 1000 ∧ ∀ p ∈ x.2.2.2.drop x.1, p.1.good) (fun x => qsize (x.2.2.2.drop x.1)) (0, qsize left, N, left) (by simp [setAll]) ⟨Nat.zero_le _, by simp [hG], by simp, ⟨_, hN, by simp; omega⟩, by simp; omega, by simpa using fun p hp => hg _ (g2 p hp).1⟩ ?_
    rintro ⟨j, f, P, work⟩ ⟨hj, e1, e2, ⟨cc, hP, e3⟩, e4, e5⟩
    simp only at hj e1 e2 hP e3 e4 e5
    have hwl : work.length ≤ 1000 := by
      have := qsize_pos (work.drop j)
      simp at this
      omega
    have hwi : inR .i64 (work.length : Int) := small_i64 (by omega) (by omega)
    simp -implicitDefEqProofs [setAll, hwi, go_sem, -List.set_cons_succ, -List.set_cons_zero]
    refine ⟨fun hlt => ?_, fun hge => ?_⟩
    · have hadd : inR .i64 ((j : Int) + 1) := small_i64 (by omega) (by omega)
      have hd : work.drop j = work[j] :: work.drop (j + 1) := List.drop_eq_getElem_cons hlt
      have hrow : (work.map partR)[j]? = some (partR work[j]) := by simp [hlt]
      obtain ⟨p, hp⟩ : ∃ p, p = work[j] := ⟨_, rfl⟩
      rw [← hp] at hd hrow
      rw [hd] at e1 e2 e3 e4 e5
      have hpg := e5 p (by simp)
      have hdl : (work.drop (j + 1)).length ≤ work.length := by simp
      obtain ⟨⟨k, n, s, kids⟩, at'⟩ := p
      have hkg := good_kids hpg
      have hz1 := args_size kids (P.emit 3 kids.length at' s)
      have hsz : (Tm.mk k n s kids).size = 1 + sizes kids := by rw [Tm.size]
      simp only [qsize, List.map_cons, List.sum_cons, List.length_cons, hsz] at e2 e3 e4
      rw [← qsize] at e2 e3 e4
      cases f with
      | zero => omega
      | succ f =>
        rw [headQ] at e1
        simp only [Tm.kids, Tm.s] at e1
        have hcd := hP.code
        have hal := hP.all
        have hci : inR .i64 (kids.length : Int) := small_i64 (by omega) (by omega)
        have hP2 := hP.emit 3 kids.length at' s
        have cag := args_calls kids (by omega) hkg.2 (P.emit 3 kids.length at' s) _ (by omega) hP2
        have hfa := args_fit kids _ _ hP2
        obtain ⟨R, hR⟩ : ∃ R, R = argsT kids (P.emit 3 kids.length at' s) := ⟨_, rfl⟩
        rw [← hR] at cag hz1 e1 hfa
        refine row_nat _ hrow (partR_len _) ?_
        simp -implicitDefEqProofs [partR, row_mk, hf, hci, go_sem, -List.set_cons_succ, -List.set_cons_zero]
        refine qcall_pure (emit_calls _ _ _ _ _ _ _ (by omega) hal) hf rfl ?_
        simp -implicitDefEqProofs [hf, go_sem, -List.set_cons_succ, -List.set_cons_zero]
        refine qcall_pure cag hf rfl ?_
        simp -implicitDefEqProofs [hf, hadd, go_sem, -List.set_cons_succ, -List.set_cons_zero]
        have hrl := qsize_pos R.2
        refine ⟨allLen_map partR_len, allLen_map partR_len, by unfold maxApp; omega, ?_⟩
        have hda : (work ++ R.2).drop (j + 1) = work.drop (j + 1) ++ R.2 := List.drop_append_of_le_length (by omega)
        refine loop_less (j + 1, f, R.1, work ++ R.2) (St.le_cut [_, _] ?_ (by simp [Sl.le, A.le_refl_iff, A.le_u_iff, As.lo, A.lo, C.lo, Ref.lo, Cs.lo, Obs.lo, Ob.lo, setAll, and_true, true_and, List.length_nil, List.length_cons]) (by simp; exact ⟨rfl, rfl⟩) (by simp [Sl.le, A.le_refl_iff, A.le_u_iff, As.lo, A.lo, C.lo, Ref.lo, Cs.lo, Obs.lo, Ob.lo, setAll, and_true, true_and, List.length_nil, List.length_cons])) ⟨by simp only [List.length_append]; omega, ?_, ?_, ⟨_, hfa.1, ?_⟩, ?_, ?_⟩ ?_
        · simp [setAll, Sl.le, A.le_refl_iff, A.le_u_iff, As.lo, A.lo, C.lo, Ref.lo, Cs.lo, Obs.lo, Ob.lo, setAll, and_true, true_and, List.length_nil, List.length_cons]
        · show headQ f ((work ++ R.2).drop (j + 1)) R.1 = G
          rw [hda]; exact e1
        · show qsize ((work ++ R.2).drop (j + 1)) ≤ f
          rw [hda, qsize_app]; omega
        · show cc + 1 + 2 * kids.length + 6 * qsize ((work ++ R.2).drop (j + 1)) ≤ 20000 + 4 * ((work ++ R.2).length - (j + 1))
          rw [hda, qsize_app, List.length_append]
          have := List.length_drop (i := j + 1) (l := work)
          omega
        · show j + 1 + qsize ((work ++ R.2).drop (j + 1)) ≤ 1000
          rw [hda, qsize_app]; omega
        · show ∀ a b, (a, b) ∈ (work ++ R.2).drop (j + 1) → a.good
          rw [hda]
          intro a b hp
          rcases List.mem_append.1 hp with hp | hp
          · exact e5 (a, b) (by simp [hp])
          · exact hkg.2 _ (hfa.2 (a, b) hp).1
        · show qsize ((work ++ R.2).drop (j + 1)) < qsize (work.drop j)
          rw [hda, qsize_app, hd]
          simp only [qsize, List.map_cons, List.sum_cons, hsz]
          simp only [← qsize.eq_def]
          omega
    · have hjw : j = work.length := by omega
      subst hjw
      simp [headQ] at e1
      subst e1
      simp -implicitDefEqProofs [hf, go_sem, -List.set_cons_succ, -List.set_cons_zero]
end Go.Proofs.YteighafofbohcaaGreat

/-
  Goals and bodies as the reference makes them.
  Conditions: none.
-/
open Go Go.AM Go.Proofs
namespace Go.Proofs.YteighafofbohcaaGreat
open Go.ChangeShapes Go.WideShapes Go.ChangeAt Go.RowKit
set_option linter.unusedVariables false
set_option linter.unusedSimpArgs false
set_option maxRecDepth 100000
-- 83 loop.example/prologserver/spec.l8Build params 2 ntmps 89
-- loop head live: [2,3,4,6,7]
-- loop head live: [2,3,4,6,9,10]
def ac83 : Cd := .seq (.region [⟨(some 2),.box (.t 0),none⟩,
 ⟨(some 3),.box (.t 1),none⟩,
 ⟨(some 4),.alloc [(.full []),(.d (.int .i64 0)),(.full [])],none⟩,
 ⟨(some 5),.mv (.k (.c (.d (.int .i64 0)))),none⟩] [0,1,5])
 (.seq (.region [⟨(some 13),.buildSlice 1 0 [(.int .i64 0)] [],none⟩,
 ⟨(some 6),.mv (.t 13),none⟩] [13])
 (.seq (.seq (.region [⟨(some 7),.mv (.k (.c (.d (.int .i64 0)))),none⟩] [])
 (.block 0 (.loop (.seq (.seq (.region [⟨(some 14),.mv (.t 7),none⟩,
 ⟨(some 15),.fieldAddr 3 (.t 3),none⟩,
 ⟨(some 16),.load none (.t 15),none⟩,
 ⟨(some 17),.len 1 (.t 16),none⟩,
 ⟨(some 18),.bin .lss (.t 14) (.t 17),none⟩] [14,15,16,17])
 (.cond (.t 18)
 (.skip)
 (.exit 0)))
 (.seq (.block 1 (.seq (.region [⟨(some 8),.mv (.k (.c (.d (.int .i64 (-1))))),none⟩] [18])
 (.seq (.seq (.region [⟨(some 21),.fieldAddr 3 (.t 3),none⟩,
 ⟨(some 22),.load none (.t 21),none⟩,
 ⟨(some 23),.mv (.t 7),none⟩,
 ⟨(some 24),.indexAddr 4 (.t 22) (.t 23),none⟩,
 ⟨(some 25),.fieldAddr 0 (.t 24),none⟩,
 ⟨(some 26),.load none (.t 25),none⟩,
 ⟨(some 27),.bin .eql (.t 26) (.k (.c (.d (.int .i64 3)))),none⟩] [21,22,23,24,25,26])
 (.cond (.t 27)
 (.region [⟨(some 30),.fieldAddr 3 (.t 3),none⟩,
 ⟨(some 32),.mv (.t 7),none⟩,
 ⟨(some 29),.load (some 3) (.t 2),none⟩,
 ⟨(some 31),.load none (.t 30),none⟩,
 ⟨(some 33),.indexAddr 4 (.t 31) (.t 32),none⟩,
 ⟨(some 34),.load (some 4) (.t 33),none⟩,
 ⟨(some 35),.qcall 83 [(.t 29),(.t 34)],none⟩,
 ⟨(some 28),.mv (.t 35),none⟩,
 ⟨(some 36),.extract 0 (.t 28),none⟩,
 ⟨(some 37),.extract 1 (.t 28),none⟩,
 ⟨none,.store 3 (.t 2) (.t 36),none⟩,
 ⟨(some 8),.mv (.t 37),none⟩] [27,28,29,30,31,32,33,34,35,36,37])
 (.skip)))
 (.region [⟨(some 38),.mv (.t 6),none⟩,
 ⟨(some 39),.mv (.t 8),none⟩,
 ⟨(some 40),.buildSlice 1 1 [(.int .i64 0)] [(0,(.t 39))],none⟩,
 ⟨(some 41),.append false 1 (.t 38) (.t 40),none⟩,
 ⟨(some 6),.mv (.t 41),none⟩] [8,27,38,39,40,41]))))
 (.region [⟨(some 19),.mv (.t 7),none⟩,
 ⟨(some 20),.bin .add (.t 19) (.k (.c (.d (.int .i64 1)))),none⟩,
 ⟨(some 7),.mv (.t 20),none⟩] [19,20]))))))
 (.seq (.region [⟨(some 42),.fieldAddr 1 (.t 2),none⟩,
 ⟨(some 43),.load none (.t 42),none⟩,
 ⟨(some 9),.mv (.t 43),none⟩] [42,43])
 (.seq (.region [⟨(some 44),.mv (.t 9),none⟩,
 ⟨(some 45),.bin .add (.t 44) (.k (.c (.d (.int .i64 1)))),none⟩,
 ⟨(some 46),.fieldAddr 1 (.t 2),none⟩,
 ⟨none,.store 1 (.t 46) (.t 45),none⟩] [44,45,46])
 (.seq (.region [⟨(some 47),.load (some 3) (.t 2),none⟩,
 ⟨(some 48),.fieldAddr 3 (.t 3),none⟩,
 ⟨(some 49),.load none (.t 48),none⟩,
 ⟨(some 50),.len 1 (.t 49),none⟩,
 ⟨(some 51),.mv (.t 9),none⟩,
 ⟨(some 52),.fieldAddr 2 (.t 3),none⟩,
 ⟨(some 53),.load none (.t 52),none⟩,
 ⟨(some 54),.build [(.d (.int .i64 0)),(.d (.int .i64 0)),(.d (.int .i64 0)),(.d (.str []))] [(0,1,(.k (.c (.d (.int .i64 7))))),(1,1,(.t 50)),(2,1,(.t 51)),(3,1,(.t 53))],none⟩,
 ⟨(some 55),.qcall 65 [(.t 47),(.t 54)],none⟩,
 ⟨none,.store 3 (.t 2) (.t 55),none⟩] [47,48,49,50,51,52,53,54,55])
 (.seq (.seq (.region [⟨(some 10),.mv (.k (.c (.d (.int .i64 0)))),none⟩] [])
 (.block 2 (.loop (.seq (.seq (.region [⟨(some 56),.mv (.t 10),none⟩,
 ⟨(some 57),.fieldAddr 3 (.t 3),none⟩,
 ⟨(some 58),.load none (.t 57),none⟩,
 ⟨(some 59),.len 1 (.t 58),none⟩,
 ⟨(some 60),.bin .lss (.t 56) (.t 59),none⟩] [56,57,58,59])
 (.cond (.t 60)
 (.skip)
 (.exit 2)))
 (.seq (.block 3 (.seq (.seq (.region [⟨(some 63),.mv (.t 6),none⟩,
 ⟨(some 64),.mv (.t 10),none⟩,
 ⟨(some 65),.indexAddr 1 (.t 63) (.t 64),none⟩,
 ⟨(some 66),.load none (.t 65),none⟩,
 ⟨(some 67),.bin .geq (.t 66) (.k (.c (.d (.int .i64 0)))),none⟩] [60,63,64,65,66])
 (.cond (.t 67)
 (.seq (.region [⟨(some 69),.mv (.t 6),none⟩,
 ⟨(some 70),.mv (.t 10),none⟩,
 ⟨(some 71),.indexAddr 1 (.t 69) (.t 70),none⟩,
 ⟨(some 68),.load (some 3) (.t 2),none⟩,
 ⟨(some 72),.load none (.t 71),none⟩,
 ⟨(some 73),.build [(.d (.int .i64 0)),(.d (.int .i64 0)),(.d (.int .i64 0)),(.d (.str []))] [(0,1,(.k (.c (.d (.int .i64 5))))),(1,1,(.t 72))],none⟩,
 ⟨(some 74),.qcall 65 [(.t 68),(.t 73)],none⟩,
 ⟨none,.store 3 (.t 2) (.t 74),none⟩] [67,68,69,70,71,72,73,74])
 (.exit 3))
 (.skip)))
 (.seq (.region [⟨(some 77),.fieldAddr 3 (.t 3),none⟩,
 ⟨(some 79),.mv (.t 10),none⟩,
 ⟨(some 80),.mv (.t 10),none⟩,
 ⟨(some 81),.bin .add (.t 80) (.k (.c (.d (.int .i64 1)))),none⟩,
 ⟨(some 76),.load (some 3) (.t 2),none⟩,
 ⟨(some 78),.load none (.t 77),none⟩,
 ⟨(some 82),.slice 4 (.t 78) (some (.t 79)) (some (.t 81)) none,none⟩,
 ⟨(some 83),.qcall 68 [(.t 76),(.t 82)],none⟩,
 ⟨(some 75),.mv (.t 83),none⟩,
 ⟨(some 84),.extract 0 (.t 75),none⟩,
 ⟨(some 85),.extract 1 (.t 75),none⟩,
 ⟨(some 11),.alloc [(.full []),(.d (.int .i64 0)),(.full [])],none⟩,
 ⟨none,.store 3 (.t 11) (.t 84),none⟩,
 ⟨(some 12),.mv (.t 85),none⟩] [12,67,75,76,77,78,79,80,81,82,83,84,85])
 (.region [⟨(some 86),.load (some 3) (.t 11),none⟩,
 ⟨none,.store 3 (.t 2) (.t 86),none⟩] [11,86]))))
 (.region [⟨(some 61),.mv (.t 10),none⟩,
 ⟨(some 62),.bin .add (.t 61) (.k (.c (.d (.int .i64 1)))),none⟩,
 ⟨(some 10),.mv (.t 62),none⟩] [61,62]))))))
 (.seq (.region [⟨(some 87),.load (some 3) (.t 2),none⟩,
 ⟨(some 88),.mv (.t 9),none⟩,
 ⟨none,.store 3 (.t 4) (.t 87),none⟩,
 ⟨(some 5),.mv (.t 88),none⟩] [2,9,87,88])
 (.ret))))))))
theorem ac83_ok : cFunc Tryz.prog [1000065,1000068,1000083] [(0,[0,1,5],[]),(1,[13],[]),(2,[],[]),(3,[14,15,16,17],[]),(5,[18],[]),(6,[21,22,23,24,25,26],[]),(7,[27,28,29,30,31,32,33,34,35,36,37],[1,3,0,2,4,5,6,7,8,9,10,11]),(8,[8,27,38,39,40,41],[]),(4,[19,20],[]),(9,[42,43],[]),(10,[44,45,46],[]),(11,[47,48,49,50,51,52,53,54,55],[]),(12,[],[]),(13,[56,57,58,59],[]),(15,[60,63,64,65,66],[]),(16,[67,68,69,70,71,72,73,74],[1,2,3,0,4,5,6,7]),(17,[12,67,75,76,77,78,79,80,81,82,83,84,85],[1,3,4,5,0,2,6,7,8,9,10,11,12,13]),(18,[11,86],[]),(14,[61,62],[]),(19,[2,9,87,88],[])] Tryz.f83 = some (ac83,[.cell 4 (some 3),.tmp 5],89) := by kernel_rfl
theorem buildL_sign : ∀ (l : List Tm) (M : Mk) (i : Nat) (t : Tm) (b : Int), l[i]? = some t → (buildL l M).2[i]? = some b → (t.k = 3 → 0 ≤ b) ∧ (t.k ≠ 3 → b = -1)
  | [], M, i, t, b, h, _ => by cases h
  | u :: l, M, i, t, b, h, h' => by
    unfold buildL at h'
    cases i with
    | zero =>
      simp at h
      subst h
      split at h'
      · rename_i hk
        simp at h'
        exact ⟨fun _ => by omega, fun h => absurd hk h⟩
      · rename_i hk
        simp at h'
        exact ⟨fun h => absurd h hk, fun _ => h'.symm⟩
    | succ i =>
      simp at h
      split at h'
      · simp at h'
        exact buildL_sign l _ i t b h h'
      · simp at h'
        exact buildL_sign l _ i t b h h'
theorem args_one (t : Tm) (h : t.k ≠ 3) (M : Mk) : argsT [t] M = (M.desc t, []) := by simp [argsT, h]
theorem row_slice {l : List Tm} {i : Nat} (h : i < l.length) : ((l.map Tm.row).take (i + 1)).drop i = [l[i]].map Tm.row := by
  rw [List.take_succ_eq_append_getElem (by simpa using h), List.drop_left' (by simp; omega)]
  simp
theorem build_calls : ∀ t : Tm, t.good → ∀ (M : Mk) (B : Nat), B + 6 * t.size ≤ 800000 → M.fit B → ∀ H : Heap,
    ACalls Tryz.prog 83 [.agg [.d (.sl (slotsR M.sl)), .d (.int .i64 M.next), .d (.sl M.code)], .agg (t.row.map .d)] H
      (fun r H' => H' = H ∧ r = .tup [.agg [.d (.sl (slotsR (buildT t M).1.sl)), .d (.int .i64 (buildT t M).1.next), .d (.sl (buildT t M).1.code)], .c (.d (.int .i64 (buildT t M).2))]) := by
  refine Tm.ind fun k n s l ih hg M B hB hM H => ?_
  have hl4 := (good_kids hg).1
  have hkg := (good_kids hg).2
  rw [Tm.size] at hB
  refine acalls Tryz.func83 (by kernel_rfl) ac83_ok fun hf => ?_
  have hli : inR .i64 (l.length : Int) := small_i64 (by omega) (by omega)
  simp -implicitDefEqProofs [ac83, hli, row_mk, go_sem, -List.set_cons_succ, -List.set_cons_zero]
  refine loop_enter (St.le_token 6 1 rfl) ?_
  obtain ⟨F, hF⟩ : ∃ F, F = buildL l M := ⟨_, rfl⟩
  have hFl := buildL_len l M
  have hFs := buildL_sign l M
  have hR : buildT (.mk k n s l) M = (partsT l F.2 (F.1.bump.emit 7 l.length F.1.next s), F.1.next) := by rw [buildT, hF]
  rw [hR]
  rw [← hF] at hFl hFs
  refine loop_set (σ := Nat × Mk × List Int) (fun x => [(7, .c (.d (.int .i64 x.1))), (6, .c (.own (.l 3) x.2.2.length (intRows x.2.2)))]) (fun _ => H)
    (fun x => [.cells [.d (.sl (slotsR x.2.1.sl)), .d (.int .i64 x.2.1.next), .d (.sl x.2.1.code)], .cells [.d (.int .i64 k), .d (.int .i64 n), .d (.str s), .d (.sl (l.map Tm.row))], .cells [.full [], .d (.int .i64 0), .full []], .grow x.2.2.length 1])
    (fun x => x.1 ≤ l.length ∧ (∃ cc, x.2.1.fit cc ∧ cc + 6 * sizes (l.drop x.1) ≤ B + 6 * sizes l) ∧ F.1 = (buildL (l.drop x.1) x.2.1).1 ∧ F.2 = x.2.2 ++ (buildL (l.drop x.1) x.2.1).2 ∧ x.2.2.length = x.1) (fun x => l.length - x.1) (0, M, []) (by simp [setAll, intRows]) ⟨Nat.zero_le _, ⟨B, hM, by simp⟩, by simp [hF], by simp [hF], rfl⟩ ?_
  rintro ⟨i, N, bs⟩ ⟨hi, ⟨cc, hN, hC⟩, h1, h2, h3⟩
  simp only at hi hN hC h1 h2 h3
  simp -implicitDefEqProofs [setAll, hli, go_sem, -List.set_cons_succ, -List.set_cons_zero]
  refine ⟨fun hlt => ?_, fun hge => ?_⟩
  · have hadd : inR .i64 ((i : Int) + 1) := small_i64 (by omega) (by omega)
    have hd : l.drop i = l[i] :: l.drop (i + 1) := List.drop_eq_getElem_cons hlt
    rw [hd, buildL] at h1 h2
    rw [hd, sizes] at hC
    have ihi := ih l[i] (List.getElem_mem hlt) (hkg _ (List.getElem_mem hlt)) N cc (by omega) hN
    have hft := build_fit l[i] N cc hN
    refine row_of hlt (row_len _) ?_
    by_cases hk3 : l[i].k = 3
    · simp only [hk3, if_true] at h1 h2
      obtain ⟨R, hRR⟩ : ∃ R, R = buildT l[i] N := ⟨_, rfl⟩
      rw [← hRR] at h1 h2 ihi hft
      simp -implicitDefEqProofs [row_eq, hf, hk3, go_sem, -List.set_cons_succ, -List.set_cons_zero]
      refine row_of hlt (row_len _) ?_
      rw [row_eq] at ihi ⊢
      simp only [List.map_cons, List.map_nil] at ihi
      simp -implicitDefEqProofs [hf, hk3, go_sem, -List.set_cons_succ, -List.set_cons_zero]
      rw [hk3] at ihi
      refine qcall_pure ihi hf rfl ?_
      simp -implicitDefEqProofs [hf, go_sem, -List.set_cons_succ, -List.set_cons_zero]
      refine ⟨allLen_ints _, by rw [intRows_len]; unfold maxApp; omega, ?_⟩
      simp -implicitDefEqProofs [hadd, hf, go_sem, -List.set_cons_succ, -List.set_cons_zero]
      refine loop_less (i + 1, R.1, bs ++ [(R.2 : Int)]) (St.le_cut [] ?_ (by simp [Sl.le, A.le_refl_iff, A.le_u_iff, As.lo, A.lo, C.lo, Ref.lo, Cs.lo, Obs.lo, Ob.lo, setAll, and_true, true_and, List.length_nil, List.length_cons]) (by simp) (by simp [Sl.le, A.le_refl_iff, A.le_u_iff, As.lo, A.lo, C.lo, Ref.lo, Cs.lo, Obs.lo, Ob.lo, setAll, and_true, true_and, List.length_nil, List.length_cons])) ⟨hlt, ⟨_, hft.1, by dsimp only; omega⟩, h1, by rw [h2]; simp, by simp; omega⟩ (by show l.length - (i + 1) < l.length - i; omega)
      simp [setAll, intRows, Sl.le, A.le_refl_iff, A.le_u_iff, As.lo, A.lo, C.lo, Ref.lo, Cs.lo, Obs.lo, Ob.lo, setAll, and_true, true_and, List.length_nil, List.length_cons]
    · simp only [hk3, if_false] at h1 h2
      simp -implicitDefEqProofs [row_eq, hf, hk3, go_sem, -List.set_cons_succ, -List.set_cons_zero]
      refine ⟨allLen_ints _, by rw [intRows_len]; unfold maxApp; omega, hadd, ?_⟩
      have hsz := size_pos l[i]
      refine loop_less (i + 1, N, bs ++ [-1]) (St.le_cut [] ?_ (by simp [Sl.le, A.le_refl_iff, A.le_u_iff, As.lo, A.lo, C.lo, Ref.lo, Cs.lo, Obs.lo, Ob.lo, setAll, and_true, true_and, List.length_nil, List.length_cons]) (by simp) (by simp [Sl.le, A.le_refl_iff, A.le_u_iff, As.lo, A.lo, C.lo, Ref.lo, Cs.lo, Obs.lo, Ob.lo, setAll, and_true, true_and, List.length_nil, List.length_cons])) ⟨hlt, ⟨cc, hN, by dsimp only; omega⟩, h1, by rw [h2]; simp, by simp; omega⟩ (by show l.length - (i + 1) < l.length - i; omega)
      simp [setAll, intRows, Sl.le, A.le_refl_iff, A.le_u_iff, As.lo, A.lo, C.lo, Ref.lo, Cs.lo, Obs.lo, Ob.lo, setAll, and_true, true_and, List.length_nil, List.length_cons]
  · obtain rfl : i = l.length := by omega
    simp [buildL] at h1 h2
    rw [List.drop_of_length_le (by omega)] at hC
    simp only [sizes, Nat.mul_zero, Nat.add_zero] at hC
    have hnx := hN.next
    have hcd := hN.code
    have hal := hN.all
    have hnj : inR .i64 ((N.next : Int) + 1) := small_i64 (by omega) (by omega)
    rw [h1, h2]
    rw [h2] at hFl hFs
    simp -implicitDefEqProofs [hnj, hli, hf, go_sem, -List.set_cons_succ, -List.set_cons_zero]
    refine qcall_pure (emit_calls _ _ _ _ _ _ _ (by omega) hal) hf rfl ?_
    simp -implicitDefEqProofs [hf, go_sem, -List.set_cons_succ, -List.set_cons_zero]
    obtain ⟨G, hG⟩ : ∃ G, G = partsT l bs (N.bump.emit 7 l.length N.next s) := ⟨_, rfl⟩
    rw [← hG]
    have hN2 := hN.bump.emit 7 l.length N.next s
    refine loop_set (σ := Nat × Mk) (fun x => [(10, .c (.d (.int .i64 x.1)))]) (fun _ => H)
      (fun x => [.cells [.d (.sl (slotsR x.2.sl)), .d (.int .i64 x.2.next), .d (.sl x.2.code)], .cells [.d (.int .i64 k), .d (.int .i64 n), .d (.str s), .d (.sl (l.map Tm.row))], .cells [.full [], .d (.int .i64 0), .full []], .grow bs.length 1])
      (fun x => x.1 ≤ l.length ∧ x.2.fit (cc + 2 + 2 * x.1) ∧ partsT (l.drop x.1) (bs.drop x.1) x.2 = G) (fun x => l.length - x.1) (0, N.bump.emit 7 l.length N.next s) (by simp [setAll, Mk.emit, Mk.bump]) ⟨Nat.zero_le _, hN2.mono (by omega), by simp [hG]⟩ ?_
    rintro ⟨i, P⟩ ⟨hi, hP, e1⟩
    simp only at hi hP e1
    simp -implicitDefEqProofs [setAll, hli, go_sem, -List.set_cons_succ, -List.set_cons_zero]
    refine ⟨fun hlt => ?_, fun hge => ?_⟩
    · have hadd : inR .i64 ((i : Int) + 1) := small_i64 (by omega) (by omega)
      have hlb : i < bs.length := by omega
      have hd : l.drop i = l[i] :: l.drop (i + 1) := List.drop_eq_getElem_cons hlt
      have hdb : bs.drop i = bs[i] :: bs.drop (i + 1) := List.drop_eq_getElem_cons hlb
      rw [hd, hdb, partsT] at e1
      have hsg := hFs i l[i] bs[i] (by simp) (by simp)
      have hPn := hP.next
      have hPc := hP.code
      have hPa := hP.all
      have hrow : (intRows bs)[i]? = some [.int .i64 bs[i]] := by simp [intRows, hlb]
      refine row_nat _ hrow rfl ?_
      by_cases hk3 : l[i].k = 3
      · have h0 := hsg.1 hk3
        simp only [hk3, if_true] at e1
        simp -implicitDefEqProofs [h0, hf, go_sem, -List.set_cons_succ, -List.set_cons_zero]
        refine row_nat _ hrow rfl ?_
        simp -implicitDefEqProofs [hf, go_sem, -List.set_cons_succ, -List.set_cons_zero]
        refine qcall_pure (emit_calls _ _ _ _ _ _ _ (by omega) hPa) hf rfl ?_
        simp -implicitDefEqProofs [hadd, hf, go_sem, -List.set_cons_succ, -List.set_cons_zero]
        refine loop_back (i + 1, P.emit 5 bs[i] 0 []) (by simp [setAll, Mk.emit, insR]) ⟨hlt, (hP.emit ..).mono (by omega), e1⟩ (by show l.length - (i + 1) < l.length - i; omega)
      · have h0 : ¬ 0 ≤ bs[i] := by rw [hsg.2 hk3]; omega
        simp only [hk3, if_false] at e1
        have cag := args_calls [l[i]] (by simp) (by simpa using hkg _ (List.getElem_mem hlt)) P _ (by omega) hP
        rw [args_one _ hk3] at cag
        simp -implicitDefEqProofs [h0, hadd, hf, go_sem, -List.set_cons_succ, -List.set_cons_zero]
        refine ⟨allLen_map row_len, ⟨by omega, by omega⟩, ?_⟩
        rw [row_slice hlt]
        refine qcall_pure cag hf rfl ?_
        simp -implicitDefEqProofs [hadd, hf, go_sem, -List.set_cons_succ, -List.set_cons_zero]
        refine loop_less (i + 1, P.desc l[i]) (St.le_cut [_] ?_ (by simp [Sl.le, A.le_refl_iff, A.le_u_iff, As.lo, A.lo, C.lo, Ref.lo, Cs.lo, Obs.lo, Ob.lo, setAll, and_true, true_and, List.length_nil, List.length_cons]) (by simp; rfl) (by simp [Sl.le, A.le_refl_iff, A.le_u_iff, As.lo, A.lo, C.lo, Ref.lo, Cs.lo, Obs.lo, Ob.lo, setAll, and_true, true_and, List.length_nil, List.length_cons])) ⟨hlt, (hP.desc _).mono (by dsimp only; omega), e1⟩ (by show l.length - (i + 1) < l.length - i; omega)
        simp [setAll, Sl.le, A.le_refl_iff, A.le_u_iff, As.lo, A.lo, C.lo, Ref.lo, Cs.lo, Obs.lo, Ob.lo, setAll, and_true, true_and, List.length_nil, List.length_cons]
    · obtain rfl : i = l.length := by omega
      rw [List.drop_of_length_le (by omega), partsT] at e1
      · subst e1
        simp -implicitDefEqProofs [hf, go_sem, -List.set_cons_succ, -List.set_cons_zero]
      · simp
-- 66 loop.example/prologserver/spec.l8Put params 3 ntmps 73
def ac66 : Cd := .seq (.region [⟨(some 3),.box (.t 0),none⟩,
 ⟨(some 4),.box (.t 1),none⟩,
 ⟨(some 6),.alloc [(.full []),(.d (.int .i64 0)),(.full [])],none⟩] [0,1])
 (.seq (.block 0 (.seq (.region [⟨(some 9),.fieldAddr 0 (.t 4),none⟩,
 ⟨(some 10),.load none (.t 9),none⟩,
 ⟨(some 11),.bin .eql (.t 10) (.k (.c (.d (.int .i64 2)))),none⟩,
 ⟨(some 8),.mv (.t 11),none⟩] [9,10,11])
 (.cond (.t 8)
 (.seq (.region [⟨(some 12),.load (some 3) (.t 3),none⟩,
 ⟨(some 13),.fieldAddr 1 (.t 4),none⟩,
 ⟨(some 14),.load none (.t 13),none⟩,
 ⟨(some 15),.mv (.t 2),none⟩,
 ⟨(some 16),.build [(.d (.int .i64 0)),(.d (.int .i64 0)),(.d (.int .i64 0)),(.d (.str []))] [(0,1,(.k (.c (.d (.int .i64 10))))),(1,1,(.t 14)),(2,1,(.t 15))],none⟩,
 ⟨(some 17),.qcall 65 [(.t 12),(.t 16)],none⟩,
 ⟨none,.store 3 (.t 6) (.t 17),none⟩] [2,3,4,8,12,13,14,15,16,17])
 (.ret))
 (.seq (.region [⟨(some 19),.fieldAddr 0 (.t 4),none⟩,
 ⟨(some 20),.load none (.t 19),none⟩,
 ⟨(some 21),.bin .eql (.t 20) (.k (.c (.d (.int .i64 1)))),none⟩,
 ⟨(some 22),.mv (.t 21),none⟩,
 ⟨(some 23),.fieldAddr 0 (.t 3),some (22,true)⟩,
 ⟨(some 24),.load none (.t 23),some (22,true)⟩,
 ⟨(some 25),.fieldAddr 1 (.t 4),some (22,true)⟩,
 ⟨(some 26),.load none (.t 25),some (22,true)⟩,
 ⟨(some 27),.indexAddr 1 (.t 24) (.t 26),some (22,true)⟩,
 ⟨(some 28),.load none (.t 27),some (22,true)⟩,
 ⟨(some 29),.bin .geq (.t 28) (.k (.c (.d (.int .i64 0)))),some (22,true)⟩,
 ⟨(some 30),.pick (.t 22) (.t 29) (.k (.c (.d (.bool false)))),none⟩,
 ⟨(some 18),.mv (.t 30),none⟩] [8,19,20,21,22,23,24,25,26,27,28,29,30])
 (.cond (.t 18)
 (.seq (.region [⟨(some 32),.fieldAddr 0 (.t 3),none⟩,
 ⟨(some 34),.fieldAddr 1 (.t 4),none⟩,
 ⟨(some 38),.mv (.t 2),none⟩,
 ⟨(some 31),.load (some 3) (.t 3),none⟩,
 ⟨(some 33),.load none (.t 32),none⟩,
 ⟨(some 35),.load none (.t 34),none⟩,
 ⟨(some 36),.indexAddr 1 (.t 33) (.t 35),none⟩,
 ⟨(some 37),.load none (.t 36),none⟩,
 ⟨(some 39),.build [(.d (.int .i64 0)),(.d (.int .i64 0)),(.d (.int .i64 0)),(.d (.str []))] [(0,1,(.k (.c (.d (.int .i64 9))))),(1,1,(.t 37)),(2,1,(.t 38))],none⟩,
 ⟨(some 40),.qcall 65 [(.t 31),(.t 39)],none⟩,
 ⟨none,.store 3 (.t 6) (.t 40),none⟩] [2,3,4,18,31,32,33,34,35,36,37,38,39,40])
 (.ret))
 (.seq (.region [⟨(some 42),.fieldAddr 0 (.t 4),none⟩,
 ⟨(some 43),.load none (.t 42),none⟩,
 ⟨(some 44),.bin .eql (.t 43) (.k (.c (.d (.int .i64 1)))),none⟩,
 ⟨(some 41),.mv (.t 44),none⟩] [18,42,43,44])
 (.cond (.t 41)
 (.seq (.region [⟨(some 45),.load (some 3) (.t 3),none⟩,
 ⟨(some 46),.fieldAddr 1 (.t 4),none⟩,
 ⟨(some 47),.load none (.t 46),none⟩,
 ⟨(some 48),.fieldAddr 1 (.t 3),none⟩,
 ⟨(some 49),.load none (.t 48),none⟩,
 ⟨(some 50),.qcall 67 [(.t 45),(.t 47),(.t 49)],none⟩,
 ⟨none,.store 3 (.t 3) (.t 50),none⟩] [4,41,45,46,47,48,49,50])
 (.seq (.region [⟨(some 51),.fieldAddr 1 (.t 3),none⟩,
 ⟨(some 52),.load none (.t 51),none⟩,
 ⟨(some 53),.bin .add (.t 52) (.k (.c (.d (.int .i64 1)))),none⟩,
 ⟨(some 54),.fieldAddr 1 (.t 3),none⟩,
 ⟨none,.store 1 (.t 54) (.t 53),none⟩] [51,52,53,54])
 (.seq (.region [⟨(some 55),.load (some 3) (.t 3),none⟩,
 ⟨(some 56),.fieldAddr 1 (.t 3),none⟩,
 ⟨(some 57),.load none (.t 56),none⟩,
 ⟨(some 58),.bin .sub (.t 57) (.k (.c (.d (.int .i64 1)))),none⟩,
 ⟨(some 59),.mv (.t 2),none⟩,
 ⟨(some 60),.build [(.d (.int .i64 0)),(.d (.int .i64 0)),(.d (.int .i64 0)),(.d (.str []))] [(0,1,(.k (.c (.d (.int .i64 8))))),(1,1,(.t 58)),(2,1,(.t 59))],none⟩,
 ⟨(some 61),.qcall 65 [(.t 55),(.t 60)],none⟩,
 ⟨none,.store 3 (.t 6) (.t 61),none⟩] [2,3,55,56,57,58,59,60,61])
 (.ret))))
 (.skip))))))))
 (.seq (.region [⟨(some 63),.load (some 3) (.t 3),none⟩,
 ⟨(some 64),.load (some 4) (.t 4),none⟩,
 ⟨(some 65),.qcall 83 [(.t 63),(.t 64)],none⟩,
 ⟨(some 62),.mv (.t 65),none⟩,
 ⟨(some 66),.extract 0 (.t 62),none⟩,
 ⟨(some 67),.extract 1 (.t 62),none⟩,
 ⟨none,.store 3 (.t 3) (.t 66),none⟩,
 ⟨(some 7),.mv (.t 67),none⟩] [4,41,62,63,64,65,66,67])
 (.seq (.region [⟨(some 68),.load (some 3) (.t 3),none⟩,
 ⟨(some 69),.mv (.t 7),none⟩,
 ⟨(some 70),.mv (.t 2),none⟩,
 ⟨(some 71),.build [(.d (.int .i64 0)),(.d (.int .i64 0)),(.d (.int .i64 0)),(.d (.str []))] [(0,1,(.k (.c (.d (.int .i64 9))))),(1,1,(.t 69)),(2,1,(.t 70))],none⟩,
 ⟨(some 72),.qcall 65 [(.t 68),(.t 71)],none⟩,
 ⟨none,.store 3 (.t 6) (.t 72),none⟩] [2,3,7,68,69,70,71,72])
 (.ret))))
theorem ac66_ok : cFunc Tryz.prog [1000065,1000067,1000083] [(0,[0,1],[]),(1,[9,10,11],[]),(2,[2,3,4,8,12,13,14,15,16,17],[]),(3,[8,19,20,21,22,23,24,25,26,27,28,29,30],[]),(4,[2,3,4,18,31,32,33,34,35,36,37,38,39,40],[1,3,7,0,2,4,5,6,8,9,10]),(5,[18,42,43,44],[]),(6,[4,41,45,46,47,48,49,50],[]),(7,[51,52,53,54],[]),(8,[2,3,55,56,57,58,59,60,61],[]),(9,[4,41,62,63,64,65,66,67],[]),(10,[2,3,7,68,69,70,71,72],[])] Tryz.f66 = some (ac66,[.cell 6 (some 3)],73) := by kernel_rfl
theorem put_calls (t : Tm) (hg : t.good) (i : Nat) (M : Mk) (B : Nat) (hB : B + 6 * t.size ≤ 700000) (hM : M.fit B) (H : Heap) :
    ACalls Tryz.prog 66 [.agg [.d (.sl (slotsR M.sl)), .d (.int .i64 M.next), .d (.sl M.code)], .agg (t.row.map .d), .c (.d (.int .i64 i))] H
      (fun r H' => H' = H ∧ r = .agg [.d (.sl (slotsR (putT M t i).sl)), .d (.int .i64 (putT M t i).next), .d (.sl (putT M t i).code)]) := by
  refine acalls Tryz.func66 (by kernel_rfl) ac66_ok fun hf => ?_
  have hvs := var_slot hg
  have hnx := hM.next
  have hcd := hM.code
  have hal := hM.all
  have hbt := build_calls t hg M B (by omega) hM
  have hbf := build_fit t M B hM
  obtain ⟨R, hR⟩ : ∃ R, R = buildT t M := ⟨_, rfl⟩
  rw [← hR] at hbt hbf
  have hnj : inR .i64 ((M.next : Int) + 1) := small_i64 (by omega) (by omega)
  have hn2 : inR .i64 (M.next : Int) := small_i64 (by omega) (by omega)
  obtain ⟨k, n, s, kids⟩ := t
  have hpt : putT M (.mk k n s kids) i = if k = 2 then M.emit 10 n i [] else if k = 1 then (match slotO M.sl n with | some v => M.emit 9 v i [] | none => ((M.give n M.next).bump).emit 8 M.next i []) else R.1.emit 9 R.2 i [] := by
    rw [hR]; rfl
  rw [hpt]
  cases hg with
  | mk ho hk =>
    rcases own_cases ho with ⟨rfl, n0, n1, rfl, rfl⟩ | ⟨rfl, n0, n1, rfl, rfl⟩ | ⟨rfl, rfl, hs2, hl4⟩
    · obtain ⟨v, hv, hv26⟩ := hvs rfl
      simp only [Tm.n] at hv
      subst hv
      have hget := slotsR_get M.sl hv26
      simp -implicitDefEqProofs [ac66, row_mk, hf, go_sem, -List.set_cons_succ, -List.set_cons_zero]
      refine row_nat _ hget rfl ?_
      cases hsv : slotO M.sl v with
      | some u =>
        have hu0 : ¬ (u : Int) < 0 := by omega
        simp -implicitDefEqProofs [hu0, hf, go_sem, -List.set_cons_succ, -List.set_cons_zero]
        refine row_nat _ hget rfl ?_
        simp -implicitDefEqProofs [hsv, hf, go_sem, -List.set_cons_succ, -List.set_cons_zero]
        refine qcall_pure (emit_calls _ _ _ _ _ _ _ (by omega) hal) hf rfl ?_
        simp -implicitDefEqProofs [Mk.emit, insR, hf, go_sem, -List.set_cons_succ, -List.set_cons_zero]
      | none =>
        simp -implicitDefEqProofs [hf, go_sem, -List.set_cons_succ, -List.set_cons_zero]
        refine qcall_pure (slot_calls M.sl M.code _ v M.next hv26 hsv (by omega)) hf rfl ?_
        simp -implicitDefEqProofs [hnj, hn2, hf, go_sem, -List.set_cons_succ, -List.set_cons_zero]
        refine qcall_pure (emit_calls _ _ _ _ _ _ _ (by omega) hal) hf rfl ?_
        simp -implicitDefEqProofs [Mk.emit, Mk.give, Mk.bump, insR, hf, go_sem, -List.set_cons_succ, -List.set_cons_zero]
    · simp -implicitDefEqProofs [ac66, row_mk, hf, go_sem, -List.set_cons_succ, -List.set_cons_zero]
      refine qcall_pure (emit_calls _ _ _ _ _ _ _ (by omega) hal) hf rfl ?_
      simp -implicitDefEqProofs [Mk.emit, insR, hf, go_sem, -List.set_cons_succ, -List.set_cons_zero]
    · rw [row_mk] at hbt
      simp only [List.map_cons, List.map_nil] at hbt
      have hcd2 := hbf.1.code
      simp -implicitDefEqProofs [ac66, row_mk, hf, go_sem, -List.set_cons_succ, -List.set_cons_zero]
      refine row_off [.int .i64 0] ?_
      simp -implicitDefEqProofs [hf, go_sem, -List.set_cons_succ, -List.set_cons_zero]
      refine qcall_pure hbt hf rfl ?_
      simp -implicitDefEqProofs [hf, go_sem, -List.set_cons_succ, -List.set_cons_zero]
      refine qcall_pure (emit_calls _ _ _ _ _ _ _ (by omega) hbf.1.all) hf rfl ?_
      simp -implicitDefEqProofs [Mk.emit, insR, hf, go_sem, -List.set_cons_succ, -List.set_cons_zero]

-- 33 loop.example/prologserver/spec.l8Goals params 2 ntmps 57
-- loop head live: [1,2,4,5]
-- loop head live: [1,2,4,5,6,7]
def ac33 : Cd := .seq (.region [⟨(some 2),.box (.t 0),none⟩,
 ⟨(some 4),.alloc [(.full []),(.d (.int .i64 0)),(.full [])],none⟩] [0])
 (.seq (.seq (.region [⟨(some 5),.mv (.k (.c (.d (.int .i64 0)))),none⟩] [])
 (.block 0 (.loop (.seq (.seq (.region [⟨(some 9),.mv (.t 5),none⟩,
 ⟨(some 10),.mv (.t 1),none⟩,
 ⟨(some 11),.len 1 (.t 10),none⟩,
 ⟨(some 12),.bin .lss (.t 9) (.t 11),none⟩] [9,10,11])
 (.cond (.t 12)
 (.skip)
 (.exit 0)))
 (.seq (.block 1 (.seq (.region [⟨(some 15),.mv (.t 1),none⟩,
 ⟨(some 16),.mv (.t 5),none⟩,
 ⟨(some 17),.indexAddr 4 (.t 15) (.t 16),none⟩,
 ⟨(some 18),.load (some 4) (.t 17),none⟩,
 ⟨(some 6),.alloc [(.d (.int .i64 0)),(.d (.int .i64 0)),(.d (.str [])),(.full [])],none⟩,
 ⟨none,.store 4 (.t 6) (.t 18),none⟩] [12,15,16,17,18])
 (.seq (.seq (.region [⟨(some 19),.load (some 4) (.t 6),none⟩,
 ⟨(some 20),.qcall 64 [(.t 19)],none⟩] [19])
 (.cond (.t 20)
 (.seq (.region [⟨(some 21),.load (some 3) (.t 2),none⟩,
 ⟨(some 22),.build [(.d (.int .i64 0)),(.d (.int .i64 0)),(.d (.int .i64 0)),(.d (.str []))] [(0,1,(.k (.c (.d (.int .i64 13)))))],none⟩,
 ⟨(some 23),.qcall 65 [(.t 21),(.t 22)],none⟩,
 ⟨none,.store 3 (.t 2) (.t 23),none⟩] [6,20,21,22,23])
 (.exit 1))
 (.skip)))
 (.seq (.seq (.region [⟨(some 7),.mv (.k (.c (.d (.int .i64 0)))),none⟩] [20])
 (.block 2 (.loop (.seq (.seq (.region [⟨(some 24),.mv (.t 7),none⟩,
 ⟨(some 25),.fieldAddr 3 (.t 6),none⟩,
 ⟨(some 26),.load none (.t 25),none⟩,
 ⟨(some 27),.len 1 (.t 26),none⟩,
 ⟨(some 28),.bin .lss (.t 24) (.t 27),none⟩] [24,25,26,27])
 (.cond (.t 28)
 (.skip)
 (.exit 2)))
 (.seq (.block 3 (.region [⟨(some 32),.fieldAddr 3 (.t 6),none⟩,
 ⟨(some 34),.mv (.t 7),none⟩,
 ⟨(some 37),.mv (.t 7),none⟩,
 ⟨(some 31),.load (some 3) (.t 2),none⟩,
 ⟨(some 33),.load none (.t 32),none⟩,
 ⟨(some 35),.indexAddr 4 (.t 33) (.t 34),none⟩,
 ⟨(some 36),.load (some 4) (.t 35),none⟩,
 ⟨(some 38),.qcall 66 [(.t 31),(.t 36),(.t 37)],none⟩,
 ⟨none,.store 3 (.t 2) (.t 38),none⟩] [28,31,32,33,34,35,36,37,38]))
 (.region [⟨(some 29),.mv (.t 7),none⟩,
 ⟨(some 30),.bin .add (.t 29) (.k (.c (.d (.int .i64 1)))),none⟩,
 ⟨(some 7),.mv (.t 30),none⟩] [29,30]))))))
 (.seq (.region [⟨(some 8),.mv (.k (.c (.d (.int .i64 11)))),none⟩] [])
 (.seq (.seq (.region [⟨(some 39),.fieldAddr 2 (.t 6),none⟩,
 ⟨(some 40),.load none (.t 39),none⟩,
 ⟨(some 41),.fieldAddr 3 (.t 6),none⟩,
 ⟨(some 42),.load none (.t 41),none⟩,
 ⟨(some 43),.len 1 (.t 42),none⟩,
 ⟨(some 44),.qcall 62 [(.t 40),(.t 43)],none⟩] [39,40,41,42,43])
 (.cond (.t 44)
 (.region [⟨(some 8),.mv (.k (.c (.d (.int .i64 12)))),none⟩] [44])
 (.skip)))
 (.region [⟨(some 45),.load (some 3) (.t 2),none⟩,
 ⟨(some 46),.mv (.t 8),none⟩,
 ⟨(some 47),.fieldAddr 3 (.t 6),none⟩,
 ⟨(some 48),.load none (.t 47),none⟩,
 ⟨(some 49),.len 1 (.t 48),none⟩,
 ⟨(some 50),.fieldAddr 2 (.t 6),none⟩,
 ⟨(some 51),.load none (.t 50),none⟩,
 ⟨(some 52),.build [(.d (.int .i64 0)),(.d (.int .i64 0)),(.d (.int .i64 0)),(.d (.str []))] [(0,1,(.t 46)),(1,1,(.t 49)),(3,1,(.t 51))],none⟩,
 ⟨(some 53),.qcall 65 [(.t 45),(.t 52)],none⟩,
 ⟨none,.store 3 (.t 2) (.t 53),none⟩] [6,8,44,45,46,47,48,49,50,51,52,53])))))))
 (.region [⟨(some 13),.mv (.t 5),none⟩,
 ⟨(some 14),.bin .add (.t 13) (.k (.c (.d (.int .i64 1)))),none⟩,
 ⟨(some 5),.mv (.t 14),none⟩] [13,14]))))))
 (.seq (.region [⟨(some 54),.load (some 3) (.t 2),none⟩,
 ⟨(some 55),.build [(.d (.int .i64 0)),(.d (.int .i64 0)),(.d (.int .i64 0)),(.d (.str []))] [(0,1,(.k (.c (.d (.int .i64 14)))))],none⟩,
 ⟨(some 56),.qcall 65 [(.t 54),(.t 55)],none⟩,
 ⟨none,.store 3 (.t 4) (.t 56),none⟩] [2,54,55,56])
 (.ret)))
theorem ac33_ok : cFunc Tryz.prog [1000062,1000064,1000065,1000066] [(0,[0],[]),(1,[],[]),(2,[9,10,11],[]),(4,[12,15,16,17,18],[]),(5,[19],[]),(6,[6,20,21,22,23],[]),(7,[20],[]),(8,[24,25,26,27],[]),(10,[28,31,32,33,34,35,36,37,38],[1,3,6,0,2,4,5,7,8]),(9,[29,30],[]),(11,[],[]),(12,[39,40,41,42,43],[]),(13,[44],[]),(14,[6,8,44,45,46,47,48,49,50,51,52,53],[]),(3,[13,14],[]),(15,[2,54,55,56],[])] Tryz.f33 = some (ac33,[.cell 4 (some 3)],57) := by kernel_rfl
-- 17 loop.example/prologserver/spec.l8Clause params 1 ntmps 12
def ac17 : Cd := .seq (.region [⟨(some 1),.box (.t 0),none⟩,
 ⟨(some 2),.mv (.k (.c (.full []))),none⟩] [0,2])
 (.seq (.region [⟨(some 4),.fieldAddr 0 (.t 1),none⟩,
 ⟨(some 5),.fieldAddr 3 (.t 4),none⟩,
 ⟨(some 8),.fieldAddr 4 (.t 1),none⟩,
 ⟨(some 3),.qcall 35 [],none⟩,
 ⟨(some 6),.load none (.t 5),none⟩,
 ⟨(some 7),.qcall 34 [(.t 3),(.t 6)],none⟩,
 ⟨(some 9),.load none (.t 8),none⟩,
 ⟨(some 10),.qcall 33 [(.t 7),(.t 9)],none⟩,
 ⟨(some 11),.field 2 none (.t 10),none⟩,
 ⟨(some 2),.mv (.t 11),none⟩] [1,3,4,5,6,7,8,9,10,11])
 (.ret))
theorem ac17_ok : cFunc Tryz.prog [1000033,1000034,1000035] [(0,[0,2],[]),(1,[1,3,4,5,6,7,8,9,10,11],[1,2,5,0,3,4,6,7,8,9])] Tryz.f17 = some (ac17,[.tmp 2],12) := by kernel_rfl
-- 7 loop.example/prologserver/spec.CompileClause params 1 ntmps 10
def ac7 : Cd := .seq (.region [⟨(some 1),.box (.t 0),none⟩,
 ⟨(some 2),.mv (.k (.c (.full []))),none⟩,
 ⟨(some 3),.mv (.k (.c (.d (.bool false)))),none⟩] [0,2,3])
 (.seq (.seq (.region [⟨(some 4),.load (some 5) (.t 1),none⟩,
 ⟨(some 5),.qcall 16 [(.t 4)],none⟩,
 ⟨(some 6),.un .not (.t 5),none⟩] [4,5])
 (.cond (.t 6)
 (.seq (.region [⟨(some 7),.buildSlice 4 0 [(.int .i64 0),(.int .i64 0),(.int .i64 0),(.str [])] [],none⟩,
 ⟨(some 2),.mv (.t 7),none⟩,
 ⟨(some 3),.mv (.k (.c (.d (.bool false)))),none⟩] [1,6,7])
 (.ret))
 (.skip)))
 (.seq (.region [⟨(some 8),.load (some 5) (.t 1),none⟩,
 ⟨(some 9),.qcall 17 [(.t 8)],none⟩,
 ⟨(some 2),.mv (.t 9),none⟩,
 ⟨(some 3),.mv (.k (.c (.d (.bool true)))),none⟩] [1,6,8,9])
 (.ret)))
theorem ac7_ok : cFunc Tryz.prog [1000016,1000017] [(0,[0,2,3],[]),(1,[4,5],[]),(2,[1,6,7],[]),(3,[1,6,8,9],[])] Tryz.f7 = some (ac7,[.tmp 2,.tmp 3],10) := by kernel_rfl
/-- the code of a goal -/
def goalT (g : Tm) (M : Mk) : Mk := if g.cutB then M.emit 13 0 0 [] else (putsT g.kids 0 M).emit (if builtB g.s g.kids.length then 12 else 11) g.kids.length 0 g.s
def goalsT : List Tm → Mk → Mk
  | [], M => M
  | g :: l, M => goalsT l (goalT g M)
def bodyT (l : List Tm) (M : Mk) : Mk := (goalsT l M).emit 14 0 0 []
theorem sizes_app : ∀ a b : List Tm, sizes (a ++ b) = sizes a + sizes b
  | [], b => by simp [sizes]
  | t :: a, b => by simp [sizes, sizes_app a b]; omega
theorem puts_fit : ∀ (l : List Tm) (i : Nat) (M : Mk) (B : Nat), M.fit B → (putsT l i M).fit (B + 6 * sizes l + 2 * l.length)
  | [], _, M, B, h => by simpa [putsT, sizes] using h
  | t :: l, i, M, B, h => by
    unfold putsT
    exact (puts_fit l (i + 1) _ _ (put_fit h t i)).mono (by simp [sizes]; omega)
theorem puts_last : ∀ (l : List Tm) (t : Tm) (i : Nat) (M : Mk), putsT (l ++ [t]) i M = putT (putsT l i M) t (i + l.length)
  | [], t, i, M => by simp [putsT]
  | u :: l, t, i, M => by
    simp only [List.cons_append, putsT, List.length_cons]
    rw [puts_last l t (i + 1)]
    congr 1
    omega
theorem sizes_len : ∀ l : List Tm, l.length ≤ sizes l
  | [] => by simp
  | t :: l => by have := size_pos t; have := sizes_len l; simp [sizes]; omega
theorem goal_fit (g : Tm) {M : Mk} {B : Nat} (h : M.fit B) : (goalT g M).fit (B + 8 * g.size + 1) := by
  unfold goalT
  split
  · exact (h.emit ..).mono (by omega)
  · obtain ⟨k, n, s, l⟩ := g
    refine ((puts_fit _ 0 _ _ h).emit ..).mono ?_
    have := sizes_len l
    simp [Tm.size, Tm.kids]
    omega
theorem goals_fit : ∀ (l : List Tm) (M : Mk) (B : Nat), M.fit B → (goalsT l M).fit (B + 9 * sizes l)
  | [], M, B, h => by simpa [goalsT] using h.mono (by omega)
  | g :: l, M, B, h => by
    unfold goalsT
    have := size_pos g
    exact (goals_fit l _ _ (goal_fit g h)).mono (by simp [sizes]; omega)
theorem goals_last : ∀ (l : List Tm) (t : Tm) (M : Mk), goalsT (l ++ [t]) M = goalT t (goalsT l M)
  | [], t, M => by simp [goalsT]
  | u :: l, t, M => by simp only [List.cons_append, goalsT]; rw [goals_last l t]
theorem goals_calls (l : List Tm) (hl : l.length ≤ 6) (hft : ∀ t ∈ l, t.fits) (hg : ∀ t ∈ l, t.good) (hz : sizes l ≤ 1000) (M : Mk) (B : Nat) (hB : B ≤ 100000) (hM : M.fit B) (H : Heap) :
    ACalls Tryz.prog 33 [.agg [.d (.sl (slotsR M.sl)), .d (.int .i64 M.next), .d (.sl M.code)], .c (.d (.sl (l.map Tm.row)))] H
      (fun r H' => H' = H ∧ r = .agg [.d (.sl (slotsR (bodyT l M).sl)), .d (.int .i64 (bodyT l M).next), .d (.sl (bodyT l M).code)]) := by
  refine acalls Tryz.func33 (by kernel_rfl) ac33_ok fun hf => ?_
  have hli : inR .i64 (l.length : Int) := small_i64 (by omega) (by omega)
  have hb := goals_fit l M B hM
  simp -implicitDefEqProofs [ac33, hli, go_sem, -List.set_cons_succ, -List.set_cons_zero]
  refine loop_set (σ := Nat × Mk) (fun x => [(5, .c (.d (.int .i64 x.1)))]) (fun _ => H)
    (fun x => [.cells [.d (.sl (slotsR x.2.sl)), .d (.int .i64 x.2.next), .d (.sl x.2.code)], .cells [.full [], .d (.int .i64 0), .full []]])
    (fun x => x.1 ≤ l.length ∧ (∃ cc, x.2.fit cc ∧ cc + 9 * sizes (l.drop x.1) ≤ B + 9 * sizes l) ∧ bodyT (l.drop x.1) x.2 = bodyT l M) (fun x => l.length - x.1) (0, M) (by simp [setAll]) ⟨Nat.zero_le _, ⟨B, hM, by simp⟩, by simp⟩ ?_
  rintro ⟨i, N⟩ ⟨hi, ⟨cc, hN, hC⟩, h1⟩
  simp only at hi hN hC h1
  have hnx := hN.next
  have hcd := hN.code
  have hal := hN.all
  simp -implicitDefEqProofs [setAll, hli, go_sem, -List.set_cons_succ, -List.set_cons_zero]
  refine ⟨fun hlt => ?_, fun hge => ?_⟩
  · have hadd : inR .i64 ((i : Int) + 1) := small_i64 (by omega) (by omega)
    have hd : l.drop i = l[i] :: l.drop (i + 1) := List.drop_eq_getElem_cons hlt
    have hsz := size_pos l[i]
    rw [hd, sizes] at hC
    have hgf := goal_fit l[i] hN
    rw [hd, bodyT, goalsT] at h1
    have hrow : (l.map Tm.row)[i]? = some l[i].row := by simp [hlt]
    have hgd := hg _ (List.getElem_mem hlt)
    have hfit := hft _ (List.getElem_mem hlt)
    have c1 := cutSpec_calls l[i] hfit
    obtain ⟨t, ht⟩ : ∃ t, t = l[i] := ⟨_, rfl⟩
    rw [← ht] at hgd h1 hrow hC hfit c1 hgf hsz
    clear ht
    obtain ⟨k, n, s, kids⟩ := t
    have hkg := good_kids hgd
    rw [row_mk] at c1
    simp only [List.map_cons, List.map_nil] at c1
    refine row_nat _ hrow rfl ?_
    simp -implicitDefEqProofs [row_mk, hf, go_sem, -List.set_cons_succ, -List.set_cons_zero]
    refine qcall_pure c1 hf rfl ?_
    cases hcut : (Tm.mk k n s kids).cutB with
    | true =>
      rw [goalT, hcut] at h1 hgf
      simp only [if_true] at h1 hgf
      simp -implicitDefEqProofs [hf, go_sem, -List.set_cons_succ, -List.set_cons_zero]
      refine qcall_pure (emit_calls _ _ _ _ _ _ _ (by omega) hal) hf rfl ?_
      simp -implicitDefEqProofs [hadd, hf, go_sem, -List.set_cons_succ, -List.set_cons_zero]
      refine loop_less (i + 1, N.emit 13 0 0 []) (St.le_cut [_] ?_ (by simp [Sl.le, A.le_refl_iff, A.le_u_iff, As.lo, A.lo, C.lo, Ref.lo, Cs.lo, Obs.lo, Ob.lo, setAll, and_true, true_and, List.length_nil, List.length_cons]) (by simp [Mk.emit]; rfl) (by simp [Sl.le, A.le_refl_iff, A.le_u_iff, As.lo, A.lo, C.lo, Ref.lo, Cs.lo, Obs.lo, Ob.lo, setAll, and_true, true_and, List.length_nil, List.length_cons])) ⟨hlt, ⟨_, hgf, by dsimp only; omega⟩, h1⟩ (by show l.length - (i + 1) < l.length - i; omega)
      simp [setAll, Sl.le, A.le_refl_iff, A.le_u_iff, As.lo, A.lo, C.lo, Ref.lo, Cs.lo, Obs.lo, Ob.lo, setAll, and_true, true_and, List.length_nil, List.length_cons]
    | false =>
      rw [goalT, hcut] at h1 hgf
      simp only [Bool.false_eq_true, if_false, Tm.kids, Tm.s] at h1 hgf
      have hkl : inR .i64 (kids.length : Int) := small_i64 (by omega) (by omega)
      obtain ⟨G, hG⟩ : ∃ G, G = putsT kids 0 N := ⟨_, rfl⟩
      have hGf := puts_fit kids 0 N _ hN
      rw [← hG] at h1 hgf hGf
      have hsz2 : (Tm.mk k n s kids).size = 1 + sizes kids := by rw [Tm.size]
      simp -implicitDefEqProofs [hf, go_sem, -List.set_cons_succ, -List.set_cons_zero]
      refine loop_set (σ := Nat × Mk) (fun x => [(7, .c (.d (.int .i64 x.1)))]) (fun _ => H)
        (fun x => [.cells [.d (.sl (slotsR x.2.sl)), .d (.int .i64 x.2.next), .d (.sl x.2.code)], .cells [.full [], .d (.int .i64 0), .full []], .cells [.d (.int .i64 k), .d (.int .i64 n), .d (.str s), .d (.sl (kids.map Tm.row))]])
        (fun x => x.1 ≤ kids.length ∧ x.2 = putsT (kids.take x.1) 0 N) (fun x => kids.length - x.1) (0, N) (by simp [setAll]) ⟨Nat.zero_le _, by simp [putsT]⟩ ?_
      rintro ⟨j, P⟩ ⟨hj, e1⟩
      simp only at hj e1
      simp -implicitDefEqProofs [setAll, hkl, go_sem, -List.set_cons_succ, -List.set_cons_zero]
      refine ⟨fun hjl => ?_, fun hjg => ?_⟩
      · have hadj : inR .i64 ((j : Int) + 1) := small_i64 (by omega) (by omega)
        have hPf := puts_fit (kids.take j) 0 N _ hN
        have hszj : sizes (kids.take j) + kids[j].size ≤ sizes kids := by
          have e2 : sizes (kids.take (j + 1)) = sizes (kids.take j) + kids[j].size := by
            rw [List.take_succ_eq_append_getElem hjl, sizes_app]; simp [sizes]
          have e3 : sizes kids = sizes (kids.take (j + 1)) + sizes (kids.drop (j + 1)) := by rw [← sizes_app, List.take_append_drop]
          omega
        have hput : putT P kids[j] j = putsT (kids.take (j + 1)) 0 N := by
          rw [List.take_succ_eq_append_getElem hjl, puts_last, e1]
          congr 1
          simp
          omega
        have hjt : (kids.take j).length ≤ 4 := by simp; omega
        rw [← e1] at hPf
        have cp := put_calls kids[j] (hkg.2 _ (List.getElem_mem hjl)) j P _ (by omega) hPf
        rw [hput] at cp
        refine row_of hjl (row_len _) ?_
        simp -implicitDefEqProofs [row_len, take_row, pure_d, re_d, hf, go_sem, -List.set_cons_succ, -List.set_cons_zero]
        refine qcall_pure cp hf rfl ?_
        simp -implicitDefEqProofs [hadj, hf, go_sem, -List.set_cons_succ, -List.set_cons_zero]
        exact loop_back (j + 1, putsT (kids.take (j + 1)) 0 N) (by simp [setAll]) ⟨hjl, rfl⟩ (by show kids.length - (j + 1) < kids.length - j; omega)
      · obtain rfl : j = kids.length := by omega
        rw [List.take_length, ← hG] at e1
        subst e1
        have hPc := hGf.code
        have hPa := hGf.all
        have cb := builtSpec_calls s kids.length
        simp -implicitDefEqProofs [hkl, hf, go_sem, -List.set_cons_succ, -List.set_cons_zero]
        refine qcall_pure cb hf rfl ?_
        cases hbb : builtB s kids.length with
        | true =>
          simp only [hbb, if_true] at h1 hgf
          simp -implicitDefEqProofs [hkl, hf, go_sem, -List.set_cons_succ, -List.set_cons_zero]
          refine qcall_pure (emit_calls _ _ _ _ _ _ _ (by omega) hPa) hf rfl ?_
          simp -implicitDefEqProofs [hadd, hf, go_sem, -List.set_cons_succ, -List.set_cons_zero]
          refine loop_less (i + 1, P.emit 12 kids.length 0 s) (St.le_cut [_] ?_ (by simp [Sl.le, A.le_refl_iff, A.le_u_iff, As.lo, A.lo, C.lo, Ref.lo, Cs.lo, Obs.lo, Ob.lo, setAll, and_true, true_and, List.length_nil, List.length_cons]) (by simp [Mk.emit]; rfl) (by simp [Sl.le, A.le_refl_iff, A.le_u_iff, As.lo, A.lo, C.lo, Ref.lo, Cs.lo, Obs.lo, Ob.lo, setAll, and_true, true_and, List.length_nil, List.length_cons])) ⟨hlt, ⟨_, hgf, by dsimp only; omega⟩, h1⟩ (by show l.length - (i + 1) < l.length - i; omega)
          simp [setAll, Sl.le, A.le_refl_iff, A.le_u_iff, As.lo, A.lo, C.lo, Ref.lo, Cs.lo, Obs.lo, Ob.lo, setAll, and_true, true_and, List.length_nil, List.length_cons]
        | false =>
          simp only [hbb, Bool.false_eq_true, if_false] at h1 hgf
          simp -implicitDefEqProofs [hkl, hf, go_sem, -List.set_cons_succ, -List.set_cons_zero]
          refine qcall_pure (emit_calls _ _ _ _ _ _ _ (by omega) hPa) hf rfl ?_
          simp -implicitDefEqProofs [hadd, hf, go_sem, -List.set_cons_succ, -List.set_cons_zero]
          refine loop_less (i + 1, P.emit 11 kids.length 0 s) (St.le_cut [_] ?_ (by simp [Sl.le, A.le_refl_iff, A.le_u_iff, As.lo, A.lo, C.lo, Ref.lo, Cs.lo, Obs.lo, Ob.lo, setAll, and_true, true_and, List.length_nil, List.length_cons]) (by simp [Mk.emit]; rfl) (by simp [Sl.le, A.le_refl_iff, A.le_u_iff, As.lo, A.lo, C.lo, Ref.lo, Cs.lo, Obs.lo, Ob.lo, setAll, and_true, true_and, List.length_nil, List.length_cons])) ⟨hlt, ⟨_, hgf, by dsimp only; omega⟩, h1⟩ (by show l.length - (i + 1) < l.length - i; omega)
          simp [setAll, Sl.le, A.le_refl_iff, A.le_u_iff, As.lo, A.lo, C.lo, Ref.lo, Cs.lo, Obs.lo, Ob.lo, setAll, and_true, true_and, List.length_nil, List.length_cons]
  · obtain rfl : i = l.length := by omega
    rw [List.drop_of_length_le (by omega)] at h1
    rw [← h1]
    simp -implicitDefEqProofs [hf, go_sem, -List.set_cons_succ, -List.set_cons_zero]
    refine qcall_pure (emit_calls _ _ _ _ _ _ _ (by omega) hal) hf rfl ?_
    simp -implicitDefEqProofs [bodyT, goalsT, Mk.emit, insR, hf, go_sem, -List.set_cons_succ, -List.set_cons_zero]

def mk0 : Mk := ⟨[], 4, []⟩
theorem mk0_fit : mk0.fit 4 := ⟨by decide, by decide, fun p hp => (by cases hp), fun r hr => (by cases hr)⟩
def codeQ (l : List Tm) : List (List D) := (bodyT l mk0).code
def codeC (c : Cl) : List (List D) := (bodyT c.body (headT c.head.kids mk0)).code
theorem goals_sizes : ∀ l : List Tm, (∀ t ∈ l, t.goal = true) → sizes l ≤ 120 * l.length
  | [], _ => by simp [sizes]
  | t :: l, h => by
    have h1 := goals_sizes l fun u hu => h u (by simp [hu])
    have h2 := h t (by simp)
    simp only [Tm.goal, Tm.valid, Bool.and_eq_true, decide_eq_true_eq] at h2
    simp only [sizes, List.length_cons]
    omega
theorem goalsB_iff {l : List Tm} (h : goalsB l = true) : l.length ≤ 6 ∧ (∀ t ∈ l, t.good) ∧ sizes l ≤ 1000 := by
  simp only [goalsB, Bool.and_eq_true, decide_eq_true_eq, List.all_eq_true] at h
  refine ⟨h.1, fun t ht => ?_, ?_⟩
  · have := h.2 t ht
    simp only [Tm.goal, Bool.and_eq_true] at this
    exact valid_good this.1
  · have := goals_sizes l h.2
    omega
theorem validB_head {c : Cl} (h : c.validB = true) : c.head.good ∧ c.head.size ≤ 120 ∧ c.head.k = 3 ∧ goalsB c.body = true := by
  simp only [Cl.validB, Bool.and_eq_true] at h
  have hv := h.1.1
  simp only [Tm.valid, Bool.and_eq_true, decide_eq_true_eq] at hv
  have hp := h.1.2
  simp only [Tm.plain, Bool.and_eq_true, decide_eq_true_eq] at hp
  exact ⟨shape_good _ _ hv.1, hv.2, hp.1, h.2⟩
theorem headQ_fit : ∀ (f : Nat) (q : List (Tm × Nat)) (M : Mk) (C B : Nat), M.fit C → C + 6 * qsize q ≤ B + 4 * q.length → (headQ f q M).fit B
  | _, [], M, C, B, h, hB => by
    unfold headQ
    exact h.mono (by simpa [qsize] using hB)
  | 0, p :: q, M, C, B, h, hB => by
    have := qsize_pos (p :: q)
    unfold headQ
    exact h.mono (by omega)
  | f + 1, p :: q, M, C, B, h, hB => by
    unfold headQ
    have h2 := h.emit 3 p.1.kids.length p.2 p.1.s
    refine headQ_fit f _ _ _ B (args_fit p.1.kids _ _ h2).1 ?_
    have h3 := (args_size p.1.kids (M.emit 3 p.1.kids.length p.2 p.1.s)).1
    rw [qsize_app, List.length_append]
    have h4 : p.1.size = 1 + sizes p.1.kids := by obtain ⟨⟨k, n, s, kids⟩, i⟩ := p; rw [Tm.size]; rfl
    simp only [qsize, List.map_cons, List.sum_cons, List.length_cons] at hB ⊢
    simp only [qsize] at h3
    omega
theorem headT_fit (l : List Tm) (hl : l.length ≤ 4) : (headT l mk0).fit (8 + 6 * sizes l) := by
  obtain ⟨h1, h2, h3, h4⟩ := headA_fit l 0 mk0 4 mk0_fit (by omega)
  refine headQ_fit _ _ _ _ _ h1 ?_
  omega
theorem l8Clause_calls (c : Cl) (hft : c.fits) (hv : c.validB = true) (H : Heap) : ACalls Tryz.prog 17 [.agg (c.row.map .d)] H (fun r H' => H' = H ∧ r = .c (.d (.sl (codeC c)))) := by
  obtain ⟨g1, g2, g3, g4⟩ := validB_head hv
  obtain ⟨h1, h2, h3⟩ := goalsB_iff g4
  refine acalls Tryz.func17 (by kernel_rfl) ac17_ok fun hf => ?_
  obtain ⟨⟨k, n, s, kids⟩, body⟩ := c
  obtain ⟨hfh, _, hfb⟩ := hft
  have hkg := good_kids g1
  rw [Tm.size] at g2
  simp -implicitDefEqProofs [ac17, Cl.row, Tm.kids, go_sem, -List.set_cons_succ, -List.set_cons_zero]
  have cst := start_calls
  refine qcall_pure cst hf rfl ?_
  simp -implicitDefEqProofs [hf, go_sem, -List.set_cons_succ, -List.set_cons_zero]
  refine qcall_pure (head_calls kids hkg.1 (by omega) hkg.2 mk0 4 (by omega) (by omega) mk0_fit) hf rfl ?_
  simp -implicitDefEqProofs [hf, go_sem, -List.set_cons_succ, -List.set_cons_zero]
  refine qcall_pure (goals_calls body h1 hfb h2 h3 _ _ ?_ (headT_fit kids hkg.1)) hf rfl ?_
  · omega
  simp -implicitDefEqProofs [codeC, Tm.kids, go_sem, -List.set_cons_succ, -List.set_cons_zero]
theorem ccSpec_calls (c : Cl) (hft : c.fits) (H : Heap) : ACalls Tryz.prog 7 [.agg (c.row.map .d)] H
    (fun r H' => H' = H ∧ r = .tup [.c (.d (.sl (if c.validB then codeC c else []))), .c (.d (.bool c.validB))]) := by
  have c1 := cvSpec_calls c hft
  have c2 := l8Clause_calls c hft
  simp only [Cl.row, List.map_cons, List.map_nil] at c1 c2
  refine acalls Tryz.func7 (by kernel_rfl) ac7_ok fun hf => ?_
  simp -implicitDefEqProofs [ac7, Cl.row, go_sem, -List.set_cons_succ, -List.set_cons_zero]
  refine qcall_pure c1 hf rfl ?_
  cases hv : c.validB with
  | false => simp -implicitDefEqProofs [go_sem, -List.set_cons_succ, -List.set_cons_zero]
  | true =>
    simp -implicitDefEqProofs [go_sem, -List.set_cons_succ, -List.set_cons_zero]
    refine qcall_pure (c2 hv) hf rfl ?_
    simp -implicitDefEqProofs [hf, go_sem, -List.set_cons_succ, -List.set_cons_zero]
end Go.Proofs.YteighafofbohcaaGreat

/-
  Code as the program makes it: the object that is worked on.
  Conditions: none.
-/
open Go Go.AM Go.Proofs
namespace Go.Proofs.YteighafofbohcaaGreat
open Go.ChangeShapes Go.WideShapes Go.ChangeAt Go.RowKit
set_option linter.unusedVariables false
set_option linter.unusedSimpArgs false
set_option maxRecDepth 100000
-- 27 loop.example/prologserver/impl.newCoding params 0 ntmps 4
def ac27 : Cd := .seq (.region [⟨(some 0),.mv (.k (.c (.d (.v (.pointer none))))),none⟩] [0])
 (.seq (.region [⟨(some 1),.mkMap,none⟩,
 ⟨(some 2),.build [(.d (.v (.map none))),(.d (.int .i64 0)),(.full [])] [(0,1,(.t 1)),(1,1,(.k (.c (.d (.int .i64 4)))))],none⟩,
 ⟨(some 3),.box (.t 2),none⟩,
 ⟨(some 0),.mv (.t 3),none⟩] [1,2,3])
 (.ret))
theorem ac27_ok : cFunc Tryz.prog [] [(0,[0],[]),(1,[1,2,3],[])] Tryz.f27 = some (ac27,[.tmp 0],4) := by kernel_rfl
-- 54 (*loop.example/prologserver/impl.coding).add params 2 ntmps 14
def ac54 : Cd := .seq (.region [⟨(some 3),.box (.t 1),none⟩] [1])
 (.region [⟨(some 4),.mv (.t 0),none⟩,
 ⟨(some 5),.mv (.t 0),none⟩,
 ⟨(some 6),.nilCheck (.t 5),none⟩,
 ⟨(some 7),.fieldAddr 2 (.t 6),none⟩,
 ⟨(some 8),.load none (.t 7),none⟩,
 ⟨(some 9),.load (some 4) (.t 3),none⟩,
 ⟨(some 10),.buildSlice 4 1 [(.int .i64 0),(.int .i64 0),(.int .i64 0),(.str [])] [(0,(.t 9))],none⟩,
 ⟨(some 11),.append false 4 (.t 8) (.t 10),none⟩,
 ⟨(some 12),.nilCheck (.t 4),none⟩,
 ⟨(some 13),.fieldAddr 2 (.t 12),none⟩,
 ⟨none,.store 1 (.t 13) (.t 11),none⟩] [0,3,4,5,6,7,8,9,10,11,12,13])
theorem ac54_ok : cFunc Tryz.prog [] [(0,[1],[]),(1,[0,3,4,5,6,7,8,9,10,11,12,13],[0,1,2,3,4,5,6,7,8,9,10])] Tryz.f54 = some (ac54,[],14) := by kernel_rfl
-- 56 (*loop.example/prologserver/impl.coding).slot params 1 ntmps 15
def ac56 : Cd := .seq (.region [⟨(some 2),.mv (.k (.c (.d (.int .i64 0)))),none⟩] [2])
 (.seq (.region [⟨(some 3),.mv (.t 0),none⟩,
 ⟨(some 4),.nilCheck (.t 3),none⟩,
 ⟨(some 5),.fieldAddr 1 (.t 4),none⟩,
 ⟨(some 6),.load none (.t 5),none⟩,
 ⟨(some 7),.bin .add (.t 6) (.k (.c (.d (.int .i64 1)))),none⟩,
 ⟨(some 8),.nilCheck (.t 3),none⟩,
 ⟨(some 9),.fieldAddr 1 (.t 8),none⟩,
 ⟨none,.store 1 (.t 9) (.t 7),none⟩] [3,4,5,6,7,8,9])
 (.seq (.region [⟨(some 10),.mv (.t 0),none⟩,
 ⟨(some 11),.nilCheck (.t 10),none⟩,
 ⟨(some 12),.fieldAddr 1 (.t 11),none⟩,
 ⟨(some 13),.load none (.t 12),none⟩,
 ⟨(some 14),.bin .sub (.t 13) (.k (.c (.d (.int .i64 1)))),none⟩,
 ⟨(some 2),.mv (.t 14),none⟩] [0,10,11,12,13,14])
 (.ret)))
theorem ac56_ok : cFunc Tryz.prog [] [(0,[2],[]),(1,[3,4,5,6,7,8,9],[]),(2,[0,10,11,12,13,14],[])] Tryz.f56 = some (ac56,[.tmp 2],15) := by kernel_rfl
-- 55 (*loop.example/prologserver/impl.coding).described params 2 ntmps 47
def ac55 : Cd := .seq (.region [⟨(some 3),.box (.t 1),none⟩] [1])
 (.seq (.seq (.region [⟨(some 6),.fieldAddr 0 (.t 3),none⟩,
 ⟨(some 7),.load none (.t 6),none⟩,
 ⟨(some 8),.bin .eql (.t 7) (.k (.c (.d (.int .i64 2)))),none⟩] [6,7])
 (.cond (.t 8)
 (.seq (.region [⟨(some 9),.mv (.t 0),none⟩,
 ⟨(some 10),.fieldAddr 1 (.t 3),none⟩,
 ⟨(some 11),.load none (.t 10),none⟩,
 ⟨(some 12),.build [(.d (.int .i64 0)),(.d (.int .i64 0)),(.d (.int .i64 0)),(.d (.str []))] [(0,1,(.k (.c (.d (.int .i64 6))))),(1,1,(.t 11))],none⟩,
 ⟨(some 13),.call false 54 [(.t 9),(.t 12)],none⟩] [0,3,8,9,10,11,12,13])
 (.ret))
 (.skip)))
 (.seq (.seq (.region [⟨(some 15),.mv (.t 0),none⟩,
 ⟨(some 16),.nilCheck (.t 15),none⟩,
 ⟨(some 17),.fieldAddr 0 (.t 16),none⟩,
 ⟨(some 19),.fieldAddr 1 (.t 3),none⟩,
 ⟨(some 18),.load none (.t 17),none⟩,
 ⟨(some 20),.load none (.t 19),none⟩,
 ⟨(some 21),.mapGet none [(.int .i64 0)] true (.t 18) (.t 20),none⟩,
 ⟨(some 14),.mv (.t 21),none⟩,
 ⟨(some 22),.extract 0 (.t 14),none⟩,
 ⟨(some 23),.extract 1 (.t 14),none⟩,
 ⟨(some 4),.mv (.t 22),none⟩,
 ⟨(some 5),.mv (.t 23),none⟩] [8,14,15,16,17,18,19,20,21,22,23])
 (.seq (.region [⟨(some 24),.mv (.t 5),none⟩] [5])
 (.cond (.t 24)
 (.seq (.region [⟨(some 25),.mv (.t 0),none⟩,
 ⟨(some 26),.mv (.t 4),none⟩,
 ⟨(some 27),.build [(.d (.int .i64 0)),(.d (.int .i64 0)),(.d (.int .i64 0)),(.d (.str []))] [(0,1,(.k (.c (.d (.int .i64 5))))),(1,1,(.t 26))],none⟩,
 ⟨(some 28),.call false 54 [(.t 25),(.t 27)],none⟩] [0,3,4,24,25,26,27,28])
 (.ret))
 (.skip))))
 (.seq (.region [⟨(some 29),.mv (.t 0),none⟩,
 ⟨(some 30),.nilCheck (.t 29),none⟩,
 ⟨(some 31),.fieldAddr 0 (.t 30),none⟩,
 ⟨(some 33),.fieldAddr 1 (.t 3),none⟩,
 ⟨(some 35),.mv (.t 0),none⟩,
 ⟨(some 32),.loadL true none (.t 31),none⟩,
 ⟨(some 34),.loadL false none (.t 33),none⟩,
 ⟨(some 36),.callL true false 56 [(.t 35)],none⟩,
 ⟨none,.mapSet (.t 32) (.t 34) (.t 36),none⟩] [4,24,29,30,31,32,33,34,35,36])
 (.region [⟨(some 37),.mv (.t 0),none⟩,
 ⟨(some 38),.mv (.t 0),none⟩,
 ⟨(some 39),.nilCheck (.t 38),none⟩,
 ⟨(some 40),.fieldAddr 0 (.t 39),none⟩,
 ⟨(some 42),.fieldAddr 1 (.t 3),none⟩,
 ⟨(some 41),.load none (.t 40),none⟩,
 ⟨(some 43),.load none (.t 42),none⟩,
 ⟨(some 44),.mapGet none [(.int .i64 0)] false (.t 41) (.t 43),none⟩,
 ⟨(some 45),.build [(.d (.int .i64 0)),(.d (.int .i64 0)),(.d (.int .i64 0)),(.d (.str []))] [(0,1,(.k (.c (.d (.int .i64 4))))),(1,1,(.t 44))],none⟩,
 ⟨(some 46),.call false 54 [(.t 37),(.t 45)],none⟩] [0,3,37,38,39,40,41,42,43,44,45,46]))))
theorem ac55_ok : cFunc Tryz.prog [12000056,11000031,5000033] [(0,[1],[]),(1,[6,7],[]),(2,[0,3,8,9,10,11,12,13],[]),(3,[8,14,15,16,17,18,19,20,21,22,23],[0,1,2,4,3,5,6,7,8,9,10,11]),(4,[5],[]),(5,[0,3,4,24,25,26,27,28],[]),(6,[4,24,29,30,31,32,33,34,35,36],[0,1,2,4,6,3,5,7,8]),(7,[0,3,37,38,39,40,41,42,43,44,45,46],[0,1,2,3,5,4,6,7,8,9])] Tryz.f55 = some (ac55,[],47) := by kernel_rfl
def cdM (M : Mk) : Ob := .map (slotsM M.sl)
def cdC (i : Nat) (M : Mk) : Ob := .cells [.map (.e i), .d (.int .i64 M.next), .own (.e (i + 2)) M.code.length M.code]
def cdG (M : Mk) : Ob := .grow M.code.length 4
/-- the code that is made, in the heap: the map, the record, the array -/
def cd (H : Heap) (i : Nat) (M : Mk) : Heap := ((H.set i (cdM M)).set (i + 1) (cdC i M)).set (i + 2) (cdG M)
theorem cd_len (H : Heap) (i : Nat) (M : Mk) : (cd H i M).length = H.length := by simp [cd]
theorem cd_0 {H : Heap} {i : Nat} (M : Mk) (h : i + 2 < H.length) : (cd H i M)[i]? = some (.map (slotsM M.sl)) := by
  simp [cd, cdM, List.getElem?_set]; omega
theorem cd_1 {H : Heap} {i : Nat} (M : Mk) (h : i + 2 < H.length) : (cd H i M)[i + 1]? = some (.cells [.map (.e i), .d (.int .i64 M.next), .own (.e (i + 2)) M.code.length M.code]) := by
  simp [cd, cdC, List.getElem?_set]; omega
theorem cd_2 {H : Heap} {i : Nat} (M : Mk) (h : i + 2 < H.length) : (cd H i M)[i + 2]? = some (.grow M.code.length 4) := by
  simp [cd, cdG, List.getElem?_set]; omega
theorem cd_set0 (H : Heap) (i : Nat) (M M' : Mk) (h1 : M'.next = M.next) (h2 : M'.code = M.code) : (cd H i M).set i (.map (slotsM M'.sl)) = cd H i M' := by
  refine List.ext_getElem? fun j => ?_
  simp only [cd, cdM, cdC, cdG, List.getElem?_set, List.length_set, h1, h2]
  by_cases e0 : i = j <;> by_cases e1 : i + 1 = j <;> by_cases e2 : i + 2 = j <;> simp [e0, e1, e2] <;> omega
theorem cd_set1 (H : Heap) (i : Nat) (M M' : Mk) (h1 : M'.sl = M.sl) (h2 : M'.code = M.code) : (cd H i M).set (i + 1) (.cells [.map (.e i), .d (.int .i64 M'.next), .own (.e (i + 2)) M.code.length M.code]) = cd H i M' := by
  refine List.ext_getElem? fun j => ?_
  simp only [cd, cdM, cdC, cdG, List.getElem?_set, List.length_set, h1, h2]
  by_cases e0 : i = j <;> by_cases e1 : i + 1 = j <;> by_cases e2 : i + 2 = j <;> simp [e0, e1, e2] <;> omega
theorem cd_set21 (H : Heap) (i : Nat) (M M' : Mk) (h1 : M'.sl = M.sl) (h2 : M'.next = M.next) : ((cd H i M).set (i + 2) (.grow M'.code.length 4)).set (i + 1) (.cells [.map (.e i), .d (.int .i64 M.next), .own (.e (i + 2)) M'.code.length M'.code]) = cd H i M' := by
  refine List.ext_getElem? fun j => ?_
  simp only [cd, cdM, cdC, cdG, List.getElem?_set, List.length_set, h1, h2]
  by_cases e0 : i = j <;> by_cases e1 : i + 1 = j <;> by_cases e2 : i + 2 = j <;> simp [e0, e1, e2] <;> omega
theorem cd_append {H L : Heap} {i : Nat} (M : Mk) (h : i + 2 < H.length) : cd H i M ++ L = cd (H ++ L) i M := by
  simp only [cd]
  rw [List.set_append_left _ _ (by omega), List.set_append_left _ _ (by simp; omega), List.set_append_left _ _ (by simp; omega)]
theorem cd_fits {H : Heap} {i : Nat} {M M' : Mk} (h : Obs.fits H.length 0 (cd H i M)) (hi : i + 2 < H.length) : Obs.fits H.length 0 (cd H i M') := by
  have h0 : Obs.fits H.length 0 (cd H i M') := by
    have e : cd H i M' = ((((cd H i M).set i (cdM M')).set (i + 1) (cdC i M')).set (i + 2) (cdG M')) := by
      refine List.ext_getElem? fun j => ?_
      simp only [cd, List.getElem?_set, List.length_set]
      by_cases e0 : i = j <;> by_cases e1 : i + 1 = j <;> by_cases e2 : i + 2 = j <;> simp [e0, e1, e2]
    rw [e]
    refine Obs_fits_set (Obs_fits_set (Obs_fits_set h ?_) ?_) ?_
    · exact trivial
    · exact ⟨by show i < H.length + 0; omega, trivial, by show i + 2 < H.length + 0; omega, trivial⟩
    · exact trivial
  exact h0
theorem cd_other {H : Heap} {i j : Nat} (M : Mk) (h0 : j ≠ i) (h1 : j ≠ i + 1) (h2 : j ≠ i + 2) : (cd H i M)[j]? = H[j]? := by
  simp only [cd, List.getElem?_set, List.length_set]
  rw [if_neg (fun e => h2 e.symm), if_neg (fun e => h1 e.symm), if_neg (fun e => h0 e.symm)]
theorem cd_head {H : Heap} {i : Nat} (M M' : Mk) (hi : i + 2 < H.length) : HeadSame (cd H i M) (cd H i M') := fun j cs e => by
  simp only [List.getD] at e ⊢
  by_cases h0 : j = i
  · subst h0; rw [cd_0 M hi] at e; cases e
  · by_cases h1 : j = i + 1
    · subst h1
      rw [cd_1 M hi] at e
      rw [cd_1 M' hi]
      simp at e
      subst e
      exact ⟨_, rfl, rfl⟩
    · by_cases h2 : j = i + 2
      · subst h2; rw [cd_2 M hi] at e; cases e
      · rw [cd_other M h0 h1 h2] at e
        rw [cd_other M' h0 h1 h2]
        exact ⟨cs, e, rfl⟩
/-- what a function that makes code does -/
def Makes (f : FuncId) (xs : List A) (M M' : Mk) (r : A) : Prop := ∀ (H : Heap) (i : Nat), i + 2 < H.length → ACalls Tryz.prog f (.c (.ptr (.e (i + 1)) 0) :: xs) (cd H i M) (fun r' H' => r' = r ∧ H' = cd H i M')
theorem call_mk {f : FuncId} {xs : List A} {M M' : Mk} {r : A} (hd : Makes f xs M M' r) {H : Heap} {i : Nat} {sl : List A} {loc H₂ : Heap} {K : A → St → Prop} (hi : i + 2 < H.length)
    (hH : H₂ = cd H i M ++ loc.map (Ob.re H.length)) (hr : A.re H.length r = r) (hf : Obs.fits H.length 0 (cd H i M)) (hk : K r ⟨sl, cd H i M', loc⟩) :
    ACalls Tryz.prog f (.c (.ptr (.e (i + 1)) 0) :: xs) H₂ (CallK K ⟨sl, cd H i M, loc⟩) := by
  subst hH
  have h := hd (H ++ loc.map (Ob.re H.length)) i (by simp; omega)
  rw [cd_append _ hi]
  refine h.mono fun r' H' ⟨h1, h2⟩ => ?_
  rw [← cd_append _ hi] at h2
  exact ⟨cd H i M', loc, r, by simpa [cd_len] using h2, by simp [cd_len], Nat.le_refl _, by simpa [cd_len] using cd_fits hf hi, by rw [h1]; simpa [cd_len] using hr.symm, hk⟩
theorem add_makes (M : Mk) (op a b : Int) (s : List UInt8) (hc : M.code.length ≤ 1000000) (ha : allLen 4 M.code) : Makes 54 [.agg [.d (.int .i64 op), .d (.int .i64 a), .d (.int .i64 b), .d (.str s)]] M (M.emit op a b s) (.tup []) := fun H i hi => by
  refine acalls Tryz.func54 (by kernel_rfl) ac54_ok fun hf => ?_
  rw [cd_len] at hf
  have e1 : ((cd H i M).set (i + 2) (.grow (M.code.length + 1) 4)).set (i + 1) (.cells [.map (.e i), .d (.int .i64 M.next), .own (.e (i + 2)) (M.code.length + 1) (M.code ++ [[.int .i64 op, .int .i64 a, .int .i64 b, .str s]])]) = cd H i (M.emit op a b s) := by
    have := cd_set21 H i M (M.emit op a b s) rfl rfl
    simpa [Mk.emit, insR] using this
  simp -implicitDefEqProofs [ac54, cd_0 M hi, cd_1 M hi, cd_2 M hi, cd_len, Ref.re, e1, go_sem, -List.set_cons_succ, -List.set_cons_zero]
  exact ⟨ha, by unfold maxApp; omega, cd_fits hf hi⟩
theorem slot_makes (M : Mk) (h : M.next ≤ 1000000) : Makes 56 [] M M.bump (.c (.d (.int .i64 M.next))) := fun H i hi => by
  refine acalls Tryz.func56 (by kernel_rfl) ac56_ok fun hf => ?_
  rw [cd_len] at hf
  have hn : inR .i64 ((M.next : Int) + 1) := small_i64 (by omega) (by omega)
  have hn2 : inR .i64 (M.next : Int) := small_i64 (by omega) (by omega)
  have e1 : (cd H i M).set (i + 1) (.cells [.map (.e i), .d (.int .i64 ((M.next : Int) + 1)), .own (.e (i + 2)) M.code.length M.code]) = cd H i M.bump := by
    have := cd_set1 H i M M.bump rfl rfl
    simpa [Mk.bump] using this
  have hb : (M.bump.next : Int) = M.next + 1 := by simp [Mk.bump]
  simp -implicitDefEqProofs [ac56, cd_0 M hi, cd_1 M hi, cd_2 M hi, cd_1 M.bump hi, cd_len, hn, hn2, Ref.re, e1, hb, go_sem, -List.set_cons_succ, -List.set_cons_zero]
  exact cd_fits hf hi
theorem described_makes (t : Tm) (hg : t.good) (hk : t.k ≠ 3) (M : Mk) (B : Nat) (hM : M.fit B) (hB : B ≤ 900000) : Makes 55 [.agg (t.row.map .d)] M (M.desc t) (.tup []) := fun H i hi => by
  have hvs := var_slot hg
  have hnx := hM.next
  have hcd := hM.code
  have hal := hM.all
  refine acalls Tryz.func55 (by kernel_rfl) ac55_ok fun hf => ?_
  rw [cd_len] at hf
  obtain ⟨k, n, s, kids⟩ := t
  cases hg with
  | mk ho _ =>
    rcases own_cases ho with ⟨rfl, n0, n1, rfl, rfl⟩ | ⟨rfl, n0, n1, rfl, rfl⟩ | ⟨rfl, rfl, hs2, hl4⟩
    · obtain ⟨v, hv, hv26⟩ := hvs rfl
      simp only [Tm.n] at hv
      subst hv
      cases hsv : slotO M.sl v with
      | some u =>
        have e1 : M.desc (.mk 1 v [] []) = M.emit 5 u 0 [] := by simp [Mk.desc, Tm.k, Tm.n, hsv]
        rw [e1]
        simp -implicitDefEqProofs [ac55, row_mk, cd_0 M hi, cd_1 M hi, cd_2 M hi, cd_len, Ref.re, hf, slotsM_row, hsv, go_sem, -List.set_cons_succ, -List.set_cons_zero]
        refine call_mk (add_makes M 5 u 0 [] (by omega) hal) hi (by simp [Ob.re, C.re]) rfl hf ?_
        simp -implicitDefEqProofs [cd_len, go_sem, -List.set_cons_succ, -List.set_cons_zero]
      | none =>
        have e1 : M.desc (.mk 1 v [] []) = ((M.give v M.next).bump).emit 4 M.next 0 [] := by simp [Mk.desc, Tm.k, Tm.n, hsv, Mk.bump, Mk.emit, Mk.give]
        have hf1 := fun M' => cd_fits (M' := M') hf hi
        have hput := slotsM_put v M.next M.sl hsv
        have hset := cd_set0 H i M.bump (M.give v M.next).bump rfl rfl
        have hse2 : slotO (M.sl ++ [((v : Int), M.next)]) v = some M.next := by rw [slotO_snoc _ _ _ _ hsv, if_pos rfl]
        rw [e1]
        simp -implicitDefEqProofs [ac55, row_mk, cd_0 M hi, cd_1 M hi, cd_2 M hi, cd_len, Ref.re, hf, slotsM_row, hsv, go_sem, -List.set_cons_succ, -List.set_cons_zero]
        refine call_mk (slot_makes M (by omega)) hi (by simp [Ob.re, C.re]) rfl hf ?_
        refine ⟨⟨LocSame.refl _, cd_head _ _ hi⟩, ?_⟩
        simp -implicitDefEqProofs [cd_0 M.bump hi, cd_len, go_sem, -List.set_cons_succ, -List.set_cons_zero]
        have hs0 : M.bump.sl = M.sl := rfl
        rw [hs0, hput, show M.sl ++ [((v : Int), M.next)] = (M.give v M.next).bump.sl from rfl, hset]
        refine ⟨hf1 _, ?_⟩
        simp -implicitDefEqProofs [cd_0 _ hi, cd_1 _ hi, cd_2 _ hi, cd_len, Ref.re, hf1, slotsM_row, go_sem, -List.set_cons_succ, -List.set_cons_zero]
        rw [show (M.give v M.next).bump.sl = M.sl ++ [((v : Int), M.next)] from rfl, hse2]
        simp -implicitDefEqProofs [cd_len, go_sem, -List.set_cons_succ, -List.set_cons_zero]
        refine call_mk (add_makes (M.give v M.next).bump 4 M.next 0 [] (by show M.code.length ≤ _; omega) hal) hi (by simp [Ob.re, C.re]) rfl (hf1 _) ?_
        simp -implicitDefEqProofs [cd_len, go_sem, -List.set_cons_succ, -List.set_cons_zero]
    · have e1 : M.desc (.mk 2 n [] []) = M.emit 6 n 0 [] := by simp [Mk.desc, Tm.k, Tm.n]
      rw [e1]
      simp -implicitDefEqProofs [ac55, row_mk, cd_0 M hi, cd_1 M hi, cd_2 M hi, cd_len, Ref.re, hf, go_sem, -List.set_cons_succ, -List.set_cons_zero]
      refine call_mk (add_makes M 6 n 0 [] (by omega) hal) hi (by simp [Ob.re, C.re]) rfl hf ?_
      simp -implicitDefEqProofs [cd_len, go_sem, -List.set_cons_succ, -List.set_cons_zero]
    · exact absurd rfl hk
end Go.Proofs.YteighafofbohcaaGreat
