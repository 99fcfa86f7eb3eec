/-
  Contracts of functions that the law reaches, and plain lemmas: several texts in one.
  Conditions: none.
-/
import Derived.Test.YtgfmlifkhpjplaaGreatDoorBundC
import Derived.Test.YtgfmlifkhpjplaaGreatDoorBundA
import Derived.Test.YtgfmlifkhpjplaaGreatDoorBundB
open Go Go.AM Go.Proofs
attribute [local go_sem] kw ew sw tw a_ b_ c_ A.ok A.val d_ e_ f_ g_ h_ i_ j_ k_ l_ m_ unA unD n_ AOp.total o_ p_ q_ r_ s_ t_ u_ v_ A.thaw C.thaw A.fits As.fits C.fits evs oks w_ A.pure C.pure A.re C.re x_ y_ cut A.cells C.rows? z_ A_ B_ C_ a0_ b0_ D_ Ob.re Cs.fits E_ F_ G_ H_ I_ J_ K_ L_ M_ N_ O_ C.toD P_ Q_ R_ S_ T_ Obs.fits U_ eqD V_ W_ X_ Y_ Z_
/-
  The source of draws: its first functions, each by what it answers.
  Conditions: none.
-/
open Go Go.AM Go.Proofs
namespace Go.Proofs.YtgfmlifkhpjplaaGreatDoor
open Go.ChangeShapes Go.WideShapes Go.ChangeAt Go.RowKit
set_option linter.unusedVariables false
set_option linter.unusedSimpArgs false
set_option maxRecDepth 100000
-- 53 (*loop.example/prologserver/spec.l18Rd).pick params 2 ntmps 99
def ac53 : Cd := .seq (.region [⟨(some 4),.mv (.k (.c (.d (.int .i64 0)))),none⟩] [4])
 (.seq (.region [⟨(some 7),.mv (.t 0),none⟩,
 ⟨(some 8),.mv (.t 0),none⟩,
 ⟨(some 9),.nilCheck (.t 8),none⟩,
 ⟨(some 10),.fieldAddr 1 (.t 9),none⟩,
 ⟨(some 11),.load none (.t 10),none⟩,
 ⟨(some 12),.bin .add (.t 11) (.k (.c (.d (.int .i64 1)))),none⟩,
 ⟨(some 13),.nilCheck (.t 7),none⟩,
 ⟨(some 14),.fieldAddr 1 (.t 13),none⟩,
 ⟨none,.store 1 (.t 14) (.t 12),none⟩] [7,8,9,10,11,12,13,14])
 (.seq (.seq (.region [⟨(some 15),.mv (.t 1),none⟩,
 ⟨(some 16),.bin .lss (.t 15) (.k (.c (.d (.int .i64 1)))),none⟩,
 ⟨(some 17),.mv (.t 16),none⟩,
 ⟨(some 18),.mv (.t 0),some (17,false)⟩,
 ⟨(some 19),.nilCheck (.t 18),some (17,false)⟩,
 ⟨(some 20),.fieldAddr 0 (.t 19),some (17,false)⟩,
 ⟨(some 21),.load none (.t 20),some (17,false)⟩,
 ⟨(some 22),.len 1 (.t 21),some (17,false)⟩,
 ⟨(some 23),.bin .eql (.t 22) (.k (.c (.d (.int .i64 0)))),some (17,false)⟩,
 ⟨(some 24),.pick (.t 17) (.k (.c (.d (.bool true)))) (.t 23),none⟩] [15,16,17,18,19,20,21,22,23])
 (.cond (.t 24)
 (.seq (.region [⟨(some 4),.mv (.k (.c (.d (.int .i64 0)))),none⟩] [0,1,24])
 (.ret))
 (.skip)))
 (.seq (.region [⟨(some 25),.mv (.t 0),none⟩,
 ⟨(some 26),.nilCheck (.t 25),none⟩,
 ⟨(some 27),.fieldAddr 1 (.t 26),none⟩,
 ⟨(some 28),.load none (.t 27),none⟩,
 ⟨(some 29),.bin .sub (.t 28) (.k (.c (.d (.int .i64 1)))),none⟩,
 ⟨(some 5),.mv (.t 29),none⟩] [4,24,25,26,27,28,29])
 (.seq (.seq (.region [⟨(some 30),.mv (.t 5),none⟩,
 ⟨(some 31),.mv (.t 0),none⟩,
 ⟨(some 32),.nilCheck (.t 31),none⟩,
 ⟨(some 33),.fieldAddr 0 (.t 32),none⟩,
 ⟨(some 34),.load none (.t 33),none⟩,
 ⟨(some 35),.len 1 (.t 34),none⟩,
 ⟨(some 36),.bin .lss (.t 30) (.t 35),none⟩] [30,31,32,33,34,35])
 (.cond (.t 36)
 (.seq (.region [⟨(some 37),.mv (.t 0),none⟩,
 ⟨(some 38),.nilCheck (.t 37),none⟩,
 ⟨(some 39),.fieldAddr 0 (.t 38),none⟩,
 ⟨(some 40),.load none (.t 39),none⟩,
 ⟨(some 41),.mv (.t 5),none⟩,
 ⟨(some 42),.indexAddr 1 (.t 40) (.t 41),none⟩,
 ⟨(some 43),.load none (.t 42),none⟩,
 ⟨(some 44),.cvInt .i64 (.t 43),none⟩,
 ⟨(some 45),.mv (.t 1),none⟩,
 ⟨(some 46),.bin .rem (.t 44) (.t 45),none⟩,
 ⟨(some 4),.mv (.t 46),none⟩] [0,1,5,36,37,38,39,40,41,42,43,44,45,46])
 (.ret))
 (.skip)))
 (.seq (.region [⟨(some 47),.mv (.t 0),none⟩,
 ⟨(some 48),.nilCheck (.t 47),none⟩,
 ⟨(some 49),.fieldAddr 0 (.t 48),none⟩,
 ⟨(some 51),.mv (.t 5),none⟩,
 ⟨(some 52),.mv (.t 0),none⟩,
 ⟨(some 53),.nilCheck (.t 52),none⟩,
 ⟨(some 54),.fieldAddr 0 (.t 53),none⟩,
 ⟨(some 62),.mv (.t 0),none⟩,
 ⟨(some 63),.nilCheck (.t 62),none⟩,
 ⟨(some 64),.fieldAddr 0 (.t 63),none⟩,
 ⟨(some 66),.mv (.t 5),none⟩,
 ⟨(some 67),.bin .mul (.t 66) (.k (.c (.d (.int .i64 7)))),none⟩,
 ⟨(some 68),.bin .add (.t 67) (.k (.c (.d (.int .i64 3)))),none⟩,
 ⟨(some 69),.mv (.t 0),none⟩,
 ⟨(some 70),.nilCheck (.t 69),none⟩,
 ⟨(some 71),.fieldAddr 0 (.t 70),none⟩,
 ⟨(some 80),.mv (.t 5),none⟩,
 ⟨(some 81),.bin .mul (.t 80) (.k (.c (.d (.int .i64 29)))),none⟩,
 ⟨(some 83),.mv (.t 5),none⟩,
 ⟨(some 84),.mv (.t 0),none⟩,
 ⟨(some 85),.nilCheck (.t 84),none⟩,
 ⟨(some 86),.fieldAddr 0 (.t 85),none⟩,
 ⟨(some 50),.load none (.t 49),none⟩,
 ⟨(some 55),.load none (.t 54),none⟩,
 ⟨(some 56),.len 1 (.t 55),none⟩,
 ⟨(some 57),.bin .rem (.t 51) (.t 56),none⟩,
 ⟨(some 58),.indexAddr 1 (.t 50) (.t 57),none⟩,
 ⟨(some 59),.load none (.t 58),none⟩,
 ⟨(some 60),.cvInt .i64 (.t 59),none⟩,
 ⟨(some 61),.bin .mul (.t 60) (.k (.c (.d (.int .i64 131)))),none⟩,
 ⟨(some 65),.load none (.t 64),none⟩,
 ⟨(some 72),.load none (.t 71),none⟩,
 ⟨(some 73),.len 1 (.t 72),none⟩,
 ⟨(some 74),.bin .rem (.t 68) (.t 73),none⟩,
 ⟨(some 75),.indexAddr 1 (.t 65) (.t 74),none⟩,
 ⟨(some 76),.load none (.t 75),none⟩,
 ⟨(some 77),.cvInt .i64 (.t 76),none⟩,
 ⟨(some 78),.bin .mul (.t 77) (.k (.c (.d (.int .i64 1117)))),none⟩,
 ⟨(some 79),.bin .add (.t 61) (.t 78),none⟩,
 ⟨(some 82),.bin .add (.t 79) (.t 81),none⟩,
 ⟨(some 87),.load none (.t 86),none⟩,
 ⟨(some 88),.len 1 (.t 87),none⟩,
 ⟨(some 89),.bin .quo (.t 83) (.t 88),none⟩,
 ⟨(some 90),.bin .mul (.t 89) (.k (.c (.d (.int .i64 53)))),none⟩,
 ⟨(some 91),.bin .add (.t 82) (.t 90),none⟩,
 ⟨(some 6),.mv (.t 91),none⟩] [0,4,5,36,47,48,49,50,51,52,53,54,55,56,57,58,59,60,61,62,63,64,65,66,67,68,69,70,71,72,73,74,75,76,77,78,79,80,81,82,83,84,85,86,87,88,89,90,91])
 (.seq (.region [⟨(some 92),.mv (.t 6),none⟩,
 ⟨(some 93),.mv (.t 6),none⟩,
 ⟨(some 94),.bin .quo (.t 93) (.k (.c (.d (.int .i64 64)))),none⟩,
 ⟨(some 95),.bin .xor (.t 92) (.t 94),none⟩,
 ⟨(some 6),.mv (.t 95),none⟩] [92,93,94,95])
 (.seq (.region [⟨(some 96),.mv (.t 6),none⟩,
 ⟨(some 97),.mv (.t 1),none⟩,
 ⟨(some 98),.bin .rem (.t 96) (.t 97),none⟩,
 ⟨(some 4),.mv (.t 98),none⟩] [1,6,96,97,98])
 (.ret))))))))
theorem ac53_ok : cFunc Tryz.prog [] [(0,[4],[]),(1,[7,8,9,10,11,12,13,14],[]),(2,[15,16,17,18,19,20,21,22,23],[]),(3,[0,1,24],[]),(4,[4,24,25,26,27,28,29],[]),(5,[30,31,32,33,34,35],[]),(6,[0,1,5,36,37,38,39,40,41,42,43,44,45,46],[]),(7,[0,4,5,36,47,48,49,50,51,52,53,54,55,56,57,58,59,60,61,62,63,64,65,66,67,68,69,70,71,72,73,74,75,76,77,78,79,80,81,82,83,84,85,86,87,88,89,90,91],[0,1,2,4,5,6,7,15,16,17,19,20,21,22,23,24,33,34,36,37,38,39,3,8,9,10,11,12,13,14,18,25,26,27,28,29,30,31,32,35,40,41,42,43,44,45]),(8,[92,93,94,95],[]),(9,[1,6,96,97,98],[])] Tryz.f53 = some (ac53,[.tmp 4],99) := by kernel_rfl
-- 34 loop.example/prologserver/spec.l18Open params 1 ntmps 11
def ac34 : Cd := .seq (.region [⟨(some 2),.mv (.k (.c (.d (.v (.pointer none))))),none⟩] [2])
 (.seq (.seq (.region [⟨(some 3),.mv (.t 0),none⟩,
 ⟨(some 4),.len 1 (.t 3),none⟩,
 ⟨(some 5),.bin .gtr (.t 4) (.k (.c (.d (.int .i64 2000)))),none⟩] [3,4])
 (.cond (.t 5)
 (.region [⟨(some 6),.mv (.t 0),none⟩,
 ⟨(some 7),.slice 1 (.t 6) none (some (.k (.c (.d (.int .i64 2000))))) none,none⟩,
 ⟨(some 0),.mv (.t 7),none⟩] [5,6,7])
 (.skip)))
 (.seq (.region [⟨(some 8),.mv (.t 0),none⟩,
 ⟨(some 9),.build [(.full []),(.d (.int .i64 0))] [(0,1,(.t 8))],none⟩,
 ⟨(some 10),.box (.t 9),none⟩,
 ⟨(some 2),.mv (.t 10),none⟩] [0,5,8,9,10])
 (.ret)))
theorem ac34_ok : cFunc Tryz.prog [] [(0,[2],[]),(1,[3,4],[]),(2,[5,6,7],[]),(3,[0,5,8,9,10],[])] Tryz.f34 = some (ac34,[.tmp 2],11) := by kernel_rfl
-- 37 (*loop.example/prologserver/spec.l18Rd).num params 2 ntmps 12
def ac37 : Cd := .seq (.region [⟨(some 4),.mv (.k (.c (.d (.int .i64 0)))),none⟩] [4])
 (.seq (.region [⟨(some 5),.mv (.t 1),none⟩,
 ⟨(some 6),.mv (.t 0),none⟩,
 ⟨(some 7),.mv (.t 1),none⟩,
 ⟨(some 8),.len 1 (.t 7),none⟩,
 ⟨(some 9),.call false 53 [(.t 6),(.t 8)],none⟩,
 ⟨(some 10),.indexAddr 1 (.t 5) (.t 9),none⟩,
 ⟨(some 11),.load none (.t 10),none⟩,
 ⟨(some 4),.mv (.t 11),none⟩] [0,1,5,6,7,8,9,10,11])
 (.ret))
theorem ac37_ok : cFunc Tryz.prog [] [(0,[4],[]),(1,[0,1,5,6,7,8,9,10,11],[])] Tryz.f37 = some (ac37,[.tmp 4],12) := by kernel_rfl
/-- a source of draws, at a place -/
def Rd (c : List UInt8) (p : Int) : Ob := .cells [.d (.sl (bytesRows c)), .d (.int .i64 p)]
theorem xor_small {x y : Int} (hx : 0 ≤ x) (hx1 : x < 1099511627776) (hy : 0 ≤ y) (hy1 : y < 1099511627776) : 0 ≤ bitsVal .xor .i64 x y ∧ bitsVal .xor .i64 x y < 1099511627776 := by
  obtain ⟨a, rfl⟩ := Int.eq_ofNat_of_zero_le hx
  obtain ⟨b, rfl⟩ := Int.eq_ofNat_of_zero_le hy
  have hx : a < 2 ^ 40 := by omega
  have hy : b < 2 ^ 40 := by omega
  have hxor : a ^^^ b < 2 ^ 40 := Nat.xor_lt_two_pow hx hy
  have e : ((BitVec.ofInt 64 (a : Int)) ^^^ (BitVec.ofInt 64 (b : Int))).toNat = a ^^^ b := by
    rw [BitVec.toNat_xor]
    have h1 : (BitVec.ofInt 64 (a : Int)).toNat = a := by rw [BitVec.ofInt_natCast, BitVec.toNat_ofNat, Nat.mod_eq_of_lt (by omega)]
    have h2 : (BitVec.ofInt 64 (b : Int)).toNat = b := by rw [BitVec.ofInt_natCast, BitVec.toNat_ofNat, Nat.mod_eq_of_lt (by omega)]
    rw [h1, h2]
  have : bitsVal .xor .i64 (a : Int) (b : Int) = ((a ^^^ b : Nat) : Int) := by
    show IntKind.wrap .i64 (((BitVec.ofInt 64 (a : Int)) ^^^ (BitVec.ofInt 64 (b : Int))).toNat : Int) = _
    rw [e, IntKind.wrap_i64]
    omega
  rw [this]
  omega
theorem pick_calls (c : List UInt8) (hc : c.length ≤ 2000) (p m : Int) (hp : 0 ≤ p) (hp1 : p ≤ 1000000) (hm : -1000000000 ≤ m ∧ m ≤ 1000000000) (H : Heap) (i : Nat) (hi : i < H.length) :
    ACalls Tryz.prog 53 [.c (.ptr (.e i) 0), .c (.d (.int .i64 m))] (H.set i (Rd c p)) (fun r H' => ∃ k : Int, r = .c (.d (.int .i64 k)) ∧ 0 ≤ k ∧ (0 < m → k < m) ∧ H' = H.set i (Rd c (p + 1))) := by
  refine acalls Tryz.func53 (by kernel_rfl) ac53_ok fun hf => ?_
  have hadd : inR .i64 (p + 1) := small_i64 (by omega) (by omega)
  have hl : inR .i64 (c.length : Int) := small_i64 (by omega) (by omega)
  have hi64 : inR .i64 p := small_i64 (by omega) (by omega)
  simp only [List.length_set] at hf
  simp -implicitDefEqProofs [ac53, Rd, hadd, hl, hi64, hi, List.getElem?_set, bytesRows_len, go_sem, -List.set_cons_succ, -List.set_cons_zero]
  have hfit : Obs.fits H.length 0 (H.set i (.cells [.d (.sl (bytesRows c)), .d (.int .i64 (p + 1))])) := fits_reset hf ⟨trivial, trivial, trivial⟩
  refine ⟨hfit, fun h1 hc0 => ⟨fun h2 => ?_, fun h2 => ?_⟩⟩
  · refine byteRow hp (by omega) ?_
    simp -implicitDefEqProofs [u8_i64, go_sem, -List.set_cons_succ, -List.set_cons_zero]
    refine ⟨by omega, Int.tmod_nonneg _ (by omega), fun h => Int.tmod_lt_of_pos _ h⟩
  · have hcl : 0 < c.length := by cases c with | nil => exact absurd rfl hc0 | cons a l => simp
    refine ⟨small_i64 (by omega) (by omega), small_i64 (by omega) (by omega), small_i64 (by omega) (by omega), hc0, ?_⟩
    have hm1 := Int.tmod_nonneg (a := p) (c.length : Int) hp
    have hm2 := Int.tmod_lt_of_pos p (b := (c.length : Int)) (by omega)
    refine byteRow hm1 (by omega) ?_
    have hb1 := (c[(p.tmod ↑c.length).toNat]'(by omega)).toNat_lt
    have hq : 0 ≤ (p * 7 + 3).tmod (c.length : Int) := Int.tmod_nonneg _ (by omega)
    have hq2 := Int.tmod_lt_of_pos (p * 7 + 3) (b := (c.length : Int)) (by omega)
    simp -implicitDefEqProofs [u8_i64, hcl, hi, hl, bytesRows_len, bytesRows_nil, hc0, List.getElem?_set, go_sem, -List.set_cons_succ, -List.set_cons_zero]
    refine ⟨small_i64 (by omega) (by omega), byteRow hq (by omega) ?_⟩
    have hb2 := (c[((p * 7 + 3).tmod ↑c.length).toNat]'(by omega)).toNat_lt
    have hd0 : 0 ≤ p.tdiv (c.length : Int) := Int.tdiv_nonneg hp (by omega)
    have hd1 : p.tdiv (c.length : Int) ≤ p := Int.tdiv_le_self _ hp
    generalize ((c[(p.tmod ↑c.length).toNat]'(by omega)).toNat : Nat) = b1 at hb1
    generalize ((c[((p * 7 + 3).tmod ↑c.length).toNat]'(by omega)).toNat : Nat) = b2 at hb2
    generalize hdd : p.tdiv (c.length : Int) = d at hd0 hd1
    have i1 : inR .i64 ((b2 : Int) * 1117) := small_i64 (by omega) (by omega)
    have i2 : inR .i64 ((b1 : Int) * 131 + (b2 : Int) * 1117) := small_i64 (by omega) (by omega)
    have i3 : inR .i64 ((b1 : Int) * 131 + (b2 : Int) * 1117 + p * 29) := small_i64 (by omega) (by omega)
    have i4 : inR .i64 d := small_i64 (by omega) (by omega)
    have i5 : inR .i64 (d * 53) := small_i64 (by omega) (by omega)
    have i6 : inR .i64 ((b1 : Int) * 131 + (b2 : Int) * 1117 + p * 29 + d * 53) := small_i64 (by omega) (by omega)
    have hw : IntKind.wrap .i64 (b2 : Int) = b2 := by rw [IntKind.wrap_i64]; omega
    generalize hX : (b1 : Int) * 131 + (b2 : Int) * 1117 + p * 29 + d * 53 = X at i6
    have hx0 : 0 ≤ X := by omega
    have hx1 : X < 1099511627776 := by omega
    have j1 : 0 ≤ X.tdiv 64 := Int.tdiv_nonneg hx0 (by omega)
    have j2 : X.tdiv 64 ≤ X := Int.tdiv_le_self _ hx0
    obtain ⟨k1, k2⟩ := xor_small hx0 hx1 j1 (by omega)
    have i7 : inR .i64 (X.tdiv 64) := small_i64 (by omega) (by omega)
    simp -implicitDefEqProofs [hw, hcl, hi, hl, hdd, i1, i2, i3, i4, i5, hX, i6, i7, bytesRows_len, bytesRows_nil, hc0, List.getElem?_set, go_sem, -List.set_cons_succ, -List.set_cons_zero]
    exact ⟨by omega, Int.tmod_nonneg _ k1, fun h => Int.tmod_lt_of_pos _ h⟩

/-- what a function that draws gives: its source stands behind where it stood -/
def Drew (R : A → Prop) (N : Int) (c : List UInt8) (p : Int) (H : Heap) (i : Nat) (r : A) (H' : Heap) : Prop := R r ∧ ∃ p', p ≤ p' ∧ p' ≤ p + N ∧ H' = H.set i (Rd c p')
/-- what a function that draws is shown to give -/
def Draws (f : FuncId) (xs : List A) (N : Int) (R : A → Prop) : Prop :=
  ∀ (c : List UInt8) (p : Int) (H : Heap) (i : Nat), c.length ≤ 2000 → 0 ≤ p → p + N ≤ 1000000 → i < H.length → ACalls Tryz.prog f (.c (.ptr (.e i) 0) :: xs) (H.set i (Rd c p)) (Drew R N c p H i)
/-- an integer in a range -/
def IntIn (lo hi : Int) (r : A) : Prop := ∃ k : Int, r = .c (.d (.int .i64 k)) ∧ lo ≤ k ∧ k < hi
theorem pick_draws (m : Int) (hm : 1 ≤ m ∧ m ≤ 1000000000) : Draws 53 [.c (.d (.int .i64 m))] 1 (IntIn 0 m) := fun c p H i hc hp hp1 hi =>
  (pick_calls c hc p m hp (by omega) ⟨by omega, hm.2⟩ H i hi).mono fun r H' ⟨k, h1, h2, h3, h4⟩ => ⟨⟨k, h1, h2, h3 (by omega)⟩, p + 1, by omega, by omega, h4⟩

/-- a call that draws from a source that was handed in -/
theorem call_drawE {f : FuncId} {xs : List A} {N : Int} {R : A → Prop} (hd : Draws f xs N R) {c : List UInt8} {p : Int} {H : Heap} {i : Nat} {sl : List A} {loc H₂ : Heap} {K : A → St → Prop} (hc : c.length ≤ 2000) (hp : 0 ≤ p) (hp1 : p + N ≤ 1000000) (hi : i < H.length)
    (hH : H₂ = H.set i (Rd c p) ++ loc.map (Ob.re H.length)) (hr : ∀ r, R r → A.re H.length r = r) (hf : Obs.fits H.length 0 (H.set i (Rd c p))) (hk : ∀ r p', R r → p ≤ p' → p' ≤ p + N → K r ⟨sl, H.set i (Rd c p'), loc⟩) :
    ACalls Tryz.prog f (.c (.ptr (.e i) 0) :: xs) H₂ (CallK K ⟨sl, H.set i (Rd c p), loc⟩) := by
  subst hH
  have h := hd c p (H ++ loc.map (Ob.re H.length)) i hc hp hp1 (by simp; omega)
  rw [List.set_append_left _ _ hi] at h
  refine h.mono fun r H' ⟨h1, p', h2, h3, h4⟩ => ?_
  rw [List.set_append_left _ _ hi] at h4
  exact ⟨H.set i (Rd c p'), loc, r, by simpa using h4, by simp, Nat.le_refl _, by simpa using fits_reset (b := Rd c p') hf ⟨trivial, trivial, trivial⟩, by simpa using (hr r h1).symm, hk r p' h1 h2 h3⟩
/-- a call that draws from an own source, the first own object -/
theorem call_drawL {f : FuncId} {xs : List A} {N : Int} {R : A → Prop} (hd : Draws f xs N R) {c : List UInt8} {p : Int} {H : Heap} {sl : List A} {loc H₂ : Heap} {j : Nat} {K : A → St → Prop} (hc : c.length ≤ 2000) (hp : 0 ≤ p) (hp1 : p + N ≤ 1000000) (hj : loc[j]? = some (Rd c p))
    (hH : H₂ = H ++ loc.map (Ob.re H.length)) (hr : ∀ r, R r → A.re H.length r = r) (hf : Obs.fits H.length 0 H) (hk : ∀ r p', R r → p ≤ p' → p' ≤ p + N → K r ⟨sl, H, loc.set j (Rd c p')⟩) :
    ACalls Tryz.prog f (.c (.ptr (.e (H.length + j)) 0) :: xs) H₂ (CallK K ⟨sl, H, loc⟩) := by
  subst hH
  have hjl : j < loc.length := (List.getElem?_eq_some_iff.1 hj).1
  have h := hd c p (H ++ loc.map (Ob.re H.length)) (H.length + j) hc hp hp1 (by simp; omega)
  have e : ∀ q, (H ++ loc.map (Ob.re H.length)).set (H.length + j) (Rd c q) = H ++ (loc.set j (Rd c q)).map (Ob.re H.length) := fun q => by
    rw [List.set_append_right _ _ (by omega), Nat.add_sub_cancel_left, List.map_set]
    rfl
  have e0 : loc.set j (Rd c p) = loc := by
    apply List.ext_getElem?
    intro k
    rw [List.getElem?_set]
    split
    · rename_i h; subst h; rw [hj]
    · rfl
  rw [e, e0] at h
  refine h.mono fun r H' ⟨h1, p', h2, h3, h4⟩ => ?_
  rw [e] at h4
  exact ⟨H, loc.set j (Rd c p'), r, h4, rfl, by simp, hf, (hr r h1).symm, hk r p' h1 h2 h3⟩
theorem IntIn.re {lo hi : Int} {n : Nat} {r : A} (h : IntIn lo hi r) : A.re n r = r := by
  obtain ⟨k, rfl, _⟩ := h
  rfl

theorem num_draws (l : List Int) (hl : 1 ≤ l.length ∧ l.length ≤ 1000) : Draws 37 [.c (.d (.sl (l.map fun n => [.int .i64 n])))] 1 (fun r => ∃ n ∈ l, r = .c (.d (.int .i64 n))) := fun c p H i hc hp hp1 hi => by
  refine acalls Tryz.func37 (by kernel_rfl) ac37_ok fun hf => ?_
  simp only [List.length_set] at hf
  have hll : inR .i64 (l.length : Int) := small_i64 (by omega) (by omega)
  simp -implicitDefEqProofs [ac37, hll, go_sem, -List.set_cons_succ, -List.set_cons_zero]
  refine call_drawE (pick_draws l.length ⟨by omega, by omega⟩) hc hp hp1 hi (by simp) (fun r => IntIn.re) hf ?_
  rintro _ p' ⟨k, rfl, h1, h2⟩ h3 h4
  simp -implicitDefEqProofs [go_sem, -List.set_cons_succ, -List.set_cons_zero]
  have hk : k.toNat < l.length := by omega
  refine row_int [.int .i64 l[k.toNat]] h1 (by simp [hk]) rfl ?_
  simp -implicitDefEqProofs [go_sem, -List.set_cons_succ, -List.set_cons_zero]
  exact ⟨⟨_, List.getElem_mem hk, rfl⟩, p', h3, h4, rfl⟩
theorem open_calls (c : List UInt8) (hc : c.length ≤ 1048576) (H : Heap) : ACalls Tryz.prog 34 [.c (.d (.sl (bytesRows c)))] H (fun r H' => r = .c (.ptr (.e H.length) 0) ∧ ∃ c' : List UInt8, c'.length ≤ 2000 ∧ H' = H ++ [Rd c' 0]) := by
  refine acallsK Tryz.func34 (by kernel_rfl) ac34_ok fun hf => ?_
  have hl : inR .i64 (c.length : Int) := small_i64 (by omega) (by omega)
  simp -implicitDefEqProofs [ac34, hl, bytesRows_len, go_sem, -List.set_cons_succ, -List.set_cons_zero]
  refine ⟨fun h => ⟨?_, by omega, ?_⟩, fun h => ?_⟩
  · intro r hr
    simp only [bytesRows, List.mem_map] at hr
    obtain ⟨b, _, rfl⟩ := hr
    rfl
  · refine finK_ret _ ⟨trivial, trivial⟩ rfl ⟨rfl, c.take 2000, by simp; omega, ?_⟩
    simp [Rd, bytesRows, Ob.re, C.re]
  · refine finK_ret _ ⟨trivial, trivial⟩ rfl ⟨rfl, c, by omega, ?_⟩
    simp [Rd, Ob.re, C.re]
end Go.Proofs.YtgfmlifkhpjplaaGreatDoor

/-
  Terms that are drawn.
  Conditions: none.
-/
open Go Go.AM Go.Proofs
namespace Go.Proofs.YtgfmlifkhpjplaaGreatDoor
open Go.ChangeShapes Go.WideShapes Go.ChangeAt Go.RowKit
set_option linter.unusedVariables false
set_option linter.unusedSimpArgs false
set_option maxRecDepth 100000
-- 54 (*loop.example/prologserver/spec.l18Rd).of params 2 ntmps 12
def ac54 : Cd := .seq (.region [⟨(some 4),.mv (.k (.c (.d (.str [])))),none⟩] [4])
 (.seq (.region [⟨(some 5),.mv (.t 1),none⟩,
 ⟨(some 6),.mv (.t 0),none⟩,
 ⟨(some 7),.mv (.t 1),none⟩,
 ⟨(some 8),.len 1 (.t 7),none⟩,
 ⟨(some 9),.call false 53 [(.t 6),(.t 8)],none⟩,
 ⟨(some 10),.indexAddr 1 (.t 5) (.t 9),none⟩,
 ⟨(some 11),.load none (.t 10),none⟩,
 ⟨(some 4),.mv (.t 11),none⟩] [0,1,5,6,7,8,9,10,11])
 (.ret))
theorem ac54_ok : cFunc Tryz.prog [] [(0,[4],[]),(1,[0,1,5,6,7,8,9,10,11],[])] Tryz.f54 = some (ac54,[.tmp 4],12) := by kernel_rfl
-- 56 loop.example/prologserver/spec.l1Draw params 2 ntmps 65
-- loop head live: [0,1,4,5,6]
def ac56 : Cd := .seq (.region [⟨(some 4),.alloc [(.d (.int .i64 0)),(.d (.int .i64 0)),(.d (.str [])),(.full [])],none⟩] [])
 (.seq (.seq (.region [⟨(some 7),.mv (.t 1),none⟩,
 ⟨(some 8),.bin .lss (.t 7) (.k (.c (.d (.int .i64 2)))),none⟩,
 ⟨(some 9),.mv (.t 8),none⟩,
 ⟨(some 10),.mv (.t 0),some (9,false)⟩,
 ⟨(some 11),.call false 53 [(.t 10),(.k (.c (.d (.int .i64 4))))],some (9,false)⟩,
 ⟨(some 12),.bin .eql (.t 11) (.k (.c (.d (.int .i64 0)))),some (9,false)⟩,
 ⟨(some 13),.pick (.t 9) (.k (.c (.d (.bool true)))) (.t 12),none⟩] [7,8,9,10,11,12])
 (.cond (.t 13)
 (.seq (.seq (.region [⟨(some 14),.mv (.t 0),none⟩,
 ⟨(some 15),.call false 53 [(.t 14),(.k (.c (.d (.int .i64 4))))],none⟩] [1,13,14])
 (.block 0 (.seq (.region [⟨(some 17),.bin .eql (.t 15) (.k (.c (.d (.int .i64 0)))),none⟩,
 ⟨(some 16),.mv (.t 17),none⟩] [17])
 (.cond (.t 16)
 (.seq (.region [⟨(some 18),.mv (.t 0),none⟩,
 ⟨(some 19),.call false 53 [(.t 18),(.k (.c (.d (.int .i64 4))))],none⟩,
 ⟨(some 20),.qcall 79 [(.t 19)],none⟩,
 ⟨none,.store 4 (.t 4) (.t 20),none⟩] [0,15,16,18,19,20])
 (.ret))
 (.seq (.region [⟨(some 22),.bin .eql (.t 15) (.k (.c (.d (.int .i64 1)))),none⟩,
 ⟨(some 21),.mv (.t 22),none⟩] [15,16,22])
 (.cond (.t 21)
 (.seq (.region [⟨(some 23),.mv (.t 0),none⟩,
 ⟨(some 24),.buildSlice 1 6 [(.int .i64 0)] [(0,(.k (.c (.d (.int .i64 0))))),(1,(.k (.c (.d (.int .i64 1))))),(2,(.k (.c (.d (.int .i64 7))))),(3,(.k (.c (.d (.int .i64 (-3)))))),(4,(.k (.c (.d (.int .i64 999))))),(5,(.k (.c (.d (.int .i64 (-999))))))],none⟩,
 ⟨(some 25),.call false 37 [(.t 23),(.t 24)],none⟩,
 ⟨(some 26),.qcall 55 [(.t 25)],none⟩,
 ⟨none,.store 4 (.t 4) (.t 26),none⟩] [0,21,23,24,25,26])
 (.ret))
 (.skip)))))))
 (.seq (.region [⟨(some 27),.mv (.t 0),none⟩,
 ⟨(some 28),.buildSlice 1 6 [(.str [])] [(0,(.k (.c (.d (.str [97]))))),(1,(.k (.c (.d (.str [98]))))),(2,(.k (.c (.d (.str [110,105,108]))))),(3,(.k (.c (.d (.str [91,93]))))),(4,(.k (.c (.d (.str [102,111,111]))))),(5,(.k (.c (.d (.str [43])))))],none⟩,
 ⟨(some 29),.call false 54 [(.t 27),(.t 28)],none⟩,
 ⟨(some 30),.call false 48 [(.t 29),(.k (.c (.full [])))],none⟩,
 ⟨none,.store 4 (.t 4) (.t 30),none⟩] [0,21,27,28,29,30])
 (.ret)))
 (.skip)))
 (.seq (.seq (.region [⟨(some 31),.mv (.t 0),none⟩,
 ⟨(some 32),.call false 53 [(.t 31),(.k (.c (.d (.int .i64 3))))],none⟩,
 ⟨(some 33),.bin .eql (.t 32) (.k (.c (.d (.int .i64 0)))),none⟩] [13,31,32])
 (.cond (.t 33)
 (.seq (.region [⟨(some 34),.mv (.t 0),none⟩,
 ⟨(some 35),.mv (.t 1),none⟩,
 ⟨(some 36),.bin .sub (.t 35) (.k (.c (.d (.int .i64 1)))),none⟩,
 ⟨(some 37),.callL false false 56 [(.t 34),(.t 36)],none⟩,
 ⟨(some 38),.mv (.t 0),none⟩,
 ⟨(some 39),.mv (.t 1),none⟩,
 ⟨(some 40),.bin .sub (.t 39) (.k (.c (.d (.int .i64 1)))),none⟩,
 ⟨(some 41),.callL false false 56 [(.t 38),(.t 40)],none⟩,
 ⟨(some 42),.buildSlice 4 2 [(.int .i64 0),(.int .i64 0),(.str []),(.sl [])] [(0,(.t 37)),(1,(.t 41))],none⟩,
 ⟨(some 43),.call false 48 [(.k (.c (.d (.str [46])))),(.t 42)],none⟩,
 ⟨none,.store 4 (.t 4) (.t 43),none⟩] [0,1,33,34,35,36,37,38,39,40,41,42,43])
 (.ret))
 (.skip)))
 (.seq (.region [⟨(some 44),.mv (.t 0),none⟩,
 ⟨(some 45),.buildSlice 1 7 [(.str [])] [(0,(.k (.c (.d (.str [102]))))),(1,(.k (.c (.d (.str [103]))))),(2,(.k (.c (.d (.str [115]))))),(3,(.k (.c (.d (.str [43]))))),(4,(.k (.c (.d (.str [61]))))),(5,(.k (.c (.d (.str [105,115]))))),(6,(.k (.c (.d (.str [102,111,111])))))],none⟩,
 ⟨(some 46),.call false 54 [(.t 44),(.t 45)],none⟩,
 ⟨(some 47),.call false 48 [(.t 46),(.k (.c (.full [])))],none⟩,
 ⟨(some 5),.alloc [(.d (.int .i64 0)),(.d (.int .i64 0)),(.d (.str [])),(.full [])],none⟩,
 ⟨none,.store 4 (.t 5) (.t 47),none⟩] [33,44,45,46,47])
 (.seq (.seq (.region [⟨(some 48),.mv (.t 0),none⟩,
 ⟨(some 49),.buildSlice 1 4 [(.int .i64 0)] [(0,(.k (.c (.d (.int .i64 2))))),(1,(.k (.c (.d (.int .i64 1))))),(2,(.k (.c (.d (.int .i64 3))))),(3,(.k (.c (.d (.int .i64 2)))))],none⟩,
 ⟨(some 50),.call false 37 [(.t 48),(.t 49)],none⟩,
 ⟨(some 6),.mv (.t 50),none⟩] [48,49,50])
 (.block 1 (.loop (.seq (.seq (.region [⟨(some 51),.mv (.t 6),none⟩,
 ⟨(some 52),.bin .gtr (.t 51) (.k (.c (.d (.int .i64 0)))),none⟩] [51])
 (.cond (.t 52)
 (.skip)
 (.exit 1)))
 (.seq (.block 2 (.region [⟨(some 55),.fieldAddr 3 (.t 5),none⟩,
 ⟨(some 57),.mv (.t 0),none⟩,
 ⟨(some 58),.mv (.t 1),none⟩,
 ⟨(some 59),.bin .sub (.t 58) (.k (.c (.d (.int .i64 1)))),none⟩,
 ⟨(some 56),.loadL false none (.t 55),none⟩,
 ⟨(some 60),.callL false false 56 [(.t 57),(.t 59)],none⟩,
 ⟨(some 61),.buildSlice 4 1 [(.int .i64 0),(.int .i64 0),(.str []),(.sl [])] [(0,(.t 60))],none⟩,
 ⟨(some 62),.append false 4 (.t 56) (.t 61),none⟩,
 ⟨(some 63),.fieldAddr 3 (.t 5),none⟩,
 ⟨none,.store 1 (.t 63) (.t 62),none⟩] [52,55,56,57,58,59,60,61,62,63]))
 (.region [⟨(some 53),.mv (.t 6),none⟩,
 ⟨(some 54),.bin .sub (.t 53) (.k (.c (.d (.int .i64 1)))),none⟩,
 ⟨(some 6),.mv (.t 54),none⟩] [53,54]))))))
 (.seq (.region [⟨(some 64),.load (some 4) (.t 5),none⟩,
 ⟨none,.store 4 (.t 4) (.t 64),none⟩] [5,64])
 (.ret))))))
theorem ac56_ok : cFunc Tryz.prog [1000055,1000079,5000055,6000056] [(0,[],[]),(1,[7,8,9,10,11,12],[]),(2,[1,13,14],[]),(3,[17],[]),(4,[0,15,16,18,19,20],[]),(5,[15,16,22],[]),(6,[0,21,23,24,25,26],[]),(7,[0,21,27,28,29,30],[]),(8,[13,31,32],[]),(9,[0,1,33,34,35,36,37,38,39,40,41,42,43],[]),(10,[33,44,45,46,47],[]),(11,[48,49,50],[]),(12,[51],[]),(14,[52,55,56,57,58,59,60,61,62,63],[0,2,3,4,1,5,6,7,8,9]),(13,[53,54],[]),(15,[5,64],[])] Tryz.f56 = some (ac56,[.cell 4 (some 4)],65) := by kernel_rfl
namespace Full
-- 48 loop.example/prologserver/spec.l1Struct params 2 ntmps 10
def ac48 : Cd := .seq (.region [⟨(some 4),.alloc [(.d (.int .i64 0)),(.d (.int .i64 0)),(.d (.str [])),(.full [])],none⟩] [])
 (.seq (.region [⟨(some 5),.mv (.t 0),none⟩,
 ⟨(some 6),.buildSlice 4 0 [(.int .i64 0),(.int .i64 0),(.str []),(.sl [])] [],none⟩,
 ⟨(some 7),.mv (.t 1),none⟩,
 ⟨(some 8),.appendF 4 (.t 6) (.t 7),none⟩,
 ⟨(some 9),.build [(.d (.int .i64 0)),(.d (.int .i64 0)),(.d (.str [])),(.full [])] [(0,1,(.k (.c (.d (.int .i64 3))))),(2,1,(.t 5)),(3,1,(.t 8))],none⟩,
 ⟨none,.store 4 (.t 4) (.t 9),none⟩] [0,1,5,6,7,8,9])
 (.ret))
theorem ac48_ok : cFunc Tryz.prog [3000006] [(0,[],[]),(1,[0,1,5,6,7,8,9],[])] Tryz.f48 = some (ac48,[.cell 4 (some 4)],10) := by kernel_rfl
end Full
theorem of_draws (l : List (List UInt8)) (hl : 1 ≤ l.length ∧ l.length ≤ 1000) : Draws 54 [.c (.d (.sl (l.map fun s => [.str s])))] 1 (fun r => ∃ s ∈ l, r = .c (.d (.str s))) := fun c p H i hc hp hp1 hi => by
  refine acalls Tryz.func54 (by kernel_rfl) ac54_ok fun hf => ?_
  simp only [List.length_set] at hf
  have hll : inR .i64 (l.length : Int) := small_i64 (by omega) (by omega)
  simp -implicitDefEqProofs [ac54, hll, go_sem, -List.set_cons_succ, -List.set_cons_zero]
  refine call_drawE (pick_draws l.length ⟨by omega, by omega⟩) hc hp hp1 hi (by simp) (fun r => IntIn.re) hf ?_
  rintro _ p' ⟨k, rfl, h1, h2⟩ h3 h4
  simp -implicitDefEqProofs [go_sem, -List.set_cons_succ, -List.set_cons_zero]
  have hk : k.toNat < l.length := by omega
  refine row_int [.str l[k.toNat]] h1 (by simp [hk]) rfl ?_
  simp -implicitDefEqProofs [go_sem, -List.set_cons_succ, -List.set_cons_zero]
  exact ⟨⟨_, List.getElem_mem hk, rfl⟩, p', h3, h4, rfl⟩
/-- a structure without arguments: nothing stands behind its arguments -/
theorem struct_full (name : List UInt8) (H : Heap) : ACalls Tryz.prog 48 [.c (.d (.str name)), .c (.d (.sl []))] H (fun r H' => H' = H ++ [.cells [.d (.int .i64 3), .d (.int .i64 0), .d (.str name), .full []]] ∧ r = .agg [.d (.int .i64 3), .d (.int .i64 0), .d (.str name), .full []]) := by
  refine acallsK Tryz.func48 (by kernel_rfl) Full.ac48_ok fun hf => ?_
  simp -implicitDefEqProofs [Full.ac48, hf, go_sem, -List.set_cons_succ, -List.set_cons_zero]
  refine finK_ret _ ⟨trivial, trivial⟩ rfl ?_
  simp [Ob.re, C.re, A.re]
/-- a call that leaves one object more, which looks at no other -/
theorem call_new {P : Program} {f : FuncId} {xs : List A} {sl : List A} {ext loc H₂ : Heap} {o : Ob} {r : A} {K : A → St → Prop} (hc : ∀ H, ACalls P f xs H (fun r' H' => H' = H ++ [o] ∧ r' = r)) (ho : Ob.re ext.length o = o) (hr : A.re ext.length r = r)
    (hf : Obs.fits ext.length 0 ext) (hH : H₂ = ext ++ loc.map (Ob.re ext.length)) (hk : K r ⟨sl, ext, loc ++ [o]⟩) : ACalls P f xs H₂ (CallK K ⟨sl, ext, loc⟩) := by
  subst hH
  exact (hc _).mono fun r' H' ⟨h1, h2⟩ => ⟨ext, loc ++ [o], r, by rw [h1, List.append_assoc, List.map_append]; simp [ho], rfl, by simp, hf, by rw [h2]; exact hr.symm, hk⟩
/-- a term that a law looks at -/
def TmR (r : A) : Prop := ∃ t : Tm, r = .agg (t.row.map .d) ∧ t.fits
theorem TmR.re {n : Nat} {r : A} (h : TmR r) : A.re n r = r := by
  obtain ⟨t, rfl, _⟩ := h
  simp [A.re, re_d]
/-- the names that are drawn -/
def drawNames : List (List UInt8) := [[97], [98], [110, 105, 108], [91, 93], [102, 111, 111], [43], [46], [102], [103], [115], [61], [105, 115]]
theorem draw_names {l : List (List UInt8)} {s : List UInt8} (h : s ∈ l) (hl : l.all (drawNames.contains ·) = true := by decide) : s ∈ drawNames := by
  simp only [List.all_eq_true, List.contains_iff_mem] at hl
  exact hl s h
/-- a term that is drawn -/
def TmP (P : Tm → Prop) (r : A) : Prop := ∃ t : Tm, r = .agg (t.row.map .d) ∧ t.fits ∧ P t
theorem TmP.re {P : Tm → Prop} {n : Nat} {r : A} (h : TmP P r) : A.re n r = r := by
  obtain ⟨t, rfl, _⟩ := h
  simp [A.re, re_d]
theorem draw_of {P Q : Tm → Prop} (hP1 : ∀ n, 0 ≤ n → n ≤ 25 → P (.mk 1 n [] [])) (hP2 : ∀ n, -999 ≤ n → n ≤ 999 → P (.mk 2 n [] [])) (hP3 : ∀ s ∈ drawNames, ∀ l : List Tm, l.length ≤ 3 → (∀ t ∈ l, Q t) → P (.mk 3 0 s l))
    (d : Nat) (hd : d ≤ 6) (M N : Int) (hM : 0 ≤ M) (hN : 4 + 3 * M ≤ N) (ih : 2 ≤ d → Draws 56 [.c (.d (.int .i64 ((d : Int) - 1)))] M (TmP Q)) : Draws 56 [.c (.d (.int .i64 d))] N (TmP P) := fun c p H i hc hp hp1 hi => by
  refine acalls Tryz.func56 (by kernel_rfl) ac56_ok fun hf => ?_
  simp only [List.length_set] at hf
  simp -implicitDefEqProofs [ac56, go_sem, -List.set_cons_succ, -List.set_cons_zero]
  have hf0 : ∀ q, Obs.fits H.length 0 (H.set i (Rd c q)) := fun q => fits_reset (b := Rd c q) hf ⟨trivial, trivial, trivial⟩
  have hf1 : ∀ q, Obs.fits (H.set i (Rd c q)).length 0 (H.set i (Rd c q)) := fun q => by simpa using hf0 q
  have done : ∀ (t : Tm) (q : Int), p ≤ q → q ≤ p + N → t.fits → P t → ∀ r, r = .agg (t.row.map .d) → Drew (TmP P) N c p H i r (H.set i (Rd c q)) := fun t q a1 a2 a3 a4 r hr => ⟨⟨t, hr, a3, a4⟩, q, a1, a2, rfl⟩
  refine ⟨fun h2 => ⟨h2, ?_⟩, fun h2 => ?_⟩
  · refine call_drawE (pick_draws 4 (by omega)) hc hp (by omega) hi (by simp [Ob.re, C.re]) (fun r => IntIn.re) (hf0 _) ?_
    rintro _ p0 ⟨k, rfl, k0, k1⟩ h3 h4
    have hd0 : ¬ ((d : Int) < 2) := by omega
    simp -implicitDefEqProofs [hf0, hd0, go_sem, -List.set_cons_succ, -List.set_cons_zero]
    refine ⟨fun _ => ?_, fun _ => ?_⟩
    · skip
      refine call_drawE (pick_draws 4 (by omega)) hc (by omega) (by omega) hi (by simp [Ob.re, C.re]) (fun r => IntIn.re) (hf0 _) ?_
      rintro _ p1 ⟨k, rfl, k0, k1⟩ h3 h4
      simp -implicitDefEqProofs [hf0, go_sem, -List.set_cons_succ, -List.set_cons_zero]
      refine ⟨fun _ => ?_, fun _ => ⟨fun _ => ?_, fun _ => ?_⟩⟩
      · refine call_drawE (pick_draws 4 (by omega)) hc (by omega) (by omega) hi (by simp [Ob.re, C.re]) (fun r => IntIn.re) (hf0 _) ?_
        rintro _ p2 ⟨n, rfl, n0, n1⟩ h5 h6
        simp -implicitDefEqProofs [hf0, go_sem, -List.set_cons_succ, -List.set_cons_zero]
        refine qcall_pure (var_calls n) (hf1 _) (by simp [A.re, re_d]) ?_
        simp -implicitDefEqProofs [hf0, row_mk, go_sem, -List.set_cons_succ, -List.set_cons_zero]
        exact done (.mk 1 n [] []) p2 (by omega) (by omega) (.mk (small_i64 (by omega) (by omega)) (small_i64 (by omega) (by omega)) (by simp) (by simp) (by simp)) (hP1 n (by omega) (by omega)) _ (by simp [row_mk])
      · refine call_drawE (num_draws [0, 1, 7, -3, 999, -999] (by decide)) hc (by omega) (by omega) hi (by simp [Ob.re, C.re]) (fun r ⟨n, _, hn⟩ => by subst hn; rfl) (hf0 _) ?_
        rintro _ p2 ⟨n, hn, rfl⟩ h5 h6
        have hn : -999 ≤ n ∧ n ≤ 999 := by simp at hn; omega
        simp -implicitDefEqProofs [hf0, go_sem, -List.set_cons_succ, -List.set_cons_zero]
        refine qcall_pure (int_calls n) (hf1 _) (by simp [A.re, re_d]) ?_
        simp -implicitDefEqProofs [hf0, row_mk, go_sem, -List.set_cons_succ, -List.set_cons_zero]
        exact done (.mk 2 n [] []) p2 (by omega) (by omega) (.mk (small_i64 (by omega) (by omega)) (small_i64 (by omega) (by omega)) (by simp) (by simp) (by simp)) (hP2 n (by omega) (by omega)) _ (by simp [row_mk])
      · refine call_drawE (of_draws [[97], [98], [110, 105, 108], [91, 93], [102, 111, 111], [43]] (by decide)) hc (by omega) (by omega) hi (by simp [Ob.re, C.re]) (fun r ⟨n, _, hn⟩ => by subst hn; rfl) (hf0 _) ?_
        rintro _ p2 ⟨s, hs, rfl⟩ h5 h6
        have hsm : s ∈ drawNames := draw_names hs
        have hs : s.length ≤ 3 := by simp at hs; rcases hs with rfl | rfl | rfl | rfl | rfl | rfl <;> decide
        simp -implicitDefEqProofs [hf0, go_sem, -List.set_cons_succ, -List.set_cons_zero]
        refine call_new (struct_full s) (by simp [Ob.re, C.re]) (by simp [A.re, C.re]) (hf1 _) (by simp [Ob.re, C.re]) ?_
        simp -implicitDefEqProofs [hf0, go_sem, -List.set_cons_succ, -List.set_cons_zero]
        exact done (.mk 3 0 s []) p2 (by omega) (by omega) (.mk (small_i64 (by omega) (by omega)) (small_i64 (by omega) (by omega)) (by omega) (by simp) (by simp)) (hP3 s hsm [] (by simp) (by simp)) _ (by simp [row_mk])
    · refine call_drawE (pick_draws 3 (by omega)) hc (by omega) (by omega) hi (by simp [Ob.re, C.re]) (fun r => IntIn.re) (hf0 _) ?_
      rintro _ p1 ⟨k2, rfl, k3, k4⟩ h5 h6
      have hsub : inR .i64 ((d : Int) - 1) := small_i64 (by omega) (by omega)
      simp -implicitDefEqProofs [hf0, hsub, go_sem, -List.set_cons_succ, -List.set_cons_zero]
      refine ⟨fun _ => ?_, fun _ => ?_⟩
      · refine call_drawE (ih (by omega)) hc (by omega) (by omega) hi (by simp [Ob.re, C.re]) (fun r => TmP.re) (hf0 _) ?_
        rintro _ p2 ⟨a, rfl, ha, haQ⟩ h7 h8
        refine ⟨LocSame.refl _, ?_⟩
        simp -implicitDefEqProofs [hf0, hsub, row_len, take_row, go_sem, -List.set_cons_succ, -List.set_cons_zero]
        refine call_drawE (ih (by omega)) hc (by omega) (by omega) hi (by simp [Ob.re, C.re]) (fun r => TmP.re) (hf0 _) ?_
        rintro _ p3 ⟨b, rfl, hb, hbQ⟩ h9 h10
        refine ⟨LocSame.refl _, ?_⟩
        simp -implicitDefEqProofs [hf0, hsub, row_len, take_row, toDs_map, go_sem, -List.set_cons_succ, -List.set_cons_zero]
        have hs := struct_calls [46] [a, b] (by simp)
        simp only [List.map_cons, List.map_nil] at hs
        refine call_same (r := .agg ((Tm.mk 3 0 [46] [a, b]).row.map .d)) (hs _) (by simp [Ob.re, C.re]) (by simp [A.re, re_d]) (hf1 _) ?_
        simp -implicitDefEqProofs [hf0, row_mk, go_sem, -List.set_cons_succ, -List.set_cons_zero]
        exact done (.mk 3 0 [46] [a, b]) p3 (by omega) (by omega) (.mk (small_i64 (by omega) (by omega)) (small_i64 (by omega) (by omega)) (by simp) (by simp) (by simp [ha, hb])) (hP3 [46] (by decide) [a, b] (by simp) (by simp [haQ, hbQ])) _ (by simp [row_mk])
      · refine call_drawE (of_draws [[102], [103], [115], [43], [61], [105, 115], [102, 111, 111]] (by decide)) hc (by omega) (by omega) hi (by simp [Ob.re, C.re]) (fun r ⟨n, _, hn⟩ => by subst hn; rfl) (hf0 _) ?_
        rintro _ p2 ⟨s, hs, rfl⟩ h7 h8
        have hsm : s ∈ drawNames := draw_names hs
        have hs : s.length ≤ 3 := by simp at hs; rcases hs with rfl | rfl | rfl | rfl | rfl | rfl | rfl <;> decide
        simp -implicitDefEqProofs [hf0, go_sem, -List.set_cons_succ, -List.set_cons_zero]
        refine call_new (struct_full s) (by simp [Ob.re, C.re]) (by simp [A.re, C.re]) (hf1 _) (by simp [Ob.re, C.re]) ?_
        simp -implicitDefEqProofs [hf0, go_sem, -List.set_cons_succ, -List.set_cons_zero]
        refine call_drawE (num_draws [2, 1, 3, 2] (by decide)) hc (by omega) (by omega) hi (by simp [Ob.re, C.re]) (fun r ⟨n, _, hn⟩ => by subst hn; rfl) (hf0 _) ?_
        rintro _ p3 ⟨n, hn, rfl⟩ h9 h10
        have hn : 0 ≤ n ∧ n ≤ 3 := by simp at hn; omega
        have hnM : n * M ≤ 3 * M := Int.mul_le_mul_of_nonneg_right hn.2 hM
        simp -implicitDefEqProofs [hf0, go_sem, -List.set_cons_succ, -List.set_cons_zero]
        refine loop_enter (St.le_tokenC 2 3 4 rfl rfl) ?_
        refine loop_set (σ := Int × List Tm × Int) (fun x => [(6, .c (.d (.int .i64 x.1)))]) (fun x => H.set i (Rd c x.2.2)) (fun x => [.cells [.d (.int .i64 0), .d (.int .i64 0), .d (.str []), .full []], .cells [.d (.int .i64 3), .d (.int .i64 0), .d (.str s), .full []], .cells [.d (.int .i64 3), .d (.int .i64 0), .d (.str s), .own (.l 3) x.2.1.length (x.2.1.map Tm.row)], .grow x.2.1.length 4])
          (fun x => 0 ≤ x.1 ∧ x.1 + x.2.1.length ≤ 3 ∧ p ≤ x.2.2 ∧ x.2.2 + x.1 * M ≤ p + N ∧ (∀ t ∈ x.2.1, t.fits) ∧ ∀ t ∈ x.2.1, Q t) (fun x => x.1.toNat) (n, [], p3) rfl ⟨hn.1, by simp; omega, by simp; omega, by simp; omega, by simp, by simp⟩ ?_
        rintro ⟨m, l, q⟩ ⟨i0, i1, i2, i3, i4, i5⟩
        simp only at i0 i1 i2 i3 i4 i5
        have hmM : 0 ≤ m * M := Int.mul_nonneg i0 hM
        simp -implicitDefEqProofs [setAll, hf0, hsub, go_sem, -List.set_cons_succ, -List.set_cons_zero]
        refine ⟨fun hlt => ?_, fun hge => ?_⟩
        · have hm1 : (m - 1) * M = m * M - M := by rw [Int.sub_mul, Int.one_mul]
          have hm2 : 0 ≤ (m - 1) * M := Int.mul_nonneg (by omega) hM
          have hsubm : inR .i64 (m - 1) := small_i64 (by omega) (by omega)
          refine call_drawE (ih (by omega)) hc (by omega) (by omega) hi (by simp [Ob.re, C.re]) (fun r => TmP.re) (hf0 _) ?_
          rintro _ q2 ⟨a, rfl, ha, haQ⟩ h11 h12
          refine ⟨LocSame.refl _, ?_⟩
          simp -implicitDefEqProofs [hf0, hsubm, row_len, take_row, toDs_map, go_sem, -List.set_cons_succ, -List.set_cons_zero]
          refine ⟨allLen_map row_len, by unfold maxApp; omega, ?_⟩
          refine loop_back (m - 1, l ++ [a], q2) (by simp [setAll]) ⟨by simp; omega, by simp; omega, by simp; omega, by simp; omega, fun t ht => ?_, fun t ht => ?_⟩ (by show (m - 1).toNat < m.toNat; omega)
          · rcases List.mem_append.1 ht with ht | ht
            · exact i4 t ht
            · simp at ht; subst ht; exact ha
          · rcases List.mem_append.1 ht with ht | ht
            · exact i5 t ht
            · simp at ht; subst ht; exact haQ
        · exact done (.mk 3 0 s l) q i2 (by omega) (.mk (small_i64 (by omega) (by omega)) (small_i64 (by omega) (by omega)) (by omega) (by omega) i4) (hP3 s hsm l (by omega) i5) _ (by simp [row_mk])
  · skip
    refine call_drawE (pick_draws 4 (by omega)) hc (by omega) (by omega) hi (by simp [Ob.re, C.re]) (fun r => IntIn.re) (hf0 _) ?_
    rintro _ p1 ⟨k, rfl, k0, k1⟩ h3 h4
    simp -implicitDefEqProofs [hf0, go_sem, -List.set_cons_succ, -List.set_cons_zero]
    refine ⟨fun _ => ?_, fun _ => ⟨fun _ => ?_, fun _ => ?_⟩⟩
    · refine call_drawE (pick_draws 4 (by omega)) hc (by omega) (by omega) hi (by simp [Ob.re, C.re]) (fun r => IntIn.re) (hf0 _) ?_
      rintro _ p2 ⟨n, rfl, n0, n1⟩ h5 h6
      simp -implicitDefEqProofs [hf0, go_sem, -List.set_cons_succ, -List.set_cons_zero]
      refine qcall_pure (var_calls n) (hf1 _) (by simp [A.re, re_d]) ?_
      simp -implicitDefEqProofs [hf0, row_mk, go_sem, -List.set_cons_succ, -List.set_cons_zero]
      exact done (.mk 1 n [] []) p2 (by omega) (by omega) (.mk (small_i64 (by omega) (by omega)) (small_i64 (by omega) (by omega)) (by simp) (by simp) (by simp)) (hP1 n (by omega) (by omega)) _ (by simp [row_mk])
    · refine call_drawE (num_draws [0, 1, 7, -3, 999, -999] (by decide)) hc (by omega) (by omega) hi (by simp [Ob.re, C.re]) (fun r ⟨n, _, hn⟩ => by subst hn; rfl) (hf0 _) ?_
      rintro _ p2 ⟨n, hn, rfl⟩ h5 h6
      have hn : -999 ≤ n ∧ n ≤ 999 := by simp at hn; omega
      simp -implicitDefEqProofs [hf0, go_sem, -List.set_cons_succ, -List.set_cons_zero]
      refine qcall_pure (int_calls n) (hf1 _) (by simp [A.re, re_d]) ?_
      simp -implicitDefEqProofs [hf0, row_mk, go_sem, -List.set_cons_succ, -List.set_cons_zero]
      exact done (.mk 2 n [] []) p2 (by omega) (by omega) (.mk (small_i64 (by omega) (by omega)) (small_i64 (by omega) (by omega)) (by simp) (by simp) (by simp)) (hP2 n (by omega) (by omega)) _ (by simp [row_mk])
    · refine call_drawE (of_draws [[97], [98], [110, 105, 108], [91, 93], [102, 111, 111], [43]] (by decide)) hc (by omega) (by omega) hi (by simp [Ob.re, C.re]) (fun r ⟨n, _, hn⟩ => by subst hn; rfl) (hf0 _) ?_
      rintro _ p2 ⟨s, hs, rfl⟩ h5 h6
      have hsm : s ∈ drawNames := draw_names hs
      have hs : s.length ≤ 3 := by simp at hs; rcases hs with rfl | rfl | rfl | rfl | rfl | rfl <;> decide
      simp -implicitDefEqProofs [hf0, go_sem, -List.set_cons_succ, -List.set_cons_zero]
      refine call_new (struct_full s) (by simp [Ob.re, C.re]) (by simp [A.re, C.re]) (hf1 _) (by simp [Ob.re, C.re]) ?_
      simp -implicitDefEqProofs [hf0, go_sem, -List.set_cons_succ, -List.set_cons_zero]
      exact done (.mk 3 0 s []) p2 (by omega) (by omega) (.mk (small_i64 (by omega) (by omega)) (small_i64 (by omega) (by omega)) (by omega) (by simp) (by simp)) (hP3 s hsm [] (by simp) (by simp)) _ (by simp [row_mk])
/-- whatever holds of leaves and is handed on, holds of what is drawn -/
theorem l1DrawP_draws (P : Nat → Tm → Prop) (h1 : ∀ d n, 0 ≤ n → n ≤ 25 → P d (.mk 1 n [] [])) (h2 : ∀ d n, -999 ≤ n → n ≤ 999 → P d (.mk 2 n [] [])) (h30 : ∀ s ∈ drawNames, P 0 (.mk 3 0 s []))
    (h3 : ∀ d, ∀ s ∈ drawNames, ∀ l : List Tm, l.length ≤ 3 → (∀ t ∈ l, P d t) → P (d + 1) (.mk 3 0 s l)) : ∀ d : Nat, d ≤ 6 → Draws 56 [.c (.d (.int .i64 d))] ((5 * 4 ^ d : Nat) : Int) (TmP (P d))
  | 0, h => draw_of (P := P 0) (Q := fun _ => False) (h1 0) (h2 0) (fun s hs l hl hq => by
      cases l with
      | nil => exact h30 s hs
      | cons a l => exact (hq a (by simp)).elim) 0 h 0 _ (by omega) (by decide) (fun h => absurd h (by omega))
  | d + 1, h => by
    refine draw_of (h1 _) (h2 _) (h3 d) (d + 1) h ((5 * 4 ^ d : Nat) : Int) _ (by omega) ?_ fun _ => ?_
    · have : 0 < 4 ^ d := Nat.pos_of_ne_zero (by simp)
      rw [Nat.pow_succ]; omega
    · have := l1DrawP_draws P h1 h2 h30 h3 d (by omega)
      rw [show (((d + 1 : Nat) : Int) - 1) = (d : Int) by omega]
      exact this
end Go.Proofs.YtgfmlifkhpjplaaGreatDoor

/-
  Terms that are drawn: copies that are changed.
  Conditions: none.
-/
open Go Go.AM Go.Proofs
namespace Go.Proofs.YtgfmlifkhpjplaaGreatDoor
open Go.ChangeShapes Go.WideShapes Go.ChangeAt Go.RowKit
set_option linter.unusedVariables false
set_option linter.unusedSimpArgs false
set_option maxRecDepth 100000
-- 75 loop.example/prologserver/spec.l1Some params 1 ntmps 8
theorem Draws.mono {f : FuncId} {xs : List A} {N N' : Int} {R : A → Prop} (h : Draws f xs N R) (hN : N ≤ N') : Draws f xs N' R := fun c p H i hc hp hp1 hi =>
  (h c p H i hc hp (by omega) hi).mono fun r H' ⟨h1, p', h2, h3, h4⟩ => ⟨h1, p', h2, by omega, h4⟩
end Go.Proofs.YtgfmlifkhpjplaaGreatDoor

/-
  Terms with operators, drawn.
  Conditions: none.
-/
open Go Go.AM Go.Proofs
namespace Go.Proofs.YtgfmlifkhpjplaaGreatDoor
open Go.ChangeShapes Go.WideShapes Go.ChangeAt Go.RowKit
set_option linter.unusedVariables false
set_option linter.unusedSimpArgs false
set_option maxRecDepth 100000
-- 36 loop.example/prologserver/spec.l2Draw params 2 ntmps 28
def ac36 : Cd := .seq (.region [⟨(some 4),.alloc [(.d (.int .i64 0)),(.d (.int .i64 0)),(.d (.str [])),(.full [])],none⟩] [])
 (.seq (.seq (.region [⟨(some 5),.mv (.t 1),none⟩,
 ⟨(some 6),.bin .lss (.t 5) (.k (.c (.d (.int .i64 2)))),none⟩] [5])
 (.cond (.t 6)
 (.seq (.region [⟨(some 7),.mv (.t 0),none⟩,
 ⟨(some 8),.call false 56 [(.t 7),(.k (.c (.d (.int .i64 1))))],none⟩,
 ⟨none,.store 4 (.t 4) (.t 8),none⟩] [0,1,6,7,8])
 (.ret))
 (.skip)))
 (.seq (.seq (.region [⟨(some 9),.mv (.t 0),none⟩,
 ⟨(some 10),.call false 53 [(.t 9),(.k (.c (.d (.int .i64 3))))],none⟩,
 ⟨(some 11),.bin .eql (.t 10) (.k (.c (.d (.int .i64 0)))),none⟩] [6,9,10])
 (.cond (.t 11)
 (.seq (.region [⟨(some 12),.mv (.t 0),none⟩,
 ⟨(some 13),.mv (.t 1),none⟩,
 ⟨(some 14),.call false 56 [(.t 12),(.t 13)],none⟩,
 ⟨none,.store 4 (.t 4) (.t 14),none⟩] [0,1,11,12,13,14])
 (.ret))
 (.skip)))
 (.seq (.region [⟨(some 15),.mv (.t 0),none⟩,
 ⟨(some 16),.buildSlice 1 8 [(.str [])] [(0,(.k (.c (.d (.str [43]))))),(1,(.k (.c (.d (.str [45]))))),(2,(.k (.c (.d (.str [42]))))),(3,(.k (.c (.d (.str [105,115]))))),(4,(.k (.c (.d (.str [109,111,100]))))),(5,(.k (.c (.d (.str [61]))))),(6,(.k (.c (.d (.str [47,47]))))),(7,(.k (.c (.d (.str [61,60])))))],none⟩,
 ⟨(some 17),.call false 54 [(.t 15),(.t 16)],none⟩,
 ⟨(some 18),.mv (.t 0),none⟩,
 ⟨(some 19),.mv (.t 1),none⟩,
 ⟨(some 20),.bin .sub (.t 19) (.k (.c (.d (.int .i64 1)))),none⟩,
 ⟨(some 21),.call false 36 [(.t 18),(.t 20)],none⟩,
 ⟨(some 22),.mv (.t 0),none⟩,
 ⟨(some 23),.mv (.t 1),none⟩,
 ⟨(some 24),.bin .sub (.t 23) (.k (.c (.d (.int .i64 1)))),none⟩,
 ⟨(some 25),.call false 36 [(.t 22),(.t 24)],none⟩,
 ⟨(some 26),.buildSlice 4 2 [(.int .i64 0),(.int .i64 0),(.str []),(.sl [])] [(0,(.t 21)),(1,(.t 25))],none⟩,
 ⟨(some 27),.qcall 48 [(.t 17),(.t 26)],none⟩,
 ⟨none,.store 4 (.t 4) (.t 27),none⟩] [0,1,11,15,16,17,18,19,20,21,22,23,24,25,26,27])
 (.ret))))
theorem ac36_ok : cFunc Tryz.prog [1000048] [(0,[],[]),(1,[5],[]),(2,[0,1,6,7,8],[]),(3,[6,9,10],[]),(4,[0,1,11,12,13,14],[]),(5,[0,1,11,15,16,17,18,19,20,21,22,23,24,25,26,27],[])] Tryz.f36 = some (ac36,[.cell 4 (some 4)],28) := by kernel_rfl
-- 14 loop.example/prologserver/spec.DrawWriteTerm params 1 ntmps 13
def nD (d : Nat) : Int := ((6 * 4 ^ d + 20 : Nat) : Int)
theorem nD_le {d : Nat} (h : d ≤ 5) : 0 ≤ nD d ∧ nD d ≤ 10000 := by
  have : 4 ^ d ≤ 4 ^ 5 := Nat.pow_le_pow_right (by omega) h
  unfold nD; omega
end Go.Proofs.YtgfmlifkhpjplaaGreatDoor

/-
  Drawn terms are small and have names.
  Conditions: none.
-/
open Go Go.AM Go.Proofs
namespace Go.Proofs.YtgfmlifkhpjplaaGreatDoor
open Go.ChangeShapes Go.WideShapes Go.ChangeAt Go.RowKit
set_option linter.unusedVariables false
set_option linter.unusedSimpArgs false
set_option maxRecDepth 100000
theorem names_ok : ∀ s ∈ drawNames, nameB s = true := by decide
theorem shapes_of {d : Nat} : ∀ {l : List Tm}, (∀ t ∈ l, t.shape d = true) → shapes d l = true := fun h => by
  rw [shapes_all, List.all_eq_true]
  exact h
theorem sizes_of {n : Nat} : ∀ {l : List Tm}, (∀ t ∈ l, t.size ≤ n) → sizes l ≤ l.length * n
  | [], _ => by simp [sizes]
  | t :: l, h => by
    have h1 := h t (by simp)
    have h2 := sizes_of (l := l) fun u hu => h u (by simp [hu])
    simp only [sizes, List.length_cons, Nat.add_mul, Nat.one_mul]
    omega
theorem struct_shape {d : Nat} {s : List UInt8} {l : List Tm} (hs : nameB s = true) (hl : l.length ≤ 4) (h : ∀ t ∈ l, t.shape d = true) : (Tm.mk 3 0 s l).shape (d + 1) = true := by
  simp [Tm.shape, Tm.ownB, hs, hl, shapes_of h]
def sz3 : Nat → Nat
  | 0 => 1
  | d + 1 => 3 * sz3 d + 1
theorem sz3_pos (d : Nat) : 1 ≤ sz3 d := by cases d <;> simp [sz3]
def VW (d : Nat) (t : Tm) : Prop := t.shape (d + 1) = true ∧ t.size ≤ sz3 d
theorem drawW (d : Nat) (hd : d ≤ 6) : Draws 56 [.c (.d (.int .i64 d))] ((5 * 4 ^ d : Nat) : Int) (TmP (VW d)) :=
  l1DrawP_draws VW (fun d n h0 h1 => ⟨by simp [Tm.shape, Tm.ownB, shapes, h0, h1], by have := sz3_pos d; simp [Tm.size, sizes]; omega⟩)
    (fun d n h0 h1 => ⟨by simp [Tm.shape, Tm.ownB, shapes, h0, h1], by have := sz3_pos d; simp [Tm.size, sizes]; omega⟩)
    (fun s hs => ⟨struct_shape (names_ok s hs) (by simp) (by simp), by simp [Tm.size, sizes, sz3]⟩)
    (fun d s hs l hl h => ⟨struct_shape (names_ok s hs) (by omega) fun t ht => (h t ht).1, by
      have h1 := sizes_of (l := l) fun t ht => (h t ht).2
      have h2 : l.length * sz3 d ≤ 3 * sz3 d := Nat.mul_le_mul_right _ hl
      rw [Tm.size, sz3]
      omega⟩) d hd
end Go.Proofs.YtgfmlifkhpjplaaGreatDoor

/-
  Texts of terms with operators, drawn.
  Conditions: none.
-/
open Go Go.AM Go.Proofs
namespace Go.Proofs.YtgfmlifkhpjplaaGreatDoor
open Go.ChangeShapes Go.WideShapes Go.ChangeAt Go.RowKit
set_option linter.unusedVariables false
set_option linter.unusedSimpArgs false
set_option maxRecDepth 100000
-- 42 loop.example/prologserver/spec.l1Bend params 3 ntmps 35
def ac42 : Cd := .seq (.region [⟨(some 6),.mv (.k (.c (.d (.str [])))),none⟩] [6])
 (.seq (.seq (.region [⟨(some 8),.mv (.t 1),none⟩,
 ⟨(some 9),.len 0 (.t 8),none⟩,
 ⟨(some 10),.bin .eql (.t 9) (.k (.c (.d (.int .i64 0)))),none⟩,
 ⟨(some 11),.mv (.t 10),none⟩,
 ⟨(some 12),.mv (.t 0),some (11,false)⟩,
 ⟨(some 13),.call false 53 [(.t 12),(.k (.c (.d (.int .i64 2))))],some (11,false)⟩,
 ⟨(some 14),.bin .eql (.t 13) (.k (.c (.d (.int .i64 0)))),some (11,false)⟩,
 ⟨(some 15),.pick (.t 11) (.k (.c (.d (.bool true)))) (.t 14),none⟩] [8,9,10,11,12,13,14])
 (.cond (.t 15)
 (.seq (.region [⟨(some 16),.mv (.t 1),none⟩,
 ⟨(some 6),.mv (.t 16),none⟩] [0,1,2,15,16])
 (.ret))
 (.skip)))
 (.seq (.region [⟨(some 17),.mv (.t 0),none⟩,
 ⟨(some 18),.mv (.t 1),none⟩,
 ⟨(some 19),.len 0 (.t 18),none⟩,
 ⟨(some 20),.call false 53 [(.t 17),(.t 19)],none⟩,
 ⟨(some 7),.mv (.t 20),none⟩] [6,15,17,18,19,20])
 (.seq (.region [⟨(some 21),.mv (.t 1),none⟩,
 ⟨(some 22),.mv (.t 7),none⟩,
 ⟨(some 23),.slice 0 (.t 21) none (some (.t 22)) none,none⟩,
 ⟨(some 24),.mv (.t 0),none⟩,
 ⟨(some 25),.mv (.t 2),none⟩,
 ⟨(some 28),.mv (.t 1),none⟩,
 ⟨(some 29),.mv (.t 7),none⟩,
 ⟨(some 30),.mv (.t 0),none⟩,
 ⟨(some 26),.call false 54 [(.t 24),(.t 25)],none⟩,
 ⟨(some 27),.bin .add (.t 23) (.t 26),none⟩,
 ⟨(some 31),.call false 53 [(.t 30),(.k (.c (.d (.int .i64 2))))],none⟩,
 ⟨(some 32),.bin .add (.t 29) (.t 31),none⟩,
 ⟨(some 33),.slice 0 (.t 28) (some (.t 32)) none none,none⟩,
 ⟨(some 34),.bin .add (.t 27) (.t 33),none⟩,
 ⟨(some 6),.mv (.t 34),none⟩] [0,1,2,7,21,22,23,24,25,26,27,28,29,30,31,32,33,34])
 (.ret))))
theorem ac42_ok : cFunc Tryz.prog [] [(0,[6],[]),(1,[8,9,10,11,12,13,14],[]),(2,[0,1,2,15,16],[]),(3,[6,15,17,18,19,20],[]),(4,[0,1,2,7,21,22,23,24,25,26,27,28,29,30,31,32,33,34],[0,1,2,3,4,7,8,9,5,6,10,11,12,13,14])] Tryz.f42 = some (ac42,[.tmp 6],35) := by kernel_rfl
-- 19 loop.example/prologserver/spec.DrawReadTerm params 1 ntmps 15
def ac19 : Cd := .seq (.region [⟨(some 2),.mv (.k (.c (.d (.str [])))),none⟩] [2])
 (.seq (.region [⟨(some 4),.mv (.t 0),none⟩,
 ⟨(some 5),.call false 34 [(.t 4)],none⟩,
 ⟨(some 3),.mv (.t 5),none⟩] [0,4,5])
 (.seq (.region [⟨(some 6),.mv (.t 3),none⟩,
 ⟨(some 7),.mv (.t 3),none⟩,
 ⟨(some 8),.mv (.t 3),none⟩,
 ⟨(some 9),.buildSlice 1 4 [(.int .i64 0)] [(0,(.k (.c (.d (.int .i64 3))))),(1,(.k (.c (.d (.int .i64 2))))),(2,(.k (.c (.d (.int .i64 4))))),(3,(.k (.c (.d (.int .i64 1)))))],none⟩,
 ⟨(some 10),.call false 37 [(.t 8),(.t 9)],none⟩,
 ⟨(some 11),.call false 36 [(.t 7),(.t 10)],none⟩,
 ⟨(some 12),.qcall 39 [(.t 11)],none⟩,
 ⟨(some 13),.buildSlice 1 9 [(.str [])] [(0,(.k (.c (.d (.str []))))),(1,(.k (.c (.d (.str [40]))))),(2,(.k (.c (.d (.str [41]))))),(3,(.k (.c (.d (.str [43]))))),(4,(.k (.c (.d (.str [65]))))),(5,(.k (.c (.d (.str [49]))))),(6,(.k (.c (.d (.str [32]))))),(7,(.k (.c (.d (.str [45]))))),(8,(.k (.c (.d (.str [105,115])))))],none⟩,
 ⟨(some 14),.call false 42 [(.t 6),(.t 12),(.t 13)],none⟩,
 ⟨(some 2),.mv (.t 14),none⟩] [3,6,7,8,9,10,11,12,13,14])
 (.ret)))
theorem ac19_ok : cFunc Tryz.prog [1000039] [(0,[2],[]),(1,[0,4,5],[]),(2,[3,6,7,8,9,10,11,12,13,14],[])] Tryz.f19 = some (ac19,[.tmp 2],15) := by kernel_rfl
/-- a text that is drawn -/
def StrR (n : Nat) (r : A) : Prop := ∃ s : List UInt8, r = .c (.d (.str s)) ∧ s.length ≤ n
theorem StrR.re {n m : Nat} {r : A} (h : StrR n r) : A.re m r = r := by obtain ⟨s, rfl, _⟩ := h; simp [A.re, C.re]
theorem bend_draws (s : List UInt8) (hs : s.length ≤ 100000) (l : List (List UInt8)) (hl : (1 ≤ l.length ∧ l.length ≤ 1000) ∧ ∀ x ∈ l, x.length ≤ 10) : Draws 42 [.c (.d (.str s)), .c (.d (.sl (l.map fun s => [.str s])))] 4 (StrR (s.length + 10)) := fun c p H i hc hp hp1 hi => by
  refine acalls Tryz.func42 (by kernel_rfl) ac42_ok fun hf => ?_
  simp only [List.length_set] at hf
  have hf0 : ∀ q, Obs.fits H.length 0 (H.set i (Rd c q)) := fun q => fits_reset (b := Rd c q) hf ⟨trivial, trivial, trivial⟩
  have hli : inR .i64 (s.length : Int) := small_i64 (by omega) (by omega)
  have fin : ∀ (t : List UInt8) (q : Int), t.length ≤ s.length + 10 → p ≤ q → q ≤ p + 4 → Drew (StrR (s.length + 10)) 4 c p H i (.c (.d (.str t))) (H.set i (Rd c q)) := fun t q h a1 a2 => ⟨⟨t, rfl, h⟩, q, a1, a2, rfl⟩
  cases hse : s with
  | nil =>
    subst hse
    simp -implicitDefEqProofs [ac42, hf0, go_sem, -List.set_cons_succ, -List.set_cons_zero]
    exact ⟨small_i64 (by omega) (by omega), fin [] p (by simp) (by omega) (by omega)⟩
  | cons b w =>
    rw [← hse]
    have hpos : 0 < s.length := by rw [hse]; simp
    have hz : ¬ ((s.length : Int) = 0) := by omega
    have hz2 : ¬ s = [] := by rw [hse]; simp
    simp -implicitDefEqProofs [ac42, hf0, hli, hz, hz2, go_sem, -List.set_cons_succ, -List.set_cons_zero]
    refine call_drawE (pick_draws 2 (by omega)) hc (by omega) (by omega) hi (by simp [Ob.re, C.re]) (fun r => IntIn.re) (hf0 _) ?_
    rintro _ p1 ⟨k, rfl, k1, k2⟩ h1 h2
    simp -implicitDefEqProofs [hf0, hli, hz, go_sem, -List.set_cons_succ, -List.set_cons_zero]
    refine ⟨fun _ => fin s p1 (by omega) (by omega) (by omega), fun _ => ?_⟩
    refine call_drawE (pick_draws s.length (by omega)) hc (by omega) (by omega) hi (by simp [Ob.re, C.re]) (fun r => IntIn.re) (hf0 _) ?_
    rintro _ p2 ⟨m, rfl, m1, m2⟩ h3 h4
    simp -implicitDefEqProofs [hf0, hli, go_sem, -List.set_cons_succ, -List.set_cons_zero]
    refine ⟨⟨m1, by omega⟩, ?_⟩
    refine call_drawE (of_draws l hl.1) hc (by omega) (by omega) hi (by simp [Ob.re, C.re]) (fun r ⟨n, _, hn⟩ => by subst hn; rfl) (hf0 _) ?_
    rintro _ p3 ⟨x, hx, rfl⟩ h5 h6
    have hxl := hl.2 x hx
    simp -implicitDefEqProofs [hf0, hli, go_sem, -List.set_cons_succ, -List.set_cons_zero]
    refine ⟨by unfold maxStr; omega, ?_⟩
    refine call_drawE (pick_draws 2 (by omega)) hc (by omega) (by omega) hi (by simp [Ob.re, C.re]) (fun r => IntIn.re) (hf0 _) ?_
    rintro _ p4 ⟨j, rfl, j1, j2⟩ h7 h8
    have hmj : inR .i64 (m + j) := small_i64 (by omega) (by omega)
    simp -implicitDefEqProofs [hf0, hli, hmj, go_sem, -List.set_cons_succ, -List.set_cons_zero]
    refine ⟨by omega, ?_⟩
    have e1 : (m + j).toNat = m.toNat + j.toNat := by omega
    have e2 : m.toNat ≤ s.length := by omega
    refine ⟨by unfold maxStr; omega, fin _ p4 ?_ (by omega) (by omega)⟩
    simp
    omega
def VQ (d : Nat) : Tm → Prop := VW (max d 1)
theorem VW.up {d e : Nat} {t : Tm} (h : VW d t) (hde : d ≤ e) : VW e t := by
  refine ⟨shp_mono t _ _ (by omega) h.1, Nat.le_trans h.2 ?_⟩
  clear h
  induction hde with
  | refl => exact Nat.le_refl _
  | step _ ih => simp only [sz3]; omega
theorem Draws.imp {f : FuncId} {xs : List A} {N : Int} {R R' : A → Prop} (h : Draws f xs N R) (hR : ∀ r, R r → R' r) : Draws f xs N R' := fun c p H i hc hp hp1 hi =>
  (h c p H i hc hp hp1 hi).mono fun r H' ⟨h1, p', h2, h3, h4⟩ => ⟨hR r h1, p', h2, h3, h4⟩
theorem TmP.imp {P Q : Tm → Prop} {r : A} (h : ∀ t, P t → Q t) : TmP P r → TmP Q r := fun ⟨t, h1, h2, h3⟩ => ⟨t, h1, h2, h t h3⟩
theorem l2DrawQ : ∀ d : Nat, d ≤ 5 → Draws 36 [.c (.d (.int .i64 d))] (nD d) (TmP (VQ d))
  | 0, hd => fun c p H i hc hp hp1 hi => by
    have hn := nD_le hd
    refine acalls Tryz.func36 (by kernel_rfl) ac36_ok fun hf => ?_
    simp only [List.length_set] at hf
    have hf0 : ∀ q, Obs.fits H.length 0 (H.set i (Rd c q)) := fun q => fits_reset (b := Rd c q) hf ⟨trivial, trivial, trivial⟩
    simp -implicitDefEqProofs [ac36, hf0, go_sem, -List.set_cons_succ, -List.set_cons_zero]
    have e : nD 0 = 26 := by unfold nD; rfl
    rw [e] at hp1 ⊢
    refine call_drawE (((drawW 1 (by omega)).imp (R' := TmP (VQ 0)) fun r => TmP.imp fun t h => h).mono (N' := 26) (by decide)) hc (by omega) (by omega) hi (by simp [Ob.re, C.re]) (fun r => TmP.re) (hf0 _) ?_
    rintro _ p1 ⟨t, rfl, ht, hV⟩ h1 h2
    simp -implicitDefEqProofs [hf0, row_len, take_row, pure_d, re_d, thaw_d, fits_map, go_sem, -List.set_cons_succ, -List.set_cons_zero]
    exact ⟨⟨t, rfl, ht, hV⟩, p1, by omega, by omega, rfl⟩
  | d + 1, hd => fun c p H i hc hp hp1 hi => by
    have ih := l2DrawQ d (by omega)
    have hn := nD_le hd
    have h4 : 0 < 4 ^ d := Nat.pos_of_ne_zero (by simp)
    have hpow : 4 ^ (d + 1) = 4 * 4 ^ d := by rw [Nat.pow_succ]; omega
    refine acalls Tryz.func36 (by kernel_rfl) ac36_ok fun hf => ?_
    simp only [List.length_set] at hf
    have hf0 : ∀ q, Obs.fits H.length 0 (H.set i (Rd c q)) := fun q => fits_reset (b := Rd c q) hf ⟨trivial, trivial, trivial⟩
    have hf1 : ∀ q, Obs.fits (H.set i (Rd c q)).length 0 (H.set i (Rd c q)) := fun q => by simpa using hf0 q
    have fin : ∀ (t : Tm) (q : Int), t.fits → VQ (d + 1) t → p ≤ q → q ≤ p + nD (d + 1) → Drew (TmP (VQ (d + 1))) (nD (d + 1)) c p H i (.agg (t.row.map .d)) (H.set i (Rd c q)) := fun t q ht hV a1 a2 => ⟨⟨t, rfl, ht, hV⟩, q, a1, a2, rfl⟩
    have m1 : Draws 56 [.c (.d (.int .i64 1))] (nD (d + 1)) (TmP (VQ (d + 1))) := ((drawW 1 (by omega)).imp fun r => TmP.imp fun t h => h.up (by omega)).mono (by unfold nD; omega)
    have e1 : ((d + 1 : Nat) : Int) = (d : Int) + 1 := by omega
    have m2 : Draws 56 [.c (.d (.int .i64 ((d : Int) + 1)))] (nD (d + 1) - 1) (TmP (VQ (d + 1))) := by
      have := (drawW (d + 1) (by omega)).imp (R' := TmP (VQ (d + 1))) fun r => TmP.imp fun t h => h.up (by omega)
      rw [e1] at this
      exact this.mono (by unfold nD; omega)
    have hVst : ∀ {u w : Tm}, VQ d u → VQ d w → ∀ s, nameB s = true → d ≠ 0 → VQ (d + 1) (.mk 3 0 s [u, w]) := fun {u w} h1 h2 s hs h0 => by
      unfold VQ at h1 h2 ⊢
      rw [Nat.max_eq_left (by omega)] at h1 h2 ⊢
      have hp := sz3_pos d
      refine ⟨struct_shape hs (by simp) (by simp [h1.1, h2.1]), ?_⟩
      have g1 := h1.2
      have g2 := h2.2
      simp only [Tm.size, sizes, sz3]
      omega
    rw [e1]
    by_cases hd2 : d = 0
    · subst hd2
      simp -implicitDefEqProofs [ac36, hf0, go_sem, -List.set_cons_succ, -List.set_cons_zero]
      refine call_drawE m1 hc (by omega) (by omega) hi (by simp [Ob.re, C.re]) (fun r => TmP.re) (hf0 _) ?_
      rintro _ p1 ⟨t, rfl, ht, hV⟩ h1 h2
      simp -implicitDefEqProofs [hf0, row_len, take_row, pure_d, re_d, thaw_d, fits_map, go_sem, -List.set_cons_succ, -List.set_cons_zero]
      exact fin t p1 ht hV (by omega) (by omega)
    · have hge : ¬ ((d : Int) + 1 < 2) := by omega
      have hsub : inR .i64 ((d : Int) + 1 - 1) := small_i64 (by omega) (by omega)
      have esub : (d : Int) + 1 - 1 = d := by omega
      have hdi : inR .i64 (d : Int) := small_i64 (by omega) (by omega)
      have hNN : nD (d + 1) = 6 * 4 * (4 ^ d : Nat) + 20 ∧ nD d = 6 * (4 ^ d : Nat) + 20 ∧ (4 : Int) ≤ (4 ^ d : Nat) := by
        have : 4 ^ 1 ≤ 4 ^ d := Nat.pow_le_pow_right (by omega) (by omega)
        unfold nD
        rw [hpow]
        omega
      simp -implicitDefEqProofs [ac36, hge, hf0, go_sem, -List.set_cons_succ, -List.set_cons_zero]
      refine call_drawE (pick_draws 3 (by omega)) hc (by omega) (by omega) hi (by simp [Ob.re, C.re]) (fun r => IntIn.re) (hf0 _) ?_
      rintro _ p1 ⟨k, rfl, k1, k2⟩ h1 h2
      simp -implicitDefEqProofs [hf0, hsub, esub, hdi, go_sem, -List.set_cons_succ, -List.set_cons_zero]
      refine ⟨fun _ => ?_, fun _ => ?_⟩
      · refine call_drawE m2 hc (by omega) (by omega) hi (by simp [Ob.re, C.re]) (fun r => TmP.re) (hf0 _) ?_
        rintro _ p2 ⟨t, rfl, ht, hV⟩ h3 h5
        simp -implicitDefEqProofs [hf0, row_len, take_row, pure_d, re_d, thaw_d, fits_map, go_sem, -List.set_cons_succ, -List.set_cons_zero]
        exact fin t p2 ht hV (by omega) (by omega)
      · refine call_drawE (of_draws [[43], [45], [42], [105, 115], [109, 111, 100], [61], [47, 47], [61, 60]] (by decide)) hc (by omega) (by omega) hi (by simp [Ob.re, C.re]) (fun r ⟨n, _, hn⟩ => by subst hn; rfl) (hf0 _) ?_
        rintro _ p2 ⟨s, hs, rfl⟩ h3 h5
        have hsn : nameB s = true := by simp at hs; rcases hs with rfl | rfl | rfl | rfl | rfl | rfl | rfl | rfl <;> decide
        have hsl : s.length ≤ 3 := by simp at hs; rcases hs with rfl | rfl | rfl | rfl | rfl | rfl | rfl | rfl <;> decide
        simp -implicitDefEqProofs [hf0, hsub, esub, hdi, go_sem, -List.set_cons_succ, -List.set_cons_zero]
        refine call_drawE ih hc (by omega) (by omega) hi (by simp [Ob.re, C.re]) (fun r => TmP.re) (hf0 _) ?_
        rintro _ p3 ⟨u, rfl, hu, huV⟩ h6 h7
        simp -implicitDefEqProofs [hf0, hsub, esub, hdi, row_len, take_row, pure_d, re_d, go_sem, -List.set_cons_succ, -List.set_cons_zero]
        refine call_drawE ih hc (by omega) (by omega) hi (by simp [Ob.re, C.re]) (fun r => TmP.re) (hf0 _) ?_
        rintro _ p4 ⟨w, rfl, hw, hwV⟩ h8 h9
        have hst := struct_calls s [u, w] (by simp)
        simp only [List.map_cons, List.map_nil] at hst
        simp -implicitDefEqProofs [hf0, row_len, take_row, pure_d, re_d, toDs_map, go_sem, -List.set_cons_succ, -List.set_cons_zero]
        refine qcall_pure hst (hf1 _) (by simp [A.re, re_d]) ?_
        simp -implicitDefEqProofs [hf0, row_len, take_row, pure_d, re_d, thaw_d, fits_map, go_sem, -List.set_cons_succ, -List.set_cons_zero]
        exact fin (.mk 3 0 s [u, w]) p4 (.mk (by decide) (by decide) (by omega) (by simp) (by simp [hu, hw])) (hVst huV hwV s hsn hd2) (by omega) (by omega)
/-- a drawn text -/
theorem drawRt_calls (c : List UInt8) (hc : c.length ≤ 1048576) (H : Heap) : ACalls Tryz.prog 19 [.c (.d (.sl (bytesRows c)))] H (fun r H' => H' = H ∧ StrR 100010 r) := by
  refine acalls Tryz.func19 (by kernel_rfl) ac19_ok fun hf => ?_
  simp -implicitDefEqProofs [ac19, go_sem, -List.set_cons_succ, -List.set_cons_zero]
  refine (open_calls c hc _).mono fun r H' ⟨h1, c', hc', h2⟩ => ⟨H, [Rd c' 0], .c (.ptr (.l 0) 0), by rw [h2]; simp [Rd, Ob.re, C.re], rfl, by simp, hf, by rw [h1]; simp [A.re, C.re, Ref.re], ?_⟩
  simp -implicitDefEqProofs [go_sem, -List.set_cons_succ, -List.set_cons_zero]
  refine call_drawL (j := 0) (num_draws [3, 2, 4, 1] (by decide)) hc' (by omega) (by omega) rfl (by simp [Rd, Ob.re, C.re]) (fun r ⟨n, _, hn⟩ => by subst hn; rfl) hf ?_
  rintro _ p1 ⟨n, hn, rfl⟩ h1 h2
  obtain ⟨d, rfl, hd⟩ : ∃ d : Nat, n = (d : Int) ∧ d ≤ 4 := ⟨n.toNat, by simp at hn; omega, by simp at hn; omega⟩
  have hnd := nD_le (d := d) (by omega)
  simp -implicitDefEqProofs [go_sem, -List.set_cons_succ, -List.set_cons_zero]
  refine call_drawL (j := 0) (l2DrawQ d (by omega)) hc' (by omega) (by omega) rfl (by simp [Rd, Ob.re, C.re]) (fun r => TmP.re) hf ?_
  rintro _ p2 ⟨t, rfl, ht, hV⟩ h3 h4
  have hV4 : VW 4 t := VW.up hV (by omega)
  have hs121 : t.size ≤ 121 := hV4.2
  have hok : t.ok := ⟨ht, shape_good t 5 hV4.1, by omega⟩
  have hwl := hok.len.1
  simp -implicitDefEqProofs [row_len, take_row, pure_d, re_d, go_sem, -List.set_cons_succ, -List.set_cons_zero]
  refine qcall_pure (text_calls t.size t (Nat.le_refl _) hok) hf rfl ?_
  simp -implicitDefEqProofs [go_sem, -List.set_cons_succ, -List.set_cons_zero]
  refine call_drawL (j := 0) (bend_draws t.wr (by omega) [[], [40], [41], [43], [65], [49], [32], [45], [105, 115]] (by decide)) hc' (by omega) (by omega) rfl (by simp [Rd, Ob.re, C.re]) (fun r => StrR.re) hf ?_
  rintro _ p3 ⟨u, rfl, hu⟩ h5 h6
  simp -implicitDefEqProofs [hf, go_sem, -List.set_cons_succ, -List.set_cons_zero]
  exact ⟨u, rfl, by omega⟩
end Go.Proofs.YtgfmlifkhpjplaaGreatDoor

/-
  The nodes of a valid term are counted.
  Conditions: none.
-/
open Go Go.AM Go.Proofs
namespace Go.Proofs.YtgfmlifkhpjplaaGreatDoor
open Go.ChangeShapes Go.WideShapes Go.ChangeAt Go.RowKit
set_option linter.unusedVariables false
set_option linter.unusedSimpArgs false
set_option maxRecDepth 100000
-- 20 loop.example/prologserver/impl.CountNodes params 1 ntmps 8
def ac20 : Cd := .seq (.region [⟨(some 1),.box (.t 0),none⟩,
 ⟨(some 2),.mv (.k (.c (.d (.int .i64 0)))),none⟩] [0,2])
 (.seq (.region [⟨(some 3),.alloc [(.d (.int .i64 0))],none⟩,
 ⟨none,.store 1 (.t 3) (.k (.c (.d (.int .i64 0)))),none⟩] [])
 (.seq (.seq (.region [⟨(some 4),.load (some 4) (.t 1),none⟩,
 ⟨(some 5),.call false 40 [(.t 4),(.k (.c (.d (.int .i64 1)))),(.t 3)],none⟩,
 ⟨(some 6),.un .not (.t 5),none⟩] [1,4,5])
 (.cond (.t 6)
 (.seq (.region [⟨(some 2),.mv (.k (.c (.d (.int .i64 0)))),none⟩] [3,6])
 (.ret))
 (.skip)))
 (.seq (.region [⟨(some 7),.load none (.t 3),none⟩,
 ⟨(some 2),.mv (.t 7),none⟩] [3,6,7])
 (.ret))))
theorem ac20_ok : cFunc Tryz.prog [] [(0,[0,2],[]),(1,[],[]),(2,[1,4,5],[]),(3,[3,6],[]),(4,[3,6,7],[])] Tryz.f20 = some (ac20,[.tmp 2],8) := by kernel_rfl
theorem cn_calls (t : Tm) (ht : t.fits) (hv : t.valid = true) (H : Heap) : ACalls Tryz.prog 20 [.agg (t.row.map .d)] H (fun r H' => H' = H ∧ r = .c (.d (.int .i64 (t.size : Nat)))) := by
  refine acalls Tryz.func20 (by kernel_rfl) ac20_ok fun hf => ?_
  simp -implicitDefEqProofs [ac20, hf, row_len, take_row, go_sem, -List.set_cons_succ, -List.set_cons_zero]
  have h := scan_calls t ht 1 0 (H ++ [Ob.cells (t.row.map C.d), Cn 0]) (H.length + 1) (by omega) (by omega) (by simp)
  have hset : ∀ c, (H ++ [Ob.cells (t.row.map C.d), Cn 0]).set (H.length + 1) (Cn c) = H ++ [Ob.cells (t.row.map C.d), Cn c] := fun c => by
    rw [List.set_append_right _ _ (by omega)]; simp
  rw [hset, scan_valid, hset] at h
  have hs := ((scan_spec t 1 0 (by omega)).1 (by rw [scan_valid]; exact hv)).1
  rw [Nat.zero_add] at hs
  rw [hs, hv] at h
  simp -implicitDefEqProofs [pure_d, re_d, Ref.re, go_sem, -List.set_cons_succ, -List.set_cons_zero]
  refine h.mono fun r H' ⟨h3, h4⟩ => ⟨H, [Ob.cells (t.row.map C.d), Cn t.size], .c (.d (.bool true)), ?_, rfl, Nat.le_refl _, hf, h3, ?_⟩
  · rw [h4]; simp [Cn, Ob.re, C.re, re_d]
  · simp -implicitDefEqProofs [Cn, go_sem, -List.set_cons_succ, -List.set_cons_zero]
end Go.Proofs.YtgfmlifkhpjplaaGreatDoor

/-
  TermSame of the program.
  Conditions: none.
-/
open Go Go.AM Go.Proofs
namespace Go.Proofs.YtgfmlifkhpjplaaGreatDoor
open Go.ChangeShapes Go.WideShapes Go.ChangeAt Go.RowKit
set_option linter.unusedVariables false
set_option linter.unusedSimpArgs false
set_option maxRecDepth 100000
-- 18 loop.example/prologserver/impl.TermSame params 2 ntmps 31
def ac18 : Cd := .seq (.region [⟨(some 2),.box (.t 0),none⟩,
 ⟨(some 3),.box (.t 1),none⟩,
 ⟨(some 4),.mv (.k (.c (.d (.bool false)))),none⟩] [0,1,4])
 (.seq (.region [⟨(some 5),.fieldAddr 0 (.t 2),none⟩,
 ⟨(some 6),.load none (.t 5),none⟩,
 ⟨(some 7),.fieldAddr 0 (.t 3),none⟩,
 ⟨(some 8),.load none (.t 7),none⟩,
 ⟨(some 9),.bin .eql (.t 6) (.t 8),none⟩,
 ⟨(some 10),.mv (.t 9),none⟩,
 ⟨(some 11),.fieldAddr 1 (.t 2),some (10,true)⟩,
 ⟨(some 12),.load none (.t 11),some (10,true)⟩,
 ⟨(some 13),.fieldAddr 1 (.t 3),some (10,true)⟩,
 ⟨(some 14),.load none (.t 13),some (10,true)⟩,
 ⟨(some 15),.bin .eql (.t 12) (.t 14),some (10,true)⟩,
 ⟨(some 16),.pick (.t 10) (.t 15) (.k (.c (.d (.bool false)))),none⟩,
 ⟨(some 17),.mv (.t 16),none⟩,
 ⟨(some 18),.fieldAddr 2 (.t 2),some (17,true)⟩,
 ⟨(some 19),.load none (.t 18),some (17,true)⟩,
 ⟨(some 20),.fieldAddr 2 (.t 3),some (17,true)⟩,
 ⟨(some 21),.load none (.t 20),some (17,true)⟩,
 ⟨(some 22),.bin .eql (.t 19) (.t 21),some (17,true)⟩,
 ⟨(some 23),.pick (.t 17) (.t 22) (.k (.c (.d (.bool false)))),none⟩,
 ⟨(some 24),.mv (.t 23),none⟩,
 ⟨(some 25),.fieldAddr 3 (.t 2),some (24,true)⟩,
 ⟨(some 26),.load none (.t 25),some (24,true)⟩,
 ⟨(some 27),.fieldAddr 3 (.t 3),some (24,true)⟩,
 ⟨(some 28),.load none (.t 27),some (24,true)⟩,
 ⟨(some 29),.qcall 41 [(.t 26),(.t 28),(.k (.c (.fn 18 [])))],some (24,true)⟩,
 ⟨(some 30),.pick (.t 24) (.t 29) (.k (.c (.d (.bool false)))),none⟩,
 ⟨(some 4),.mv (.t 30),none⟩] [2,3,5,6,7,8,9,10,11,12,13,14,15,16,17,18,19,20,21,22,23,24,25,26,27,28,29,30])
 (.ret))
theorem ac18_ok : cFunc Tryz.prog [1000041] [(0,[0,1,4],[]),(1,[2,3,5,6,7,8,9,10,11,12,13,14,15,16,17,18,19,20,21,22,23,24,25,26,27,28,29,30],[])] Tryz.f18 = some (ac18,[.tmp 4],31) := by kernel_rfl
-- 41 slices.EqualFunc[[]loop.example/prologserver/impl.Term,[]loop.example/prologserver/impl.Term,loop.example/prologserver/impl.Term,loop.example/prologserver/impl.Term] params 3 ntmps 32
-- loop head live: [1,2,15,16,17]
def ac41 : Cd := .seq (.region [⟨(some 6),.mv (.k (.c (.d (.bool false)))),none⟩] [6])
 (.seq (.seq (.region [⟨(some 10),.mv (.t 0),none⟩,
 ⟨(some 11),.len 1 (.t 10),none⟩,
 ⟨(some 12),.mv (.t 1),none⟩,
 ⟨(some 13),.len 1 (.t 12),none⟩,
 ⟨(some 14),.bin .neq (.t 11) (.t 13),none⟩] [10,11,12,13])
 (.cond (.t 14)
 (.seq (.region [⟨(some 6),.mv (.k (.c (.d (.bool false)))),none⟩] [0,1,2,14])
 (.ret))
 (.skip)))
 (.seq (.seq (.region [⟨(some 15),.mv (.t 0),none⟩,
 ⟨(some 16),.len 1 (.t 15),none⟩,
 ⟨(some 17),.mv (.k (.c (.d (.int .i64 0)))),none⟩] [0,6,14])
 (.block 0 (.loop (.seq (.region [⟨(some 18),.bin .lss (.t 17) (.t 16),none⟩] [])
 (.seq (.cond (.t 18)
 (.skip)
 (.exit 0))
 (.seq (.block 1 (.seq (.region [⟨(some 19),.mv (.t 17),none⟩,
 ⟨(some 20),.indexAddr 4 (.t 15) (.t 17),none⟩,
 ⟨(some 21),.load (some 4) (.t 20),none⟩,
 ⟨(some 8),.alloc [(.d (.int .i64 0)),(.d (.int .i64 0)),(.d (.str [])),(.full [])],none⟩,
 ⟨(some 7),.mv (.t 19),none⟩,
 ⟨none,.store 4 (.t 8) (.t 21),none⟩] [18,19,20,21])
 (.seq (.region [⟨(some 22),.mv (.t 1),none⟩,
 ⟨(some 23),.mv (.t 7),none⟩,
 ⟨(some 24),.indexAddr 4 (.t 22) (.t 23),none⟩,
 ⟨(some 25),.load (some 4) (.t 24),none⟩,
 ⟨(some 9),.alloc [(.d (.int .i64 0)),(.d (.int .i64 0)),(.d (.str [])),(.full [])],none⟩,
 ⟨none,.store 4 (.t 9) (.t 25),none⟩] [7,22,23,24,25])
 (.seq (.region [⟨(some 26),.mv (.t 2),none⟩,
 ⟨(some 27),.load (some 4) (.t 8),none⟩,
 ⟨(some 28),.load (some 4) (.t 9),none⟩,
 ⟨(some 29),.callv (.t 26) [(.t 27),(.t 28)],none⟩,
 ⟨(some 30),.un .not (.t 29),none⟩] [8,9,26,27,28,29])
 (.cond (.t 30)
 (.seq (.region [⟨(some 6),.mv (.k (.c (.d (.bool false)))),none⟩] [1,2,15,16,17,30])
 (.ret))
 (.skip))))))
 (.region [⟨(some 31),.bin .add (.t 17) (.k (.c (.d (.int .i64 1)))),none⟩,
 ⟨(some 17),.mv (.t 31),none⟩] [6,30,31])))))))
 (.seq (.region [⟨(some 6),.mv (.k (.c (.d (.bool true)))),none⟩] [])
 (.ret))))
theorem ac41_ok : cFunc Tryz.prog [] [(0,[6],[]),(1,[10,11,12,13],[]),(2,[0,1,2,14],[]),(3,[0,6,14],[]),(4,[],[]),(5,[18,19,20,21],[]),(6,[7,22,23,24,25],[]),(7,[8,9,26,27,28,29],[]),(8,[1,2,15,16,17,30],[]),(9,[6,30,31],[]),(10,[],[])] Tryz.f41 = some (ac41,[.tmp 6],32) := by kernel_rfl
theorem eqFunc_of (f : FuncId) (l r : List Tm) (hl : l.length ≤ 1048576) (hr : r.length ≤ 1048576) (h : ∀ x ∈ l, ∀ y ∈ r, Same2 f x y) (H : Heap) :
    ACalls Tryz.prog 41 [.c (.d (.sl (l.map Tm.row))), .c (.d (.sl (r.map Tm.row))), .c (.fn f [])] H (fun r' H' => H' = H ∧ r' = .c (.d (.bool (decide (l = r))))) := by
  refine acalls Tryz.func41 (by kernel_rfl) ac41_ok fun hf => ?_
  have hli : inR .i64 (l.length : Int) := small_i64 (by omega) (by omega)
  have hri : inR .i64 (r.length : Int) := small_i64 (by omega) (by omega)
  simp -implicitDefEqProofs [ac41, hli, hri, go_sem, -List.set_cons_succ, -List.set_cons_zero]
  refine ⟨fun h1 e => by subst e; simp at h1, fun e4 => ?_⟩
  have e4 : l.length = r.length := by omega
  refine loop_set (σ := Nat) (fun i => [(17, .c (.d (.int .i64 i)))]) (fun _ => H) (fun _ => []) (fun i => i ≤ l.length ∧ l.take i = r.take i) (fun i => l.length - i) 0 rfl ⟨Nat.zero_le _, rfl⟩ ?_
  rintro i ⟨hi, htk⟩
  simp -implicitDefEqProofs [setAll, hli, go_sem, -List.set_cons_succ, -List.set_cons_zero]
  refine ⟨fun hlt => ?_, fun hge => by rw [List.take_of_length_le hge, List.take_of_length_le (by omega)] at htk; exact htk⟩
  have hadd : inR .i64 ((i : Int) + 1) := small_i64 (by omega) (by omega)
  refine row_of hlt (row_len _) ?_
  simp -implicitDefEqProofs [row_len, take_row, fits_map, hf, go_sem, -List.set_cons_succ, -List.set_cons_zero]
  refine row_of (by omega) (row_len _) ?_
  simp -implicitDefEqProofs [row_len, take_row, fits_map, hf, go_sem, -List.set_cons_succ, -List.set_cons_zero]
  simp -implicitDefEqProofs [pure_d, re_d, go_sem, -List.set_cons_succ, -List.set_cons_zero]
  refine call_same (h l[i] (List.getElem_mem hlt) (r[i]'(by omega)) (List.getElem_mem (by omega)) _) (by simp [Ob.re, C.re, re_d]) rfl hf ?_
  simp -implicitDefEqProofs [hadd, go_sem, -List.set_cons_succ, -List.set_cons_zero]
  refine ⟨fun hne e => ?_, fun he => ?_⟩
  · subst e; exact hne rfl
  · exact loop_less (i + 1) (St.le_cut [_, _] (by simp [setAll, Sl.le, A.le_refl_iff, A.le_u_iff, As.lo, A.lo, C.lo, Ref.lo, Cs.lo, Obs.lo, Ob.lo, setAll, and_true, true_and, List.length_nil, List.length_cons]) (by simp [Sl.le, A.le_refl_iff, A.le_u_iff, As.lo, A.lo, C.lo, Ref.lo, Cs.lo, Obs.lo, Ob.lo, setAll, and_true, true_and, List.length_nil, List.length_cons]) rfl (by simp [Sl.le, A.le_refl_iff, A.le_u_iff, As.lo, A.lo, C.lo, Ref.lo, Cs.lo, Obs.lo, Ob.lo, setAll, and_true, true_and, List.length_nil, List.length_cons])) ⟨hlt, take_snoc hlt (by omega) htk he⟩ (by show l.length - (i + 1) < l.length - i; omega)
theorem sameImpl_calls : ∀ a : Tm, a.fits → ∀ b : Tm, b.fits → Same2 18 a b := by
  refine Tm.ind fun k n s l ih hfits b hb H => ?_
  obtain ⟨k', n', s', r⟩ := b
  obtain ⟨_, _, _, hl, hkids⟩ := hfits
  obtain ⟨_, _, _, hr, hkids'⟩ := hb
  refine acalls Tryz.func18 (by kernel_rfl) ac18_ok fun hf => ?_
  simp -implicitDefEqProofs [ac18, row_mk, go_sem, -List.set_cons_succ, -List.set_cons_zero]
  refine ⟨fun e1 e2 e3 => ⟨⟨⟨e1, e2⟩, e3⟩, ?_⟩, fun h => ?_⟩
  · subst e1 e2 e3
    refine qcall_pure (eqFunc_of 18 l r hl hr fun x hx y hy => ih x hx (hkids x hx) y (hkids' y hy)) hf rfl ?_
    simp -implicitDefEqProofs [go_sem, -List.set_cons_succ, -List.set_cons_zero]
  · exact fun e1 e2 e3 => absurd e3 (h e1 e2)
end Go.Proofs.YtgfmlifkhpjplaaGreatDoor

/-
  Terms that are handed to a law.
  Conditions: none.
-/
open Go Go.AM Go.Proofs
namespace Go.Proofs.YtgfmlifkhpjplaaGreatDoor
open Go.ChangeShapes Go.WideShapes Go.ChangeAt Go.RowKit
set_option linter.unusedVariables false
set_option linter.unusedSimpArgs false
set_option maxRecDepth 100000
end Go.Proofs.YtgfmlifkhpjplaaGreatDoor
