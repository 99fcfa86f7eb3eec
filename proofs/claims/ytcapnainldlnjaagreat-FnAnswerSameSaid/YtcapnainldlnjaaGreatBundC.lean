/-
  Contracts of functions that the law reaches, and plain lemmas: several texts in one.
  Conditions: none.
-/
import Derived.Test.YtcapnainldlnjaaGreatBundB
import Derived.Test.YtcapnainldlnjaaGreatBundA
import Derived.Lib.ItoaNum
import Derived.Lib.ItoaMem
open Go Go.AM Go.Proofs
attribute [local go_sem] kw ew sw tw a_ b_ c_ A.ok A.val d_ e_ f_ g_ h_ i_ j_ k_ l_ m_ unA unD n_ AOp.total o_ p_ q_ r_ s_ t_ u_ v_ A.thaw C.thaw A.fits As.fits C.fits evs oks w_ A.pure C.pure A.re C.re x_ y_ cut A.cells C.rows? z_ A_ B_ C_ a0_ b0_ D_ Ob.re Cs.fits E_ F_ G_ H_ I_ J_ K_ L_ M_ N_ O_ C.toD P_ Q_ R_ S_ T_ Obs.fits U_ eqD V_ W_ X_ Y_ Z_ oa oc ki
open Go Go.AM Go.Proofs
namespace Go.Proofs.YtcapnainldlnjaaGreat
open Go.ChangeShapes Go.WideShapes Go.ChangeAt Go.RowKit
set_option linter.unusedVariables false
set_option linter.unusedSimpArgs false
set_option maxRecDepth 100000
-- 12 (*loop.example/prologserver/spec.l18Rd).pick params 2 ntmps 99
def ac12 : Cd := .seq (.region [oc 4 (.mv (ki 0))] [4])
 (.seq (.region [oa 7 0,
 oa 8 0,
 oc 9 (.nilCheck (.t 8)),
 oc 10 (.fieldAddr 1 (.t 9)),
 oc 11 (.load none (.t 10)),
 oc 12 (.bin .add (.t 11) (ki 1)),
 oc 13 (.nilCheck (.t 7)),
 oc 14 (.fieldAddr 1 (.t 13)),
 ⟨none,.store 1 (.t 14) (.t 12),none⟩] [7,8,9,10,11,12,13,14])
 (.seq (.seq (.region [oa 15 1,
 oc 16 (.bin .lss (.t 15) (ki 1)),
 oa 17 16,
 ⟨some 18,.mv (.t 0),some (17,false)⟩,
 ⟨some 19,.nilCheck (.t 18),some (17,false)⟩,
 ⟨some 20,.fieldAddr 0 (.t 19),some (17,false)⟩,
 ⟨some 21,.load none (.t 20),some (17,false)⟩,
 ⟨some 22,.len 1 (.t 21),some (17,false)⟩,
 ⟨some 23,.bin .eql (.t 22) (ki 0),some (17,false)⟩,
 oc 24 (.pick (.t 17) (.k (.c (.d (.bool true)))) (.t 23))] [15,16,17,18,19,20,21,22,23])
 (.cond (.t 24)
 (.seq (.region [oc 4 (.mv (ki 0))] [0,1,24])
 (.ret))
 (.skip)))
 (.seq (.region [oa 25 0,
 oc 26 (.nilCheck (.t 25)),
 oc 27 (.fieldAddr 1 (.t 26)),
 oc 28 (.load none (.t 27)),
 oc 29 (.bin .sub (.t 28) (ki 1)),
 oa 5 29] [4,24,25,26,27,28,29])
 (.seq (.seq (.region [oa 30 5,
 oa 31 0,
 oc 32 (.nilCheck (.t 31)),
 oc 33 (.fieldAddr 0 (.t 32)),
 oc 34 (.load none (.t 33)),
 oc 35 (.len 1 (.t 34)),
 oc 36 (.bin .lss (.t 30) (.t 35))] [30,31,32,33,34,35])
 (.cond (.t 36)
 (.seq (.region [oa 37 0,
 oc 38 (.nilCheck (.t 37)),
 oc 39 (.fieldAddr 0 (.t 38)),
 oc 40 (.load none (.t 39)),
 oa 41 5,
 oc 42 (.indexAddr 1 (.t 40) (.t 41)),
 oc 43 (.load none (.t 42)),
 oc 44 (.cvInt .i64 (.t 43)),
 oa 45 1,
 oc 46 (.bin .rem (.t 44) (.t 45)),
 oa 4 46] [0,1,5,36,37,38,39,40,41,42,43,44,45,46])
 (.ret))
 (.skip)))
 (.seq (.region [oa 47 0,
 oc 48 (.nilCheck (.t 47)),
 oc 49 (.fieldAddr 0 (.t 48)),
 oa 51 5,
 oa 52 0,
 oc 53 (.nilCheck (.t 52)),
 oc 54 (.fieldAddr 0 (.t 53)),
 oa 62 0,
 oc 63 (.nilCheck (.t 62)),
 oc 64 (.fieldAddr 0 (.t 63)),
 oa 66 5,
 oc 67 (.bin .mul (.t 66) (ki 7)),
 oc 68 (.bin .add (.t 67) (ki 3)),
 oa 69 0,
 oc 70 (.nilCheck (.t 69)),
 oc 71 (.fieldAddr 0 (.t 70)),
 oa 80 5,
 oc 81 (.bin .mul (.t 80) (ki 29)),
 oa 83 5,
 oa 84 0,
 oc 85 (.nilCheck (.t 84)),
 oc 86 (.fieldAddr 0 (.t 85)),
 oc 50 (.load none (.t 49)),
 oc 55 (.load none (.t 54)),
 oc 56 (.len 1 (.t 55)),
 oc 57 (.bin .rem (.t 51) (.t 56)),
 oc 58 (.indexAddr 1 (.t 50) (.t 57)),
 oc 59 (.load none (.t 58)),
 oc 60 (.cvInt .i64 (.t 59)),
 oc 61 (.bin .mul (.t 60) (ki 131)),
 oc 65 (.load none (.t 64)),
 oc 72 (.load none (.t 71)),
 oc 73 (.len 1 (.t 72)),
 oc 74 (.bin .rem (.t 68) (.t 73)),
 oc 75 (.indexAddr 1 (.t 65) (.t 74)),
 oc 76 (.load none (.t 75)),
 oc 77 (.cvInt .i64 (.t 76)),
 oc 78 (.bin .mul (.t 77) (ki 1117)),
 oc 79 (.bin .add (.t 61) (.t 78)),
 oc 82 (.bin .add (.t 79) (.t 81)),
 oc 87 (.load none (.t 86)),
 oc 88 (.len 1 (.t 87)),
 oc 89 (.bin .quo (.t 83) (.t 88)),
 oc 90 (.bin .mul (.t 89) (ki 53)),
 oc 91 (.bin .add (.t 82) (.t 90)),
 oa 6 91] [0,4,5,36,47,48,49,50,51,52,53,54,55,56,57,58,59,60,61,62,63,64,65,66,67,68,69,70,71,72,73,74,75,76,77,78,79,80,81,82,83,84,85,86,87,88,89,90,91])
 (.seq (.region [oa 92 6,
 oa 93 6,
 oc 94 (.bin .quo (.t 93) (ki 64)),
 oc 95 (.bin .xor (.t 92) (.t 94)),
 oa 6 95] [92,93,94,95])
 (.seq (.region [oa 96 6,
 oa 97 1,
 oc 98 (.bin .rem (.t 96) (.t 97)),
 oa 4 98] [1,6,96,97,98])
 (.ret))))))))
theorem ac12_ok : cFunc Tryz.prog [] [(0,[4],[]),(1,[7,8,9,10,11,12,13,14],[]),(2,[15,16,17,18,19,20,21,22,23],[]),(3,[0,1,24],[]),(4,[4,24,25,26,27,28,29],[]),(5,[30,31,32,33,34,35],[]),(6,[0,1,5,36,37,38,39,40,41,42,43,44,45,46],[]),(7,[0,4,5,36,47,48,49,50,51,52,53,54,55,56,57,58,59,60,61,62,63,64,65,66,67,68,69,70,71,72,73,74,75,76,77,78,79,80,81,82,83,84,85,86,87,88,89,90,91],[0,1,2,4,5,6,7,15,16,17,19,20,21,22,23,24,33,34,36,37,38,39,3,8,9,10,11,12,13,14,18,25,26,27,28,29,30,31,32,35,40,41,42,43,44,45]),(8,[92,93,94,95],[]),(9,[1,6,96,97,98],[])] Tryz.f12 = some (ac12,[.tmp 4],99) := by kernel_rfl
-- 11 loop.example/prologserver/spec.l18Open params 1 ntmps 11
def ac11 : Cd := .seq (.region [oc 2 (.mv (.k (.c (.d (.v (.pointer none))))))] [2])
 (.seq (.seq (.region [oa 3 0,
 oc 4 (.len 1 (.t 3)),
 oc 5 (.bin .gtr (.t 4) (ki 2000))] [3,4])
 (.cond (.t 5)
 (.region [oa 6 0,
 oc 7 (.slice 1 (.t 6) none (some (ki 2000)) none),
 oa 0 7] [5,6,7])
 (.skip)))
 (.seq (.region [oa 8 0,
 oc 9 (.build [(.full []),(.d (.int .i64 0))] [(0,1,(.t 8))]),
 oc 10 (.box (.t 9)),
 oa 2 10] [0,5,8,9,10])
 (.ret)))
theorem ac11_ok : cFunc Tryz.prog [] [(0,[2],[]),(1,[3,4],[]),(2,[5,6,7],[]),(3,[0,5,8,9,10],[])] Tryz.f11 = some (ac11,[.tmp 2],11) := by kernel_rfl
-- 32 (*loop.example/prologserver/spec.l18Rd).num params 2 ntmps 12
def ac32 : Cd := .seq (.region [oc 4 (.mv (ki 0))] [4])
 (.seq (.region [oa 5 1,
 oa 6 0,
 oa 7 1,
 oc 8 (.len 1 (.t 7)),
 oc 9 (.call false 12 [(.t 6),(.t 8)]),
 oc 10 (.indexAddr 1 (.t 5) (.t 9)),
 oc 11 (.load none (.t 10)),
 oa 4 11] [0,1,5,6,7,8,9,10,11])
 (.ret))
theorem ac32_ok : cFunc Tryz.prog [] [(0,[4],[]),(1,[0,1,5,6,7,8,9,10,11],[])] Tryz.f32 = some (ac32,[.tmp 4],12) := by kernel_rfl
/-- a source of draws, at a place -/
def Rd (c : List UInt8) (p : Int) : Ob := .cells [.d (.sl (bytesRows c)), .d (.int .i64 p)]
theorem xor_small {x y : Int} (hx : 0 ≤ x) (hx1 : x < 1099511627776) (hy : 0 ≤ y) (hy1 : y < 1099511627776) : 0 ≤ bitsVal .xor .i64 x y ∧ bitsVal .xor .i64 x y < 1099511627776 := by
  obtain ⟨a, rfl⟩ := Int.eq_ofNat_of_zero_le hx
  obtain ⟨b, rfl⟩ := Int.eq_ofNat_of_zero_le hy
  have hx : a < 2 ^ 40 := by omega
  have hy : b < 2 ^ 40 := by omega
  have hxor : a ^^^ b < 2 ^ 40 := Nat.xor_lt_two_pow hx hy
  have e : ((BitVec.ofInt 64 (a : Int)) ^^^ (BitVec.ofInt 64 (b : Int))).toNat = a ^^^ b := by
    rw [BitVec.toNat_xor]
    have h1 : (BitVec.ofInt 64 (a : Int)).toNat = a := by rw [BitVec.ofInt_natCast, BitVec.toNat_ofNat, Nat.mod_eq_of_lt (by omega)]
    have h2 : (BitVec.ofInt 64 (b : Int)).toNat = b := by rw [BitVec.ofInt_natCast, BitVec.toNat_ofNat, Nat.mod_eq_of_lt (by omega)]
    rw [h1, h2]
  have : bitsVal .xor .i64 (a : Int) (b : Int) = ((a ^^^ b : Nat) : Int) := by
    show IntKind.wrap .i64 (((BitVec.ofInt 64 (a : Int)) ^^^ (BitVec.ofInt 64 (b : Int))).toNat : Int) = _
    rw [e, IntKind.wrap_i64]
    omega
  rw [this]
  omega
theorem pick_calls (c : List UInt8) (hc : c.length ≤ 2000) (p m : Int) (hp : 0 ≤ p) (hp1 : p ≤ 1000000) (hm : -1000000000 ≤ m ∧ m ≤ 1000000000) (H : Heap) (i : Nat) (hi : i < H.length) :
    ACalls Tryz.prog 12 [.c (.ptr (.e i) 0), .c (.d (.int .i64 m))] (H.set i (Rd c p)) (fun r H' => ∃ k : Int, r = .c (.d (.int .i64 k)) ∧ 0 ≤ k ∧ (0 < m → k < m) ∧ H' = H.set i (Rd c (p + 1))) := by
  refine acalls Tryz.func12 (by kernel_rfl) ac12_ok fun hf => ?_
  have hadd : inR .i64 (p + 1) := small_i64 (by omega) (by omega)
  have hl : inR .i64 (c.length : Int) := small_i64 (by omega) (by omega)
  have hi64 : inR .i64 p := small_i64 (by omega) (by omega)
  simp only [List.length_set] at hf
  simp -implicitDefEqProofs [ac12, Rd, hadd, hl, hi64, hi, List.getElem?_set, bytesRows_len, go_sem, -List.set_cons_succ, -List.set_cons_zero]
  have hfit : Obs.fits H.length 0 (H.set i (.cells [.d (.sl (bytesRows c)), .d (.int .i64 (p + 1))])) := fits_reset hf ⟨trivial, trivial, trivial⟩
  refine ⟨hfit, fun h1 hc0 => ⟨fun h2 => ?_, fun h2 => ?_⟩⟩
  · refine byteRow hp (by omega) ?_
    simp -implicitDefEqProofs [u8_i64, go_sem, -List.set_cons_succ, -List.set_cons_zero]
    refine ⟨by omega, Int.tmod_nonneg _ (by omega), fun h => Int.tmod_lt_of_pos _ h⟩
  · have hcl : 0 < c.length := by cases c with | nil => exact absurd rfl hc0 | cons a l => simp
    refine ⟨small_i64 (by omega) (by omega), small_i64 (by omega) (by omega), small_i64 (by omega) (by omega), hc0, ?_⟩
    have hm1 := Int.tmod_nonneg (a := p) (c.length : Int) hp
    have hm2 := Int.tmod_lt_of_pos p (b := (c.length : Int)) (by omega)
    refine byteRow hm1 (by omega) ?_
    have hb1 := (c[(p.tmod ↑c.length).toNat]'(by omega)).toNat_lt
    have hq : 0 ≤ (p * 7 + 3).tmod (c.length : Int) := Int.tmod_nonneg _ (by omega)
    have hq2 := Int.tmod_lt_of_pos (p * 7 + 3) (b := (c.length : Int)) (by omega)
    simp -implicitDefEqProofs [u8_i64, hcl, hi, hl, bytesRows_len, bytesRows_nil, hc0, List.getElem?_set, go_sem, -List.set_cons_succ, -List.set_cons_zero]
    refine ⟨small_i64 (by omega) (by omega), byteRow hq (by omega) ?_⟩
    have hb2 := (c[((p * 7 + 3).tmod ↑c.length).toNat]'(by omega)).toNat_lt
    have hd0 : 0 ≤ p.tdiv (c.length : Int) := Int.tdiv_nonneg hp (by omega)
    have hd1 : p.tdiv (c.length : Int) ≤ p := Int.tdiv_le_self _ hp
    generalize ((c[(p.tmod ↑c.length).toNat]'(by omega)).toNat : Nat) = b1 at hb1
    generalize ((c[((p * 7 + 3).tmod ↑c.length).toNat]'(by omega)).toNat : Nat) = b2 at hb2
    generalize hdd : p.tdiv (c.length : Int) = d at hd0 hd1
    have i1 : inR .i64 ((b2 : Int) * 1117) := small_i64 (by omega) (by omega)
    have i2 : inR .i64 ((b1 : Int) * 131 + (b2 : Int) * 1117) := small_i64 (by omega) (by omega)
    have i3 : inR .i64 ((b1 : Int) * 131 + (b2 : Int) * 1117 + p * 29) := small_i64 (by omega) (by omega)
    have i4 : inR .i64 d := small_i64 (by omega) (by omega)
    have i5 : inR .i64 (d * 53) := small_i64 (by omega) (by omega)
    have i6 : inR .i64 ((b1 : Int) * 131 + (b2 : Int) * 1117 + p * 29 + d * 53) := small_i64 (by omega) (by omega)
    have hw : IntKind.wrap .i64 (b2 : Int) = b2 := by rw [IntKind.wrap_i64]; omega
    generalize hX : (b1 : Int) * 131 + (b2 : Int) * 1117 + p * 29 + d * 53 = X at i6
    have hx0 : 0 ≤ X := by omega
    have hx1 : X < 1099511627776 := by omega
    have j1 : 0 ≤ X.tdiv 64 := Int.tdiv_nonneg hx0 (by omega)
    have j2 : X.tdiv 64 ≤ X := Int.tdiv_le_self _ hx0
    obtain ⟨k1, k2⟩ := xor_small hx0 hx1 j1 (by omega)
    have i7 : inR .i64 (X.tdiv 64) := small_i64 (by omega) (by omega)
    simp -implicitDefEqProofs [hw, hcl, hi, hl, hdd, i1, i2, i3, i4, i5, hX, i6, i7, bytesRows_len, bytesRows_nil, hc0, List.getElem?_set, go_sem, -List.set_cons_succ, -List.set_cons_zero]
    exact ⟨by omega, Int.tmod_nonneg _ k1, fun h => Int.tmod_lt_of_pos _ h⟩

/-- what a function that draws gives: its source stands behind where it stood -/
def Drew (R : A → Prop) (N : Int) (c : List UInt8) (p : Int) (H : Heap) (i : Nat) (r : A) (H' : Heap) : Prop := R r ∧ ∃ p', p ≤ p' ∧ p' ≤ p + N ∧ H' = H.set i (Rd c p')
/-- what a function that draws is shown to give -/
def Draws (f : FuncId) (xs : List A) (N : Int) (R : A → Prop) : Prop :=
  ∀ (c : List UInt8) (p : Int) (H : Heap) (i : Nat), c.length ≤ 2000 → 0 ≤ p → p + N ≤ 1000000 → i < H.length → ACalls Tryz.prog f (.c (.ptr (.e i) 0) :: xs) (H.set i (Rd c p)) (Drew R N c p H i)
/-- an integer in a range -/
def IntIn (lo hi : Int) (r : A) : Prop := ∃ k : Int, r = .c (.d (.int .i64 k)) ∧ lo ≤ k ∧ k < hi
theorem pick_draws (m : Int) (hm : 1 ≤ m ∧ m ≤ 1000000000) : Draws 12 [.c (.d (.int .i64 m))] 1 (IntIn 0 m) := fun c p H i hc hp hp1 hi =>
  (pick_calls c hc p m hp (by omega) ⟨by omega, hm.2⟩ H i hi).mono fun r H' ⟨k, h1, h2, h3, h4⟩ => ⟨⟨k, h1, h2, h3 (by omega)⟩, p + 1, by omega, by omega, h4⟩

/-- a call that draws from a source that was handed in -/
theorem call_drawE {f : FuncId} {xs : List A} {N : Int} {R : A → Prop} (hd : Draws f xs N R) {c : List UInt8} {p : Int} {H : Heap} {i : Nat} {sl : List A} {loc H₂ : Heap} {K : A → St → Prop} (hc : c.length ≤ 2000) (hp : 0 ≤ p) (hp1 : p + N ≤ 1000000) (hi : i < H.length)
    (hH : H₂ = H.set i (Rd c p) ++ loc.map (Ob.re H.length)) (hr : ∀ r, R r → A.re H.length r = r) (hf : Obs.fits H.length 0 (H.set i (Rd c p))) (hk : ∀ r p', R r → p ≤ p' → p' ≤ p + N → K r ⟨sl, H.set i (Rd c p'), loc⟩) :
    ACalls Tryz.prog f (.c (.ptr (.e i) 0) :: xs) H₂ (CallK K ⟨sl, H.set i (Rd c p), loc⟩) := by
  subst hH
  have h := hd c p (H ++ loc.map (Ob.re H.length)) i hc hp hp1 (by simp; omega)
  rw [List.set_append_left _ _ hi] at h
  refine h.mono fun r H' ⟨h1, p', h2, h3, h4⟩ => ?_
  rw [List.set_append_left _ _ hi] at h4
  exact ⟨H.set i (Rd c p'), loc, r, by simpa using h4, by simp, Nat.le_refl _, by simpa using fits_reset (b := Rd c p') hf ⟨trivial, trivial, trivial⟩, by simpa using (hr r h1).symm, hk r p' h1 h2 h3⟩
/-- a call that draws from an own source, the first own object -/
theorem call_drawL {f : FuncId} {xs : List A} {N : Int} {R : A → Prop} (hd : Draws f xs N R) {c : List UInt8} {p : Int} {H : Heap} {sl : List A} {loc H₂ : Heap} {j : Nat} {K : A → St → Prop} (hc : c.length ≤ 2000) (hp : 0 ≤ p) (hp1 : p + N ≤ 1000000) (hj : loc[j]? = some (Rd c p))
    (hH : H₂ = H ++ loc.map (Ob.re H.length)) (hr : ∀ r, R r → A.re H.length r = r) (hf : Obs.fits H.length 0 H) (hk : ∀ r p', R r → p ≤ p' → p' ≤ p + N → K r ⟨sl, H, loc.set j (Rd c p')⟩) :
    ACalls Tryz.prog f (.c (.ptr (.e (H.length + j)) 0) :: xs) H₂ (CallK K ⟨sl, H, loc⟩) := by
  subst hH
  have hjl : j < loc.length := (List.getElem?_eq_some_iff.1 hj).1
  have h := hd c p (H ++ loc.map (Ob.re H.length)) (H.length + j) hc hp hp1 (by simp; omega)
  have e : ∀ q, (H ++ loc.map (Ob.re H.length)).set (H.length + j) (Rd c q) = H ++ (loc.set j (Rd c q)).map (Ob.re H.length) := fun q => by
    rw [List.set_append_right _ _ (by omega), Nat.add_sub_cancel_left, List.map_set]
    rfl
  have e0 : loc.set j (Rd c p) = loc := by
    apply List.ext_getElem?
    intro k
    rw [List.getElem?_set]
    split
    · rename_i h; subst h; rw [hj]
    · rfl
  rw [e, e0] at h
  refine h.mono fun r H' ⟨h1, p', h2, h3, h4⟩ => ?_
  rw [e] at h4
  exact ⟨H, loc.set j (Rd c p'), r, h4, rfl, by simp, hf, (hr r h1).symm, hk r p' h1 h2 h3⟩
theorem IntIn.re {lo hi : Int} {n : Nat} {r : A} (h : IntIn lo hi r) : A.re n r = r := by
  obtain ⟨k, rfl, _⟩ := h
  rfl

theorem num_draws (l : List Int) (hl : 1 ≤ l.length ∧ l.length ≤ 1000) : Draws 32 [.c (.d (.sl (l.map fun n => [.int .i64 n])))] 1 (fun r => ∃ n ∈ l, r = .c (.d (.int .i64 n))) := fun c p H i hc hp hp1 hi => by
  refine acalls Tryz.func32 (by kernel_rfl) ac32_ok fun hf => ?_
  simp only [List.length_set] at hf
  have hll : inR .i64 (l.length : Int) := small_i64 (by omega) (by omega)
  simp -implicitDefEqProofs [ac32, hll, go_sem, -List.set_cons_succ, -List.set_cons_zero]
  refine call_drawE (pick_draws l.length ⟨by omega, by omega⟩) hc hp hp1 hi (by simp) (fun r => IntIn.re) hf ?_
  rintro _ p' ⟨k, rfl, h1, h2⟩ h3 h4
  simp -implicitDefEqProofs [go_sem, -List.set_cons_succ, -List.set_cons_zero]
  have hk : k.toNat < l.length := by omega
  refine row_int [.int .i64 l[k.toNat]] h1 (by simp [hk]) rfl ?_
  simp -implicitDefEqProofs [go_sem, -List.set_cons_succ, -List.set_cons_zero]
  exact ⟨⟨_, List.getElem_mem hk, rfl⟩, p', h3, h4, rfl⟩
theorem open_calls (c : List UInt8) (hc : c.length ≤ 1048576) (H : Heap) : ACalls Tryz.prog 11 [.c (.d (.sl (bytesRows c)))] H (fun r H' => r = .c (.ptr (.e H.length) 0) ∧ ∃ c' : List UInt8, c'.length ≤ 2000 ∧ H' = H ++ [Rd c' 0]) := by
  refine acallsK Tryz.func11 (by kernel_rfl) ac11_ok fun hf => ?_
  have hl : inR .i64 (c.length : Int) := small_i64 (by omega) (by omega)
  simp -implicitDefEqProofs [ac11, hl, bytesRows_len, go_sem, -List.set_cons_succ, -List.set_cons_zero]
  refine ⟨fun h => ⟨?_, by omega, ?_⟩, fun h => ?_⟩
  · intro r hr
    simp only [bytesRows, List.mem_map] at hr
    obtain ⟨b, _, rfl⟩ := hr
    rfl
  · refine finK_ret _ ⟨trivial, trivial⟩ rfl ⟨rfl, c.take 2000, by simp; omega, ?_⟩
    simp [Rd, bytesRows, Ob.re, C.re]
  · refine finK_ret _ ⟨trivial, trivial⟩ rfl ⟨rfl, c, by omega, ?_⟩
    simp [Rd, Ob.re, C.re]
-- 33 (*loop.example/prologserver/spec.l18Rd).of params 2 ntmps 12
def ac33 : Cd := .seq (.region [oc 4 (.mv (.k (.c (.d (.str [])))))] [4])
 (.seq (.region [oa 5 1,
 oa 6 0,
 oa 7 1,
 oc 8 (.len 1 (.t 7)),
 oc 9 (.call false 12 [(.t 6),(.t 8)]),
 oc 10 (.indexAddr 1 (.t 5) (.t 9)),
 oc 11 (.load none (.t 10)),
 oa 4 11] [0,1,5,6,7,8,9,10,11])
 (.ret))
theorem ac33_ok : cFunc Tryz.prog [] [(0,[4],[]),(1,[0,1,5,6,7,8,9,10,11],[])] Tryz.f33 = some (ac33,[.tmp 4],12) := by kernel_rfl
-- 14 loop.example/prologserver/spec.l1Draw params 2 ntmps 65
-- loop head live: [0,1,4,5,6]
def ac14 : Cd := .seq (.region [oc 4 (.alloc [(.d (.int .i64 0)),(.d (.int .i64 0)),(.d (.str [])),(.full [])])] [])
 (.seq (.seq (.region [oa 7 1,
 oc 8 (.bin .lss (.t 7) (ki 2)),
 oa 9 8,
 ⟨some 10,.mv (.t 0),some (9,false)⟩,
 ⟨some 11,.call false 12 [(.t 10),(ki 4)],some (9,false)⟩,
 ⟨some 12,.bin .eql (.t 11) (ki 0),some (9,false)⟩,
 oc 13 (.pick (.t 9) (.k (.c (.d (.bool true)))) (.t 12))] [7,8,9,10,11,12])
 (.cond (.t 13)
 (.seq (.seq (.region [oa 14 0,
 oc 15 (.call false 12 [(.t 14),(ki 4)])] [1,13,14])
 (.block 0 (.seq (.region [oc 17 (.bin .eql (.t 15) (ki 0)),
 oa 16 17] [17])
 (.cond (.t 16)
 (.seq (.region [oa 18 0,
 oc 19 (.call false 12 [(.t 18),(ki 4)]),
 oc 20 (.qcall 36 [(.t 19)]),
 ⟨none,.store 4 (.t 4) (.t 20),none⟩] [0,15,16,18,19,20])
 (.ret))
 (.seq (.region [oc 22 (.bin .eql (.t 15) (ki 1)),
 oa 21 22] [15,16,22])
 (.cond (.t 21)
 (.seq (.region [oa 23 0,
 oc 24 (.buildSlice 1 6 [(.int .i64 0)] [(0,(ki 0)),(1,(ki 1)),(2,(ki 7)),(3,(ki (-3))),(4,(ki 999)),(5,(ki (-999)))]),
 oc 25 (.call false 32 [(.t 23),(.t 24)]),
 oc 26 (.qcall 34 [(.t 25)]),
 ⟨none,.store 4 (.t 4) (.t 26),none⟩] [0,21,23,24,25,26])
 (.ret))
 (.skip)))))))
 (.seq (.region [oa 27 0,
 oc 28 (.buildSlice 1 6 [(.str [])] [(0,(.k (.c (.d (.str [97]))))),(1,(.k (.c (.d (.str [98]))))),(2,(.k (.c (.d (.str [110,105,108]))))),(3,(.k (.c (.d (.str [91,93]))))),(4,(.k (.c (.d (.str [102,111,111]))))),(5,(.k (.c (.d (.str [43])))))]),
 oc 29 (.call false 33 [(.t 27),(.t 28)]),
 oc 30 (.call false 35 [(.t 29),(.k (.c (.full [])))]),
 ⟨none,.store 4 (.t 4) (.t 30),none⟩] [0,21,27,28,29,30])
 (.ret)))
 (.skip)))
 (.seq (.seq (.region [oa 31 0,
 oc 32 (.call false 12 [(.t 31),(ki 3)]),
 oc 33 (.bin .eql (.t 32) (ki 0))] [13,31,32])
 (.cond (.t 33)
 (.seq (.region [oa 34 0,
 oa 35 1,
 oc 36 (.bin .sub (.t 35) (ki 1)),
 oc 37 (.callL false false 14 [(.t 34),(.t 36)]),
 oa 38 0,
 oa 39 1,
 oc 40 (.bin .sub (.t 39) (ki 1)),
 oc 41 (.callL false false 14 [(.t 38),(.t 40)]),
 oc 42 (.buildSlice 4 2 [(.int .i64 0),(.int .i64 0),(.str []),(.sl [])] [(0,(.t 37)),(1,(.t 41))]),
 oc 43 (.call false 35 [(.k (.c (.d (.str [46])))),(.t 42)]),
 ⟨none,.store 4 (.t 4) (.t 43),none⟩] [0,1,33,34,35,36,37,38,39,40,41,42,43])
 (.ret))
 (.skip)))
 (.seq (.region [oa 44 0,
 oc 45 (.buildSlice 1 7 [(.str [])] [(0,(.k (.c (.d (.str [102]))))),(1,(.k (.c (.d (.str [103]))))),(2,(.k (.c (.d (.str [115]))))),(3,(.k (.c (.d (.str [43]))))),(4,(.k (.c (.d (.str [61]))))),(5,(.k (.c (.d (.str [105,115]))))),(6,(.k (.c (.d (.str [102,111,111])))))]),
 oc 46 (.call false 33 [(.t 44),(.t 45)]),
 oc 47 (.call false 35 [(.t 46),(.k (.c (.full [])))]),
 oc 5 (.alloc [(.d (.int .i64 0)),(.d (.int .i64 0)),(.d (.str [])),(.full [])]),
 ⟨none,.store 4 (.t 5) (.t 47),none⟩] [33,44,45,46,47])
 (.seq (.seq (.region [oa 48 0,
 oc 49 (.buildSlice 1 4 [(.int .i64 0)] [(0,(ki 2)),(1,(ki 1)),(2,(ki 3)),(3,(ki 2))]),
 oc 50 (.call false 32 [(.t 48),(.t 49)]),
 oa 6 50] [48,49,50])
 (.block 1 (.loop (.seq (.seq (.region [oa 51 6,
 oc 52 (.bin .gtr (.t 51) (ki 0))] [51])
 (.cond (.t 52)
 (.skip)
 (.exit 1)))
 (.seq (.block 2 (.region [oc 55 (.fieldAddr 3 (.t 5)),
 oa 57 0,
 oa 58 1,
 oc 59 (.bin .sub (.t 58) (ki 1)),
 oc 56 (.loadL false none (.t 55)),
 oc 60 (.callL false false 14 [(.t 57),(.t 59)]),
 oc 61 (.buildSlice 4 1 [(.int .i64 0),(.int .i64 0),(.str []),(.sl [])] [(0,(.t 60))]),
 oc 62 (.append false 4 (.t 56) (.t 61)),
 oc 63 (.fieldAddr 3 (.t 5)),
 ⟨none,.store 1 (.t 63) (.t 62),none⟩] [52,55,56,57,58,59,60,61,62,63]))
 (.region [oa 53 6,
 oc 54 (.bin .sub (.t 53) (ki 1)),
 oa 6 54] [53,54]))))))
 (.seq (.region [oc 64 (.load (some 4) (.t 5)),
 ⟨none,.store 4 (.t 4) (.t 64),none⟩] [5,64])
 (.ret))))))
theorem ac14_ok : cFunc Tryz.prog [1000034,1000036,5000055,6000014] [(0,[],[]),(1,[7,8,9,10,11,12],[]),(2,[1,13,14],[]),(3,[17],[]),(4,[0,15,16,18,19,20],[]),(5,[15,16,22],[]),(6,[0,21,23,24,25,26],[]),(7,[0,21,27,28,29,30],[]),(8,[13,31,32],[]),(9,[0,1,33,34,35,36,37,38,39,40,41,42,43],[]),(10,[33,44,45,46,47],[]),(11,[48,49,50],[]),(12,[51],[]),(14,[52,55,56,57,58,59,60,61,62,63],[0,2,3,4,1,5,6,7,8,9]),(13,[53,54],[]),(15,[5,64],[])] Tryz.f14 = some (ac14,[.cell 4 (some 4)],65) := by kernel_rfl
namespace Full
-- 35 loop.example/prologserver/spec.l1Struct params 2 ntmps 10
def ac35 : Cd := .seq (.region [oc 4 (.alloc [(.d (.int .i64 0)),(.d (.int .i64 0)),(.d (.str [])),(.full [])])] [])
 (.seq (.region [oa 5 0,
 oc 6 (.buildSlice 4 0 [(.int .i64 0),(.int .i64 0),(.str []),(.sl [])] []),
 oa 7 1,
 oc 8 (.appendF 4 (.t 6) (.t 7)),
 oc 9 (.build [(.d (.int .i64 0)),(.d (.int .i64 0)),(.d (.str [])),(.full [])] [(0,1,(ki 3)),(2,1,(.t 5)),(3,1,(.t 8))]),
 ⟨none,.store 4 (.t 4) (.t 9),none⟩] [0,1,5,6,7,8,9])
 (.ret))
theorem ac35_ok : cFunc Tryz.prog [3000006] [(0,[],[]),(1,[0,1,5,6,7,8,9],[])] Tryz.f35 = some (ac35,[.cell 4 (some 4)],10) := by kernel_rfl
end Full
theorem of_draws (l : List (List UInt8)) (hl : 1 ≤ l.length ∧ l.length ≤ 1000) : Draws 33 [.c (.d (.sl (l.map fun s => [.str s])))] 1 (fun r => ∃ s ∈ l, r = .c (.d (.str s))) := fun c p H i hc hp hp1 hi => by
  refine acalls Tryz.func33 (by kernel_rfl) ac33_ok fun hf => ?_
  simp only [List.length_set] at hf
  have hll : inR .i64 (l.length : Int) := small_i64 (by omega) (by omega)
  simp -implicitDefEqProofs [ac33, hll, go_sem, -List.set_cons_succ, -List.set_cons_zero]
  refine call_drawE (pick_draws l.length ⟨by omega, by omega⟩) hc hp hp1 hi (by simp) (fun r => IntIn.re) hf ?_
  rintro _ p' ⟨k, rfl, h1, h2⟩ h3 h4
  simp -implicitDefEqProofs [go_sem, -List.set_cons_succ, -List.set_cons_zero]
  have hk : k.toNat < l.length := by omega
  refine row_int [.str l[k.toNat]] h1 (by simp [hk]) rfl ?_
  simp -implicitDefEqProofs [go_sem, -List.set_cons_succ, -List.set_cons_zero]
  exact ⟨⟨_, List.getElem_mem hk, rfl⟩, p', h3, h4, rfl⟩
/-- a structure without arguments: nothing stands behind its arguments -/
theorem struct_full (name : List UInt8) (H : Heap) : ACalls Tryz.prog 35 [.c (.d (.str name)), .c (.d (.sl []))] H (fun r H' => H' = H ++ [.cells [.d (.int .i64 3), .d (.int .i64 0), .d (.str name), .full []]] ∧ r = .agg [.d (.int .i64 3), .d (.int .i64 0), .d (.str name), .full []]) := by
  refine acallsK Tryz.func35 (by kernel_rfl) Full.ac35_ok fun hf => ?_
  simp -implicitDefEqProofs [Full.ac35, hf, go_sem, -List.set_cons_succ, -List.set_cons_zero]
  refine finK_ret _ ⟨trivial, trivial⟩ rfl ?_
  simp [Ob.re, C.re, A.re]
/-- a call that leaves one object more, which looks at no other -/
theorem call_new {P : Program} {f : FuncId} {xs : List A} {sl : List A} {ext loc H₂ : Heap} {o : Ob} {r : A} {K : A → St → Prop} (hc : ∀ H, ACalls P f xs H (fun r' H' => H' = H ++ [o] ∧ r' = r)) (ho : Ob.re ext.length o = o) (hr : A.re ext.length r = r)
    (hf : Obs.fits ext.length 0 ext) (hH : H₂ = ext ++ loc.map (Ob.re ext.length)) (hk : K r ⟨sl, ext, loc ++ [o]⟩) : ACalls P f xs H₂ (CallK K ⟨sl, ext, loc⟩) := by
  subst hH
  exact (hc _).mono fun r' H' ⟨h1, h2⟩ => ⟨ext, loc ++ [o], r, by rw [h1, List.append_assoc, List.map_append]; simp [ho], rfl, by simp, hf, by rw [h2]; exact hr.symm, hk⟩
/-- a term that a law looks at -/
def TmR (r : A) : Prop := ∃ t : Tm, r = .agg (t.row.map .d) ∧ t.fits
theorem TmR.re {n : Nat} {r : A} (h : TmR r) : A.re n r = r := by
  obtain ⟨t, rfl, _⟩ := h
  simp [A.re, re_d]
/-- the names that are drawn -/
def drawNames : List (List UInt8) := [[97], [98], [110, 105, 108], [91, 93], [102, 111, 111], [43], [46], [102], [103], [115], [61], [105, 115]]
theorem draw_names {l : List (List UInt8)} {s : List UInt8} (h : s ∈ l) (hl : l.all (drawNames.contains ·) = true := by decide) : s ∈ drawNames := by
  simp only [List.all_eq_true, List.contains_iff_mem] at hl
  exact hl s h
/-- a term that is drawn -/
def TmP (P : Tm → Prop) (r : A) : Prop := ∃ t : Tm, r = .agg (t.row.map .d) ∧ t.fits ∧ P t
theorem TmP.re {P : Tm → Prop} {n : Nat} {r : A} (h : TmP P r) : A.re n r = r := by
  obtain ⟨t, rfl, _⟩ := h
  simp [A.re, re_d]
theorem draw_of {P Q : Tm → Prop} (hP1 : ∀ n, 0 ≤ n → n ≤ 25 → P (.mk 1 n [] [])) (hP2 : ∀ n, -999 ≤ n → n ≤ 999 → P (.mk 2 n [] [])) (hP3 : ∀ s ∈ drawNames, ∀ l : List Tm, l.length ≤ 3 → (∀ t ∈ l, Q t) → P (.mk 3 0 s l))
    (d : Nat) (hd : d ≤ 6) (M N : Int) (hM : 0 ≤ M) (hN : 4 + 3 * M ≤ N) (ih : 2 ≤ d → Draws 14 [.c (.d (.int .i64 ((d : Int) - 1)))] M (TmP Q)) : Draws 14 [.c (.d (.int .i64 d))] N (TmP P) := fun c p H i hc hp hp1 hi => by
  refine acalls Tryz.func14 (by kernel_rfl) ac14_ok fun hf => ?_
  simp only [List.length_set] at hf
  simp -implicitDefEqProofs [ac14, go_sem, -List.set_cons_succ, -List.set_cons_zero]
  have hf0 : ∀ q, Obs.fits H.length 0 (H.set i (Rd c q)) := fun q => fits_reset (b := Rd c q) hf ⟨trivial, trivial, trivial⟩
  have hf1 : ∀ q, Obs.fits (H.set i (Rd c q)).length 0 (H.set i (Rd c q)) := fun q => by simpa using hf0 q
  have done : ∀ (t : Tm) (q : Int), p ≤ q → q ≤ p + N → t.fits → P t → ∀ r, r = .agg (t.row.map .d) → Drew (TmP P) N c p H i r (H.set i (Rd c q)) := fun t q a1 a2 a3 a4 r hr => ⟨⟨t, hr, a3, a4⟩, q, a1, a2, rfl⟩
  refine ⟨fun h2 => ⟨h2, ?_⟩, fun h2 => ?_⟩
  · refine call_drawE (pick_draws 4 (by omega)) hc hp (by omega) hi (by simp [Ob.re, C.re]) (fun r => IntIn.re) (hf0 _) ?_
    rintro _ p0 ⟨k, rfl, k0, k1⟩ h3 h4
    have hd0 : ¬ ((d : Int) < 2) := by omega
    simp -implicitDefEqProofs [hf0, hd0, go_sem, -List.set_cons_succ, -List.set_cons_zero]
    refine ⟨fun _ => ?_, fun _ => ?_⟩
    · skip
      refine call_drawE (pick_draws 4 (by omega)) hc (by omega) (by omega) hi (by simp [Ob.re, C.re]) (fun r => IntIn.re) (hf0 _) ?_
      rintro _ p1 ⟨k, rfl, k0, k1⟩ h3 h4
      simp -implicitDefEqProofs [hf0, go_sem, -List.set_cons_succ, -List.set_cons_zero]
      refine ⟨fun _ => ?_, fun _ => ⟨fun _ => ?_, fun _ => ?_⟩⟩
      · refine call_drawE (pick_draws 4 (by omega)) hc (by omega) (by omega) hi (by simp [Ob.re, C.re]) (fun r => IntIn.re) (hf0 _) ?_
        rintro _ p2 ⟨n, rfl, n0, n1⟩ h5 h6
        simp -implicitDefEqProofs [hf0, go_sem, -List.set_cons_succ, -List.set_cons_zero]
        refine qcall_pure (var_calls n) (hf1 _) (by simp [A.re, re_d]) ?_
        simp -implicitDefEqProofs [hf0, row_mk, go_sem, -List.set_cons_succ, -List.set_cons_zero]
        exact done (.mk 1 n [] []) p2 (by omega) (by omega) (.mk (small_i64 (by omega) (by omega)) (small_i64 (by omega) (by omega)) (by simp) (by simp) (by simp)) (hP1 n (by omega) (by omega)) _ (by simp [row_mk])
      · refine call_drawE (num_draws [0, 1, 7, -3, 999, -999] (by decide)) hc (by omega) (by omega) hi (by simp [Ob.re, C.re]) (fun r ⟨n, _, hn⟩ => by subst hn; rfl) (hf0 _) ?_
        rintro _ p2 ⟨n, hn, rfl⟩ h5 h6
        have hn : -999 ≤ n ∧ n ≤ 999 := by simp at hn; omega
        simp -implicitDefEqProofs [hf0, go_sem, -List.set_cons_succ, -List.set_cons_zero]
        refine qcall_pure (int_calls n) (hf1 _) (by simp [A.re, re_d]) ?_
        simp -implicitDefEqProofs [hf0, row_mk, go_sem, -List.set_cons_succ, -List.set_cons_zero]
        exact done (.mk 2 n [] []) p2 (by omega) (by omega) (.mk (small_i64 (by omega) (by omega)) (small_i64 (by omega) (by omega)) (by simp) (by simp) (by simp)) (hP2 n (by omega) (by omega)) _ (by simp [row_mk])
      · refine call_drawE (of_draws [[97], [98], [110, 105, 108], [91, 93], [102, 111, 111], [43]] (by decide)) hc (by omega) (by omega) hi (by simp [Ob.re, C.re]) (fun r ⟨n, _, hn⟩ => by subst hn; rfl) (hf0 _) ?_
        rintro _ p2 ⟨s, hs, rfl⟩ h5 h6
        have hsm : s ∈ drawNames := draw_names hs
        have hs : s.length ≤ 3 := by simp at hs; rcases hs with rfl | rfl | rfl | rfl | rfl | rfl <;> decide
        simp -implicitDefEqProofs [hf0, go_sem, -List.set_cons_succ, -List.set_cons_zero]
        refine call_new (struct_full s) (by simp [Ob.re, C.re]) (by simp [A.re, C.re]) (hf1 _) (by simp [Ob.re, C.re]) ?_
        simp -implicitDefEqProofs [hf0, go_sem, -List.set_cons_succ, -List.set_cons_zero]
        exact done (.mk 3 0 s []) p2 (by omega) (by omega) (.mk (small_i64 (by omega) (by omega)) (small_i64 (by omega) (by omega)) (by omega) (by simp) (by simp)) (hP3 s hsm [] (by simp) (by simp)) _ (by simp [row_mk])
    · refine call_drawE (pick_draws 3 (by omega)) hc (by omega) (by omega) hi (by simp [Ob.re, C.re]) (fun r => IntIn.re) (hf0 _) ?_
      rintro _ p1 ⟨k2, rfl, k3, k4⟩ h5 h6
      have hsub : inR .i64 ((d : Int) - 1) := small_i64 (by omega) (by omega)
      simp -implicitDefEqProofs [hf0, hsub, go_sem, -List.set_cons_succ, -List.set_cons_zero]
      refine ⟨fun _ => ?_, fun _ => ?_⟩
      · refine call_drawE (ih (by omega)) hc (by omega) (by omega) hi (by simp [Ob.re, C.re]) (fun r => TmP.re) (hf0 _) ?_
        rintro _ p2 ⟨a, rfl, ha, haQ⟩ h7 h8
        refine ⟨LocSame.refl _, ?_⟩
        simp -implicitDefEqProofs [hf0, hsub, row_len, take_row, go_sem, -List.set_cons_succ, -List.set_cons_zero]
        refine call_drawE (ih (by omega)) hc (by omega) (by omega) hi (by simp [Ob.re, C.re]) (fun r => TmP.re) (hf0 _) ?_
        rintro _ p3 ⟨b, rfl, hb, hbQ⟩ h9 h10
        refine ⟨LocSame.refl _, ?_⟩
        simp -implicitDefEqProofs [hf0, hsub, row_len, take_row, toDs_map, go_sem, -List.set_cons_succ, -List.set_cons_zero]
        have hs := struct_calls [46] [a, b] (by simp)
        simp only [List.map_cons, List.map_nil] at hs
        refine call_same (r := .agg ((Tm.mk 3 0 [46] [a, b]).row.map .d)) (hs _) (by simp [Ob.re, C.re]) (by simp [A.re, re_d]) (hf1 _) ?_
        simp -implicitDefEqProofs [hf0, row_mk, go_sem, -List.set_cons_succ, -List.set_cons_zero]
        exact done (.mk 3 0 [46] [a, b]) p3 (by omega) (by omega) (.mk (small_i64 (by omega) (by omega)) (small_i64 (by omega) (by omega)) (by simp) (by simp) (by simp [ha, hb])) (hP3 [46] (by decide) [a, b] (by simp) (by simp [haQ, hbQ])) _ (by simp [row_mk])
      · refine call_drawE (of_draws [[102], [103], [115], [43], [61], [105, 115], [102, 111, 111]] (by decide)) hc (by omega) (by omega) hi (by simp [Ob.re, C.re]) (fun r ⟨n, _, hn⟩ => by subst hn; rfl) (hf0 _) ?_
        rintro _ p2 ⟨s, hs, rfl⟩ h7 h8
        have hsm : s ∈ drawNames := draw_names hs
        have hs : s.length ≤ 3 := by simp at hs; rcases hs with rfl | rfl | rfl | rfl | rfl | rfl | rfl <;> decide
        simp -implicitDefEqProofs [hf0, go_sem, -List.set_cons_succ, -List.set_cons_zero]
        refine call_new (struct_full s) (by simp [Ob.re, C.re]) (by simp [A.re, C.re]) (hf1 _) (by simp [Ob.re, C.re]) ?_
        simp -implicitDefEqProofs [hf0, go_sem, -List.set_cons_succ, -List.set_cons_zero]
        refine call_drawE (num_draws [2, 1, 3, 2] (by decide)) hc (by omega) (by omega) hi (by simp [Ob.re, C.re]) (fun r ⟨n, _, hn⟩ => by subst hn; rfl) (hf0 _) ?_
        rintro _ p3 ⟨n, hn, rfl⟩ h9 h10
        have hn : 0 ≤ n ∧ n ≤ 3 := by simp at hn; omega
        have hnM : n * M ≤ 3 * M := Int.mul_le_mul_of_nonneg_right hn.2 hM
        simp -implicitDefEqProofs [hf0, go_sem, -List.set_cons_succ, -List.set_cons_zero]
        refine loop_enter (St.le_tokenC 2 3 4 rfl rfl) ?_
        refine loop_set (σ := Int × List Tm × Int) (fun x => [(6, .c (.d (.int .i64 x.1)))]) (fun x => H.set i (Rd c x.2.2)) (fun x => [.cells [.d (.int .i64 0), .d (.int .i64 0), .d (.str []), .full []], .cells [.d (.int .i64 3), .d (.int .i64 0), .d (.str s), .full []], .cells [.d (.int .i64 3), .d (.int .i64 0), .d (.str s), .own (.l 3) x.2.1.length (x.2.1.map Tm.row)], .grow x.2.1.length 4])
          (fun x => 0 ≤ x.1 ∧ x.1 + x.2.1.length ≤ 3 ∧ p ≤ x.2.2 ∧ x.2.2 + x.1 * M ≤ p + N ∧ (∀ t ∈ x.2.1, t.fits) ∧ ∀ t ∈ x.2.1, Q t) (fun x => x.1.toNat) (n, [], p3) rfl ⟨hn.1, by simp; omega, by simp; omega, by simp; omega, by simp, by simp⟩ ?_
        rintro ⟨m, l, q⟩ ⟨i0, i1, i2, i3, i4, i5⟩
        simp only at i0 i1 i2 i3 i4 i5
        have hmM : 0 ≤ m * M := Int.mul_nonneg i0 hM
        simp -implicitDefEqProofs [setAll, hf0, hsub, go_sem, -List.set_cons_succ, -List.set_cons_zero]
        refine ⟨fun hlt => ?_, fun hge => ?_⟩
        · have hm1 : (m - 1) * M = m * M - M := by rw [Int.sub_mul, Int.one_mul]
          have hm2 : 0 ≤ (m - 1) * M := Int.mul_nonneg (by omega) hM
          have hsubm : inR .i64 (m - 1) := small_i64 (by omega) (by omega)
          refine call_drawE (ih (by omega)) hc (by omega) (by omega) hi (by simp [Ob.re, C.re]) (fun r => TmP.re) (hf0 _) ?_
          rintro _ q2 ⟨a, rfl, ha, haQ⟩ h11 h12
          refine ⟨LocSame.refl _, ?_⟩
          simp -implicitDefEqProofs [hf0, hsubm, row_len, take_row, toDs_map, go_sem, -List.set_cons_succ, -List.set_cons_zero]
          refine ⟨allLen_map row_len, by unfold maxApp; omega, ?_⟩
          refine loop_back (m - 1, l ++ [a], q2) (by simp [setAll]) ⟨by simp; omega, by simp; omega, by simp; omega, by simp; omega, fun t ht => ?_, fun t ht => ?_⟩ (by show (m - 1).toNat < m.toNat; omega)
          · rcases List.mem_append.1 ht with ht | ht
            · exact i4 t ht
            · simp at ht; subst ht; exact ha
          · rcases List.mem_append.1 ht with ht | ht
            · exact i5 t ht
            · simp at ht; subst ht; exact haQ
        · exact done (.mk 3 0 s l) q i2 (by omega) (.mk (small_i64 (by omega) (by omega)) (small_i64 (by omega) (by omega)) (by omega) (by omega) i4) (hP3 s hsm l (by omega) i5) _ (by simp [row_mk])
  · skip
    refine call_drawE (pick_draws 4 (by omega)) hc (by omega) (by omega) hi (by simp [Ob.re, C.re]) (fun r => IntIn.re) (hf0 _) ?_
    rintro _ p1 ⟨k, rfl, k0, k1⟩ h3 h4
    simp -implicitDefEqProofs [hf0, go_sem, -List.set_cons_succ, -List.set_cons_zero]
    refine ⟨fun _ => ?_, fun _ => ⟨fun _ => ?_, fun _ => ?_⟩⟩
    · refine call_drawE (pick_draws 4 (by omega)) hc (by omega) (by omega) hi (by simp [Ob.re, C.re]) (fun r => IntIn.re) (hf0 _) ?_
      rintro _ p2 ⟨n, rfl, n0, n1⟩ h5 h6
      simp -implicitDefEqProofs [hf0, go_sem, -List.set_cons_succ, -List.set_cons_zero]
      refine qcall_pure (var_calls n) (hf1 _) (by simp [A.re, re_d]) ?_
      simp -implicitDefEqProofs [hf0, row_mk, go_sem, -List.set_cons_succ, -List.set_cons_zero]
      exact done (.mk 1 n [] []) p2 (by omega) (by omega) (.mk (small_i64 (by omega) (by omega)) (small_i64 (by omega) (by omega)) (by simp) (by simp) (by simp)) (hP1 n (by omega) (by omega)) _ (by simp [row_mk])
    · refine call_drawE (num_draws [0, 1, 7, -3, 999, -999] (by decide)) hc (by omega) (by omega) hi (by simp [Ob.re, C.re]) (fun r ⟨n, _, hn⟩ => by subst hn; rfl) (hf0 _) ?_
      rintro _ p2 ⟨n, hn, rfl⟩ h5 h6
      have hn : -999 ≤ n ∧ n ≤ 999 := by simp at hn; omega
      simp -implicitDefEqProofs [hf0, go_sem, -List.set_cons_succ, -List.set_cons_zero]
      refine qcall_pure (int_calls n) (hf1 _) (by simp [A.re, re_d]) ?_
      simp -implicitDefEqProofs [hf0, row_mk, go_sem, -List.set_cons_succ, -List.set_cons_zero]
      exact done (.mk 2 n [] []) p2 (by omega) (by omega) (.mk (small_i64 (by omega) (by omega)) (small_i64 (by omega) (by omega)) (by simp) (by simp) (by simp)) (hP2 n (by omega) (by omega)) _ (by simp [row_mk])
    · refine call_drawE (of_draws [[97], [98], [110, 105, 108], [91, 93], [102, 111, 111], [43]] (by decide)) hc (by omega) (by omega) hi (by simp [Ob.re, C.re]) (fun r ⟨n, _, hn⟩ => by subst hn; rfl) (hf0 _) ?_
      rintro _ p2 ⟨s, hs, rfl⟩ h5 h6
      have hsm : s ∈ drawNames := draw_names hs
      have hs : s.length ≤ 3 := by simp at hs; rcases hs with rfl | rfl | rfl | rfl | rfl | rfl <;> decide
      simp -implicitDefEqProofs [hf0, go_sem, -List.set_cons_succ, -List.set_cons_zero]
      refine call_new (struct_full s) (by simp [Ob.re, C.re]) (by simp [A.re, C.re]) (hf1 _) (by simp [Ob.re, C.re]) ?_
      simp -implicitDefEqProofs [hf0, go_sem, -List.set_cons_succ, -List.set_cons_zero]
      exact done (.mk 3 0 s []) p2 (by omega) (by omega) (.mk (small_i64 (by omega) (by omega)) (small_i64 (by omega) (by omega)) (by omega) (by simp) (by simp)) (hP3 s hsm [] (by simp) (by simp)) _ (by simp [row_mk])
/-- whatever holds of leaves and is handed on, holds of what is drawn -/
theorem l1DrawP_draws (P : Nat → Tm → Prop) (h1 : ∀ d n, 0 ≤ n → n ≤ 25 → P d (.mk 1 n [] [])) (h2 : ∀ d n, -999 ≤ n → n ≤ 999 → P d (.mk 2 n [] [])) (h30 : ∀ s ∈ drawNames, P 0 (.mk 3 0 s []))
    (h3 : ∀ d, ∀ s ∈ drawNames, ∀ l : List Tm, l.length ≤ 3 → (∀ t ∈ l, P d t) → P (d + 1) (.mk 3 0 s l)) : ∀ d : Nat, d ≤ 6 → Draws 14 [.c (.d (.int .i64 d))] ((5 * 4 ^ d : Nat) : Int) (TmP (P d))
  | 0, h => draw_of (P := P 0) (Q := fun _ => False) (h1 0) (h2 0) (fun s hs l hl hq => by
      cases l with
      | nil => exact h30 s hs
      | cons a l => exact (hq a (by simp)).elim) 0 h 0 _ (by omega) (by decide) (fun h => absurd h (by omega))
  | d + 1, h => by
    refine draw_of (h1 _) (h2 _) (h3 d) (d + 1) h ((5 * 4 ^ d : Nat) : Int) _ (by omega) ?_ fun _ => ?_
    · have : 0 < 4 ^ d := Nat.pos_of_ne_zero (by simp)
      rw [Nat.pow_succ]; omega
    · have := l1DrawP_draws P h1 h2 h30 h3 d (by omega)
      rw [show (((d + 1 : Nat) : Int) - 1) = (d : Int) by omega]
      exact this
theorem l1Draw_draws (d : Nat) (hd : d ≤ 6) : Draws 14 [.c (.d (.int .i64 d))] ((5 * 4 ^ d : Nat) : Int) TmR := fun c p H i hc hp hp1 hi =>
  (l1DrawP_draws (fun _ _ => True) (fun _ _ _ _ => trivial) (fun _ _ _ _ => trivial) (fun _ _ => trivial) (fun _ _ _ _ _ _ => trivial) d hd c p H i hc hp hp1 hi).mono fun r H' ⟨⟨t, h1, h2, _⟩, h3⟩ => ⟨⟨t, h1, h2⟩, h3⟩
-- 143 loop.example/prologserver/spec.l1Nil params 1 ntmps 17
def ac143 : Cd := .seq (.region [oc 1 (.box (.t 0)),
 oc 2 (.mv (.k (.c (.d (.bool false)))))] [0,2])
 (.seq (.region [oc 3 (.fieldAddr 0 (.t 1)),
 oc 4 (.load none (.t 3)),
 oc 5 (.bin .eql (.t 4) (ki 3)),
 oa 6 5,
 ⟨some 7,.fieldAddr 2 (.t 1),some (6,true)⟩,
 ⟨some 8,.load none (.t 7),some (6,true)⟩,
 ⟨some 9,.bin .eql (.t 8) (.k (.c (.d (.str [91,93])))),some (6,true)⟩,
 oc 10 (.pick (.t 6) (.t 9) (.k (.c (.d (.bool false))))),
 oa 11 10,
 ⟨some 12,.fieldAddr 3 (.t 1),some (11,true)⟩,
 ⟨some 13,.load none (.t 12),some (11,true)⟩,
 ⟨some 14,.len 1 (.t 13),some (11,true)⟩,
 ⟨some 15,.bin .eql (.t 14) (ki 0),some (11,true)⟩,
 oc 16 (.pick (.t 11) (.t 15) (.k (.c (.d (.bool false))))),
 oa 2 16] [1,3,4,5,6,7,8,9,10,11,12,13,14,15,16])
 (.ret))
theorem ac143_ok : cFunc Tryz.prog [] [(0,[0,2],[]),(1,[1,3,4,5,6,7,8,9,10,11,12,13,14,15,16],[])] Tryz.f143 = some (ac143,[.tmp 2],17) := by kernel_rfl
-- 135 loop.example/prologserver/spec.l1Pair params 1 ntmps 17
def ac135 : Cd := .seq (.region [oc 1 (.box (.t 0)),
 oc 2 (.mv (.k (.c (.d (.bool false)))))] [0,2])
 (.seq (.region [oc 3 (.fieldAddr 0 (.t 1)),
 oc 4 (.load none (.t 3)),
 oc 5 (.bin .eql (.t 4) (ki 3)),
 oa 6 5,
 ⟨some 7,.fieldAddr 2 (.t 1),some (6,true)⟩,
 ⟨some 8,.load none (.t 7),some (6,true)⟩,
 ⟨some 9,.bin .eql (.t 8) (.k (.c (.d (.str [46])))),some (6,true)⟩,
 oc 10 (.pick (.t 6) (.t 9) (.k (.c (.d (.bool false))))),
 oa 11 10,
 ⟨some 12,.fieldAddr 3 (.t 1),some (11,true)⟩,
 ⟨some 13,.load none (.t 12),some (11,true)⟩,
 ⟨some 14,.len 1 (.t 13),some (11,true)⟩,
 ⟨some 15,.bin .eql (.t 14) (ki 2),some (11,true)⟩,
 oc 16 (.pick (.t 11) (.t 15) (.k (.c (.d (.bool false))))),
 oa 2 16] [1,3,4,5,6,7,8,9,10,11,12,13,14,15,16])
 (.ret))
theorem ac135_ok : cFunc Tryz.prog [] [(0,[0,2],[]),(1,[1,3,4,5,6,7,8,9,10,11,12,13,14,15,16],[])] Tryz.f135 = some (ac135,[.tmp 2],17) := by kernel_rfl
def Tm.nilB (t : Tm) : Bool := (decide (t.k = 3) && t.kids.isEmpty) && t.s == [91, 93]
def Tm.pairB (t : Tm) : Bool := (decide (t.k = 3) && t.s == [46]) && decide ((t.kids.length : Int) = 2)
theorem nilSpec_calls (t : Tm) (ht : t.fits) (H : Heap) : ACalls Tryz.prog 143 [.agg (t.row.map .d)] H (fun r H' => H' = H ∧ r = .c (.d (.bool t.nilB))) := by
  obtain ⟨k, n, s, l⟩ := t
  obtain ⟨_, _, hs, hl, hkids⟩ := ht
  have hli : inR .i64 (l.length : Int) := small_i64 (by omega) (by omega)
  refine acalls Tryz.func143 (by kernel_rfl) ac143_ok fun hf => ?_
  by_cases hk : k = 3
  · simp -implicitDefEqProofs [ac143, row_mk, hk, hli, Tm.nilB, Tm.k, Tm.s, Tm.kids, isEmpty_len, Bool.and_comm, go_sem, -List.set_cons_succ, -List.set_cons_zero]
  · have hkb : (k == 3) = false := by simpa using hk
    simp -implicitDefEqProofs [ac143, row_mk, hk, hkb, hli, Tm.nilB, Tm.k, go_sem, -List.set_cons_succ, -List.set_cons_zero]
theorem pairSpec_calls (t : Tm) (ht : t.fits) (H : Heap) : ACalls Tryz.prog 135 [.agg (t.row.map .d)] H (fun r H' => H' = H ∧ r = .c (.d (.bool t.pairB))) := by
  obtain ⟨k, n, s, l⟩ := t
  obtain ⟨_, _, hs, hl, hkids⟩ := ht
  have hli : inR .i64 (l.length : Int) := small_i64 (by omega) (by omega)
  refine acalls Tryz.func135 (by kernel_rfl) ac135_ok fun hf => ?_
  by_cases hk : k = 3
  · simp -implicitDefEqProofs [ac135, row_mk, hk, hli, Tm.pairB, Tm.k, Tm.s, Tm.kids, go_sem, -List.set_cons_succ, -List.set_cons_zero]
    try rfl
  · have hkb : (k == 3) = false := by simpa using hk
    simp -implicitDefEqProofs [ac135, row_mk, hk, hkb, hli, Tm.pairB, Tm.k, go_sem, -List.set_cons_succ, -List.set_cons_zero]
-- 132 loop.example/prologserver/spec.l1Chain params 2 ntmps 23
-- loop head live: [0,4,5,6]
def ac132 : Cd := .seq (.region [oc 3 (.box (.t 1)),
 oc 4 (.alloc [(.d (.int .i64 0)),(.d (.int .i64 0)),(.d (.str [])),(.full [])])] [1])
 (.seq (.region [oc 7 (.load (some 4) (.t 3)),
 oc 5 (.alloc [(.d (.int .i64 0)),(.d (.int .i64 0)),(.d (.str [])),(.full [])]),
 ⟨none,.store 4 (.t 5) (.t 7),none⟩] [3,7])
 (.seq (.seq (.region [oa 8 0,
 oc 9 (.len 1 (.t 8)),
 oc 10 (.bin .sub (.t 9) (ki 1)),
 oa 6 10] [8,9,10])
 (.block 0 (.loop (.seq (.seq (.region [oa 11 6,
 oc 12 (.bin .geq (.t 11) (ki 0))] [11])
 (.cond (.t 12)
 (.skip)
 (.exit 0)))
 (.seq (.block 1 (.region [oa 15 0,
 oa 16 6,
 oc 17 (.indexAddr 4 (.t 15) (.t 16)),
 oc 18 (.load (some 4) (.t 17)),
 oc 19 (.load (some 4) (.t 5)),
 oc 20 (.buildSlice 4 2 [(.int .i64 0),(.int .i64 0),(.str []),(.sl [])] [(0,(.t 18)),(1,(.t 19))]),
 oc 21 (.qcall 35 [(.k (.c (.d (.str [46])))),(.t 20)]),
 ⟨none,.store 4 (.t 5) (.t 21),none⟩] [12,15,16,17,18,19,20,21]))
 (.region [oa 13 6,
 oc 14 (.bin .sub (.t 13) (ki 1)),
 oa 6 14] [13,14]))))))
 (.seq (.region [oc 22 (.load (some 4) (.t 5)),
 ⟨none,.store 4 (.t 4) (.t 22),none⟩] [5,22])
 (.ret))))
theorem ac132_ok : cFunc Tryz.prog [1000035] [(0,[1],[]),(1,[3,7],[]),(2,[8,9,10],[]),(3,[11],[]),(5,[12,15,16,17,18,19,20,21],[0,1,2,3,4,5,6,7]),(4,[13,14],[]),(6,[5,22],[])] Tryz.f132 = some (ac132,[.cell 4 (some 4)],23) := by kernel_rfl
def pairT (a b : Tm) : Tm := .mk 3 0 [46] [a, b]
/-- elements in front of a tail -/
def chainT : List Tm → Tm → Tm
  | [], t => t
  | x :: l, t => pairT x (chainT l t)
theorem chain_fits : ∀ (l : List Tm) (t : Tm), (∀ x ∈ l, x.fits) → t.fits → (chainT l t).fits
  | [], t, _, ht => ht
  | x :: l, t, h, ht => .mk (small_i64 (by omega) (by omega)) (small_i64 (by omega) (by omega)) (by simp) (by simp) (by
      have h1 := h x (by simp)
      have h2 := chain_fits l t (fun y hy => h y (by simp [hy])) ht
      simp [h1, h2])
theorem chainSpec_calls (l : List Tm) (hl : l.length ≤ 1048576) (t : Tm) (H : Heap) : ACalls Tryz.prog 132 [.c (.d (.sl (l.map Tm.row))), .agg (t.row.map .d)] H (fun r H' => H' = H ∧ r = .agg ((chainT l t).row.map .d)) := by
  refine acalls Tryz.func132 (by kernel_rfl) ac132_ok fun hf => ?_
  have hli : inR .i64 (l.length : Int) := small_i64 (by omega) (by omega)
  have hli1 : inR .i64 ((l.length : Int) - 1) := small_i64 (by omega) (by omega)
  simp -implicitDefEqProofs [ac132, row_len, take_row, hf, hli, hli1, go_sem, -List.set_cons_succ, -List.set_cons_zero]
  refine loop_set (σ := Nat) (fun j => [(6, .c (.d (.int .i64 ((j : Int) - 1))))]) (fun _ => H) (fun j => [.cells (t.row.map .d), .cells [.d (.int .i64 0), .d (.int .i64 0), .d (.str []), .full []], .cells ((chainT (l.drop j) t).row.map .d)]) (fun j => j ≤ l.length) (fun j => j) l.length (by simp [setAll, chainT]) (Nat.le_refl _) ?_
  intro j hj
  rcases Nat.eq_zero_or_pos j with rfl | hp
  · simp -implicitDefEqProofs [setAll, row_len, take_row, hf, fits_map, go_sem, -List.set_cons_succ, -List.set_cons_zero]
    simp [thaw_d, fits_map]
  · obtain ⟨k, rfl⟩ : ∃ k, j = k + 1 := ⟨j - 1, by omega⟩
    have e : (((k + 1 : Nat) : Int) - 1) = (k : Int) := by omega
    have hlt : k < l.length := by omega
    have hsub : inR .i64 ((k : Int) - 1) := small_i64 (by omega) (by omega)
    have hk0 : (0 : Int) ≤ (k : Int) := by omega
    simp only [e]
    simp -implicitDefEqProofs [setAll, row_len, take_row, hk0, go_sem, -List.set_cons_succ, -List.set_cons_zero]
    refine row_of hlt (row_len _) ?_
    simp -implicitDefEqProofs [row_len, take_row, toDs_map, go_sem, -List.set_cons_succ, -List.set_cons_zero]
    have hs := struct_calls [46] [l[k], chainT (l.drop (k + 1)) t] (by simp)
    simp only [List.map_cons, List.map_nil] at hs
    refine qcall_pure hs hf (by simp [A.re, re_d]) ?_
    simp -implicitDefEqProofs [row_len, take_row, hf, hsub, go_sem, -List.set_cons_succ, -List.set_cons_zero]
    refine loop_back k ?_ (by omega) (by show k < k + 1; omega)
    rw [List.drop_eq_getElem_cons hlt]
    simp [setAll, chainT, pairT, row_len]
end Go.Proofs.YtcapnainldlnjaaGreat

open Go Go.AM Go.Proofs
namespace Go.Proofs.YtcapnainldlnjaaGreat
set_option linter.unusedVariables false
set_option linter.unusedSimpArgs false
set_option maxRecDepth 100000
/-- does a byte stand at a place? -/
def sgn (s : List UInt8) (i : Nat) (c : UInt8) : Bool := match s[i]? with
  | some b => b == c
  | none => false
def digB (b : UInt8) : Bool := decide (48 ≤ b.toNat) && decide (b.toNat ≤ 57)
def smaB (b : UInt8) : Bool := decide (97 ≤ b.toNat) && decide (b.toNat ≤ 122)
def bigB (b : UInt8) : Bool := decide (65 ≤ b.toNat) && decide (b.toNat ≤ 90)
def digAt (s : List UInt8) (i : Nat) : Bool := match s[i]? with
  | some b => digB b
  | none => false
def smaAt (s : List UInt8) (i : Nat) : Bool := match s[i]? with
  | some b => smaB b
  | none => false
/-- where a run ends, at most n bytes on -/
def runE (p : List UInt8 → Nat → Bool) (s : List UInt8) : Nat → Nat → Nat
  | 0, i => i
  | n + 1, i => if p s i then runE p s n (i + 1) else i
/-- a numeral's number -/
def numV (l : List UInt8) : Nat := l.foldl (fun n b => n * 10 + (b.toNat - 48)) 0
/-- a canonical numeral -/
def canB (l : List UInt8) : Bool := decide (1 ≤ l.length) && decide (l.length ≤ 17) && (l.headD 0 != 48 || decide (l.length = 1)) && l.all digB
def cutS (s : List UInt8) (i j : Nat) : List UInt8 := (s.take j).drop i
/-- a number at a place, and the place behind it -/
def numR (s : List UInt8) (i : Nat) : Option (Int × Nat) :=
  if canB (cutS s (if sgn s i 45 then i + 1 else i) (runE digAt s 4 (if sgn s i 45 then i + 1 else i))) then
    if (sgn s i 45 && decide (numV (cutS s (if sgn s i 45 then i + 1 else i) (runE digAt s 4 (if sgn s i 45 then i + 1 else i))) = 0)) || decide (999 < numV (cutS s (if sgn s i 45 then i + 1 else i) (runE digAt s 4 (if sgn s i 45 then i + 1 else i)))) then none
    else some (if sgn s i 45 then -(numV (cutS s (i + 1) (runE digAt s 4 (i + 1))) : Int) else (numV (cutS s i (runE digAt s 4 i)) : Int), runE digAt s 4 (if sgn s i 45 then i + 1 else i))
  else none
/-- the longest of some names that stands at a place -/
def bestS (s : List UInt8) (i : Nat) : List (List UInt8) → List UInt8 → List UInt8
  | [], b => b
  | n :: l, b => bestS s i l (if decide (i + n.length ≤ s.length) && cutS s i (i + n.length) == n && decide (b.length < n.length) then n else b)
/-- a name at a place, and the place behind it -/
def nameR (s : List UInt8) (i : Nat) : Option (List UInt8 × Nat) :=
  if i + 6 < runE smaAt s s.length i then none
  else if i < runE smaAt s s.length i then some (cutS s i (runE smaAt s s.length i), runE smaAt s s.length i)
  else if bestS s i signs [] = [] then none
  else some (bestS s i signs [], i + (bestS s i signs []).length)
def wordB (n : List UInt8) : Bool := n == [105, 115] || n == [109, 111, 100]
/-- an operator at a place, and the place behind it -/
def opR (s : List UInt8) (i : Nat) : Option (List UInt8 × Nat) :=
  if s.length ≤ (if sgn s i 32 then i + 1 else i) then none
  else match nameR s (if sgn s i 32 then i + 1 else i) with
    | none => none
    | some (n, j) => if levelN n = 0 then none
      else if wordB n != sgn s i 32 || wordB n && !sgn s j 32 then none
      else some (n, if wordB n then j + 1 else j)
/-- what is to be read -/
inductive Job where
  | read (i d l : Nat)
  | ops (t : Tm) (i d l : Nat)
  | terms (i d : Nat) (e o : UInt8)
  | prime (i d : Nat)
/-- terms and the place behind them, or the place of a failure -/
inductive Rs where
  | ok (l : List Tm) (i : Nat)
  | bad (i : Nat)
def nilT : Tm := .mk 3 0 [91, 93] []
def Rs.tm : List Tm → Tm
  | t :: _ => t
  | [] => .mk 0 0 [] []
/-- one step of the parser; R: what the steps below it give -/
def step (s : List UInt8) (R : Job → Option Rs) : Job → Option Rs
  | .read i d 0 => R (.prime i d)
  | .read i d (l + 1) => match R (.read i d l) with
    | none => none
    | some (.bad e) => some (.bad e)
    | some (.ok ts j) => R (.ops (Rs.tm ts) j d (l + 1))
  | .ops t i d l => match opR s i with
    | none => some (.ok [t] i)
    | some (n, j) => if levelN n = l then match R (.read j d (l - 1)) with
        | none => none
        | some (.bad e) => some (.bad e)
        | some (.ok us k) => if l = 3 then some (.ok [.mk 3 0 n [t, Rs.tm us]] k) else R (.ops (.mk 3 0 n [t, Rs.tm us]) k d l)
      else some (.ok [t] i)
  | .terms i d e o => match R (.read i d 3) with
    | none => none
    | some (.bad x) => some (.bad x)
    | some (.ok ts j) => if sgn s j e || sgn s j o then some (.ok [Rs.tm ts] j)
      else if sgn s j 44 then match R (.terms (j + 1) d e o) with
        | none => none
        | some (.bad x) => some (.bad x)
        | some (.ok us k) => some (.ok (Rs.tm ts :: us) k)
      else some (.bad j)
  | .prime i d => match s[i]? with
    | none => some (.bad i)
    | some b => if d < 1 then some (.bad i)
      else if b = 40 then match R (.read (i + 1) d 3) with
        | none => none
        | some (.bad e) => some (.bad e)
        | some (.ok ts j) => if sgn s j 41 then some (.ok [Rs.tm ts] (j + 1)) else some (.bad j)
      else if b = 91 ∧ sgn s (i + 1) 93 = false then match R (.terms (i + 1) (d - 1) 93 124) with
        | none => none
        | some (.bad e) => some (.bad e)
        | some (.ok ts j) => if sgn s j 93 then some (.ok [chainT ts nilT] (j + 1))
          else match R (.read (j + 1) (d - 1) 3) with
            | none => none
            | some (.bad e) => some (.bad e)
            | some (.ok us k) => if sgn s k 93 then some (.ok [chainT ts (Rs.tm us)] (k + 1)) else some (.bad k)
      else if bigB b then some (.ok [.mk 1 (b.toNat - 65 : Nat) [] []] (i + 1))
      else if digB b || b == 45 && digAt s (i + 1) then match numR s i with
        | none => some (.bad i)
        | some (n, j) => some (.ok [.mk 2 n [] []] j)
      else match nameR s i with
        | none => some (.bad i)
        | some (n, j) => if sgn s j 40 then match R (.terms (j + 1) (d - 1) 41 41) with
            | none => none
            | some (.bad e) => some (.bad e)
            | some (.ok ts k) => some (.ok [.mk 3 0 n ts] (k + 1))
          else some (.ok [.mk 3 0 n []] j)
/-- the parser; none: it needs more steps -/
def rd (s : List UInt8) : Nat → Job → Option Rs
  | 0, _ => none
  | f + 1, j => step s (rd s f) j
theorem step_mono (s : List UInt8) {R R' : Job → Option Rs} (h : ∀ j r, R j = some r → R' j = some r) (j : Job) (r : Rs) (hr : step s R j = some r) : step s R' j = some r := by
  cases j with
  | read i d l =>
    cases l with
    | zero => exact h _ _ hr
    | succ l =>
      simp only [step] at hr ⊢
      cases hx : R (.read i d l) with
      | none => rw [hx] at hr; cases hr
      | some v =>
        rw [hx] at hr
        rw [h _ _ hx]
        cases v with
        | bad e => exact hr
        | ok ts k => exact h _ _ hr
  | ops t i d l =>
    simp only [step] at hr ⊢
    cases ho : opR s i with
    | none => rw [ho] at hr; exact hr
    | some p =>
      obtain ⟨n, j⟩ := p
      rw [ho] at hr
      simp only at hr ⊢
      split
      · rename_i hl
        rw [if_pos hl] at hr
        cases hx : R (.read j d (l - 1)) with
        | none => rw [hx] at hr; cases hr
        | some v =>
          rw [hx] at hr
          rw [h _ _ hx]
          cases v with
          | bad e => exact hr
          | ok us k =>
            simp only at hr ⊢
            split
            · rename_i h3; rw [if_pos h3] at hr; exact hr
            · rename_i h3; rw [if_neg h3] at hr; exact h _ _ hr
      · rename_i hl; rw [if_neg hl] at hr; exact hr
  | terms i d e o =>
    simp only [step] at hr ⊢
    cases hx : R (.read i d 3) with
    | none => rw [hx] at hr; cases hr
    | some v =>
      rw [hx] at hr
      rw [h _ _ hx]
      cases v with
      | bad e => exact hr
      | ok ts k =>
        simp only at hr ⊢
        split
        · rename_i h1; rw [if_pos h1] at hr; exact hr
        · rename_i h1
          rw [if_neg h1] at hr
          split
          · rename_i h2
            rw [if_pos h2] at hr
            cases hy : R (.terms (k + 1) d e o) with
            | none => rw [hy] at hr; cases hr
            | some w => rw [hy] at hr; rw [h _ _ hy]; exact hr
          · rename_i h2; rw [if_neg h2] at hr; exact hr
  | prime i d =>
    simp only [step] at hr ⊢
    cases hb : s[i]? with
    | none => rw [hb] at hr; exact hr
    | some b =>
      rw [hb] at hr
      simp only at hr ⊢
      split
      · rename_i h1; rw [if_pos h1] at hr; exact hr
      · rename_i h1
        rw [if_neg h1] at hr
        split
        · rename_i h2
          rw [if_pos h2] at hr
          cases hx : R (.read (i + 1) d 3) with
          | none => rw [hx] at hr; cases hr
          | some v => rw [hx] at hr; rw [h _ _ hx]; exact hr
        · rename_i h2
          rw [if_neg h2] at hr
          split
          · rename_i h3
            rw [if_pos h3] at hr
            cases hx : R (.terms (i + 1) (d - 1) 93 124) with
            | none => rw [hx] at hr; cases hr
            | some v =>
              rw [hx] at hr
              rw [h _ _ hx]
              cases v with
              | bad e => exact hr
              | ok ts k =>
                simp only at hr ⊢
                split
                · rename_i h4; rw [if_pos h4] at hr; exact hr
                · rename_i h4
                  rw [if_neg h4] at hr
                  cases hy : R (.read (k + 1) (d - 1) 3) with
                  | none => rw [hy] at hr; cases hr
                  | some w => rw [hy] at hr; rw [h _ _ hy]; exact hr
          · rename_i h3
            rw [if_neg h3] at hr
            split
            · rename_i h4; rw [if_pos h4] at hr; exact hr
            · rename_i h4
              rw [if_neg h4] at hr
              split
              · rename_i h5; rw [if_pos h5] at hr; exact hr
              · rename_i h5
                rw [if_neg h5] at hr
                cases hn : nameR s i with
                | none => rw [hn] at hr; exact hr
                | some p =>
                  obtain ⟨n, j⟩ := p
                  rw [hn] at hr
                  simp only at hr ⊢
                  split
                  · rename_i h6
                    rw [if_pos h6] at hr
                    cases hx : R (.terms (j + 1) (d - 1) 41 41) with
                    | none => rw [hx] at hr; cases hr
                    | some v => rw [hx] at hr; rw [h _ _ hx]; exact hr
                  · rename_i h6; rw [if_neg h6] at hr; exact hr
/-- more steps do no harm -/
theorem rd_succ (s : List UInt8) : ∀ (f : Nat) (j : Job) (r : Rs), rd s f j = some r → rd s (f + 1) j = some r
  | 0, j, r, h => by cases h
  | f + 1, j, r, h => step_mono s (rd_succ s f) j r h
theorem rd_le (s : List UInt8) {f g : Nat} (hfg : f ≤ g) (j : Job) (r : Rs) (h : rd s f j = some r) : rd s g j = some r := by
  induction hfg with
  | refl => exact h
  | step _ ih => exact rd_succ s _ j r ih
end Go.Proofs.YtcapnainldlnjaaGreat

open Go Go.AM Go.Proofs
namespace Go.Proofs.YtcapnainldlnjaaGreat
set_option linter.unusedVariables false
set_option linter.unusedSimpArgs false
set_option maxRecDepth 100000
theorem sgn_lt {s : List UInt8} {i : Nat} {c : UInt8} (h : sgn s i c = true) : i < s.length := by
  unfold sgn at h
  split at h
  · rename_i hb; exact (List.getElem?_eq_some_iff.1 hb).1
  · cases h
theorem runE_le {p : List UInt8 → Nat → Bool} {s : List UInt8} (hp : ∀ i, p s i = true → i < s.length) : ∀ n i, i ≤ runE p s n i ∧ runE p s n i ≤ i + n ∧ (i ≤ s.length → runE p s n i ≤ s.length)
  | 0, i => ⟨Nat.le_refl _, Nat.le_refl _, id⟩
  | n + 1, i => by
    unfold runE
    split
    · rename_i h
      obtain ⟨h1, h2, h3⟩ := runE_le hp n (i + 1)
      have := hp i h
      exact ⟨by omega, by omega, fun _ => h3 (by omega)⟩
    · exact ⟨Nat.le_refl _, by omega, id⟩
theorem dig_lt {s : List UInt8} (i : Nat) (h : digAt s i = true) : i < s.length := by
  unfold digAt at h
  split at h
  · rename_i hb; exact (List.getElem?_eq_some_iff.1 hb).1
  · cases h
theorem sma_lt {s : List UInt8} (i : Nat) (h : smaAt s i = true) : i < s.length := by
  unfold smaAt at h
  split at h
  · rename_i hb; exact (List.getElem?_eq_some_iff.1 hb).1
  · cases h
theorem cutS_len (s : List UInt8) (i j : Nat) : (cutS s i j).length = min j s.length - i := by simp [cutS]
theorem numR_ok {s : List UInt8} {i j : Nat} {n : Int} (hi : i ≤ s.length) (h : numR s i = some (n, j)) : i < j ∧ j ≤ s.length ∧ -999 ≤ n ∧ n ≤ 999 := by
  unfold numR at h
  cases hs : sgn s i 45 with
  | true =>
    have hlt := sgn_lt hs
    have hr := runE_le (dig_lt (s := s)) 4 (i + 1)
    simp only [hs, if_true] at h
    split at h
    · rename_i hc
      simp only [canB, Bool.and_eq_true, decide_eq_true_eq, cutS_len] at hc
      split at h
      · cases h
      · rename_i hn
        simp only [Option.some.injEq, Prod.mk.injEq] at h
        simp at hn
        obtain ⟨h1, h2⟩ := h
        have := hr.2.2 (by omega)
        omega
    · cases h
  | false =>
    have hr := runE_le (dig_lt (s := s)) 4 i
    simp only [hs, Bool.false_eq_true, if_false] at h
    split at h
    · rename_i hc
      simp only [canB, Bool.and_eq_true, decide_eq_true_eq, cutS_len] at hc
      split at h
      · cases h
      · rename_i hn
        simp only [Option.some.injEq, Prod.mk.injEq] at h
        simp at hn
        obtain ⟨h1, h2⟩ := h
        have := hr.2.2 hi
        omega
    · cases h
theorem bestS_ok (s : List UInt8) (i : Nat) : ∀ (l : List (List UInt8)) (b : List UInt8), b.length ≤ 3 → i + b.length ≤ s.length → (∀ n ∈ l, n.length ≤ 3) → (bestS s i l b).length ≤ 3 ∧ i + (bestS s i l b).length ≤ s.length
  | [], b, h1, h2, _ => ⟨h1, h2⟩
  | n :: l, b, h1, h2, h3 => by
    unfold bestS
    split
    · rename_i h
      simp only [Bool.and_eq_true, decide_eq_true_eq] at h
      exact bestS_ok s i l n (h3 n (by simp)) h.1.1 fun m hm => h3 m (by simp [hm])
    · exact bestS_ok s i l b h1 h2 fun m hm => h3 m (by simp [hm])
theorem nameR_ok {s : List UInt8} {i j : Nat} {n : List UInt8} (hi : i ≤ s.length) (h : nameR s i = some (n, j)) : i < j ∧ j ≤ s.length ∧ n.length ≤ 6 := by
  have hr := runE_le (sma_lt (s := s)) s.length i
  have hrl := hr.2.2 hi
  unfold nameR at h
  split at h
  · cases h
  · split at h
    · simp only [Option.some.injEq, Prod.mk.injEq] at h
      obtain ⟨rfl, rfl⟩ := h
      rw [cutS_len]
      omega
    · split at h
      · cases h
      · rename_i hne
        simp only [Option.some.injEq, Prod.mk.injEq] at h
        obtain ⟨rfl, rfl⟩ := h
        obtain ⟨h1, h2⟩ := bestS_ok s i signs [] (by simp) (by simpa using hi) (by decide)
        have : 0 < (bestS s i signs []).length := List.length_pos_iff.2 hne
        omega
theorem opR_ok {s : List UInt8} {i j : Nat} {n : List UInt8} (hi : i ≤ s.length) (h : opR s i = some (n, j)) : i < j ∧ j ≤ s.length ∧ n.length ≤ 6 := by
  unfold opR at h
  have hp : i ≤ (if sgn s i 32 then i + 1 else i) := by split <;> omega
  generalize (if sgn s i 32 then i + 1 else i) = p at h hp
  by_cases hlt : s.length ≤ p
  · rw [if_pos hlt] at h; cases h
  · rw [if_neg hlt] at h
    cases hn : nameR s p with
    | none => rw [hn] at h; cases h
    | some q =>
      obtain ⟨m, k⟩ := q
      rw [hn] at h
      simp only at h
      have hok := nameR_ok (by omega) hn
      split at h
      · cases h
      · split at h
        · cases h
        · rename_i hw
          simp only [Option.some.injEq, Prod.mk.injEq] at h
          obtain ⟨rfl, rfl⟩ := h
          simp at hw
          split
          · rename_i hwb
            have := sgn_lt (hw.2 hwb)
            omega
          · omega
/-- what a job is done from -/
def Job.pre (s : List UInt8) : Job → Prop
  | .read i d l => i ≤ s.length ∧ l ≤ 3
  | .ops t i d l => i ≤ s.length ∧ t.fits ∧ l ≤ 3
  | .terms i d e o => i ≤ s.length
  | .prime i d => i ≤ s.length
/-- .. and what it gives -/
def Job.post (s : List UInt8) : Job → Rs → Prop
  | _, .bad e => e ≤ s.length
  | .read i d l, .ok ts k => i < k ∧ k ≤ s.length ∧ ∃ t, ts = [t] ∧ t.fits
  | .ops t i d l, .ok ts k => i ≤ k ∧ k ≤ s.length ∧ ∃ t, ts = [t] ∧ t.fits
  | .terms i d e o, .ok ts k => i < k ∧ k ≤ s.length ∧ ts.length ≤ k - i ∧ (∀ t ∈ ts, t.fits) ∧ (sgn s k e || sgn s k o) = true
  | .prime i d, .ok ts k => i < k ∧ k ≤ s.length ∧ ∃ t, ts = [t] ∧ t.fits
def Job.m (s : List UInt8) : Job → Nat
  | .read i d l => 8 * (s.length + 1 - i) + l + 2
  | .ops t i d l => 8 * (s.length + 1 - i) + 1
  | .terms i d e o => 8 * (s.length + 1 - i) + 6
  | .prime i d => 8 * (s.length + 1 - i) + 1
theorem fits_st {n : List UInt8} {l : List Tm} (hn : n.length ≤ 6) (hl : l.length ≤ 1048576) (h : ∀ t ∈ l, t.fits) : (Tm.mk 3 0 n l).fits :=
  .mk (by decide) (by decide) (by omega) hl h
theorem fits_chain (l : List Tm) (t : Tm) (hl : ∀ u ∈ l, u.fits) (h : t.fits) : (chainT l t).fits := chain_fits l t hl h
theorem fits_nil : nilT.fits := fits_st (by decide) (by simp) (by simp)
theorem step_ok (s : List UInt8) (hs : s.length ≤ 1000000) {R : Job → Option Rs} (j : Job) (h : ∀ j', j'.m s < j.m s → j'.pre s → ∃ r, R j' = some r ∧ j'.post s r) (hj : j.pre s) : ∃ r, step s R j = some r ∧ j.post s r := by
  cases j with
  | read i d l =>
    obtain ⟨hi, hl⟩ := hj
    cases l with
    | zero =>
      obtain ⟨r, h1, h2⟩ := h (.prime i d) (by simp [Job.m]) hi
      exact ⟨r, h1, by cases r <;> exact h2⟩
    | succ l =>
      obtain ⟨r, h1, h2⟩ := h (.read i d l) (by simp [Job.m]) ⟨hi, by omega⟩
      simp only [step, h1]
      cases r with
      | bad e => exact ⟨_, rfl, h2⟩
      | ok ts k =>
        obtain ⟨g1, g2, t, rfl, g3⟩ := h2
        obtain ⟨r, h3, h4⟩ := h (.ops t k d (l + 1)) (by simp only [Job.m]; omega) ⟨g2, g3, by omega⟩
        refine ⟨r, h3, ?_⟩
        cases r with
        | bad e => exact h4
        | ok ts k2 =>
          obtain ⟨q1, q2, q3⟩ := h4
          exact ⟨by omega, q2, q3⟩
  | ops t i d l =>
    obtain ⟨hi, ht, hl⟩ := hj
    simp only [step]
    cases ho : opR s i with
    | none => exact ⟨_, rfl, Nat.le_refl _, hi, t, rfl, ht⟩
    | some p =>
      obtain ⟨n, j⟩ := p
      obtain ⟨o1, o2, o3⟩ := opR_ok hi ho
      simp only
      split
      · obtain ⟨r, h1, h2⟩ := h (.read j d (l - 1)) (by simp only [Job.m]; omega) ⟨o2, by omega⟩
        simp only [h1]
        cases r with
        | bad e => exact ⟨_, rfl, h2⟩
        | ok us k =>
          obtain ⟨g1, g2, u, rfl, g3⟩ := h2
          have hf : (Tm.mk 3 0 n [t, Rs.tm [u]]).fits := fits_st o3 (by simp) (by simp [Rs.tm, ht, g3])
          simp only
          split
          · exact ⟨_, rfl, by omega, g2, _, rfl, hf⟩
          · obtain ⟨r, h3, h4⟩ := h (.ops (.mk 3 0 n [t, Rs.tm [u]]) k d l) (by simp only [Job.m]; omega) ⟨g2, hf, hl⟩
            refine ⟨r, h3, ?_⟩
            cases r with
            | bad e => exact h4
            | ok ts k2 =>
              obtain ⟨q1, q2, q3⟩ := h4
              exact ⟨by omega, q2, q3⟩
      · exact ⟨_, rfl, Nat.le_refl _, hi, t, rfl, ht⟩
  | terms i d e o =>
    obtain ⟨r, h1, h2⟩ := h (.read i d 3) (by simp only [Job.m]; omega) ⟨hj, by omega⟩
    simp only [step, h1]
    cases r with
    | bad x => exact ⟨_, rfl, h2⟩
    | ok ts k =>
      obtain ⟨g1, g2, t, rfl, g3⟩ := h2
      simp only
      split
      · rename_i he
        exact ⟨_, rfl, g1, g2, by simp; omega, by simpa [Rs.tm] using g3, he⟩
      · split
        · rename_i hc
          have hk := sgn_lt hc
          obtain ⟨r, h3, h4⟩ := h (.terms (k + 1) d e o) (by simp only [Job.m]; omega) (by show k + 1 ≤ s.length; omega)
          simp only [h3]
          cases r with
          | bad x => exact ⟨_, rfl, h4⟩
          | ok us k2 =>
            obtain ⟨q1, q2, q3, q4, q5⟩ := h4
            exact ⟨_, rfl, by omega, q2, by simp; omega, fun u hu => by
              rcases List.mem_cons.1 hu with rfl | hu
              · exact g3
              · exact q4 u hu, q5⟩
        · exact ⟨_, rfl, g2⟩
  | prime i d =>
    have hj : i ≤ s.length := hj
    simp only [step]
    cases hb : s[i]? with
    | none => exact ⟨_, rfl, hj⟩
    | some b =>
      have hlt := (List.getElem?_eq_some_iff.1 hb).1
      simp only
      split
      · exact ⟨_, rfl, hj⟩
      · split
        · obtain ⟨r, h1, h2⟩ := h (.read (i + 1) d 3) (by simp only [Job.m]; omega) ⟨by omega, by omega⟩
          simp only [h1]
          cases r with
          | bad e => exact ⟨_, rfl, h2⟩
          | ok ts k =>
            obtain ⟨g1, g2, t, rfl, g3⟩ := h2
            simp only
            split
            · rename_i hc
              have := sgn_lt hc
              exact ⟨_, rfl, by omega, by omega, t, rfl, g3⟩
            · exact ⟨_, rfl, g2⟩
        · split
          · obtain ⟨r, h1, h2⟩ := h (.terms (i + 1) (d - 1) 93 124) (by simp only [Job.m]; omega) (by show i + 1 ≤ s.length; omega)
            simp only [h1]
            cases r with
            | bad e => exact ⟨_, rfl, h2⟩
            | ok ts k =>
              obtain ⟨g1, g2, g3, g4, g5⟩ := h2
              simp only
              split
              · rename_i hc
                have := sgn_lt hc
                exact ⟨_, rfl, by omega, by omega, _, rfl, fits_chain _ _ g4 fits_nil⟩
              · rename_i hc
                have hk : k < s.length := by
                  rw [Bool.or_eq_true] at g5
                  rcases g5 with g5 | g5 <;> exact sgn_lt g5
                obtain ⟨r, h3, h4⟩ := h (.read (k + 1) (d - 1) 3) (by simp only [Job.m]; omega) ⟨by omega, by omega⟩
                simp only [h3]
                cases r with
                | bad e => exact ⟨_, rfl, h4⟩
                | ok us k2 =>
                  obtain ⟨q1, q2, u, rfl, q3⟩ := h4
                  simp only
                  split
                  · rename_i hc2
                    have := sgn_lt hc2
                    exact ⟨_, rfl, by omega, by omega, _, rfl, fits_chain _ _ g4 q3⟩
                  · exact ⟨_, rfl, q2⟩
          · split
            · refine ⟨_, rfl, by omega, by omega, _, rfl, .mk (by decide) ?_ (by simp) (by simp) (by simp)⟩
              have := b.toNat_lt
              simp [inR, IntKind.min, IntKind.max, IntKind.signed, IntKind.bits]
              omega
            · split
              · cases hn : numR s i with
                | none => exact ⟨_, rfl, hj⟩
                | some p =>
                  obtain ⟨n, j⟩ := p
                  obtain ⟨n1, n2, n3, n4⟩ := numR_ok hj hn
                  exact ⟨_, rfl, n1, n2, _, rfl, .mk (by decide) (small_i64 (by omega) (by omega)) (by simp) (by simp) (by simp)⟩
              · cases hn : nameR s i with
                | none => exact ⟨_, rfl, hj⟩
                | some p =>
                  obtain ⟨n, j⟩ := p
                  obtain ⟨n1, n2, n3⟩ := nameR_ok hj hn
                  simp only
                  split
                  · rename_i hc
                    have := sgn_lt hc
                    obtain ⟨r, h1, h2⟩ := h (.terms (j + 1) (d - 1) 41 41) (by simp only [Job.m]; omega) (by show j + 1 ≤ s.length; omega)
                    simp only [h1]
                    cases r with
                    | bad e => exact ⟨_, rfl, h2⟩
                    | ok ts k =>
                      obtain ⟨g1, g2, g3, g4, g5⟩ := h2
                      have hk : k < s.length := by
                        rw [Bool.or_eq_true] at g5
                        rcases g5 with g5 | g5 <;> exact sgn_lt g5
                      exact ⟨_, rfl, by omega, by omega, _, rfl, fits_st n3 (by omega) g4⟩
                  · exact ⟨_, rfl, n1, n2, _, rfl, fits_st n3 (by simp) (by simp)⟩
theorem rd_total (s : List UInt8) (hs : s.length ≤ 1000000) : ∀ (f : Nat) (j : Job), j.m s < f → j.pre s → ∃ r, rd s f j = some r ∧ j.post s r
  | 0, j, h, _ => absurd h (by omega)
  | f + 1, j, h, hj => step_ok s hs j (fun j' hm hp => rd_total s hs f j' (by omega) hp) hj
/-- .. whatever the number of steps -/
theorem rd_post {s : List UInt8} (hs : s.length ≤ 1000000) {f : Nat} {j : Job} {r : Rs} (hj : j.pre s) (h : rd s f j = some r) : j.post s r := by
  obtain ⟨r', h1, h2⟩ := rd_total s hs (f + j.m s + 1) j (by omega) hj
  rw [rd_le s (by omega) j r h] at h1
  cases h1
  exact h2
/-- the parser with steps enough -/
def rdF (s : List UInt8) (j : Job) : Option Rs := rd s (8 * s.length + 20) j
end Go.Proofs.YtcapnainldlnjaaGreat

open Go Go.AM Go.Proofs
namespace Go.Proofs.YtcapnainldlnjaaGreat
-- 122 loop.example/prologserver/spec.l1Digit params 2 ntmps 25
def ac122 : Cd := .seq (.region [oc 4 (.mv (.k (.c (.d (.bool false)))))] [4])
 (.seq (.region [oa 5 1,
 oc 6 (.bin .geq (.t 5) (ki 0)),
 oa 7 6,
 ⟨some 8,.mv (.t 1),some (7,true)⟩,
 ⟨some 9,.mv (.t 0),some (7,true)⟩,
 ⟨some 10,.len 0 (.t 9),some (7,true)⟩,
 ⟨some 11,.bin .lss (.t 8) (.t 10),some (7,true)⟩,
 oc 12 (.pick (.t 7) (.t 11) (.k (.c (.d (.bool false))))),
 oa 13 12,
 ⟨some 14,.mv (.t 0),some (13,true)⟩,
 ⟨some 15,.mv (.t 1),some (13,true)⟩,
 ⟨some 16,.index (.t 14) (.t 15),some (13,true)⟩,
 ⟨some 17,.bin .geq (.t 16) (.k (.c (.d (.int .u8 48)))),some (13,true)⟩,
 oc 18 (.pick (.t 13) (.t 17) (.k (.c (.d (.bool false))))),
 oa 19 18,
 ⟨some 20,.mv (.t 0),some (19,true)⟩,
 ⟨some 21,.mv (.t 1),some (19,true)⟩,
 ⟨some 22,.index (.t 20) (.t 21),some (19,true)⟩,
 ⟨some 23,.bin .leq (.t 22) (.k (.c (.d (.int .u8 57)))),some (19,true)⟩,
 oc 24 (.pick (.t 19) (.t 23) (.k (.c (.d (.bool false))))),
 oa 4 24] [0,1,5,6,7,8,9,10,11,12,13,14,15,16,17,18,19,20,21,22,23,24])
 (.ret))
theorem ac122_ok : cFunc Tryz.prog [] [(0,[4],[]),(1,[0,1,5,6,7,8,9,10,11,12,13,14,15,16,17,18,19,20,21,22,23,24],[])] Tryz.f122 = some (ac122,[.tmp 4],25) := by kernel_rfl
-- 134 loop.example/prologserver/spec.l1Small params 2 ntmps 25
def ac134 : Cd := .seq (.region [oc 4 (.mv (.k (.c (.d (.bool false)))))] [4])
 (.seq (.region [oa 5 1,
 oc 6 (.bin .geq (.t 5) (ki 0)),
 oa 7 6,
 ⟨some 8,.mv (.t 1),some (7,true)⟩,
 ⟨some 9,.mv (.t 0),some (7,true)⟩,
 ⟨some 10,.len 0 (.t 9),some (7,true)⟩,
 ⟨some 11,.bin .lss (.t 8) (.t 10),some (7,true)⟩,
 oc 12 (.pick (.t 7) (.t 11) (.k (.c (.d (.bool false))))),
 oa 13 12,
 ⟨some 14,.mv (.t 0),some (13,true)⟩,
 ⟨some 15,.mv (.t 1),some (13,true)⟩,
 ⟨some 16,.index (.t 14) (.t 15),some (13,true)⟩,
 ⟨some 17,.bin .geq (.t 16) (.k (.c (.d (.int .u8 97)))),some (13,true)⟩,
 oc 18 (.pick (.t 13) (.t 17) (.k (.c (.d (.bool false))))),
 oa 19 18,
 ⟨some 20,.mv (.t 0),some (19,true)⟩,
 ⟨some 21,.mv (.t 1),some (19,true)⟩,
 ⟨some 22,.index (.t 20) (.t 21),some (19,true)⟩,
 ⟨some 23,.bin .leq (.t 22) (.k (.c (.d (.int .u8 122)))),some (19,true)⟩,
 oc 24 (.pick (.t 19) (.t 23) (.k (.c (.d (.bool false))))),
 oa 4 24] [0,1,5,6,7,8,9,10,11,12,13,14,15,16,17,18,19,20,21,22,23,24])
 (.ret))
theorem ac134_ok : cFunc Tryz.prog [] [(0,[4],[]),(1,[0,1,5,6,7,8,9,10,11,12,13,14,15,16,17,18,19,20,21,22,23,24],[])] Tryz.f134 = some (ac134,[.tmp 4],25) := by kernel_rfl
end Go.Proofs.YtcapnainldlnjaaGreat

open Go Go.AM Go.Proofs
namespace Go.Proofs.YtcapnainldlnjaaGreat
open Go.ChangeShapes Go.WideShapes Go.ChangeAt Go.RowKit
set_option linter.unusedVariables false
set_option linter.unusedSimpArgs false
set_option maxRecDepth 100000
-- 92 loop.example/prologserver/spec.l1Sign params 3 ntmps 22
def ac92 : Cd := .seq (.region [oc 6 (.mv (.k (.c (.d (.bool false)))))] [6])
 (.seq (.region [oa 7 1,
 oc 8 (.bin .geq (.t 7) (ki 0)),
 oa 9 8,
 ⟨some 10,.mv (.t 1),some (9,true)⟩,
 ⟨some 11,.mv (.t 0),some (9,true)⟩,
 ⟨some 12,.len 0 (.t 11),some (9,true)⟩,
 ⟨some 13,.bin .lss (.t 10) (.t 12),some (9,true)⟩,
 oc 14 (.pick (.t 9) (.t 13) (.k (.c (.d (.bool false))))),
 oa 15 14,
 ⟨some 16,.mv (.t 0),some (15,true)⟩,
 ⟨some 17,.mv (.t 1),some (15,true)⟩,
 ⟨some 18,.index (.t 16) (.t 17),some (15,true)⟩,
 ⟨some 19,.mv (.t 2),some (15,true)⟩,
 ⟨some 20,.bin .eql (.t 18) (.t 19),some (15,true)⟩,
 oc 21 (.pick (.t 15) (.t 20) (.k (.c (.d (.bool false))))),
 oa 6 21] [0,1,2,7,8,9,10,11,12,13,14,15,16,17,18,19,20,21])
 (.ret))
theorem ac92_ok : cFunc Tryz.prog [] [(0,[6],[]),(1,[0,1,2,7,8,9,10,11,12,13,14,15,16,17,18,19,20,21],[])] Tryz.f92 = some (ac92,[.tmp 6],22) := by kernel_rfl
-- 133 loop.example/prologserver/spec.l18Num params 1 ntmps 67
-- loop head live: [0,4,5,6]
def ac133 : Cd := .seq (.region [oc 2 (.mv (ki 0)),
 oc 3 (.mv (.k (.c (.d (.bool false)))))] [2,3])
 (.seq (.region [oa 7 0,
 oc 8 (.len 0 (.t 7)),
 oc 9 (.bin .gtr (.t 8) (ki 0)),
 oa 10 9,
 ⟨some 11,.mv (.t 0),some (10,true)⟩,
 ⟨some 12,.index (.t 11) (ki 0),some (10,true)⟩,
 ⟨some 13,.bin .eql (.t 12) (.k (.c (.d (.int .u8 45)))),some (10,true)⟩,
 oc 14 (.pick (.t 10) (.t 13) (.k (.c (.d (.bool false))))),
 oa 4 14] [7,8,9,10,11,12,13,14])
 (.seq (.seq (.region [oa 15 4] [])
 (.cond (.t 15)
 (.region [oa 16 0,
 oc 17 (.slice 0 (.t 16) (some (ki 1)) none none),
 oa 0 17] [15,16,17])
 (.skip)))
 (.seq (.seq (.region [oa 18 0,
 oc 19 (.len 0 (.t 18)),
 oc 20 (.bin .eql (.t 19) (ki 0)),
 oa 21 20,
 ⟨some 22,.mv (.t 0),some (21,false)⟩,
 ⟨some 23,.len 0 (.t 22),some (21,false)⟩,
 ⟨some 24,.bin .gtr (.t 23) (ki 17),some (21,false)⟩,
 oc 25 (.pick (.t 21) (.k (.c (.d (.bool true)))) (.t 24)),
 oa 26 25,
 ⟨some 27,.mv (.t 0),some (26,false)⟩,
 ⟨some 28,.index (.t 27) (ki 0),some (26,false)⟩,
 ⟨some 29,.bin .eql (.t 28) (.k (.c (.d (.int .u8 48)))),some (26,false)⟩,
 ⟨some 30,.mv (.t 29),some (26,false)⟩,
 ⟨some 31,.mv (.t 0),some (30,true)⟩,
 ⟨some 32,.len 0 (.t 31),some (30,true)⟩,
 ⟨some 33,.bin .gtr (.t 32) (ki 1),some (30,true)⟩,
 ⟨some 34,.mv (.t 33),some (30,true)⟩,
 ⟨some 35,.mv (.t 4),some (34,false)⟩,
 ⟨some 36,.pick (.t 34) (.k (.c (.d (.bool true)))) (.t 35),some (30,true)⟩,
 ⟨some 37,.pick (.t 30) (.t 36) (.k (.c (.d (.bool false)))),some (26,false)⟩,
 oc 38 (.pick (.t 26) (.k (.c (.d (.bool true)))) (.t 37))] [15,18,19,20,21,22,23,24,25,26,27,28,29,30,31,32,33,34,35,36,37])
 (.cond (.t 38)
 (.seq (.region [oc 2 (.mv (ki 0)),
 oc 3 (.mv (.k (.c (.d (.bool false)))))] [0,4,38])
 (.ret))
 (.skip)))
 (.seq (.region [oc 5 (.mv (ki 0))] [2,3,38])
 (.seq (.seq (.region [oc 6 (.mv (ki 0))] [])
 (.block 0 (.loop (.seq (.seq (.region [oa 39 6,
 oa 40 0,
 oc 41 (.len 0 (.t 40)),
 oc 42 (.bin .lss (.t 39) (.t 41))] [39,40,41])
 (.cond (.t 42)
 (.skip)
 (.exit 0)))
 (.seq (.block 1 (.seq (.seq (.region [oa 45 0,
 oa 46 6,
 oc 47 (.index (.t 45) (.t 46)),
 oc 48 (.bin .lss (.t 47) (.k (.c (.d (.int .u8 48))))),
 oa 49 48,
 ⟨some 50,.mv (.t 0),some (49,false)⟩,
 ⟨some 51,.mv (.t 6),some (49,false)⟩,
 ⟨some 52,.index (.t 50) (.t 51),some (49,false)⟩,
 ⟨some 53,.bin .gtr (.t 52) (.k (.c (.d (.int .u8 57)))),some (49,false)⟩,
 oc 54 (.pick (.t 49) (.k (.c (.d (.bool true)))) (.t 53))] [42,45,46,47,48,49,50,51,52,53])
 (.cond (.t 54)
 (.seq (.region [oc 2 (.mv (ki 0)),
 oc 3 (.mv (.k (.c (.d (.bool false)))))] [0,4,5,6,54])
 (.ret))
 (.skip)))
 (.region [oa 55 5,
 oc 56 (.bin .mul (.t 55) (ki 10)),
 oa 57 0,
 oa 58 6,
 oc 59 (.index (.t 57) (.t 58)),
 oc 60 (.bin .sub (.t 59) (.k (.c (.d (.int .u8 48))))),
 oc 61 (.cvInt .i64 (.t 60)),
 oc 62 (.bin .add (.t 56) (.t 61)),
 oa 5 62] [2,3,54,55,56,57,58,59,60,61,62])))
 (.region [oa 43 6,
 oc 44 (.bin .add (.t 43) (ki 1)),
 oa 6 44] [43,44]))))))
 (.seq (.seq (.region [oa 63 4] [4])
 (.cond (.t 63)
 (.region [oa 64 5,
 oc 65 (.un .neg (.t 64)),
 oa 5 65] [63,64,65])
 (.skip)))
 (.seq (.region [oa 66 5,
 oa 2 66,
 oc 3 (.mv (.k (.c (.d (.bool true)))))] [5,63,66])
 (.ret))))))))
theorem ac133_ok : cFunc Tryz.prog [] [(0,[2,3],[]),(1,[7,8,9,10,11,12,13,14],[]),(2,[],[]),(3,[15,16,17],[]),(4,[15,18,19,20,21,22,23,24,25,26,27,28,29,30,31,32,33,34,35,36,37],[]),(5,[0,4,38],[]),(6,[2,3,38],[]),(7,[],[]),(8,[39,40,41],[]),(10,[42,45,46,47,48,49,50,51,52,53],[]),(11,[0,4,5,6,54],[]),(12,[2,3,54,55,56,57,58,59,60,61,62],[]),(9,[43,44],[]),(13,[4],[]),(14,[63,64,65],[]),(15,[5,63,66],[])] Tryz.f133 = some (ac133,[.tmp 2,.tmp 3],67) := by kernel_rfl
set_option maxHeartbeats 3200000 in
theorem sign_callsL (s : List UInt8) (hs : s.length ≤ 2000000) (i : Nat) (hi : i ≤ 2000000) (c : UInt8) (H : Heap) : ACalls Tryz.prog 92 [.c (.d (.str s)), .c (.d (.int .i64 i)), .c (.d (.int .u8 c.toNat))] H (fun r H' => H' = H ∧ r = .c (.d (.bool (sgn s i c)))) := by
  refine acalls Tryz.func92 (by kernel_rfl) ac92_ok fun hf => ?_
  have hli : inR .i64 (s.length : Int) := small_i64 (by omega) (by omega)
  by_cases hlt : i < s.length
  · have hsg : sgn s i c = (s[i] == c) := by simp [sgn, hlt]
    rw [hsg]
    have hlt2 : (i : Int) < s.length := by omega
    simp -implicitDefEqProofs [ac92, hli, hlt, go_sem, -List.set_cons_succ, -List.set_cons_zero]
    refine byte_nat hlt ?_
    simp -implicitDefEqProofs [go_sem, -List.set_cons_succ, -List.set_cons_zero]
    rw [Bool.eq_iff_iff]
    simp
    exact ⟨fun h => UInt8.toNat_inj.1 (by omega), fun h => by rw [h]⟩
  · have hsg : sgn s i c = false := by simp [sgn, hlt]
    have hlt2 : ¬ (i : Int) < s.length := by omega
    rw [hsg]
    simp -implicitDefEqProofs [ac92, hli, hlt, go_sem, -List.set_cons_succ, -List.set_cons_zero]
    refine byte_off 0 ?_
    simp -implicitDefEqProofs [go_sem, -List.set_cons_succ, -List.set_cons_zero]
set_option maxHeartbeats 3200000 in
theorem sign_calls (s : List UInt8) (hs : s.length ≤ 1000000) (i : Nat) (hi : i ≤ 2000000) (c : UInt8) (H : Heap) : ACalls Tryz.prog 92 [.c (.d (.str s)), .c (.d (.int .i64 i)), .c (.d (.int .u8 c.toNat))] H (fun r H' => H' = H ∧ r = .c (.d (.bool (sgn s i c)))) := sign_callsL s (by omega) i hi c H
set_option maxHeartbeats 3200000 in
theorem digit_calls (s : List UInt8) (hs : s.length ≤ 1000000) (i : Nat) (hi : i ≤ 2000000) (H : Heap) : ACalls Tryz.prog 122 [.c (.d (.str s)), .c (.d (.int .i64 i))] H (fun r H' => H' = H ∧ r = .c (.d (.bool (digAt s i)))) := by
  refine acalls Tryz.func122 (by kernel_rfl) ac122_ok fun hf => ?_
  have hli : inR .i64 (s.length : Int) := small_i64 (by omega) (by omega)
  by_cases hlt : i < s.length
  · have hsg : digAt s i = digB s[i] := by simp [digAt, hlt]
    rw [hsg]
    simp -implicitDefEqProofs [ac122, hli, hlt, go_sem, -List.set_cons_succ, -List.set_cons_zero]
    refine byte_nat hlt ?_
    by_cases h1 : (48 : Int) ≤ s[i].toNat
    · have h1' : 48 ≤ s[i].toNat := by omega
      simp -implicitDefEqProofs [h1, go_sem, -List.set_cons_succ, -List.set_cons_zero]
      refine byte_nat hlt ?_
      simp -implicitDefEqProofs [digB, h1', go_sem, -List.set_cons_succ, -List.set_cons_zero]
      omega
    · have h1' : ¬ 48 ≤ s[i].toNat := by omega
      simp -implicitDefEqProofs [h1, go_sem, -List.set_cons_succ, -List.set_cons_zero]
      refine byte_off 0 ?_
      simp -implicitDefEqProofs [digB, h1', go_sem, -List.set_cons_succ, -List.set_cons_zero]
  · have hsg : digAt s i = false := by simp [digAt, hlt]
    rw [hsg]
    simp -implicitDefEqProofs [ac122, hli, hlt, go_sem, -List.set_cons_succ, -List.set_cons_zero]
    refine byte_off 0 ?_
    simp -implicitDefEqProofs [go_sem, -List.set_cons_succ, -List.set_cons_zero]
    refine byte_off 0 ?_
    simp -implicitDefEqProofs [go_sem, -List.set_cons_succ, -List.set_cons_zero]
set_option maxHeartbeats 3200000 in
theorem small_calls (s : List UInt8) (hs : s.length ≤ 1000000) (i : Nat) (hi : i ≤ 2000000) (H : Heap) : ACalls Tryz.prog 134 [.c (.d (.str s)), .c (.d (.int .i64 i))] H (fun r H' => H' = H ∧ r = .c (.d (.bool (smaAt s i)))) := by
  refine acalls Tryz.func134 (by kernel_rfl) ac134_ok fun hf => ?_
  have hli : inR .i64 (s.length : Int) := small_i64 (by omega) (by omega)
  by_cases hlt : i < s.length
  · have hsg : smaAt s i = smaB s[i] := by simp [smaAt, hlt]
    rw [hsg]
    simp -implicitDefEqProofs [ac134, hli, hlt, go_sem, -List.set_cons_succ, -List.set_cons_zero]
    refine byte_nat hlt ?_
    by_cases h1 : (97 : Int) ≤ s[i].toNat
    · have h1' : 97 ≤ s[i].toNat := by omega
      simp -implicitDefEqProofs [h1, go_sem, -List.set_cons_succ, -List.set_cons_zero]
      refine byte_nat hlt ?_
      simp -implicitDefEqProofs [smaB, h1', go_sem, -List.set_cons_succ, -List.set_cons_zero]
      omega
    · have h1' : ¬ 97 ≤ s[i].toNat := by omega
      simp -implicitDefEqProofs [h1, go_sem, -List.set_cons_succ, -List.set_cons_zero]
      refine byte_off 0 ?_
      simp -implicitDefEqProofs [smaB, h1', go_sem, -List.set_cons_succ, -List.set_cons_zero]
  · have hsg : smaAt s i = false := by simp [smaAt, hlt]
    rw [hsg]
    simp -implicitDefEqProofs [ac134, hli, hlt, go_sem, -List.set_cons_succ, -List.set_cons_zero]
    refine byte_off 0 ?_
    simp -implicitDefEqProofs [go_sem, -List.set_cons_succ, -List.set_cons_zero]
    refine byte_off 0 ?_
    simp -implicitDefEqProofs [go_sem, -List.set_cons_succ, -List.set_cons_zero]
theorem numV_snoc (l : List UInt8) (b : UInt8) : numV (l ++ [b]) = numV l * 10 + (b.toNat - 48) := by simp [numV]
theorem numV_lt : ∀ (n : Nat) (l : List UInt8), l.length = n → l.all digB = true → numV l < 10 ^ n := by
  intro n
  induction n with
  | zero => intro l hl _; obtain rfl := List.eq_nil_of_length_eq_zero hl; simp [numV]
  | succ n ih =>
    intro l hl hd
    have hne : l ≠ [] := by intro h; subst h; simp at hl
    obtain ⟨m, b, rfl⟩ : ∃ m b, l = m ++ [b] := ⟨l.dropLast, l.getLast hne, (List.dropLast_concat_getLast hne).symm⟩
    simp at hl
    rw [List.all_append, Bool.and_eq_true] at hd
    have h1 := ih m hl hd.1
    have h2 := hd.2
    simp [digB] at h2
    rw [numV_snoc, Nat.pow_succ]
    omega
set_option maxHeartbeats 1600000 in
theorem num_calls (t : List UInt8) (hl : t.length ≤ 17) (hd : t.all digB = true) (H : Heap) : ACalls Tryz.prog 133 [.c (.d (.str t))] H
    (fun r H' => H' = H ∧ r = .tup [.c (.d (.int .i64 (if canB t then (numV t : Int) else 0))), .c (.d (.bool (canB t)))]) := by
  refine acalls Tryz.func133 (by kernel_rfl) ac133_ok fun hf => ?_
  have hli : inR .i64 (t.length : Int) := small_i64 (by omega) (by omega)
  cases t with
  | nil =>
    have h0 : inR .i64 (0 : Int) := small_i64 (by omega) (by omega)
    simp -implicitDefEqProofs [ac133, h0, go_sem, -List.set_cons_succ, -List.set_cons_zero]
    refine byte_off 0 ?_
    simp -implicitDefEqProofs [canB, h0, go_sem, -List.set_cons_succ, -List.set_cons_zero]
    refine byte_off 0 ?_
    simp -implicitDefEqProofs [canB, h0, go_sem, -List.set_cons_succ, -List.set_cons_zero]
  | cons b l =>
    have hb : digB b = true := by simp at hd; exact hd.1
    have hb2 : 48 ≤ b.toNat ∧ b.toNat ≤ 57 := by simpa [digB] using hb
    have hb45 : ((b.toNat : Int) == 45) = false := by simp; omega
    have hz : ((l.length : Int) + 1 == 0) = false := by simp; omega
    have h17 : ¬ (17 : Int) < (l.length : Int) + 1 := by simp at hl; omega
    simp only [List.length_cons, Int.natCast_add, Int.cast_ofNat_Int] at hli
    have hpos : (0 : Int) < (l.length : Int) + 1 := by omega
    obtain ⟨t, ht⟩ : ∃ t, t = b :: l := ⟨_, rfl⟩
    simp -implicitDefEqProofs [ac133, hli, hpos, go_sem, -List.set_cons_succ, -List.set_cons_zero]
    refine byte_int b (by omega) (by simp) ?_
    simp -implicitDefEqProofs [hb45, hz, h17, hli, go_sem, -List.set_cons_succ, -List.set_cons_zero]
    refine byte_int b (by omega) (by simp) ?_
    simp -implicitDefEqProofs [hb45, hz, h17, hli, go_sem, -List.set_cons_succ, -List.set_cons_zero]
    refine ⟨fun h1 h2 => ?_, fun h1 => ?_⟩
    · have hb48 : b = 48 := UInt8.toNat_inj.1 (by have : (48 : UInt8).toNat = 48 := rfl; omega)
      have hl0 : l ≠ [] := by intro h; subst h; simp at h2
      have : canB (b :: l) = false := by simp [canB, hb48, hl0]
      simp [this]
    · have hcan : canB (b :: l) = true := by
        have e1 : (b != 48) = true ∨ l = [] := by
          by_cases hb48 : b = 48
          · subst hb48
            have := h1 rfl
            right
            exact List.eq_nil_of_length_eq_zero (by omega)
          · left; simp [hb48]
        simp only [canB, Bool.and_eq_true, Bool.or_eq_true, decide_eq_true_eq, List.headD_cons]
        refine ⟨⟨⟨by simp, hl⟩, ?_⟩, hd⟩
        rcases e1 with e1 | e1
        · exact .inl e1
        · exact .inr (by simp [e1])
      rw [hcan]
      simp only [if_true]
      rw [← ht] at hl hd ⊢
      have htl : inR .i64 (t.length : Int) := small_i64 (by omega) (by omega)
      refine loop_set (σ := Nat) (fun i => [(6, .c (.d (.int .i64 i))), (5, .c (.d (.int .i64 (numV (t.take i)))))]) (fun _ => H) (fun _ => []) (fun i => i ≤ t.length) (fun i => t.length - i) 0 (by simp [setAll, numV]) (Nat.zero_le _) ?_
      intro i hi
      simp -implicitDefEqProofs [setAll, htl, go_sem, -List.set_cons_succ, -List.set_cons_zero]
      refine ⟨fun hlt => ?_, fun hge => ?_⟩
      · have hadd : inR .i64 ((i : Int) + 1) := small_i64 (by omega) (by omega)
        have hdi : digB t[i] = true := List.all_eq_true.1 hd _ (List.getElem_mem hlt)
        have hd2 : 48 ≤ t[i].toNat ∧ t[i].toNat ≤ 57 := by simpa [digB] using hdi
        have q1 : ¬ (t[i].toNat : Int) < 48 := by omega
        have q2 : ¬ (57 : Int) < t[i].toNat := by omega
        have hts : t.take (i + 1) = t.take i ++ [t[i]] := List.take_succ_eq_append_getElem hlt
        have hnv := numV_lt i (t.take i) (by simp; omega) (by
          rw [List.all_eq_true]
          intro x hx
          exact List.all_eq_true.1 hd _ (List.mem_of_mem_take hx))
        have hp : 10 ^ i ≤ 10 ^ 17 := Nat.pow_le_pow_right (by omega) (by omega)
        have hw : IntKind.i64.wrap ((t[i].toNat : Int) - 48) = (t[i].toNat : Int) - 48 := by rw [IntKind.wrap_i64]; omega
        have hr1 : inR .i64 ((numV (t.take i) : Int) * 10) := i64_def.2 (by omega)
        have hr2 : inR .i64 ((numV (t.take i) : Int) * 10 + ((t[i].toNat : Int) - 48)) := i64_def.2 (by omega)
        have hr3 : inR .u8 ((t[i].toNat : Int) - 48) := by simp [inR, IntKind.min, IntKind.max, IntKind.signed, IntKind.bits]; omega
        refine byte_nat hlt ?_
        simp -implicitDefEqProofs [q1, go_sem, -List.set_cons_succ, -List.set_cons_zero]
        refine byte_nat hlt ?_
        simp -implicitDefEqProofs [q1, q2, hr1, go_sem, -List.set_cons_succ, -List.set_cons_zero]
        refine byte_nat hlt ?_
        simp -implicitDefEqProofs [q1, q2, hr1, hr2, hr3, hw, hadd, go_sem, -List.set_cons_succ, -List.set_cons_zero]
        refine loop_back (i + 1) (by rw [hts, numV_snoc]; simp [setAll]; omega) hlt (by show t.length - (i + 1) < t.length - i; omega)
      · obtain rfl : i = t.length := by omega
        simp -implicitDefEqProofs [go_sem, -List.set_cons_succ, -List.set_cons_zero]
-- 123 loop.example/prologserver/spec.l1Number params 2 ntmps 60
-- loop head live: [0,1,4,6,7]
def ac123 : Cd := .seq (.region [oc 4 (.alloc [(.d (.int .i64 0)),(.d (.int .i64 0)),(.d (.str [])),(.full [])]),
 oc 5 (.mv (ki 0))] [5])
 (.seq (.region [oa 10 1,
 oa 6 10] [10])
 (.seq (.seq (.region [oa 11 0,
 oa 12 6,
 oc 13 (.qcall 92 [(.t 11),(.t 12),(.k (.c (.d (.int .u8 45))))])] [11,12])
 (.cond (.t 13)
 (.region [oa 14 6,
 oc 15 (.bin .add (.t 14) (ki 1)),
 oa 6 15] [13,14,15])
 (.skip)))
 (.seq (.region [oa 16 6,
 oa 7 16] [13,16])
 (.seq (.block 0 (.loop (.seq (.seq (.region [oa 17 0,
 oa 18 6,
 oc 19 (.qcall 122 [(.t 17),(.t 18)]),
 oa 20 19,
 ⟨some 21,.mv (.t 6),some (20,true)⟩,
 ⟨some 22,.mv (.t 7),some (20,true)⟩,
 ⟨some 23,.bin .add (.t 22) (ki 4),some (20,true)⟩,
 ⟨some 24,.bin .lss (.t 21) (.t 23),some (20,true)⟩,
 oc 25 (.pick (.t 20) (.t 24) (.k (.c (.d (.bool false)))))] [17,18,19,20,21,22,23,24])
 (.cond (.t 25)
 (.skip)
 (.exit 0)))
 (.block 1 (.region [oa 26 6,
 oc 27 (.bin .add (.t 26) (ki 1)),
 oa 6 27] [25,26,27])))))
 (.seq (.region [oa 29 0,
 oa 30 7,
 oa 31 6,
 oc 32 (.slice 0 (.t 29) (some (.t 30)) (some (.t 31)) none),
 oc 33 (.qcall 133 [(.t 32)]),
 oa 28 33,
 oc 34 (.extract 0 (.t 28)),
 oc 35 (.extract 1 (.t 28)),
 oa 8 34,
 oa 9 35] [0,28,29,30,31,32,33,34,35])
 (.seq (.seq (.region [oa 36 9,
 oc 37 (.un .not (.t 36)),
 oa 38 37,
 ⟨some 39,.mv (.t 7),some (38,false)⟩,
 ⟨some 40,.mv (.t 1),some (38,false)⟩,
 ⟨some 41,.bin .gtr (.t 39) (.t 40),some (38,false)⟩,
 ⟨some 42,.mv (.t 41),some (38,false)⟩,
 ⟨some 43,.mv (.t 8),some (42,true)⟩,
 ⟨some 44,.bin .eql (.t 43) (ki 0),some (42,true)⟩,
 ⟨some 45,.pick (.t 42) (.t 44) (.k (.c (.d (.bool false)))),some (38,false)⟩,
 oc 46 (.pick (.t 38) (.k (.c (.d (.bool true)))) (.t 45)),
 oa 47 46,
 ⟨some 48,.mv (.t 8),some (47,false)⟩,
 ⟨some 49,.bin .gtr (.t 48) (ki 999),some (47,false)⟩,
 oc 50 (.pick (.t 47) (.k (.c (.d (.bool true)))) (.t 49))] [9,36,37,38,39,40,41,42,43,44,45,46,47,48,49])
 (.cond (.t 50)
 (.seq (.region [oc 51 (.build [(.d (.int .i64 0)),(.d (.int .i64 0)),(.d (.str [])),(.full [])] []),
 ⟨none,.store 4 (.t 4) (.t 51),none⟩,
 oc 5 (.mv (ki (-1)))] [1,6,7,8,50,51])
 (.ret))
 (.skip)))
 (.seq (.seq (.region [oa 52 7,
 oa 53 1,
 oc 54 (.bin .gtr (.t 52) (.t 53))] [1,5,7,50,52,53])
 (.cond (.t 54)
 (.region [oa 55 8,
 oc 56 (.un .neg (.t 55)),
 oa 8 56] [54,55,56])
 (.skip)))
 (.seq (.region [oa 57 8,
 oc 58 (.qcall 34 [(.t 57)]),
 oa 59 6,
 ⟨none,.store 4 (.t 4) (.t 58),none⟩,
 oa 5 59] [6,8,54,57,58,59])
 (.ret)))))))))
theorem ac123_ok : cFunc Tryz.prog [1000034,1000092,1000122,1000133] [(0,[5],[]),(1,[10],[]),(2,[11,12],[]),(3,[13,14,15],[]),(4,[13,16],[]),(5,[17,18,19,20,21,22,23,24],[]),(6,[25,26,27],[]),(7,[0,28,29,30,31,32,33,34,35],[]),(8,[9,36,37,38,39,40,41,42,43,44,45,46,47,48,49],[]),(9,[1,6,7,8,50,51],[]),(10,[1,5,7,50,52,53],[]),(11,[54,55,56],[]),(12,[6,8,54,57,58,59],[])] Tryz.f123 = some (ac123,[.cell 4 (some 4),.tmp 5],60) := by kernel_rfl
theorem cutS_succ {s : List UInt8} {i j : Nat} (hij : i ≤ j) (hj : j < s.length) : cutS s i (j + 1) = cutS s i j ++ [s[j]] := by
  unfold cutS
  rw [List.take_succ_eq_append_getElem hj, List.drop_append_of_le_length (by simp; omega)]
theorem cutS_same (s : List UInt8) (i : Nat) : cutS s i i = [] := by
  unfold cutS
  exact List.drop_of_length_le (by simp; omega)
/-- a run that stops -/
theorem runE_stop {p : List UInt8 → Nat → Bool} {s : List UInt8} : ∀ (n i m : Nat), m ≤ n → (∀ k, k < m → p s (i + k) = true) → (m = n ∨ p s (i + m) = false) → runE p s n i = i + m
  | 0, i, m, hm, _, _ => by
    have : m = 0 := by omega
    subst this; rfl
  | n + 1, i, 0, hm, _, h => by
    rcases h with h | h
    · omega
    · unfold runE; rw [if_neg (by simpa using h)]; rfl
  | n + 1, i, m + 1, hm, h1, h => by
    have h0 : p s i = true := h1 0 (by omega)
    unfold runE
    rw [if_pos h0, runE_stop n (i + 1) m (by omega) (fun k hk => by have := h1 (k + 1) (by omega); rwa [show i + 1 + k = i + (k + 1) by omega]) (by
      rcases h with h | h
      · left; omega
      · right; rwa [show i + 1 + m = i + (m + 1) by omega])]
    omega
theorem cut_digs {s : List UInt8} (p : Nat) : ∀ k : Nat, p + k ≤ s.length → (∀ m, m < k → digAt s (p + m) = true) → (cutS s p (p + k)).all digB = true
  | 0, _, _ => by rw [Nat.add_zero, cutS_same]; rfl
  | k + 1, h, hd => by
    rw [show p + (k + 1) = p + k + 1 by omega, cutS_succ (by omega) (by omega), List.all_append, cut_digs p k (by omega) fun m hm => hd m (by omega)]
    have h1 := hd k (by omega)
    have hlt : p + k < s.length := by omega
    simp [digAt, hlt] at h1
    simp [h1]
def numA : Option (Int × Nat) → A
  | some (n, j) => .tup [.agg ((Tm.mk 2 n [] []).row.map .d), .c (.d (.int .i64 j))]
  | none => .tup [.agg ((Tm.mk 0 0 [] []).row.map .d), .c (.d (.int .i64 (-1)))]
set_option maxHeartbeats 1600000 in
theorem number_calls (s : List UInt8) (hs : s.length ≤ 1000000) (i : Nat) (hi : i ≤ s.length) (H : Heap) : ACalls Tryz.prog 123 [.c (.d (.str s)), .c (.d (.int .i64 i))] H (fun r H' => H' = H ∧ r = numA (numR s i)) := by
  refine acalls Tryz.func123 (by kernel_rfl) ac123_ok fun hf => ?_
  have hi1 : inR .i64 ((i : Int) + 1) := small_i64 (by omega) (by omega)
  simp -implicitDefEqProofs [ac123, go_sem, -List.set_cons_succ, -List.set_cons_zero]
  refine qcall_pure (sign_calls s hs i (by omega) 45) hf rfl ?_
  cases hsg : sgn s i 45 with
  | true =>
    have hlt := sgn_lt hsg
    simp -implicitDefEqProofs [hi1, go_sem, -List.set_cons_succ, -List.set_cons_zero]
    refine loop_set (σ := Nat) (fun k => [(6, .c (.d (.int .i64 ((i + 1 + k : Nat) : Int))))]) (fun _ => H) (fun _ => [.cells [.d (.int .i64 0), .d (.int .i64 0), .d (.str []), .full []]]) (fun k => k ≤ 4 ∧ i + 1 + k ≤ s.length ∧ ∀ m, m < k → digAt s (i + 1 + m) = true) (fun k => 4 - k) 0 (by simp [setAll]) ⟨by omega, by omega, by simp⟩ ?_
    rintro k ⟨hk4, hkl, hkd⟩
    have hpk4 : inR .i64 (((i + 1 : Nat) : Int) + 4) := small_i64 (by omega) (by omega)
    have hpk4' : inR .i64 ((i : Int) + 1 + 4) := small_i64 (by omega) (by omega)
    have hpk : inR .i64 (((i + 1 : Nat) : Int) + (k : Int) + 1) := small_i64 (by omega) (by omega)
    have hpk' : inR .i64 ((i : Int) + 1 + (k : Int) + 1) := small_i64 (by omega) (by omega)
    simp -implicitDefEqProofs [setAll, go_sem, -List.set_cons_succ, -List.set_cons_zero]
    have cd := digit_calls s hs (i + 1 + k) (by omega)
    simp only [Int.natCast_add, Int.cast_ofNat_Int] at cd
    refine qcall_pure cd hf rfl ?_
    have stop : (k = 4 ∨ digAt s (i + 1 + k) = false) → runE digAt s 4 (i + 1) = i + 1 + k := fun h => runE_stop 4 (i + 1) k hk4 hkd h
    have fin : runE digAt s 4 (i + 1) = i + 1 + k → True := fun _ => trivial
    cases hdg : digAt s (i + 1 + k) with
    | true =>
      by_cases hk3 : k < 4
      · have c1 : (i : Int) + 1 + (k : Int) < (i : Int) + 1 + 4 := by omega
        simp -implicitDefEqProofs [hpk4, hpk4', c1, hpk, hpk', hk3, go_sem, -List.set_cons_succ, -List.set_cons_zero]
        have hlt := dig_lt _ hdg
        exact loop_back (k + 1) (by simp [setAll, Int.add_assoc]) ⟨by omega, by omega, fun m hm => by
          rcases Nat.lt_or_ge m k with h | h
          · exact hkd m h
          · obtain rfl : m = k := by omega
            exact hdg⟩ (by show 4 - (k + 1) < 4 - k; omega)
      · obtain rfl : k = 4 := by omega
        have he := stop (.inl rfl)
        simp -implicitDefEqProofs [hpk4, hpk4', go_sem, -List.set_cons_succ, -List.set_cons_zero]
        obtain ⟨T, hT⟩ : ∃ T, T = cutS s (i + 1) (i + 1 + 4) := ⟨_, rfl⟩
        have hTd : T.all digB = true := by rw [hT]; exact cut_digs (i + 1) 4 hkl hkd
        have hTl : T.length ≤ 17 := by rw [hT, cutS_len]; omega
        have hnat : ((i : Int) + 1 + 4).toNat = i + 1 + 4 := by omega
        have hnm := num_calls T hTl hTd
        have hVl := numV_lt T.length T rfl hTd
        have hTk : T.length ≤ 4 := by rw [hT, cutS_len]; omega
        have hp4 : 10 ^ T.length ≤ 10 ^ 4 := Nat.pow_le_pow_right (by omega) hTk
        have hR : numR s i = if canB T then if (true && decide (numV T = 0)) || decide (999 < numV T) then none else some (-(numV T : Int), i + 1 + 4) else none := by
          unfold numR
          simp only [hsg, if_true, if_false, Bool.false_eq_true, he, ← hT]
        rw [hR, hnat]
        have hT' : (s.take (i + 1 + 4)).drop (i + 1) = T := hT.symm
        rw [hT']
        refine ⟨by omega, qcall_pure hnm hf rfl ?_⟩
        have hii : (i : Int) < (i : Int) + 1 := by omega
        have hij : ¬ (i : Int) + 1 ≤ (i : Int) := by omega
        have i1 : inR .i64 (0 - (numV T : Int)) := small_i64 (by omega) (by omega)
        have i2 : inR .i64 (-(numV T : Int)) := small_i64 (by omega) (by omega)
        cases hc : canB T with
        | false => simp -implicitDefEqProofs [numA, row_mk, hf, hii, hij, go_sem, -List.set_cons_succ, -List.set_cons_zero]
        | true =>
          by_cases h0 : numV T = 0
          · simp -implicitDefEqProofs [h0, numA, row_mk, hf, hii, hij, go_sem, -List.set_cons_succ, -List.set_cons_zero]
          · by_cases h9 : 999 < numV T
            · have h9' : (999 : Int) < numV T := by omega
              have h0' : ((numV T : Int) == 0) = false := by simp; omega
              simp -implicitDefEqProofs [h0, h0', h9, h9', numA, row_mk, hf, hii, hij, go_sem, -List.set_cons_succ, -List.set_cons_zero]
            · have h9' : ¬ (999 : Int) < numV T := by omega
              have h0' : ((numV T : Int) == 0) = false := by simp; omega
              simp -implicitDefEqProofs [h0, h0', h9, h9', i1, i2, hf, hii, hij, go_sem, -List.set_cons_succ, -List.set_cons_zero]
              refine qcall_pure (int_calls (-(numV T : Int))) hf (by simp [A.re, re_d]) ?_
              simp -implicitDefEqProofs [numA, row_mk, hf, hii, hij, go_sem, -List.set_cons_succ, -List.set_cons_zero]
    | false =>
      have he := stop (.inr hdg)
      simp -implicitDefEqProofs [go_sem, -List.set_cons_succ, -List.set_cons_zero]
      obtain ⟨T, hT⟩ : ∃ T, T = cutS s (i + 1) (i + 1 + k) := ⟨_, rfl⟩
      have hTd : T.all digB = true := by rw [hT]; exact cut_digs (i + 1) k hkl hkd
      have hTl : T.length ≤ 17 := by rw [hT, cutS_len]; omega
      have hnat : ((i : Int) + 1 + (k : Int)).toNat = i + 1 + k := by omega
      have hnm := num_calls T hTl hTd
      have hVl := numV_lt T.length T rfl hTd
      have hTk : T.length ≤ 4 := by rw [hT, cutS_len]; omega
      have hp4 : 10 ^ T.length ≤ 10 ^ 4 := Nat.pow_le_pow_right (by omega) hTk
      have hR : numR s i = if canB T then if (true && decide (numV T = 0)) || decide (999 < numV T) then none else some (-(numV T : Int), i + 1 + k) else none := by
        unfold numR
        simp only [hsg, if_true, if_false, Bool.false_eq_true, he, ← hT]
      rw [hR, hnat]
      have hT' : (s.take (i + 1 + k)).drop (i + 1) = T := hT.symm
      rw [hT']
      refine ⟨by omega, qcall_pure hnm hf rfl ?_⟩
      have hii : (i : Int) < (i : Int) + 1 := by omega
      have hij : ¬ (i : Int) + 1 ≤ (i : Int) := by omega
      have i1 : inR .i64 (0 - (numV T : Int)) := small_i64 (by omega) (by omega)
      have i2 : inR .i64 (-(numV T : Int)) := small_i64 (by omega) (by omega)
      cases hc : canB T with
      | false => simp -implicitDefEqProofs [numA, row_mk, hf, hii, hij, go_sem, -List.set_cons_succ, -List.set_cons_zero]
      | true =>
        by_cases h0 : numV T = 0
        · simp -implicitDefEqProofs [h0, numA, row_mk, hf, hii, hij, go_sem, -List.set_cons_succ, -List.set_cons_zero]
        · by_cases h9 : 999 < numV T
          · have h9' : (999 : Int) < numV T := by omega
            have h0' : ((numV T : Int) == 0) = false := by simp; omega
            simp -implicitDefEqProofs [h0, h0', h9, h9', numA, row_mk, hf, hii, hij, go_sem, -List.set_cons_succ, -List.set_cons_zero]
          · have h9' : ¬ (999 : Int) < numV T := by omega
            have h0' : ((numV T : Int) == 0) = false := by simp; omega
            simp -implicitDefEqProofs [h0, h0', h9, h9', i1, i2, hf, hii, hij, go_sem, -List.set_cons_succ, -List.set_cons_zero]
            refine qcall_pure (int_calls (-(numV T : Int))) hf (by simp [A.re, re_d]) ?_
            simp -implicitDefEqProofs [numA, row_mk, hf, hii, hij, go_sem, -List.set_cons_succ, -List.set_cons_zero]
  | false =>
    simp -implicitDefEqProofs [hi1, go_sem, -List.set_cons_succ, -List.set_cons_zero]
    refine loop_set (σ := Nat) (fun k => [(6, .c (.d (.int .i64 ((i + k : Nat) : Int))))]) (fun _ => H) (fun _ => [.cells [.d (.int .i64 0), .d (.int .i64 0), .d (.str []), .full []]]) (fun k => k ≤ 4 ∧ i + k ≤ s.length ∧ ∀ m, m < k → digAt s (i + m) = true) (fun k => 4 - k) 0 (by simp [setAll]) ⟨by omega, by omega, by simp⟩ ?_
    rintro k ⟨hk4, hkl, hkd⟩
    have hpk4 : inR .i64 (((i : Nat) : Int) + 4) := small_i64 (by omega) (by omega)
    have hpk4' : inR .i64 ((i : Int) + 4) := small_i64 (by omega) (by omega)
    have hpk : inR .i64 (((i : Nat) : Int) + (k : Int) + 1) := small_i64 (by omega) (by omega)
    have hpk' : inR .i64 ((i : Int) + (k : Int) + 1) := small_i64 (by omega) (by omega)
    simp -implicitDefEqProofs [setAll, go_sem, -List.set_cons_succ, -List.set_cons_zero]
    have cd := digit_calls s hs (i + k) (by omega)
    simp only [Int.natCast_add, Int.cast_ofNat_Int] at cd
    refine qcall_pure cd hf rfl ?_
    have stop : (k = 4 ∨ digAt s (i + k) = false) → runE digAt s 4 (i) = i + k := fun h => runE_stop 4 (i) k hk4 hkd h
    have fin : runE digAt s 4 (i) = i + k → True := fun _ => trivial
    cases hdg : digAt s (i + k) with
    | true =>
      by_cases hk3 : k < 4
      · have c1 : (i : Int) + (k : Int) < (i : Int) + 4 := by omega
        simp -implicitDefEqProofs [hpk4, hpk4', c1, hpk, hpk', hk3, go_sem, -List.set_cons_succ, -List.set_cons_zero]
        have hlt := dig_lt _ hdg
        exact loop_back (k + 1) (by simp [setAll, Int.add_assoc]) ⟨by omega, by omega, fun m hm => by
          rcases Nat.lt_or_ge m k with h | h
          · exact hkd m h
          · obtain rfl : m = k := by omega
            exact hdg⟩ (by show 4 - (k + 1) < 4 - k; omega)
      · obtain rfl : k = 4 := by omega
        have he := stop (.inl rfl)
        simp -implicitDefEqProofs [hpk4, hpk4', go_sem, -List.set_cons_succ, -List.set_cons_zero]
        obtain ⟨T, hT⟩ : ∃ T, T = cutS s (i) (i + 4) := ⟨_, rfl⟩
        have hTd : T.all digB = true := by rw [hT]; exact cut_digs (i) 4 hkl hkd
        have hTl : T.length ≤ 17 := by rw [hT, cutS_len]; omega
        have hnat : ((i : Int) + 4).toNat = i + 4 := by omega
        have hnm := num_calls T hTl hTd
        have hVl := numV_lt T.length T rfl hTd
        have hTk : T.length ≤ 4 := by rw [hT, cutS_len]; omega
        have hp4 : 10 ^ T.length ≤ 10 ^ 4 := Nat.pow_le_pow_right (by omega) hTk
        have hR : numR s i = if canB T then if (false && decide (numV T = 0)) || decide (999 < numV T) then none else some ((numV T : Int), i + 4) else none := by
          unfold numR
          simp only [hsg, if_true, if_false, Bool.false_eq_true, he, ← hT]
        rw [hR, hnat]
        have hT' : (s.take (i + 4)).drop (i) = T := hT.symm
        rw [hT']
        refine ⟨by omega, qcall_pure hnm hf rfl ?_⟩
        have hii : (i : Int) < (i : Int) + 1 := by omega
        have hij : ¬ (i : Int) + 1 ≤ (i : Int) := by omega
        have i1 : inR .i64 (0 - (numV T : Int)) := small_i64 (by omega) (by omega)
        have i2 : inR .i64 (-(numV T : Int)) := small_i64 (by omega) (by omega)
        cases hc : canB T with
        | false => simp -implicitDefEqProofs [numA, row_mk, hf, hii, hij, go_sem, -List.set_cons_succ, -List.set_cons_zero]
        | true =>
          by_cases h0 : numV T = 0
          · simp -implicitDefEqProofs [h0, numA, row_mk, hf, hii, hij, go_sem, -List.set_cons_succ, -List.set_cons_zero]
            refine qcall_pure (int_calls 0) hf (by simp [A.re, re_d]) ?_
            simp -implicitDefEqProofs [numA, row_mk, h0, hf, hii, hij, go_sem, -List.set_cons_succ, -List.set_cons_zero]
          · by_cases h9 : 999 < numV T
            · have h9' : (999 : Int) < numV T := by omega
              have h0' : ((numV T : Int) == 0) = false := by simp; omega
              simp -implicitDefEqProofs [h0, h0', h9, h9', numA, row_mk, hf, hii, hij, go_sem, -List.set_cons_succ, -List.set_cons_zero]
            · have h9' : ¬ (999 : Int) < numV T := by omega
              have h0' : ((numV T : Int) == 0) = false := by simp; omega
              simp -implicitDefEqProofs [h0, h0', h9, h9', i1, i2, hf, hii, hij, go_sem, -List.set_cons_succ, -List.set_cons_zero]
              refine qcall_pure (int_calls ((numV T : Int))) hf (by simp [A.re, re_d]) ?_
              simp -implicitDefEqProofs [numA, row_mk, hf, hii, hij, go_sem, -List.set_cons_succ, -List.set_cons_zero]
    | false =>
      have he := stop (.inr hdg)
      simp -implicitDefEqProofs [go_sem, -List.set_cons_succ, -List.set_cons_zero]
      obtain ⟨T, hT⟩ : ∃ T, T = cutS s (i) (i + k) := ⟨_, rfl⟩
      have hTd : T.all digB = true := by rw [hT]; exact cut_digs (i) k hkl hkd
      have hTl : T.length ≤ 17 := by rw [hT, cutS_len]; omega
      have hnat : ((i : Int) + (k : Int)).toNat = i + k := by omega
      have hnm := num_calls T hTl hTd
      have hVl := numV_lt T.length T rfl hTd
      have hTk : T.length ≤ 4 := by rw [hT, cutS_len]; omega
      have hp4 : 10 ^ T.length ≤ 10 ^ 4 := Nat.pow_le_pow_right (by omega) hTk
      have hR : numR s i = if canB T then if (false && decide (numV T = 0)) || decide (999 < numV T) then none else some ((numV T : Int), i + k) else none := by
        unfold numR
        simp only [hsg, if_true, if_false, Bool.false_eq_true, he, ← hT]
      rw [hR, hnat]
      have hT' : (s.take (i + k)).drop (i) = T := hT.symm
      rw [hT']
      refine ⟨by omega, qcall_pure hnm hf rfl ?_⟩
      have hii : (i : Int) < (i : Int) + 1 := by omega
      have hij : ¬ (i : Int) + 1 ≤ (i : Int) := by omega
      have i1 : inR .i64 (0 - (numV T : Int)) := small_i64 (by omega) (by omega)
      have i2 : inR .i64 (-(numV T : Int)) := small_i64 (by omega) (by omega)
      cases hc : canB T with
      | false => simp -implicitDefEqProofs [numA, row_mk, hf, hii, hij, go_sem, -List.set_cons_succ, -List.set_cons_zero]
      | true =>
        by_cases h0 : numV T = 0
        · simp -implicitDefEqProofs [h0, numA, row_mk, hf, hii, hij, go_sem, -List.set_cons_succ, -List.set_cons_zero]
          refine qcall_pure (int_calls 0) hf (by simp [A.re, re_d]) ?_
          simp -implicitDefEqProofs [numA, row_mk, h0, hf, hii, hij, go_sem, -List.set_cons_succ, -List.set_cons_zero]
        · by_cases h9 : 999 < numV T
          · have h9' : (999 : Int) < numV T := by omega
            have h0' : ((numV T : Int) == 0) = false := by simp; omega
            simp -implicitDefEqProofs [h0, h0', h9, h9', numA, row_mk, hf, hii, hij, go_sem, -List.set_cons_succ, -List.set_cons_zero]
          · have h9' : ¬ (999 : Int) < numV T := by omega
            have h0' : ((numV T : Int) == 0) = false := by simp; omega
            simp -implicitDefEqProofs [h0, h0', h9, h9', i1, i2, hf, hii, hij, go_sem, -List.set_cons_succ, -List.set_cons_zero]
            refine qcall_pure (int_calls ((numV T : Int))) hf (by simp [A.re, re_d]) ?_
            simp -implicitDefEqProofs [numA, row_mk, hf, hii, hij, go_sem, -List.set_cons_succ, -List.set_cons_zero]
-- 124 loop.example/prologserver/spec.l1Name params 2 ntmps 77
-- loop head live: [0,1,6]
-- loop head live: [0,1,7,8,9]
def ac124 : Cd := .seq (.region [oc 4 (.mv (.k (.c (.d (.str []))))),
 oc 5 (.mv (ki 0))] [4,5])
 (.seq (.region [oa 11 1,
 oa 6 11] [11])
 (.seq (.block 0 (.loop (.seq (.seq (.region [oa 12 0,
 oa 13 6,
 oc 14 (.qcall 134 [(.t 12),(.t 13)])] [12,13])
 (.cond (.t 14)
 (.skip)
 (.exit 0)))
 (.block 1 (.region [oa 15 6,
 oc 16 (.bin .add (.t 15) (ki 1)),
 oa 6 16] [14,15,16])))))
 (.seq (.seq (.region [oa 17 6,
 oa 18 1,
 oc 19 (.bin .add (.t 18) (ki 6)),
 oc 20 (.bin .gtr (.t 17) (.t 19))] [17,18,19])
 (.cond (.t 20)
 (.seq (.region [oc 4 (.mv (.k (.c (.d (.str []))))),
 oc 5 (.mv (ki (-1)))] [0,1,6,20])
 (.ret))
 (.skip)))
 (.seq (.seq (.region [oa 21 6,
 oa 22 1,
 oc 23 (.bin .gtr (.t 21) (.t 22))] [4,5,20,21,22])
 (.cond (.t 23)
 (.seq (.region [oa 24 0,
 oa 25 1,
 oa 26 6,
 oc 27 (.slice 0 (.t 24) (some (.t 25)) (some (.t 26)) none),
 oa 28 6,
 oa 4 27,
 oa 5 28] [0,1,6,23,24,25,26,27,28])
 (.ret))
 (.skip)))
 (.seq (.region [oc 7 (.mv (.k (.c (.d (.str [])))))] [4,5,6,23])
 (.seq (.region [oc 29 (.qcall 131 []),
 oa 8 29] [29])
 (.seq (.seq (.region [oc 9 (.mv (ki 0))] [])
 (.block 2 (.loop (.seq (.seq (.region [oa 30 9,
 oa 31 8,
 oc 32 (.len 1 (.t 31)),
 oc 33 (.bin .lss (.t 30) (.t 32))] [30,31,32])
 (.cond (.t 33)
 (.skip)
 (.exit 2)))
 (.seq (.block 3 (.seq (.region [oa 36 8,
 oa 37 9,
 oc 38 (.indexAddr 1 (.t 36) (.t 37)),
 oc 39 (.load none (.t 38)),
 oc 40 (.len 0 (.t 39)),
 oa 10 40] [33,36,37,38,39,40])
 (.seq (.region [oa 41 1,
 oa 42 10,
 oc 43 (.bin .add (.t 41) (.t 42)),
 oa 44 0,
 oc 45 (.len 0 (.t 44)),
 oc 46 (.bin .leq (.t 43) (.t 45)),
 oa 47 46,
 ⟨some 48,.mv (.t 0),some (47,true)⟩,
 ⟨some 49,.mv (.t 1),some (47,true)⟩,
 ⟨some 50,.mv (.t 1),some (47,true)⟩,
 ⟨some 51,.mv (.t 10),some (47,true)⟩,
 ⟨some 52,.bin .add (.t 50) (.t 51),some (47,true)⟩,
 ⟨some 53,.slice 0 (.t 48) (some (.t 49)) (some (.t 52)) none,some (47,true)⟩,
 ⟨some 54,.mv (.t 8),some (47,true)⟩,
 ⟨some 55,.mv (.t 9),some (47,true)⟩,
 ⟨some 56,.indexAddr 1 (.t 54) (.t 55),some (47,true)⟩,
 ⟨some 57,.load none (.t 56),some (47,true)⟩,
 ⟨some 58,.bin .eql (.t 53) (.t 57),some (47,true)⟩,
 oc 59 (.pick (.t 47) (.t 58) (.k (.c (.d (.bool false))))),
 oa 60 59,
 ⟨some 61,.mv (.t 10),some (60,true)⟩,
 ⟨some 62,.mv (.t 7),some (60,true)⟩,
 ⟨some 63,.len 0 (.t 62),some (60,true)⟩,
 ⟨some 64,.bin .gtr (.t 61) (.t 63),some (60,true)⟩,
 oc 65 (.pick (.t 60) (.t 64) (.k (.c (.d (.bool false)))))] [10,41,42,43,44,45,46,47,48,49,50,51,52,53,54,55,56,57,58,59,60,61,62,63,64])
 (.cond (.t 65)
 (.region [oa 66 8,
 oa 67 9,
 oc 68 (.indexAddr 1 (.t 66) (.t 67)),
 oc 69 (.load none (.t 68)),
 oa 7 69] [65,66,67,68,69])
 (.skip)))))
 (.region [oa 34 9,
 oc 35 (.bin .add (.t 34) (ki 1)),
 oa 9 35] [34,35,65]))))))
 (.seq (.seq (.region [oa 70 7,
 oc 71 (.bin .eql (.t 70) (.k (.c (.d (.str [])))))] [70])
 (.cond (.t 71)
 (.seq (.region [oc 4 (.mv (.k (.c (.d (.str []))))),
 oc 5 (.mv (ki (-1)))] [1,7,71])
 (.ret))
 (.skip)))
 (.seq (.region [oa 72 7,
 oa 73 1,
 oa 74 7,
 oc 75 (.len 0 (.t 74)),
 oc 76 (.bin .add (.t 73) (.t 75)),
 oa 4 72,
 oa 5 76] [1,7,71,72,73,74,75,76])
 (.ret))))))))))
theorem ac124_ok : cFunc Tryz.prog [1000131,1000134] [(0,[4,5],[]),(1,[11],[]),(2,[12,13],[]),(3,[14,15,16],[]),(4,[17,18,19],[]),(5,[0,1,6,20],[]),(6,[4,5,20,21,22],[]),(7,[0,1,6,23,24,25,26,27,28],[]),(8,[4,5,6,23],[]),(9,[29],[]),(10,[],[]),(11,[30,31,32],[]),(13,[33,36,37,38,39,40],[]),(14,[10,41,42,43,44,45,46,47,48,49,50,51,52,53,54,55,56,57,58,59,60,61,62,63,64],[0,1,2,3,4,5,6,7,8,9,10,11,12,13,14,15,16,17,18,19,20,21,22,23,24]),(15,[65,66,67,68,69],[]),(12,[34,35,65],[]),(16,[70],[]),(17,[1,7,71],[]),(18,[1,7,71,72,73,74,75,76],[])] Tryz.f124 = some (ac124,[.tmp 4,.tmp 5],77) := by kernel_rfl
-- 111 loop.example/prologserver/spec.l2Op params 2 ntmps 61
def ac111 : Cd := .seq (.region [oc 4 (.mv (.k (.c (.d (.str []))))),
 oc 5 (.mv (ki 0))] [4,5])
 (.seq (.region [oa 10 1,
 oa 6 10] [10])
 (.seq (.seq (.region [oa 11 0,
 oa 12 1,
 oc 13 (.qcall 92 [(.t 11),(.t 12),(.k (.c (.d (.int .u8 32))))])] [11,12])
 (.cond (.t 13)
 (.region [oa 14 1,
 oc 15 (.bin .add (.t 14) (ki 1)),
 oa 6 15] [13,14,15])
 (.skip)))
 (.seq (.seq (.region [oa 16 6,
 oa 17 0,
 oc 18 (.len 0 (.t 17)),
 oc 19 (.bin .geq (.t 16) (.t 18))] [13,16,17,18])
 (.cond (.t 19)
 (.seq (.region [oa 20 1,
 oc 4 (.mv (.k (.c (.d (.str []))))),
 oa 5 20] [0,1,6,19,20])
 (.ret))
 (.skip)))
 (.seq (.region [oa 22 0,
 oa 23 6,
 oc 24 (.qcall 124 [(.t 22),(.t 23)]),
 oa 21 24,
 oc 25 (.extract 0 (.t 21)),
 oc 26 (.extract 1 (.t 21)),
 oa 7 25,
 oa 8 26] [4,5,19,21,22,23,24,25,26])
 (.seq (.seq (.region [oa 27 8,
 oc 28 (.bin .lss (.t 27) (ki 0)),
 oa 29 28,
 ⟨some 30,.mv (.t 7),some (29,false)⟩,
 ⟨some 31,.qcall 50 [(.t 30)],some (29,false)⟩,
 ⟨some 32,.bin .eql (.t 31) (ki 0),some (29,false)⟩,
 oc 33 (.pick (.t 29) (.k (.c (.d (.bool true)))) (.t 32))] [27,28,29,30,31,32])
 (.cond (.t 33)
 (.seq (.region [oa 34 1,
 oc 4 (.mv (.k (.c (.d (.str []))))),
 oa 5 34] [0,1,6,7,8,33,34])
 (.ret))
 (.skip)))
 (.seq (.region [oa 35 7,
 oc 36 (.bin .eql (.t 35) (.k (.c (.d (.str [105,115]))))),
 oa 37 36,
 ⟨some 38,.mv (.t 7),some (37,false)⟩,
 ⟨some 39,.bin .eql (.t 38) (.k (.c (.d (.str [109,111,100])))),some (37,false)⟩,
 oc 40 (.pick (.t 37) (.k (.c (.d (.bool true)))) (.t 39)),
 oa 9 40] [4,5,33,35,36,37,38,39,40])
 (.seq (.seq (.region [oa 41 9,
 oa 42 6,
 oa 43 1,
 oc 44 (.bin .gtr (.t 42) (.t 43)),
 oc 45 (.binB true (.t 41) (.t 44)),
 oa 46 45,
 ⟨some 47,.mv (.t 9),some (46,false)⟩,
 ⟨some 48,.mv (.t 47),some (46,false)⟩,
 ⟨some 49,.mv (.t 0),some (48,true)⟩,
 ⟨some 50,.mv (.t 8),some (48,true)⟩,
 ⟨some 51,.qcall 92 [(.t 49),(.t 50),(.k (.c (.d (.int .u8 32))))],some (48,true)⟩,
 ⟨some 52,.un .not (.t 51),some (48,true)⟩,
 ⟨some 53,.pick (.t 48) (.t 52) (.k (.c (.d (.bool false)))),some (46,false)⟩,
 oc 54 (.pick (.t 46) (.k (.c (.d (.bool true)))) (.t 53))] [0,6,41,42,43,44,45,46,47,48,49,50,51,52,53])
 (.cond (.t 54)
 (.seq (.region [oa 55 1,
 oc 4 (.mv (.k (.c (.d (.str []))))),
 oa 5 55] [1,7,8,9,54,55])
 (.ret))
 (.skip)))
 (.seq (.seq (.region [oa 56 9] [1,4,5,9,54])
 (.cond (.t 56)
 (.region [oa 57 8,
 oc 58 (.bin .add (.t 57) (ki 1)),
 oa 8 58] [56,57,58])
 (.skip)))
 (.seq (.region [oa 59 7,
 oa 60 8,
 oa 4 59,
 oa 5 60] [7,8,56,59,60])
 (.ret))))))))))
theorem ac111_ok : cFunc Tryz.prog [1000050,1000092,1000124] [(0,[4,5],[]),(1,[10],[]),(2,[11,12],[]),(3,[13,14,15],[]),(4,[13,16,17,18],[]),(5,[0,1,6,19,20],[]),(6,[4,5,19,21,22,23,24,25,26],[]),(7,[27,28,29,30,31,32],[]),(8,[0,1,6,7,8,33,34],[]),(9,[4,5,33,35,36,37,38,39,40],[]),(10,[0,6,41,42,43,44,45,46,47,48,49,50,51,52,53],[]),(11,[1,7,8,9,54,55],[]),(12,[1,4,5,9,54],[]),(13,[56,57,58],[]),(14,[7,8,56,59,60],[])] Tryz.f111 = some (ac111,[.tmp 4,.tmp 5],61) := by kernel_rfl
def nameA : Option (List UInt8 × Nat) → A
  | some (n, j) => .tup [.c (.d (.str n)), .c (.d (.int .i64 j))]
  | none => .tup [.c (.d (.str [])), .c (.d (.int .i64 (-1)))]
set_option maxHeartbeats 1600000 in
theorem name_calls (s : List UInt8) (hs : s.length ≤ 1000000) (i : Nat) (hi : i ≤ s.length) (H : Heap) : ACalls Tryz.prog 124 [.c (.d (.str s)), .c (.d (.int .i64 i))] H (fun r H' => H' = H ∧ r = nameA (nameR s i)) := by
  refine acalls Tryz.func124 (by kernel_rfl) ac124_ok fun hf => ?_
  have hli : inR .i64 (s.length : Int) := small_i64 (by omega) (by omega)
  simp -implicitDefEqProofs [ac124, go_sem, -List.set_cons_succ, -List.set_cons_zero]
  refine loop_set (σ := Nat) (fun k => [(6, .c (.d (.int .i64 ((i + k : Nat) : Int))))]) (fun _ => H) (fun _ => []) (fun k => i + k ≤ s.length ∧ ∀ m, m < k → smaAt s (i + m) = true) (fun k => s.length - (i + k)) 0 (by simp [setAll]) ⟨by omega, by simp⟩ ?_
  rintro k ⟨hkl, hkd⟩
  have hk1 : inR .i64 ((i : Int) + (k : Int) + 1) := small_i64 (by omega) (by omega)
  simp -implicitDefEqProofs [setAll, go_sem, -List.set_cons_succ, -List.set_cons_zero]
  have cd := small_calls s hs (i + k) (by omega)
  simp only [Int.natCast_add] at cd
  refine qcall_pure cd hf rfl ?_
  cases hsm : smaAt s (i + k) with
  | true =>
    have hlt := sma_lt _ hsm
    simp -implicitDefEqProofs [hk1, go_sem, -List.set_cons_succ, -List.set_cons_zero]
    exact loop_back (k + 1) (by simp [setAll, Int.add_assoc]) ⟨by omega, fun m hm => by
      rcases Nat.lt_or_ge m k with h | h
      · exact hkd m h
      · obtain rfl : m = k := by omega
        exact hsm⟩ (by show s.length - (i + (k + 1)) < s.length - (i + k); omega)
  | false =>
    have he : runE smaAt s s.length i = i + k := runE_stop s.length i k (by omega) hkd (.inr hsm)
    have hi6 : inR .i64 ((i : Int) + 6) := small_i64 (by omega) (by omega)
    unfold nameR
    rw [he]
    by_cases h6 : i + 6 < i + k
    · have h6' : (i : Int) + 6 < (i : Int) + k := by omega
      simp -implicitDefEqProofs [hi6, h6, h6', nameA, go_sem, -List.set_cons_succ, -List.set_cons_zero]
    · have h6' : ¬ (i : Int) + 6 < (i : Int) + k := by omega
      rw [if_neg h6]
      by_cases h0 : i < i + k
      · have h0' : (i : Int) < (i : Int) + k := by omega
        rw [if_pos h0]
        simp -implicitDefEqProofs [hi6, h6', h0', nameA, go_sem, -List.set_cons_succ, -List.set_cons_zero]
        have hnat : ((i : Int) + (k : Int)).toNat = i + k := by omega
        rw [hnat]
        exact ⟨by omega, rfl⟩
      · obtain rfl : k = 0 := by omega
        rw [if_neg h0]
        have h6n : ¬ (i : Int) + 6 < (i : Int) := by omega
        simp -implicitDefEqProofs [hi6, h6n, go_sem, -List.set_cons_succ, -List.set_cons_zero]
        refine qcall_pure l1Signs_calls hf rfl ?_
        simp -implicitDefEqProofs [go_sem, -List.set_cons_succ, -List.set_cons_zero]
        obtain ⟨G, hG⟩ : ∃ G, G = bestS s i signs [] := ⟨_, rfl⟩
        rw [← hG]
        have hsl : signs.length = 15 := rfl
        have hs15 : inR .i64 (15 : Int) := small_i64 (by omega) (by omega)
        refine loop_set (σ := Nat × List UInt8) (fun x => [(9, .c (.d (.int .i64 x.1))), (7, .c (.d (.str x.2)))]) (fun _ => H) (fun _ => []) (fun x => x.1 ≤ 15 ∧ bestS s i (signs.drop x.1) x.2 = G ∧ x.2.length ≤ 3) (fun x => 15 - x.1) (0, []) (by simp [setAll]) ⟨by omega, by rw [hG]; rfl, by simp⟩ ?_
        rintro ⟨j, b⟩ ⟨hj, h1, h2⟩
        simp only at hj h1 h2
        simp -implicitDefEqProofs [setAll, hsl, hs15, go_sem, -List.set_cons_succ, -List.set_cons_zero]
        refine ⟨fun hlt => ?_, fun hge => ?_⟩
        · have hlt' : j < signs.length := by rw [hsl]; omega
          have hd : signs.drop j = signs[j] :: signs.drop (j + 1) := List.drop_eq_getElem_cons hlt'
          rw [hd, bestS] at h1
          have h3 : signs[j].length ≤ 3 := by
            have : ∀ n ∈ signs, n.length ≤ 3 := by decide
            exact this _ (List.getElem_mem hlt')
          have hrow : (signs.map strRow)[j]? = some [.str signs[j]] := by simp [hlt', strRow]
          obtain ⟨w, hw⟩ : ∃ w, w = signs[j] := ⟨_, rfl⟩
          rw [← hw] at h1 h3 hrow
          have hwl : inR .i64 (w.length : Int) := small_i64 (by omega) (by omega)
          have hbl : inR .i64 (b.length : Int) := small_i64 (by omega) (by omega)
          have hiw : inR .i64 ((i : Int) + (w.length : Int)) := small_i64 (by omega) (by omega)
          have hadd : inR .i64 ((j : Int) + 1) := small_i64 (by omega) (by omega)
          have hnat : ((i : Int) + (w.length : Int)).toNat = i + w.length := by omega
          have hcut : (s.take (i + w.length)).drop i = cutS s i (i + w.length) := rfl
          refine row_nat _ hrow rfl ?_
          by_cases hle : i + w.length ≤ s.length
          · have hle' : (i : Int) + (w.length : Int) ≤ (s.length : Int) := by omega
            simp -implicitDefEqProofs [hwl, hiw, hli, hnat, hcut, hle', go_sem, -List.set_cons_succ, -List.set_cons_zero]
            refine ⟨by omega, row_nat _ hrow rfl ?_⟩
            cases heq : cutS s i (i + w.length) == w with
            | true =>
              by_cases hbw : b.length < w.length
              · have hbw' : (b.length : Int) < (w.length : Int) := by omega
                simp only [hle, hbw, heq, decide_true, Bool.and_self, if_true] at h1
                simp -implicitDefEqProofs [hbl, hbw', heq, go_sem, -List.set_cons_succ, -List.set_cons_zero]
                refine row_nat _ hrow rfl ?_
                simp -implicitDefEqProofs [hadd, go_sem, -List.set_cons_succ, -List.set_cons_zero]
                exact loop_back (j + 1, w) (by simp [setAll]) ⟨by omega, h1, h3⟩ (by show 15 - (j + 1) < 15 - j; omega)
              · have hbw' : ¬ (b.length : Int) < (w.length : Int) := by omega
                simp only [hle, hbw, heq, decide_true, decide_false, Bool.and_false, Bool.false_eq_true, if_false] at h1
                simp -implicitDefEqProofs [hbl, hbw', heq, hadd, go_sem, -List.set_cons_succ, -List.set_cons_zero]
                exact loop_back (j + 1, b) (by simp [setAll]) ⟨by omega, h1, h2⟩ (by show 15 - (j + 1) < 15 - j; omega)
            | false =>
              simp only [heq, Bool.and_false, Bool.false_and, Bool.false_eq_true, if_false] at h1
              simp -implicitDefEqProofs [hbl, heq, hadd, go_sem, -List.set_cons_succ, -List.set_cons_zero]
              exact loop_back (j + 1, b) (by simp [setAll]) ⟨by omega, h1, h2⟩ (by show 15 - (j + 1) < 15 - j; omega)
          · have hle' : ¬ (i : Int) + (w.length : Int) ≤ (s.length : Int) := by omega
            simp only [hle, decide_false, Bool.false_and, Bool.false_eq_true, if_false] at h1
            simp -implicitDefEqProofs [hwl, hiw, hli, hnat, hcut, hle', go_sem, -List.set_cons_succ, -List.set_cons_zero]
            refine row_off [.str []] ?_
            simp -implicitDefEqProofs [hbl, hadd, go_sem, -List.set_cons_succ, -List.set_cons_zero]
            exact loop_back (j + 1, b) (by simp [setAll]) ⟨by omega, h1, h2⟩ (by show 15 - (j + 1) < 15 - j; omega)
        · obtain rfl : j = 15 := by omega
          have h15 : signs.drop 15 = [] := rfl
          rw [h15, bestS] at h1
          subst h1
          have hbl : inR .i64 (b.length : Int) := small_i64 (by omega) (by omega)
          have hib : inR .i64 ((i : Int) + (b.length : Int)) := small_i64 (by omega) (by omega)
          cases hb : b with
          | nil => simp -implicitDefEqProofs [hb, nameA, go_sem, -List.set_cons_succ, -List.set_cons_zero]
          | cons c r =>
            rw [hb] at hbl hib
            simp at hbl hib
            simp -implicitDefEqProofs [hb, nameA, hbl, hib, go_sem, -List.set_cons_succ, -List.set_cons_zero]
/-- what an operator is told by -/
def opA (i : Nat) : Option (List UInt8 × Nat) → A
  | some (n, j) => .tup [.c (.d (.str n)), .c (.d (.int .i64 j))]
  | none => .tup [.c (.d (.str [])), .c (.d (.int .i64 i))]
set_option maxHeartbeats 1600000 in
theorem op_calls (s : List UInt8) (hs : s.length ≤ 1000000) (i : Nat) (hi : i ≤ s.length) (H : Heap) : ACalls Tryz.prog 111 [.c (.d (.str s)), .c (.d (.int .i64 i))] H (fun r H' => H' = H ∧ r = opA i (opR s i)) := by
  refine acalls Tryz.func111 (by kernel_rfl) ac111_ok fun hf => ?_
  have hli : inR .i64 (s.length : Int) := small_i64 (by omega) (by omega)
  have hi1 : inR .i64 ((i : Int) + 1) := small_i64 (by omega) (by omega)
  simp -implicitDefEqProofs [ac111, go_sem, -List.set_cons_succ, -List.set_cons_zero]
  refine qcall_pure (sign_calls s hs i (by omega) 32) hf rfl ?_
  unfold opR
  cases hsg : sgn s i 32 with
  | true =>
    have hlt := sgn_lt hsg
    simp -implicitDefEqProofs [hi1, hli, go_sem, -List.set_cons_succ, -List.set_cons_zero]
    refine ⟨fun h => ?_, fun h => ?_⟩
    · have h' : s.length ≤ i + 1 := by omega
      simp -implicitDefEqProofs [h', opA, go_sem, -List.set_cons_succ, -List.set_cons_zero]
    have hP : ¬ s.length ≤ i + 1 := by omega
    have cn := name_calls s hs (i + 1) (by omega)
    try simp only [Int.natCast_add, Int.cast_ofNat_Int] at cn
    rw [if_neg hP]
    cases hn : nameR s (i + 1) with
    | none =>
      rw [hn] at cn
      refine qcall_pure cn hf rfl ?_
      simp -implicitDefEqProofs [nameA, opA, go_sem, -List.set_cons_succ, -List.set_cons_zero]
    | some q =>
      obtain ⟨w, j⟩ := q
      rw [hn] at cn
      have ho := nameR_ok (by omega) hn
      have hj1 : inR .i64 ((j : Int) + 1) := small_i64 (by omega) (by omega)
      have hj0 : ¬ (j : Int) < 0 := by omega
      refine qcall_pure cn hf rfl ?_
      simp -implicitDefEqProofs [nameA, hj0, go_sem, -List.set_cons_succ, -List.set_cons_zero]
      refine qcall_pure (level_calls w) hf rfl ?_
      by_cases hl : levelN w = 0
      · simp -implicitDefEqProofs [hl, opA, go_sem, -List.set_cons_succ, -List.set_cons_zero]
      · have hl' : (levelN w == 0) = false := by simp [hl]
        have hii : (i : Int) < (i : Int) + 1 := by omega
        have cs := sign_calls s hs j (by omega) 32
        by_cases e1 : w = [105, 115]
        · subst e1
          have hwb : wordB [105, 115] = true := rfl
          simp -implicitDefEqProofs [hl, hl', hii, hwb, go_sem, -List.set_cons_succ, -List.set_cons_zero]
          refine qcall_pure cs hf rfl ?_
          cases hs2 : sgn s j 32 <;> simp -implicitDefEqProofs [opA, hj1, hf, go_sem, -List.set_cons_succ, -List.set_cons_zero]
        · by_cases e2 : w = [109, 111, 100]
          · subst e2
            have hwb : wordB [109, 111, 100] = true := rfl
            simp -implicitDefEqProofs [hl, hl', hii, hwb, go_sem, -List.set_cons_succ, -List.set_cons_zero]
            refine qcall_pure cs hf rfl ?_
            cases hs2 : sgn s j 32 <;> simp -implicitDefEqProofs [opA, hj1, hf, go_sem, -List.set_cons_succ, -List.set_cons_zero]
          · have hwb : wordB w = false := by simp [wordB, e1, e2]
            have e1' : (w == [105, 115]) = false := by simp [e1]
            have e2' : (w == [109, 111, 100]) = false := by simp [e2]
            simp -implicitDefEqProofs [hl, hl', hii, hwb, e1, e2, e1', e2', opA, hf, go_sem, -List.set_cons_succ, -List.set_cons_zero]
  | false =>
    simp -implicitDefEqProofs [hi1, hli, go_sem, -List.set_cons_succ, -List.set_cons_zero]
    refine ⟨fun h => ?_, fun h => ?_⟩
    · have h' : s.length ≤ i := by omega
      simp -implicitDefEqProofs [h', opA, go_sem, -List.set_cons_succ, -List.set_cons_zero]
    have hP : ¬ s.length ≤ i := by omega
    have cn := name_calls s hs (i) (by omega)
    try simp only [Int.natCast_add, Int.cast_ofNat_Int] at cn
    rw [if_neg hP]
    cases hn : nameR s (i) with
    | none =>
      rw [hn] at cn
      refine qcall_pure cn hf rfl ?_
      simp -implicitDefEqProofs [nameA, opA, go_sem, -List.set_cons_succ, -List.set_cons_zero]
    | some q =>
      obtain ⟨w, j⟩ := q
      rw [hn] at cn
      have ho := nameR_ok (by omega) hn
      have hj1 : inR .i64 ((j : Int) + 1) := small_i64 (by omega) (by omega)
      have hj0 : ¬ (j : Int) < 0 := by omega
      refine qcall_pure cn hf rfl ?_
      simp -implicitDefEqProofs [nameA, hj0, go_sem, -List.set_cons_succ, -List.set_cons_zero]
      refine qcall_pure (level_calls w) hf rfl ?_
      by_cases hl : levelN w = 0
      · simp -implicitDefEqProofs [hl, opA, go_sem, -List.set_cons_succ, -List.set_cons_zero]
      · have hl' : (levelN w == 0) = false := by simp [hl]
        have hii : (i : Int) < (i : Int) + 1 := by omega
        have cs := sign_calls s hs j (by omega) 32
        by_cases e1 : w = [105, 115]
        · subst e1
          have hwb : wordB [105, 115] = true := rfl
          simp -implicitDefEqProofs [hl, hl', hii, hwb, go_sem, -List.set_cons_succ, -List.set_cons_zero]
          simp -implicitDefEqProofs [opA, hf, go_sem, -List.set_cons_succ, -List.set_cons_zero]
        · by_cases e2 : w = [109, 111, 100]
          · subst e2
            have hwb : wordB [109, 111, 100] = true := rfl
            simp -implicitDefEqProofs [hl, hl', hii, hwb, go_sem, -List.set_cons_succ, -List.set_cons_zero]
            simp -implicitDefEqProofs [opA, hf, go_sem, -List.set_cons_succ, -List.set_cons_zero]
          · have hwb : wordB w = false := by simp [wordB, e1, e2]
            have e1' : (w == [105, 115]) = false := by simp [e1]
            have e2' : (w == [109, 111, 100]) = false := by simp [e2]
            simp -implicitDefEqProofs [hl, hl', hii, hwb, e1, e2, e1', e2', opA, hf, go_sem, -List.set_cons_succ, -List.set_cons_zero]
-- 120 loop.example/prologserver/spec.l2Fails params 1 ntmps 7
def ac120 : Cd := .seq (.region [oc 2 (.alloc [(.d (.int .i64 0)),(.d (.int .i64 0)),(.d (.str [])),(.full [])]),
 oc 3 (.mv (ki 0))] [3])
 (.seq (.region [oc 4 (.build [(.d (.int .i64 0)),(.d (.int .i64 0)),(.d (.str [])),(.full [])] []),
 oa 5 0,
 oc 6 (.bin .sub (ki (-1)) (.t 5)),
 ⟨none,.store 4 (.t 2) (.t 4),none⟩,
 oa 3 6] [0,4,5,6])
 (.ret))
theorem ac120_ok : cFunc Tryz.prog [] [(0,[3],[]),(1,[0,4,5,6],[])] Tryz.f120 = some (ac120,[.cell 2 (some 4),.tmp 3],7) := by kernel_rfl
-- 125 loop.example/prologserver/spec.l2Terms params 5 ntmps 50
-- loop head live: [0,1,2,3,4,12]
def ac125 : Cd := .seq (.region [oc 10 (.mv (.k (.c (.full [])))),
 oc 11 (.mv (ki 0))] [10,11])
 (.seq (.region [oc 15 (.buildSlice 4 0 [(.int .i64 0),(.int .i64 0),(.str []),(.sl [])] []),
 oa 12 15] [15])
 (.block 0 (.loop (.block 1 (.seq (.region [oa 17 0,
 oa 18 1,
 oa 19 2,
 oc 20 (.qcall 91 [(.t 17),(.t 18),(.t 19),(ki 3)]),
 oa 16 20,
 oc 21 (.extract 0 (.t 16)),
 oc 22 (.extract 1 (.t 16)),
 oc 13 (.alloc [(.d (.int .i64 0)),(.d (.int .i64 0)),(.d (.str [])),(.full [])]),
 ⟨none,.store 4 (.t 13) (.t 21),none⟩,
 oa 14 22] [1,16,17,18,19,20,21,22])
 (.seq (.seq (.region [oa 23 14,
 oc 24 (.bin .lss (.t 23) (ki 0))] [23])
 (.cond (.t 24)
 (.seq (.region [oa 25 14,
 oc 10 (.mv (.k (.c (.full [])))),
 oa 11 25] [0,2,3,4,12,13,14,24,25])
 (.ret))
 (.skip)))
 (.seq (.region [oa 26 12,
 oc 27 (.load (some 4) (.t 13)),
 oc 28 (.buildSlice 4 1 [(.int .i64 0),(.int .i64 0),(.str []),(.sl [])] [(0,(.t 27))]),
 oc 29 (.append false 4 (.t 26) (.t 28)),
 oa 12 29] [10,11,13,24,26,27,28,29])
 (.seq (.seq (.region [oa 30 0,
 oa 31 14,
 oa 32 3,
 oc 33 (.qcall 92 [(.t 30),(.t 31),(.t 32)]),
 oa 34 33,
 ⟨some 35,.mv (.t 0),some (34,false)⟩,
 ⟨some 36,.mv (.t 14),some (34,false)⟩,
 ⟨some 37,.mv (.t 4),some (34,false)⟩,
 ⟨some 38,.qcall 92 [(.t 35),(.t 36),(.t 37)],some (34,false)⟩,
 oc 39 (.pick (.t 34) (.k (.c (.d (.bool true)))) (.t 38))] [30,31,32,33,34,35,36,37,38])
 (.cond (.t 39)
 (.seq (.region [oa 40 12,
 oa 41 14,
 oa 10 40,
 oa 11 41] [0,2,3,4,12,14,39,40,41])
 (.ret))
 (.skip)))
 (.seq (.seq (.region [oa 42 0,
 oa 43 14,
 oc 44 (.qcall 92 [(.t 42),(.t 43),(.k (.c (.d (.int .u8 44))))]),
 oc 45 (.un .not (.t 44))] [10,11,39,42,43,44])
 (.cond (.t 45)
 (.seq (.region [oa 46 14,
 oc 47 (.bin .sub (ki (-1)) (.t 46)),
 oc 10 (.mv (.k (.c (.full [])))),
 oa 11 47] [0,2,3,4,12,14,45,46,47])
 (.ret))
 (.skip)))
 (.region [oa 48 14,
 oc 49 (.bin .add (.t 48) (ki 1)),
 oa 1 49] [10,11,14,45,48,49]))))))))))
theorem ac125_ok : cFunc Tryz.prog [1000091,1000092] [(0,[10,11],[]),(1,[15],[]),(2,[1,16,17,18,19,20,21,22],[]),(3,[23],[]),(4,[0,2,3,4,12,13,14,24,25],[]),(5,[10,11,13,24,26,27,28,29],[]),(6,[30,31,32,33,34,35,36,37,38],[]),(7,[0,2,3,4,12,14,39,40,41],[]),(8,[10,11,39,42,43,44],[]),(9,[0,2,3,4,12,14,45,46,47],[]),(10,[10,11,14,45,48,49],[])] Tryz.f125 = some (ac125,[.tmp 10,.tmp 11],50) := by kernel_rfl
-- 121 loop.example/prologserver/spec.l2Items params 3 ntmps 56
def ac121 : Cd := .seq (.region [oc 6 (.alloc [(.d (.int .i64 0)),(.d (.int .i64 0)),(.d (.str [])),(.full [])]),
 oc 7 (.mv (ki 0))] [7])
 (.seq (.region [oa 13 0,
 oa 14 1,
 oa 15 2,
 oc 16 (.qcall 125 [(.t 13),(.t 14),(.t 15),(.k (.c (.d (.int .u8 93)))),(.k (.c (.d (.int .u8 124))))]),
 oa 12 16,
 oc 17 (.extract 0 (.t 12)),
 oc 18 (.extract 1 (.t 12)),
 oa 8 17,
 oa 9 18] [1,12,13,14,15,16,17,18])
 (.seq (.seq (.region [oa 19 9,
 oc 20 (.bin .lss (.t 19) (ki 0))] [19])
 (.cond (.t 20)
 (.seq (.region [oc 21 (.build [(.d (.int .i64 0)),(.d (.int .i64 0)),(.d (.str [])),(.full [])] []),
 oa 22 9,
 ⟨none,.store 4 (.t 6) (.t 21),none⟩,
 oa 7 22] [0,2,8,9,20,21,22])
 (.ret))
 (.skip)))
 (.seq (.seq (.region [oa 23 0,
 oa 24 9,
 oc 25 (.qcall 92 [(.t 23),(.t 24),(.k (.c (.d (.int .u8 93))))])] [7,20,23,24])
 (.cond (.t 25)
 (.seq (.region [oa 26 8,
 oc 27 (.qcall 35 [(.k (.c (.d (.str [91,93])))),(.k (.c (.full [])))]),
 oc 28 (.qcall 132 [(.t 26),(.t 27)]),
 oa 29 9,
 oc 30 (.bin .add (.t 29) (ki 1)),
 ⟨none,.store 4 (.t 6) (.t 28),none⟩,
 oa 7 30] [0,2,8,9,25,26,27,28,29,30])
 (.ret))
 (.skip)))
 (.seq (.region [oa 32 0,
 oa 33 9,
 oc 34 (.bin .add (.t 33) (ki 1)),
 oa 35 2,
 oc 36 (.qcall 91 [(.t 32),(.t 34),(.t 35),(ki 3)]),
 oa 31 36,
 oc 37 (.extract 0 (.t 31)),
 oc 38 (.extract 1 (.t 31)),
 oc 10 (.alloc [(.d (.int .i64 0)),(.d (.int .i64 0)),(.d (.str [])),(.full [])]),
 ⟨none,.store 4 (.t 10) (.t 37),none⟩,
 oa 11 38] [2,7,9,25,31,32,33,34,35,36,37,38])
 (.seq (.seq (.region [oa 39 11,
 oc 40 (.bin .lss (.t 39) (ki 0))] [39])
 (.cond (.t 40)
 (.seq (.region [oc 41 (.build [(.d (.int .i64 0)),(.d (.int .i64 0)),(.d (.str [])),(.full [])] []),
 oa 42 11,
 ⟨none,.store 4 (.t 6) (.t 41),none⟩,
 oa 7 42] [0,8,10,11,40,41,42])
 (.ret))
 (.skip)))
 (.seq (.seq (.region [oa 43 0,
 oa 44 11,
 oc 45 (.qcall 92 [(.t 43),(.t 44),(.k (.c (.d (.int .u8 93))))]),
 oc 46 (.un .not (.t 45))] [0,7,40,43,44,45])
 (.cond (.t 46)
 (.seq (.region [oa 47 11,
 oc 48 (.qcall 120 [(.t 47)]),
 oc 49 (.extract 0 (.t 48)),
 oc 50 (.extract 1 (.t 48)),
 ⟨none,.store 4 (.t 6) (.t 49),none⟩,
 oa 7 50] [8,10,11,46,47,48,49,50])
 (.ret))
 (.skip)))
 (.seq (.region [oa 51 8,
 oc 52 (.load (some 4) (.t 10)),
 oc 53 (.qcall 132 [(.t 51),(.t 52)]),
 oa 54 11,
 oc 55 (.bin .add (.t 54) (ki 1)),
 ⟨none,.store 4 (.t 6) (.t 53),none⟩,
 oa 7 55] [8,10,11,46,51,52,53,54,55])
 (.ret))))))))
theorem ac121_ok : cFunc Tryz.prog [1000035,1000091,1000092,1000120,1000125,1000132] [(0,[7],[]),(1,[1,12,13,14,15,16,17,18],[]),(2,[19],[]),(3,[0,2,8,9,20,21,22],[]),(4,[7,20,23,24],[]),(5,[0,2,8,9,25,26,27,28,29,30],[]),(6,[2,7,9,25,31,32,33,34,35,36,37,38],[]),(7,[39],[]),(8,[0,8,10,11,40,41,42],[]),(9,[0,7,40,43,44,45],[]),(10,[8,10,11,46,47,48,49,50],[]),(11,[8,10,11,46,51,52,53,54,55],[])] Tryz.f121 = some (ac121,[.cell 6 (some 4),.tmp 7],56) := by kernel_rfl
-- 110 loop.example/prologserver/spec.l2Prime params 3 ntmps 158
def ac110 : Cd := .seq (.region [oc 6 (.alloc [(.d (.int .i64 0)),(.d (.int .i64 0)),(.d (.str [])),(.full [])]),
 oc 7 (.mv (ki 0))] [7])
 (.seq (.seq (.region [oa 16 2,
 oc 17 (.bin .lss (.t 16) (ki 1)),
 oa 18 17,
 ⟨some 19,.mv (.t 1),some (18,false)⟩,
 ⟨some 20,.mv (.t 0),some (18,false)⟩,
 ⟨some 21,.len 0 (.t 20),some (18,false)⟩,
 ⟨some 22,.bin .geq (.t 19) (.t 21),some (18,false)⟩,
 oc 23 (.pick (.t 18) (.k (.c (.d (.bool true)))) (.t 22))] [16,17,18,19,20,21,22])
 (.cond (.t 23)
 (.seq (.region [oa 24 1,
 oc 25 (.qcall 120 [(.t 24)]),
 oc 26 (.extract 0 (.t 25)),
 oc 27 (.extract 1 (.t 25)),
 ⟨none,.store 4 (.t 6) (.t 26),none⟩,
 oa 7 27] [0,1,2,23,24,25,26,27])
 (.ret))
 (.skip)))
 (.seq (.seq (.region [oa 28 0,
 oa 29 1,
 oc 30 (.index (.t 28) (.t 29)),
 oc 31 (.bin .eql (.t 30) (.k (.c (.d (.int .u8 40)))))] [7,23,28,29,30])
 (.cond (.t 31)
 (.seq (.region [oa 33 0,
 oa 34 1,
 oc 35 (.bin .add (.t 34) (ki 1)),
 oa 36 2,
 oc 37 (.qcall 91 [(.t 33),(.t 35),(.t 36),(ki 3)]),
 oa 32 37,
 oc 38 (.extract 0 (.t 32)),
 oc 39 (.extract 1 (.t 32)),
 oc 8 (.alloc [(.d (.int .i64 0)),(.d (.int .i64 0)),(.d (.str [])),(.full [])]),
 ⟨none,.store 4 (.t 8) (.t 38),none⟩,
 oa 9 39] [1,2,31,32,33,34,35,36,37,38,39])
 (.seq (.seq (.region [oa 40 9,
 oc 41 (.bin .lss (.t 40) (ki 0))] [40])
 (.cond (.t 41)
 (.seq (.region [oc 42 (.build [(.d (.int .i64 0)),(.d (.int .i64 0)),(.d (.str [])),(.full [])] []),
 oa 43 9,
 ⟨none,.store 4 (.t 6) (.t 42),none⟩,
 oa 7 43] [0,8,9,41,42,43])
 (.ret))
 (.skip)))
 (.seq (.seq (.region [oa 44 0,
 oa 45 9,
 oc 46 (.qcall 92 [(.t 44),(.t 45),(.k (.c (.d (.int .u8 41))))]),
 oc 47 (.un .not (.t 46))] [0,7,41,44,45,46])
 (.cond (.t 47)
 (.seq (.region [oa 48 9,
 oc 49 (.qcall 120 [(.t 48)]),
 oc 50 (.extract 0 (.t 49)),
 oc 51 (.extract 1 (.t 49)),
 ⟨none,.store 4 (.t 6) (.t 50),none⟩,
 oa 7 51] [8,9,47,48,49,50,51])
 (.ret))
 (.skip)))
 (.seq (.region [oc 52 (.load (some 4) (.t 8)),
 oa 53 9,
 oc 54 (.bin .add (.t 53) (ki 1)),
 ⟨none,.store 4 (.t 6) (.t 52),none⟩,
 oa 7 54] [8,9,47,52,53,54])
 (.ret)))))
 (.skip)))
 (.seq (.seq (.region [oa 55 0,
 oa 56 1,
 oc 57 (.index (.t 55) (.t 56)),
 oc 58 (.bin .eql (.t 57) (.k (.c (.d (.int .u8 91))))),
 oa 59 58,
 ⟨some 60,.mv (.t 0),some (59,true)⟩,
 ⟨some 61,.mv (.t 1),some (59,true)⟩,
 ⟨some 62,.bin .add (.t 61) (ki 1),some (59,true)⟩,
 ⟨some 63,.qcall 92 [(.t 60),(.t 62),(.k (.c (.d (.int .u8 93))))],some (59,true)⟩,
 ⟨some 64,.un .not (.t 63),some (59,true)⟩,
 oc 65 (.pick (.t 59) (.t 64) (.k (.c (.d (.bool false)))))] [7,31,55,56,57,58,59,60,61,62,63,64])
 (.cond (.t 65)
 (.seq (.region [oa 66 0,
 oa 67 1,
 oc 68 (.bin .add (.t 67) (ki 1)),
 oa 69 2,
 oc 70 (.bin .sub (.t 69) (ki 1)),
 oc 71 (.qcall 121 [(.t 66),(.t 68),(.t 70)]),
 oc 72 (.extract 0 (.t 71)),
 oc 73 (.extract 1 (.t 71)),
 ⟨none,.store 4 (.t 6) (.t 72),none⟩,
 oa 7 73] [0,1,2,65,66,67,68,69,70,71,72,73])
 (.ret))
 (.skip)))
 (.seq (.seq (.region [oa 74 0,
 oa 75 1,
 oc 76 (.index (.t 74) (.t 75)),
 oc 77 (.bin .geq (.t 76) (.k (.c (.d (.int .u8 65))))),
 oa 78 77,
 ⟨some 79,.mv (.t 0),some (78,true)⟩,
 ⟨some 80,.mv (.t 1),some (78,true)⟩,
 ⟨some 81,.index (.t 79) (.t 80),some (78,true)⟩,
 ⟨some 82,.bin .leq (.t 81) (.k (.c (.d (.int .u8 90)))),some (78,true)⟩,
 oc 83 (.pick (.t 78) (.t 82) (.k (.c (.d (.bool false)))))] [7,65,74,75,76,77,78,79,80,81,82])
 (.cond (.t 83)
 (.seq (.region [oa 84 0,
 oa 85 1,
 oc 86 (.index (.t 84) (.t 85)),
 oc 87 (.bin .sub (.t 86) (.k (.c (.d (.int .u8 65))))),
 oc 88 (.cvInt .i64 (.t 87)),
 oc 89 (.qcall 36 [(.t 88)]),
 oa 90 1,
 oc 91 (.bin .add (.t 90) (ki 1)),
 ⟨none,.store 4 (.t 6) (.t 89),none⟩,
 oa 7 91] [0,1,2,83,84,85,86,87,88,89,90,91])
 (.ret))
 (.skip)))
 (.seq (.seq (.region [oa 92 0,
 oa 93 1,
 oc 94 (.qcall 122 [(.t 92),(.t 93)]),
 oa 95 94,
 ⟨some 96,.mv (.t 0),some (95,false)⟩,
 ⟨some 97,.mv (.t 1),some (95,false)⟩,
 ⟨some 98,.index (.t 96) (.t 97),some (95,false)⟩,
 ⟨some 99,.bin .eql (.t 98) (.k (.c (.d (.int .u8 45)))),some (95,false)⟩,
 ⟨some 100,.mv (.t 99),some (95,false)⟩,
 ⟨some 101,.mv (.t 0),some (100,true)⟩,
 ⟨some 102,.mv (.t 1),some (100,true)⟩,
 ⟨some 103,.bin .add (.t 102) (ki 1),some (100,true)⟩,
 ⟨some 104,.qcall 122 [(.t 101),(.t 103)],some (100,true)⟩,
 ⟨some 105,.pick (.t 100) (.t 104) (.k (.c (.d (.bool false)))),some (95,false)⟩,
 oc 106 (.pick (.t 95) (.k (.c (.d (.bool true)))) (.t 105))] [7,83,92,93,94,95,96,97,98,99,100,101,102,103,104,105])
 (.cond (.t 106)
 (.seq (.region [oa 108 0,
 oa 109 1,
 oc 110 (.qcall 123 [(.t 108),(.t 109)]),
 oa 107 110,
 oc 111 (.extract 0 (.t 107)),
 oc 112 (.extract 1 (.t 107)),
 oc 10 (.alloc [(.d (.int .i64 0)),(.d (.int .i64 0)),(.d (.str [])),(.full [])]),
 ⟨none,.store 4 (.t 10) (.t 111),none⟩,
 oa 11 112] [0,2,106,107,108,109,110,111,112])
 (.seq (.seq (.region [oa 113 11,
 oc 114 (.bin .lss (.t 113) (ki 0))] [113])
 (.cond (.t 114)
 (.seq (.region [oa 115 1,
 oc 116 (.qcall 120 [(.t 115)]),
 oc 117 (.extract 0 (.t 116)),
 oc 118 (.extract 1 (.t 116)),
 ⟨none,.store 4 (.t 6) (.t 117),none⟩,
 oa 7 118] [1,10,11,114,115,116,117,118])
 (.ret))
 (.skip)))
 (.seq (.region [oc 119 (.load (some 4) (.t 10)),
 oa 120 11,
 ⟨none,.store 4 (.t 6) (.t 119),none⟩,
 oa 7 120] [1,10,11,114,119,120])
 (.ret))))
 (.skip)))
 (.seq (.region [oa 122 0,
 oa 123 1,
 oc 124 (.qcall 124 [(.t 122),(.t 123)]),
 oa 121 124,
 oc 125 (.extract 0 (.t 121)),
 oc 126 (.extract 1 (.t 121)),
 oa 12 125,
 oa 13 126] [7,106,121,122,123,124,125,126])
 (.seq (.seq (.region [oa 127 13,
 oc 128 (.bin .lss (.t 127) (ki 0))] [127])
 (.cond (.t 128)
 (.seq (.region [oa 129 1,
 oc 130 (.qcall 120 [(.t 129)]),
 oc 131 (.extract 0 (.t 130)),
 oc 132 (.extract 1 (.t 130)),
 ⟨none,.store 4 (.t 6) (.t 131),none⟩,
 oa 7 132] [0,1,2,12,13,128,129,130,131,132])
 (.ret))
 (.skip)))
 (.seq (.seq (.region [oa 133 0,
 oa 134 13,
 oc 135 (.qcall 92 [(.t 133),(.t 134),(.k (.c (.d (.int .u8 40))))]),
 oc 136 (.un .not (.t 135))] [1,7,128,133,134,135])
 (.cond (.t 136)
 (.seq (.region [oa 137 12,
 oc 138 (.qcall 35 [(.t 137),(.k (.c (.full [])))]),
 oa 139 13,
 ⟨none,.store 4 (.t 6) (.t 138),none⟩,
 oa 7 139] [0,2,12,13,136,137,138,139])
 (.ret))
 (.skip)))
 (.seq (.region [oa 141 0,
 oa 142 13,
 oc 143 (.bin .add (.t 142) (ki 1)),
 oa 144 2,
 oc 145 (.bin .sub (.t 144) (ki 1)),
 oc 146 (.qcall 125 [(.t 141),(.t 143),(.t 145),(.k (.c (.d (.int .u8 41)))),(.k (.c (.d (.int .u8 41))))]),
 oa 140 146,
 oc 147 (.extract 0 (.t 140)),
 oc 148 (.extract 1 (.t 140)),
 oa 14 147,
 oa 15 148] [0,2,7,13,136,140,141,142,143,144,145,146,147,148])
 (.seq (.seq (.region [oa 149 15,
 oc 150 (.bin .lss (.t 149) (ki 0))] [149])
 (.cond (.t 150)
 (.seq (.region [oc 151 (.build [(.d (.int .i64 0)),(.d (.int .i64 0)),(.d (.str [])),(.full [])] []),
 oa 152 15,
 ⟨none,.store 4 (.t 6) (.t 151),none⟩,
 oa 7 152] [12,14,15,150,151,152])
 (.ret))
 (.skip)))
 (.seq (.region [oa 153 12,
 oa 154 14,
 oc 155 (.build [(.d (.int .i64 0)),(.d (.int .i64 0)),(.d (.str [])),(.full [])] [(0,1,(ki 3)),(2,1,(.t 153)),(3,1,(.t 154))]),
 oa 156 15,
 oc 157 (.bin .add (.t 156) (ki 1)),
 ⟨none,.store 4 (.t 6) (.t 155),none⟩,
 oa 7 157] [12,14,15,150,153,154,155,156,157])
 (.ret))))))))))))
theorem ac110_ok : cFunc Tryz.prog [1000035,1000036,1000091,1000092,1000120,1000121,1000122,1000123,1000124,1000125] [(0,[7],[]),(1,[16,17,18,19,20,21,22],[]),(2,[0,1,2,23,24,25,26,27],[]),(3,[7,23,28,29,30],[]),(4,[1,2,31,32,33,34,35,36,37,38,39],[]),(5,[40],[]),(6,[0,8,9,41,42,43],[]),(7,[0,7,41,44,45,46],[]),(8,[8,9,47,48,49,50,51],[]),(9,[8,9,47,52,53,54],[]),(10,[7,31,55,56,57,58,59,60,61,62,63,64],[]),(11,[0,1,2,65,66,67,68,69,70,71,72,73],[]),(12,[7,65,74,75,76,77,78,79,80,81,82],[]),(13,[0,1,2,83,84,85,86,87,88,89,90,91],[]),(14,[7,83,92,93,94,95,96,97,98,99,100,101,102,103,104,105],[]),(15,[0,2,106,107,108,109,110,111,112],[]),(16,[113],[]),(17,[1,10,11,114,115,116,117,118],[]),(18,[1,10,11,114,119,120],[]),(19,[7,106,121,122,123,124,125,126],[]),(20,[127],[]),(21,[0,1,2,12,13,128,129,130,131,132],[]),(22,[1,7,128,133,134,135],[]),(23,[0,2,12,13,136,137,138,139],[]),(24,[0,2,7,13,136,140,141,142,143,144,145,146,147,148],[]),(25,[149],[]),(26,[12,14,15,150,151,152],[]),(27,[12,14,15,150,153,154,155,156,157],[])] Tryz.f110 = some (ac110,[.cell 6 (some 4),.tmp 7],158) := by kernel_rfl
-- 91 loop.example/prologserver/spec.l2Read params 4 ntmps 76
-- loop head live: [0,2,3,8,10,11]
def ac91 : Cd := .seq (.region [oc 8 (.alloc [(.d (.int .i64 0)),(.d (.int .i64 0)),(.d (.str [])),(.full [])]),
 oc 9 (.mv (ki 0))] [9])
 (.seq (.seq (.region [oa 16 3,
 oc 17 (.bin .eql (.t 16) (ki 0))] [16])
 (.cond (.t 17)
 (.seq (.region [oa 18 0,
 oa 19 1,
 oa 20 2,
 oc 21 (.qcall 110 [(.t 18),(.t 19),(.t 20)]),
 oc 22 (.extract 0 (.t 21)),
 oc 23 (.extract 1 (.t 21)),
 ⟨none,.store 4 (.t 8) (.t 22),none⟩,
 oa 9 23] [0,1,2,3,17,18,19,20,21,22,23])
 (.ret))
 (.skip)))
 (.seq (.region [oa 25 0,
 oa 26 1,
 oa 27 2,
 oa 28 3,
 oc 29 (.bin .sub (.t 28) (ki 1)),
 oc 30 (.qcall 91 [(.t 25),(.t 26),(.t 27),(.t 29)]),
 oa 24 30,
 oc 31 (.extract 0 (.t 24)),
 oc 32 (.extract 1 (.t 24)),
 oc 10 (.alloc [(.d (.int .i64 0)),(.d (.int .i64 0)),(.d (.str [])),(.full [])]),
 ⟨none,.store 4 (.t 10) (.t 31),none⟩,
 oa 11 32] [1,9,17,24,25,26,27,28,29,30,31,32])
 (.seq (.block 0 (.loop (.seq (.seq (.region [oa 33 11,
 oc 34 (.bin .geq (.t 33) (ki 0))] [33])
 (.cond (.t 34)
 (.skip)
 (.exit 0)))
 (.block 1 (.seq (.region [oa 36 0,
 oa 37 11,
 oc 38 (.qcall 111 [(.t 36),(.t 37)]),
 oa 35 38,
 oc 39 (.extract 0 (.t 35)),
 oc 40 (.extract 1 (.t 35)),
 oa 12 39,
 oa 13 40] [34,35,36,37,38,39,40])
 (.seq (.seq (.region [oa 41 12,
 oc 42 (.bin .eql (.t 41) (.k (.c (.d (.str []))))),
 oa 43 42,
 ⟨some 44,.mv (.t 12),some (43,false)⟩,
 ⟨some 45,.qcall 50 [(.t 44)],some (43,false)⟩,
 ⟨some 46,.mv (.t 3),some (43,false)⟩,
 ⟨some 47,.bin .neq (.t 45) (.t 46),some (43,false)⟩,
 oc 48 (.pick (.t 43) (.k (.c (.d (.bool true)))) (.t 47))] [41,42,43,44,45,46,47])
 (.cond (.t 48)
 (.seq (.region [oc 49 (.load (some 4) (.t 10)),
 oa 50 11,
 ⟨none,.store 4 (.t 8) (.t 49),none⟩,
 oa 9 50] [0,2,3,10,11,12,13,48,49,50])
 (.ret))
 (.skip)))
 (.seq (.region [oa 52 0,
 oa 53 13,
 oa 54 2,
 oa 55 3,
 oc 56 (.bin .sub (.t 55) (ki 1)),
 oc 57 (.qcall 91 [(.t 52),(.t 53),(.t 54),(.t 56)]),
 oa 51 57,
 oc 58 (.extract 0 (.t 51)),
 oc 59 (.extract 1 (.t 51)),
 oc 14 (.alloc [(.d (.int .i64 0)),(.d (.int .i64 0)),(.d (.str [])),(.full [])]),
 ⟨none,.store 4 (.t 14) (.t 58),none⟩,
 oa 15 59] [9,11,13,48,51,52,53,54,55,56,57,58,59])
 (.seq (.seq (.region [oa 60 15,
 oc 61 (.bin .lss (.t 60) (ki 0))] [60])
 (.cond (.t 61)
 (.seq (.region [oc 62 (.build [(.d (.int .i64 0)),(.d (.int .i64 0)),(.d (.str [])),(.full [])] []),
 oa 63 15,
 ⟨none,.store 4 (.t 8) (.t 62),none⟩,
 oa 9 63] [0,2,3,10,12,14,15,61,62,63])
 (.ret))
 (.skip)))
 (.seq (.region [oa 64 12,
 oc 65 (.load (some 4) (.t 10)),
 oc 66 (.load (some 4) (.t 14)),
 oc 67 (.buildSlice 4 2 [(.int .i64 0),(.int .i64 0),(.str []),(.sl [])] [(0,(.t 65)),(1,(.t 66))]),
 oc 68 (.qcall 35 [(.t 64),(.t 67)]),
 ⟨none,.store 4 (.t 10) (.t 68),none⟩] [9,12,14,61,64,65,66,67,68])
 (.seq (.region [oa 69 15,
 oa 11 69] [15,69])
 (.seq (.region [oa 70 3,
 oc 71 (.bin .eql (.t 70) (ki 3))] [70])
 (.cond (.t 71)
 (.seq (.region [oc 72 (.load (some 4) (.t 10)),
 oa 73 11,
 ⟨none,.store 4 (.t 8) (.t 72),none⟩,
 oa 9 73] [0,2,3,10,11,71,72,73])
 (.ret))
 (.skip)))))))))))))
 (.seq (.region [oc 74 (.build [(.d (.int .i64 0)),(.d (.int .i64 0)),(.d (.str [])),(.full [])] []),
 oa 75 11,
 ⟨none,.store 4 (.t 8) (.t 74),none⟩,
 oa 9 75] [11,74,75])
 (.ret)))))
theorem ac91_ok : cFunc Tryz.prog [1000035,1000050,1000091,1000110,1000111] [(0,[9],[]),(1,[16],[]),(2,[0,1,2,3,17,18,19,20,21,22,23],[]),(3,[1,9,17,24,25,26,27,28,29,30,31,32],[]),(4,[33],[]),(5,[34,35,36,37,38,39,40],[]),(6,[41,42,43,44,45,46,47],[]),(7,[0,2,3,10,11,12,13,48,49,50],[]),(8,[9,11,13,48,51,52,53,54,55,56,57,58,59],[]),(9,[60],[]),(10,[0,2,3,10,12,14,15,61,62,63],[]),(11,[9,12,14,61,64,65,66,67,68],[]),(12,[15,69],[]),(13,[70],[]),(14,[0,2,3,10,11,71,72,73],[]),(15,[11,74,75],[])] Tryz.f91 = some (ac91,[.cell 8 (some 4),.tmp 9],76) := by kernel_rfl
theorem fails_calls (i : Nat) (hi : i ≤ 2000000) (H : Heap) : ACalls Tryz.prog 120 [.c (.d (.int .i64 i))] H (fun r H' => H' = H ∧ r = .tup [.agg ((Tm.mk 0 0 [] []).row.map .d), .c (.d (.int .i64 (-1 - (i : Int))))]) := by
  refine acalls Tryz.func120 (by kernel_rfl) ac120_ok fun hf => ?_
  have h1 : inR .i64 (-1 - (i : Int)) := small_i64 (by omega) (by omega)
  simp -implicitDefEqProofs [ac120, h1, row_mk, hf, go_sem, -List.set_cons_succ, -List.set_cons_zero]
def readA : Rs → A
  | .ok ts j => .tup [.agg ((Rs.tm ts).row.map .d), .c (.d (.int .i64 j))]
  | .bad e => .tup [.agg ((Tm.mk 0 0 [] []).row.map .d), .c (.d (.int .i64 (-1 - (e : Int))))]
def termsA : Rs → A
  | .ok ts j => .tup [.c (.d (.sl (ts.map Tm.row))), .c (.d (.int .i64 j))]
  | .bad e => .tup [.c (.d (.sl [])), .c (.d (.int .i64 (-1 - (e : Int))))]
theorem readA_re (r : Rs) (n : Nat) : A.re n (readA r) = readA r := by cases r <;> simp [readA, A.re, A.res, C.re, re_d]
theorem termsA_re (r : Rs) (n : Nat) : A.re n (termsA r) = termsA r := by cases r <;> simp [termsA, A.re, A.res, C.re]
/-- the parser's functions at so many steps -/
structure Par (s : List UInt8) (f : Nat) : Prop where
  read : ∀ (i d l : Nat) (r : Rs), i ≤ s.length → d ≤ 1000 → l ≤ 3 → rd s f (.read i d l) = some r → ∀ H : Heap, ACalls Tryz.prog 91 [.c (.d (.str s)), .c (.d (.int .i64 i)), .c (.d (.int .i64 d)), .c (.d (.int .i64 l))] H (fun r' H' => H' = H ∧ r' = readA r)
  prime : ∀ (i d : Nat) (r : Rs), i ≤ s.length → d ≤ 1000 → rd s f (.prime i d) = some r → ∀ H : Heap, ACalls Tryz.prog 110 [.c (.d (.str s)), .c (.d (.int .i64 i)), .c (.d (.int .i64 d))] H (fun r' H' => H' = H ∧ r' = readA r)
  terms : ∀ (i d : Nat) (e o : UInt8) (r : Rs), i ≤ s.length → d ≤ 1000 → rd s f (.terms i d e o) = some r → ∀ H : Heap, ACalls Tryz.prog 125 [.c (.d (.str s)), .c (.d (.int .i64 i)), .c (.d (.int .i64 d)), .c (.d (.int .u8 e.toNat)), .c (.d (.int .u8 o.toNat))] H (fun r' H' => H' = H ∧ r' = termsA r)
section
variable {s : List UInt8} (hs : s.length ≤ 1000000) {f : Nat}
include hs
theorem items_step (h : Par s f) (i d : Nat) (hi : i ≤ s.length) (hd : d ≤ 1000) (r : Rs) (hr : (match rd s f (.terms i d 93 124) with
        | none => none
        | some (.bad e) => some (.bad e)
        | some (.ok ts j) => if sgn s j 93 then some (.ok [chainT ts nilT] (j + 1))
          else match rd s f (.read (j + 1) d 3) with
            | none => none
            | some (.bad e) => some (.bad e)
            | some (.ok us k) => if sgn s k 93 then some (.ok [chainT ts (Rs.tm us)] (k + 1)) else some (.bad k)) = some r) (H : Heap) :
    ACalls Tryz.prog 121 [.c (.d (.str s)), .c (.d (.int .i64 i)), .c (.d (.int .i64 d))] H (fun r' H' => H' = H ∧ r' = readA r) := by
  refine acalls Tryz.func121 (by kernel_rfl) ac121_ok fun hf => ?_
  cases hx : rd s f (.terms i d 93 124) with
  | none => rw [hx] at hr; cases hr
  | some v =>
    rw [hx] at hr
    have c1 := h.terms i d 93 124 v hi hd hx
    have p1 := rd_post hs (j := .terms i d 93 124) hi hx
    simp -implicitDefEqProofs [ac121, go_sem, -List.set_cons_succ, -List.set_cons_zero]
    refine qcall_pure c1 hf (termsA_re _ _) ?_
    cases v with
    | bad e =>
      have he : e ≤ s.length := p1
      cases hr
      have hneg : (-1 - (e : Int)) < 0 := by omega
      simp -implicitDefEqProofs [termsA, readA, hneg, row_mk, hf, go_sem, -List.set_cons_succ, -List.set_cons_zero]
    | ok ts j =>
      obtain ⟨g1, g2, g3, g4, g5⟩ := p1
      simp only at hr
      have hj0 : ¬ (j : Int) < 0 := by omega
      simp -implicitDefEqProofs [termsA, hj0, hf, go_sem, -List.set_cons_succ, -List.set_cons_zero]
      refine qcall_pure (sign_calls s hs j (by omega) 93) hf rfl ?_
      have hj1 : inR .i64 ((j : Int) + 1) := small_i64 (by omega) (by omega)
      cases hsg : sgn s j 93 with
      | true =>
        rw [hsg] at hr
        simp only [if_true, Option.some.injEq] at hr
        subst hr
        have hst := struct_calls [91, 93] [] (by simp)
        simp only [List.map_nil] at hst
        have hch := chainSpec_calls ts (by omega) nilT
        simp -implicitDefEqProofs [hf, go_sem, -List.set_cons_succ, -List.set_cons_zero]
        refine qcall_pure hst hf (by simp [A.re, re_d]) ?_
        simp -implicitDefEqProofs [row_len, take_row, pure_d, re_d, hf, go_sem, -List.set_cons_succ, -List.set_cons_zero]
        refine qcall_pure hch hf (by simp [A.re, re_d]) ?_
        simp -implicitDefEqProofs [hj1, readA, Rs.tm, row_len, take_row, pure_d, re_d, thaw_d, fits_map, hf, go_sem, -List.set_cons_succ, -List.set_cons_zero]
      | false =>
        rw [hsg] at hr
        simp only [Bool.false_eq_true, if_false] at hr
        have hjl : j < s.length := by
          rw [Bool.or_eq_true] at g5
          rcases g5 with g5 | g5 <;> exact sgn_lt g5
        cases hy : rd s f (.read (j + 1) d 3) with
        | none => rw [hy] at hr; cases hr
        | some w =>
          rw [hy] at hr
          have c2 := h.read (j + 1) d 3 w (by omega) hd (by omega) hy
          have p2 := rd_post hs (j := .read (j + 1) d 3) ⟨by omega, by omega⟩ hy
          simp only [Int.natCast_add, Int.cast_ofNat_Int] at c2
          simp -implicitDefEqProofs [hj1, hf, go_sem, -List.set_cons_succ, -List.set_cons_zero]
          refine qcall_pure c2 hf (readA_re _ _) ?_
          cases w with
          | bad e =>
            have he : e ≤ s.length := p2
            cases hr
            have hneg : (-1 - (e : Int)) < 0 := by omega
            simp -implicitDefEqProofs [readA, hneg, row_mk, hf, go_sem, -List.set_cons_succ, -List.set_cons_zero]
          | ok us k =>
            obtain ⟨q1, q2, u, rfl, q3⟩ := p2
            simp only at hr
            have hk0 : ¬ (k : Int) < 0 := by omega
            have hk1 : inR .i64 ((k : Int) + 1) := small_i64 (by omega) (by omega)
            have hch := chainSpec_calls ts (by omega) u
            simp -implicitDefEqProofs [readA, Rs.tm, hk0, row_len, take_row, pure_d, re_d, hf, go_sem, -List.set_cons_succ, -List.set_cons_zero]
            refine qcall_pure (sign_calls s hs k (by omega) 93) hf rfl ?_
            cases hsk : sgn s k 93 with
            | true =>
              rw [hsk] at hr
              simp only [if_true, Option.some.injEq] at hr
              subst hr
              simp -implicitDefEqProofs [row_len, take_row, pure_d, re_d, hf, go_sem, -List.set_cons_succ, -List.set_cons_zero]
              refine qcall_pure hch hf (by simp [A.re, re_d]) ?_
              simp -implicitDefEqProofs [hk1, readA, Rs.tm, row_len, take_row, pure_d, re_d, thaw_d, fits_map, hf, go_sem, -List.set_cons_succ, -List.set_cons_zero]
            | false =>
              rw [hsk] at hr
              simp only [Bool.false_eq_true, if_false, Option.some.injEq] at hr
              subst hr
              simp -implicitDefEqProofs [row_len, take_row, pure_d, re_d, hf, go_sem, -List.set_cons_succ, -List.set_cons_zero]
              refine qcall_pure (fails_calls k (by omega)) hf (by simp [A.re, A.res, C.re, re_d]) ?_
              simp -implicitDefEqProofs [readA, row_mk, hf, go_sem, -List.set_cons_succ, -List.set_cons_zero]
theorem prime_step (h : Par s f) (i d : Nat) (hi : i ≤ s.length) (hd : d ≤ 1000) (r : Rs) (hr : rd s (f + 1) (.prime i d) = some r) (H : Heap) :
    ACalls Tryz.prog 110 [.c (.d (.str s)), .c (.d (.int .i64 i)), .c (.d (.int .i64 d))] H (fun r' H' => H' = H ∧ r' = readA r) := by
  have hit := items_step hs h
  have hr : step s (rd s f) (.prime i d) = some r := hr
  simp only [step] at hr
  refine acalls Tryz.func110 (by kernel_rfl) ac110_ok fun hf => ?_
  have hli : inR .i64 (s.length : Int) := small_i64 (by omega) (by omega)
  have hi1 : inR .i64 ((i : Int) + 1) := small_i64 (by omega) (by omega)
  have bad : ∀ (K : A → St → Prop) (st : St), Obs.fits st.ext.length 0 st.ext → K (.tup [.agg ((Tm.mk 0 0 [] []).row.map .d), .c (.d (.int .i64 (-1 - (i : Int))))]) st → QCallK Tryz.prog 120 [.c (.d (.int .i64 i))] st K := fun K st h1 h2 => qcall_pure (fails_calls i (by omega)) h1 (by simp [A.re, A.res, C.re, re_d]) h2
  cases hb : s[i]? with
  | none =>
    rw [hb] at hr
    simp only [Option.some.injEq] at hr
    subst hr
    have hge : ¬ i < s.length := fun h => by simp [h] at hb
    have hge' : (s.length : Int) ≤ (i : Int) := by omega
    by_cases hd1 : (d : Int) < 1
    · simp -implicitDefEqProofs [ac110, hd1, hli, go_sem, -List.set_cons_succ, -List.set_cons_zero]
      refine bad _ _ hf ?_
      simp -implicitDefEqProofs [readA, row_mk, hf, go_sem, -List.set_cons_succ, -List.set_cons_zero]
    · simp -implicitDefEqProofs [ac110, hd1, hge', hli, go_sem, -List.set_cons_succ, -List.set_cons_zero]
      refine bad _ _ hf ?_
      simp -implicitDefEqProofs [readA, row_mk, hf, go_sem, -List.set_cons_succ, -List.set_cons_zero]
  | some b =>
    rw [hb] at hr
    have hlt : i < s.length := (List.getElem?_eq_some_iff.1 hb).1
    have hsb : s[i] = b := by have := List.getElem?_eq_getElem hlt; rw [hb] at this; exact (Option.some.inj this).symm
    have hge' : ¬ (s.length : Int) ≤ (i : Int) := by omega
    have byte : ∀ (K : A → St → Prop) (st : St), K (.c (.d (.int .u8 b.toNat))) st → ByteK true s (i : Int) K st := fun K st h1 => byte_nat hlt (by rw [hsb]; exact h1)
    have boff : ∀ (K : A → St → Prop) (st : St), K (.c (.d (.int .u8 b.toNat))) st → ByteK false s (i : Int) K st := fun K st h1 => byte_off b h1
    simp only at hr
    by_cases hd1 : d < 1
    · rw [if_pos hd1] at hr
      cases hr
      have hd1' : (d : Int) < 1 := by omega
      simp -implicitDefEqProofs [ac110, hd1', hli, go_sem, -List.set_cons_succ, -List.set_cons_zero]
      refine bad _ _ hf ?_
      simp -implicitDefEqProofs [readA, row_mk, hf, go_sem, -List.set_cons_succ, -List.set_cons_zero]
    · rw [if_neg hd1] at hr
      have hd1' : ¬ (d : Int) < 1 := by omega
      have hdd : inR .i64 ((d : Int) - 1) := small_i64 (by omega) (by omega)
      have hdn : ((d : Int) - 1) = ((d - 1 : Nat) : Int) := by omega
      simp -implicitDefEqProofs [ac110, hd1', hge', hli, go_sem, -List.set_cons_succ, -List.set_cons_zero]
      refine byte _ _ ?_
      by_cases h40 : b = 40
      · rw [if_pos h40] at hr
        have h40' : (b.toNat : Int) = 40 := by rw [h40]; rfl
        simp -implicitDefEqProofs [h40', hi1, hf, go_sem, -List.set_cons_succ, -List.set_cons_zero]
        cases hx : rd s f (.read (i + 1) d 3) with
        | none => rw [hx] at hr; cases hr
        | some v =>
          rw [hx] at hr
          have c1 := h.read (i + 1) d 3 v (by omega) hd (by omega) hx
          have p1 := rd_post hs (j := .read (i + 1) d 3) ⟨by omega, by omega⟩ hx
          simp only [Int.natCast_add, Int.cast_ofNat_Int] at c1
          refine qcall_pure c1 hf (readA_re _ _) ?_
          cases v with
          | bad e =>
            have he : e ≤ s.length := p1
            cases hr
            have hneg : (-1 - (e : Int)) < 0 := by omega
            simp -implicitDefEqProofs [readA, hneg, row_mk, hf, go_sem, -List.set_cons_succ, -List.set_cons_zero]
          | ok ts j =>
            obtain ⟨g1, g2, t, rfl, g3⟩ := p1
            simp only at hr
            have hj0 : ¬ (j : Int) < 0 := by omega
            have hj1 : inR .i64 ((j : Int) + 1) := small_i64 (by omega) (by omega)
            simp -implicitDefEqProofs [readA, Rs.tm, hj0, row_len, take_row, pure_d, re_d, hf, go_sem, -List.set_cons_succ, -List.set_cons_zero]
            refine qcall_pure (sign_calls s hs j (by omega) 41) hf rfl ?_
            cases hsg : sgn s j 41 with
            | true =>
              rw [hsg] at hr
              simp only [if_true, Option.some.injEq] at hr
              subst hr
              simp -implicitDefEqProofs [hj1, readA, Rs.tm, row_len, take_row, pure_d, re_d, thaw_d, fits_map, hf, go_sem, -List.set_cons_succ, -List.set_cons_zero]
            | false =>
              rw [hsg] at hr
              simp only [Bool.false_eq_true, if_false, Option.some.injEq] at hr
              subst hr
              simp -implicitDefEqProofs [row_len, take_row, pure_d, re_d, hf, go_sem, -List.set_cons_succ, -List.set_cons_zero]
              refine qcall_pure (fails_calls j (by omega)) hf (by simp [A.re, A.res, C.re, re_d]) ?_
              simp -implicitDefEqProofs [readA, row_mk, hf, go_sem, -List.set_cons_succ, -List.set_cons_zero]
      · rw [if_neg h40] at hr
        have h40' : ¬ (b.toNat : Int) = 40 := fun h => h40 (UInt8.toNat_inj.1 (by have : (40 : UInt8).toNat = 40 := rfl; omega))
        simp -implicitDefEqProofs [h40', hi1, hf, go_sem, -List.set_cons_succ, -List.set_cons_zero]
        refine byte _ _ ?_
        refine (fun (key : (if bigB b then some (Rs.ok [.mk 1 (b.toNat - 65 : Nat) [] []] (i + 1))
      else if digB b || b == 45 && digAt s (i + 1) then match numR s i with
        | none => some (.bad i)
        | some (n, j) => some (.ok [.mk 2 n [] []] j)
      else match nameR s i with
        | none => some (.bad i)
        | some (n, j) => if sgn s j 40 then match rd s f (.terms (j + 1) (d - 1) 41 41) with
            | none => none
            | some (.bad e) => some (.bad e)
            | some (.ok ts k) => some (.ok [.mk 3 0 n ts] (k + 1))
          else some (.ok [.mk 3 0 n []] j)) = some r → (?tail : Prop)) => ?main) ?rest
        case main =>
          by_cases h91 : b = 91
          · have h91' : (b.toNat : Int) = 91 := by rw [h91]; rfl
            have cs := sign_calls s hs (i + 1) (by omega) 93
            simp only [Int.natCast_add, Int.cast_ofNat_Int] at cs
            simp -implicitDefEqProofs [h91', hi1, hf, go_sem, -List.set_cons_succ, -List.set_cons_zero]
            refine qcall_pure cs hf rfl ?_
            cases hsg : sgn s (i + 1) 93 with
            | false =>
              rw [if_pos ⟨h91, hsg⟩] at hr
              have c1 := hit (i + 1) (d - 1) (by omega) (by omega) r hr
              rw [← hdn] at c1
              simp only [Int.natCast_add, Int.cast_ofNat_Int] at c1
              simp -implicitDefEqProofs [hi1, hdd, hf, go_sem, -List.set_cons_succ, -List.set_cons_zero]
              refine qcall_pure c1 hf (readA_re _ _) ?_
              cases r with
              | bad e => simp -implicitDefEqProofs [readA, row_mk, hf, go_sem, -List.set_cons_succ, -List.set_cons_zero]
              | ok ts j => simp -implicitDefEqProofs [readA, row_len, take_row, pure_d, re_d, thaw_d, fits_map, hf, go_sem, -List.set_cons_succ, -List.set_cons_zero]
            | true =>
              rw [if_neg (fun h => by rw [hsg] at h; exact absurd h.2 (by simp))] at hr
              simp -implicitDefEqProofs [hf, go_sem, -List.set_cons_succ, -List.set_cons_zero]
              exact key hr
          · have h91' : ¬ (b.toNat : Int) = 91 := fun h => h91 (UInt8.toNat_inj.1 (by have : (91 : UInt8).toNat = 91 := rfl; omega))
            have h91'' : ((b.toNat : Int) == 91) = false := by simp; omega
            rw [if_neg (fun h => h91 h.1)] at hr
            simp -implicitDefEqProofs [h91', h91'', hi1, hf, go_sem, -List.set_cons_succ, -List.set_cons_zero]
            exact key hr
        case rest =>
          intro hr
          refine byte _ _ ?_
          refine (fun (key : (if digB b || b == 45 && digAt s (i + 1) then match numR s i with
        | none => some (.bad i)
        | some (n, j) => some (.ok [.mk 2 n [] []] j)
      else match nameR s i with
        | none => some (.bad i)
        | some (n, j) => if sgn s j 40 then match rd s f (.terms (j + 1) (d - 1) 41 41) with
            | none => none
            | some (.bad e) => some (.bad e)
            | some (.ok ts k) => some (.ok [.mk 3 0 n ts] (k + 1))
          else some (.ok [.mk 3 0 n []] j)) = some r → (?tail2 : Prop)) => ?main2) ?rest2
          case main2 =>
            by_cases h65 : (65 : Int) ≤ b.toNat
            · simp -implicitDefEqProofs [h65, go_sem, -List.set_cons_succ, -List.set_cons_zero]
              refine byte _ _ ?_
              by_cases h90 : (b.toNat : Int) ≤ 90
              · have hbg : bigB b = true := by simp [bigB]; omega
                rw [if_pos hbg] at hr
                cases hr
                have hsub : inR .u8 ((b.toNat : Int) - 65) := by simp [inR, IntKind.min, IntKind.max, IntKind.signed, IntKind.bits]; omega
                have hw : IntKind.i64.wrap ((b.toNat : Int) - 65) = ((b.toNat - 65 : Nat) : Int) := by rw [IntKind.wrap_i64]; omega
                simp -implicitDefEqProofs [h90, go_sem, -List.set_cons_succ, -List.set_cons_zero]
                refine byte _ _ ?_
                simp -implicitDefEqProofs [hsub, hw, hi1, go_sem, -List.set_cons_succ, -List.set_cons_zero]
                refine qcall_pure (var_calls ((b.toNat - 65 : Nat) : Int)) hf (by simp [A.re, re_d]) ?_
                simp -implicitDefEqProofs [hi1, readA, Rs.tm, row_len, take_row, pure_d, re_d, thaw_d, fits_map, hf, go_sem, -List.set_cons_succ, -List.set_cons_zero]
              · have hbg : ¬ bigB b = true := by simp [bigB]; omega
                rw [if_neg hbg] at hr
                simp -implicitDefEqProofs [h90, go_sem, -List.set_cons_succ, -List.set_cons_zero]
                exact key hr
            · have hbg : ¬ bigB b = true := by simp [bigB]; omega
              rw [if_neg hbg] at hr
              simp -implicitDefEqProofs [h65, go_sem, -List.set_cons_succ, -List.set_cons_zero]
              refine boff _ _ ?_
              simp -implicitDefEqProofs [go_sem, -List.set_cons_succ, -List.set_cons_zero]
              exact key hr
          case rest2 =>
            intro hr
            have hda : digAt s i = digB b := by simp [digAt, hb]
            have cdg := digit_calls s hs i (by omega)
            rw [hda] at cdg
            refine qcall_pure cdg hf rfl ?_
            refine (fun (key1 : (match numR s i with
        | none => some (.bad i)
        | some (n, j) => some (.ok [.mk 2 n [] []] j)) = some r → (?num : Prop)) (key2 : (match nameR s i with
        | none => some (.bad i)
        | some (n, j) => if sgn s j 40 then match rd s f (.terms (j + 1) (d - 1) 41 41) with
            | none => none
            | some (.bad e) => some (.bad e)
            | some (.ok ts k) => some (.ok [.mk 3 0 n ts] (k + 1))
          else some (.ok [.mk 3 0 n []] j)) = some r → (?name : Prop)) => ?main3) ?rest3 ?rest4
            case main3 =>
              cases hdb : digB b with
              | true =>
                rw [hdb] at hr
                simp only [Bool.true_or, if_true] at hr
                have hb2 : 48 ≤ b.toNat ∧ b.toNat ≤ 57 := by simpa [digB] using hdb
                have h45' : ((b.toNat : Int) == 45) = false := by simp; omega
                simp -implicitDefEqProofs [go_sem, -List.set_cons_succ, -List.set_cons_zero]
                refine boff _ _ ?_
                simp -implicitDefEqProofs [h45', hi1, go_sem, -List.set_cons_succ, -List.set_cons_zero]
                exact key1 hr
              | false =>
                rw [hdb] at hr
                simp only [Bool.false_or] at hr
                simp -implicitDefEqProofs [go_sem, -List.set_cons_succ, -List.set_cons_zero]
                refine byte _ _ ?_
                by_cases h45 : b = 45
                · have h45' : (b.toNat : Int) = 45 := by rw [h45]; rfl
                  have cd2 := digit_calls s hs (i + 1) (by omega)
                  simp only [Int.natCast_add, Int.cast_ofNat_Int] at cd2
                  simp -implicitDefEqProofs [h45', hi1, go_sem, -List.set_cons_succ, -List.set_cons_zero]
                  refine qcall_pure cd2 hf rfl ?_
                  cases hd2 : digAt s (i + 1) with
                  | true =>
                    rw [if_pos (by rw [hd2, h45]; rfl)] at hr
                    simp -implicitDefEqProofs [go_sem, -List.set_cons_succ, -List.set_cons_zero]
                    exact key1 hr
                  | false =>
                    rw [if_neg (by rw [hd2]; simp)] at hr
                    simp -implicitDefEqProofs [go_sem, -List.set_cons_succ, -List.set_cons_zero]
                    exact key2 hr
                · have h45' : ((b.toNat : Int) == 45) = false := by
                    simp
                    exact fun h => h45 (UInt8.toNat_inj.1 (by have : (45 : UInt8).toNat = 45 := rfl; omega))
                  rw [if_neg (by simp [h45])] at hr
                  simp -implicitDefEqProofs [h45', hi1, go_sem, -List.set_cons_succ, -List.set_cons_zero]
                  exact key2 hr
            case rest3 =>
              intro hr
              have cn := number_calls s hs i hi
              cases hn : numR s i with
              | none =>
                rw [hn] at hr cn
                cases hr
                refine qcall_pure cn hf (by simp [numA, A.re, A.res, C.re, re_d]) ?_
                simp -implicitDefEqProofs [numA, row_mk, hf, go_sem, -List.set_cons_succ, -List.set_cons_zero]
                refine bad _ _ hf ?_
                simp -implicitDefEqProofs [readA, row_mk, hf, go_sem, -List.set_cons_succ, -List.set_cons_zero]
              | some q =>
                obtain ⟨x, j⟩ := q
                rw [hn] at hr cn
                cases hr
                have hj0 : ¬ (j : Int) < 0 := by omega
                refine qcall_pure cn hf (by simp [numA, A.re, A.res, C.re, re_d]) ?_
                simp -implicitDefEqProofs [numA, hj0, row_mk, hf, go_sem, -List.set_cons_succ, -List.set_cons_zero]
                simp -implicitDefEqProofs [readA, Rs.tm, row_mk, hf, go_sem, -List.set_cons_succ, -List.set_cons_zero]
            case rest4 =>
              intro hr
              have cn := name_calls s hs i hi
              cases hn : nameR s i with
              | none =>
                rw [hn] at hr cn
                cases hr
                refine qcall_pure cn hf (by simp [nameA, A.re, A.res, C.re]) ?_
                simp -implicitDefEqProofs [nameA, hf, go_sem, -List.set_cons_succ, -List.set_cons_zero]
                refine bad _ _ hf ?_
                simp -implicitDefEqProofs [readA, row_mk, hf, go_sem, -List.set_cons_succ, -List.set_cons_zero]
              | some q =>
                obtain ⟨w, j⟩ := q
                rw [hn] at hr cn
                have ho := nameR_ok hi hn
                have hj0 : ¬ (j : Int) < 0 := by omega
                have hj1 : inR .i64 ((j : Int) + 1) := small_i64 (by omega) (by omega)
                refine qcall_pure cn hf (by simp [nameA, A.re, A.res, C.re]) ?_
                simp -implicitDefEqProofs [nameA, hj0, hf, go_sem, -List.set_cons_succ, -List.set_cons_zero]
                refine qcall_pure (sign_calls s hs j (by omega) 40) hf rfl ?_
                simp only at hr
                cases hsg : sgn s j 40 with
                | false =>
                  rw [hsg] at hr
                  simp only [Bool.false_eq_true, if_false, Option.some.injEq] at hr
                  subst hr
                  have hst := struct_calls w [] (by simp)
                  simp only [List.map_nil] at hst
                  simp -implicitDefEqProofs [hf, go_sem, -List.set_cons_succ, -List.set_cons_zero]
                  refine qcall_pure hst hf (by simp [A.re, re_d]) ?_
                  simp -implicitDefEqProofs [readA, Rs.tm, row_mk, hf, go_sem, -List.set_cons_succ, -List.set_cons_zero]
                | true =>
                  rw [hsg] at hr
                  simp only [if_true] at hr
                  have hjl := sgn_lt hsg
                  simp -implicitDefEqProofs [hj1, hdd, hf, go_sem, -List.set_cons_succ, -List.set_cons_zero]
                  cases hx : rd s f (.terms (j + 1) (d - 1) 41 41) with
                  | none => rw [hx] at hr; cases hr
                  | some v =>
                    rw [hx] at hr
                    have c1 := h.terms (j + 1) (d - 1) 41 41 v (by omega) (by omega) hx
                    have p1 := rd_post hs (j := .terms (j + 1) (d - 1) 41 41) (by show j + 1 ≤ s.length; omega) hx
                    rw [← hdn] at c1
                    simp only [Int.natCast_add, Int.cast_ofNat_Int] at c1
                    refine qcall_pure c1 hf (termsA_re _ _) ?_
                    cases v with
                    | bad e =>
                      cases hr
                      have hneg : (-1 - (e : Int)) < 0 := by omega
                      simp -implicitDefEqProofs [termsA, readA, hneg, row_mk, hf, go_sem, -List.set_cons_succ, -List.set_cons_zero]
                    | ok ts k =>
                      cases hr
                      obtain ⟨g1, g2, g3, g4, g5⟩ := p1
                      have hk0 : ¬ (k : Int) < 0 := by omega
                      have hk1 : inR .i64 ((k : Int) + 1) := small_i64 (by omega) (by omega)
                      simp -implicitDefEqProofs [termsA, readA, Rs.tm, hk0, hk1, row_mk, hf, go_sem, -List.set_cons_succ, -List.set_cons_zero]
end
def Rs.app (out : List Tm) : Rs → Rs
  | .ok us k => .ok (out ++ us) k
  | .bad e => .bad e
theorem opR_lv {s : List UInt8} {i j : Nat} {n : List UInt8} (h : opR s i = some (n, j)) : ¬ levelN n = 0 := by
  unfold opR at h
  generalize (if sgn s i 32 then i + 1 else i) = p at h
  split at h
  · cases h
  · cases hn : nameR s p with
    | none => rw [hn] at h; cases h
    | some q =>
      obtain ⟨m, k⟩ := q
      rw [hn] at h
      simp only at h
      split at h
      · cases h
      · rename_i hl
        split at h
        · cases h
        · simp only [Option.some.injEq, Prod.mk.injEq] at h
          rw [← h.1]; exact hl
section
variable {s : List UInt8} (hs : s.length ≤ 1000000) {f : Nat} (h : ∀ g, g ≤ f → Par s g)
include hs h
theorem terms_step (i d : Nat) (e o : UInt8) (r : Rs) (hi : i ≤ s.length) (hd : d ≤ 1000) (hr : rd s (f + 1) (.terms i d e o) = some r) (H : Heap) :
    ACalls Tryz.prog 125 [.c (.d (.str s)), .c (.d (.int .i64 i)), .c (.d (.int .i64 d)), .c (.d (.int .u8 e.toNat)), .c (.d (.int .u8 o.toNat))] H (fun r' H' => H' = H ∧ r' = termsA r) := by
  refine acalls Tryz.func125 (by kernel_rfl) ac125_ok fun hf => ?_
  simp -implicitDefEqProofs [ac125, go_sem, -List.set_cons_succ, -List.set_cons_zero]
  refine loop_enter (St.le_token 12 4 rfl) ?_
  refine loop_set (σ := Nat × List Tm × Nat × Rs) (fun x => [(1, .c (.d (.int .i64 x.1))), (12, .c (.own (.l 0) x.2.1.length (x.2.1.map Tm.row)))]) (fun _ => H) (fun x => [.grow x.2.1.length 4])
    (fun x => x.1 ≤ s.length ∧ x.2.1.length ≤ x.1 ∧ x.2.2.1 ≤ f + 1 ∧ rd s x.2.2.1 (.terms x.1 d e o) = some x.2.2.2 ∧ x.2.2.2.app x.2.1 = r) (fun x => x.2.2.1) (i, [], f + 1, r) (by simp [setAll]) ⟨hi, by simp, Nat.le_refl _, hr, by cases r <;> rfl⟩ ?_
  rintro ⟨p, out, g, q⟩ ⟨hp, hol, hg, hq, happ⟩
  simp only at hp hol hg hq happ
  cases g with
  | zero => cases hq
  | succ g =>
    have hq : step s (rd s g) (.terms p d e o) = some q := hq
    simp only [step] at hq
    have hpar := h g (by omega)
    simp -implicitDefEqProofs [setAll, hf, go_sem, -List.set_cons_succ, -List.set_cons_zero]
    cases hx : rd s g (.read p d 3) with
    | none => rw [hx] at hq; cases hq
    | some v =>
      rw [hx] at hq
      have c1 := hpar.read p d 3 v hp hd (by omega) hx
      have p1 := rd_post hs (j := .read p d 3) ⟨hp, by omega⟩ hx
      refine qcall_pure c1 hf (readA_re _ _) ?_
      cases v with
      | bad x =>
        cases hq
        have hx2 : x ≤ s.length := p1
        have hneg : (-1 - (x : Int)) < 0 := by omega
        subst happ
        simp -implicitDefEqProofs [readA, termsA, Rs.app, hneg, row_mk, hf, go_sem, -List.set_cons_succ, -List.set_cons_zero]
      | ok ts j =>
        obtain ⟨g1, g2, t, rfl, g3⟩ := p1
        simp only at hq
        have hj0 : ¬ (j : Int) < 0 := by omega
        have hj1 : inR .i64 ((j : Int) + 1) := small_i64 (by omega) (by omega)
        have hjm : inR .i64 (-1 - (j : Int)) := small_i64 (by omega) (by omega)
        simp -implicitDefEqProofs [readA, Rs.tm, hj0, row_len, take_row, pure_d, re_d, toDs_map, hf, go_sem, -List.set_cons_succ, -List.set_cons_zero]
        refine ⟨allLen_map row_len, by unfold maxApp; omega, ?_⟩
        refine qcall_pure (sign_calls s hs j (by omega) e) hf rfl ?_
        refine (fun (key1 : some (Rs.ok [t] j) = some q → (?done : Prop)) (key2 : (if sgn s j 44 then match rd s g (.terms (j + 1) d e o) with
        | none => none
        | some (.bad x) => some (.bad x)
        | some (.ok us k) => some (.ok (t :: us) k)
      else some (.bad j)) = some q → (?more : Prop)) => ?main) ?rest1 ?rest2
        case main =>
          cases he : sgn s j e with
          | true =>
            rw [he] at hq
            simp only [Bool.true_or, if_true] at hq
            simp -implicitDefEqProofs [hf, go_sem, -List.set_cons_succ, -List.set_cons_zero]
            exact key1 hq
          | false =>
            rw [he] at hq
            simp only [Bool.false_or] at hq
            simp -implicitDefEqProofs [hf, go_sem, -List.set_cons_succ, -List.set_cons_zero]
            refine qcall_pure (sign_calls s hs j (by omega) o) hf rfl ?_
            cases ho : sgn s j o with
            | true =>
              rw [ho] at hq
              simp only [if_true] at hq
              simp -implicitDefEqProofs [hf, go_sem, -List.set_cons_succ, -List.set_cons_zero]
              exact key1 hq
            | false =>
              rw [ho] at hq
              simp only [Bool.false_eq_true, if_false] at hq
              simp -implicitDefEqProofs [hf, go_sem, -List.set_cons_succ, -List.set_cons_zero]
              exact key2 hq
        case rest1 =>
          intro hq
          cases hq
          subst happ
          simp [termsA, Rs.app]
        case rest2 =>
          intro hq
          refine qcall_pure (sign_calls s hs j (by omega) 44) hf rfl ?_
          cases hsg : sgn s j 44 with
          | false =>
            rw [hsg] at hq
            simp only [Bool.false_eq_true, if_false] at hq
            cases hq
            subst happ
            simp -implicitDefEqProofs [hjm, termsA, Rs.app, hf, go_sem, -List.set_cons_succ, -List.set_cons_zero]
          | true =>
            rw [hsg] at hq
            simp only [if_true] at hq
            have hjl := sgn_lt hsg
            simp -implicitDefEqProofs [hj1, hf, go_sem, -List.set_cons_succ, -List.set_cons_zero]
            have hq2 : ∃ w, rd s g (.terms (j + 1) d e o) = some w ∧ w.app (out ++ [t]) = r := by
              cases hy : rd s g (.terms (j + 1) d e o) with
              | none => rw [hy] at hq; cases hq
              | some w =>
                rw [hy] at hq
                refine ⟨w, rfl, ?_⟩
                cases w with
                | bad x => cases hq; exact happ
                | ok us k => cases hq; rw [← happ]; simp [Rs.app]
            obtain ⟨w, hw, hwa⟩ := hq2
            refine loop_less (j + 1, out ++ [t], g, w) (St.le_cut [_] ?_ (by simp [Sl.le, A.le_refl_iff, A.le_u_iff, As.lo, A.lo, C.lo, Ref.lo, Cs.lo, Obs.lo, Ob.lo, setAll, and_true, true_and, List.length_nil, List.length_cons]) (by simp; rfl) (by simp [Sl.le, A.le_refl_iff, A.le_u_iff, As.lo, A.lo, C.lo, Ref.lo, Cs.lo, Obs.lo, Ob.lo, setAll, and_true, true_and, List.length_nil, List.length_cons])) ⟨by dsimp only; omega, by simp; omega, by dsimp only; omega, hw, hwa⟩ (by show g < g + 1; omega)
            simp [setAll, Sl.le, A.le_refl_iff, A.le_u_iff, As.lo, A.lo, C.lo, Ref.lo, Cs.lo, Obs.lo, Ob.lo, setAll, and_true, true_and, List.length_nil, List.length_cons]
theorem read_step (i d l : Nat) (r : Rs) (hi : i ≤ s.length) (hd : d ≤ 1000) (hl : l ≤ 3) (hr : rd s (f + 1) (.read i d l) = some r) (H : Heap) :
    ACalls Tryz.prog 91 [.c (.d (.str s)), .c (.d (.int .i64 i)), .c (.d (.int .i64 d)), .c (.d (.int .i64 l))] H (fun r' H' => H' = H ∧ r' = readA r) := by
  refine acalls Tryz.func91 (by kernel_rfl) ac91_ok fun hf => ?_
  have hpar := h f (Nat.le_refl _)
  have hr : step s (rd s f) (.read i d l) = some r := hr
  cases l with
  | zero =>
    have c1 := hpar.prime i d r hi hd hr
    simp -implicitDefEqProofs [ac91, go_sem, -List.set_cons_succ, -List.set_cons_zero]
    refine qcall_pure c1 hf (readA_re _ _) ?_
    cases r with
    | bad e => simp -implicitDefEqProofs [readA, row_mk, hf, go_sem, -List.set_cons_succ, -List.set_cons_zero]
    | ok ts j => simp -implicitDefEqProofs [readA, row_len, take_row, pure_d, re_d, thaw_d, fits_map, hf, go_sem, -List.set_cons_succ, -List.set_cons_zero]
  | succ l =>
    simp only [step] at hr
    have hl1 : ¬ ((l : Int) + 1 = 0) := by omega
    have hl2 : ((l : Int) + 1 == 0) = false := by simp; omega
    have hl3 : inR .i64 ((l : Int) + 1 - 1) := small_i64 (by omega) (by omega)
    have hl4 : (l : Int) + 1 - 1 = l := by omega
    cases hx : rd s f (.read i d l) with
    | none => rw [hx] at hr; cases hr
    | some v =>
      rw [hx] at hr
      have c1 := hpar.read i d l v hi hd (by omega) hx
      have p1 := rd_post hs (j := .read i d l) ⟨hi, by omega⟩ hx
      have hli : inR .i64 (l : Int) := small_i64 (by omega) (by omega)
      simp -implicitDefEqProofs [ac91, hl1, hl2, hl3, hl4, hli, go_sem, -List.set_cons_succ, -List.set_cons_zero]
      refine qcall_pure c1 hf (readA_re _ _) ?_
      cases v with
      | bad e =>
        cases hr
        have he : e ≤ s.length := p1
        have hneg : ¬ (0 : Int) ≤ -1 - (e : Int) := by omega
        simp -implicitDefEqProofs [readA, row_mk, hf, go_sem, -List.set_cons_succ, -List.set_cons_zero]
        refine loop_set (σ := Unit) (fun _ => []) (fun _ => H) (fun _ => [.cells [.d (.int .i64 0), .d (.int .i64 0), .d (.str []), .full []], .cells [.d (.int .i64 0), .d (.int .i64 0), .d (.str []), .d (.sl [])]]) (fun _ => True) (fun _ => 0) () rfl trivial ?_
        intro _ _
        simp -implicitDefEqProofs [setAll, hneg, row_mk, hf, go_sem, -List.set_cons_succ, -List.set_cons_zero]
        intro he2
        omega
      | ok ts j =>
        obtain ⟨g1, g2, t0, rfl, g3⟩ := p1
        simp only at hr
        simp -implicitDefEqProofs [readA, Rs.tm, row_len, take_row, pure_d, re_d, hf, go_sem, -List.set_cons_succ, -List.set_cons_zero]
        refine loop_set (σ := Nat × Tm × Nat) (fun x => [(11, .c (.d (.int .i64 x.1)))]) (fun _ => H) (fun x => [.cells [.d (.int .i64 0), .d (.int .i64 0), .d (.str []), .full []], .cells (x.2.1.row.map .d)])
          (fun x => x.1 ≤ s.length ∧ x.2.1.fits ∧ x.2.2 ≤ f ∧ rd s x.2.2 (.ops x.2.1 x.1 d (l + 1)) = some r) (fun x => x.2.2) (j, t0, f) (by simp [setAll]) ⟨g2, g3, Nat.le_refl _, hr⟩ ?_
        rintro ⟨p, t, g⟩ ⟨hp, htf, hg, hq⟩
        simp only at hp htf hg hq
        cases g with
        | zero => cases hq
        | succ g =>
          have hq : step s (rd s g) (.ops t p d (l + 1)) = some r := hq
          simp only [step] at hq
          have hp0 : (0 : Int) ≤ (p : Int) := by omega
          have co := op_calls s hs p hp
          simp -implicitDefEqProofs [setAll, hp0, hf, go_sem, -List.set_cons_succ, -List.set_cons_zero]
          cases ho : opR s p with
          | none =>
            rw [ho] at hq co
            cases hq
            refine qcall_pure co hf (by simp [opA, A.re, A.res, C.re]) ?_
            simp -implicitDefEqProofs [opA, readA, Rs.tm, row_len, take_row, pure_d, re_d, thaw_d, fits_map, hf, go_sem, -List.set_cons_succ, -List.set_cons_zero]
          | some q =>
            obtain ⟨n, k⟩ := q
            rw [ho] at hq co
            have hlv := opR_lv ho
            have hok := opR_ok hp ho
            have hne : n ≠ [] := fun e => hlv (by rw [e]; rfl)
            have hne2 : (n == []) = false := by simp [hne]
            simp only at hq
            refine qcall_pure co hf (by simp [opA, A.re, A.res, C.re]) ?_
            simp -implicitDefEqProofs [opA, hne, hne2, hf, go_sem, -List.set_cons_succ, -List.set_cons_zero]
            refine qcall_pure (level_calls n) hf rfl ?_
            by_cases hll : levelN n = (l + 1 : Nat)
            · rw [if_pos hll] at hq
              have hll1 : levelN n = (l : Int) + 1 := by rw [hll]; simp
              simp only [Nat.add_sub_cancel] at hq
              simp -implicitDefEqProofs [hll1, hl3, hl4, hli, hf, go_sem, -List.set_cons_succ, -List.set_cons_zero]
              cases hy : rd s g (.read k d l) with
              | none => rw [hy] at hq; cases hq
              | some w =>
                rw [hy] at hq
                have hpg := h g (by omega)
                have c2 := hpg.read k d l w hok.2.1 hd (by omega) hy
                have p2 := rd_post hs (j := .read k d l) ⟨hok.2.1, by omega⟩ hy
                refine qcall_pure c2 hf (readA_re _ _) ?_
                cases w with
                | bad e =>
                  cases hq
                  have he : e ≤ s.length := p2
                  have hneg : (-1 - (e : Int)) < 0 := by omega
                  simp -implicitDefEqProofs [readA, hneg, row_mk, hf, go_sem, -List.set_cons_succ, -List.set_cons_zero]
                | ok us m =>
                  obtain ⟨q1, q2, u, rfl, q3⟩ := p2
                  simp only at hq
                  have hm0 : ¬ (m : Int) < 0 := by omega
                  have hst := struct_calls n [t, u] (by simp)
                  simp only [List.map_cons, List.map_nil] at hst
                  simp -implicitDefEqProofs [readA, Rs.tm, hm0, row_len, take_row, pure_d, re_d, toDs_map, hf, go_sem, -List.set_cons_succ, -List.set_cons_zero]
                  refine qcall_pure hst hf (by simp [A.re, re_d]) ?_
                  simp -implicitDefEqProofs [row_len, take_row, pure_d, re_d, hf, go_sem, -List.set_cons_succ, -List.set_cons_zero]
                  by_cases h3 : l + 1 = 3
                  · have h3' : (l : Int) + 1 = 3 := by omega
                    rw [if_pos h3] at hq
                    cases hq
                    simp -implicitDefEqProofs [h3', readA, Rs.tm, row_len, take_row, pure_d, re_d, thaw_d, fits_map, hf, go_sem, -List.set_cons_succ, -List.set_cons_zero]
                  · have h3' : ¬ (l : Int) + 1 = 3 := by omega
                    have h3'' : ((l : Int) + 1 == 3) = false := by simp; omega
                    rw [if_neg h3] at hq
                    simp -implicitDefEqProofs [h3', h3'', row_len, take_row, pure_d, re_d, hf, go_sem, -List.set_cons_succ, -List.set_cons_zero]
                    refine loop_less (m, .mk 3 0 n [t, u], g) (St.le_cut [_] ?_ (by simp [Sl.le, A.le_refl_iff, A.le_u_iff, As.lo, A.lo, C.lo, Ref.lo, Cs.lo, Obs.lo, Ob.lo, setAll, and_true, true_and, List.length_nil, List.length_cons]) (by simp [row_len]; rfl) (by simp [row_mk, Sl.le, A.le_refl_iff, A.le_u_iff, As.lo, A.lo, C.lo, Ref.lo, Cs.lo, Obs.lo, Ob.lo, setAll, and_true, true_and, List.length_nil, List.length_cons])) ⟨q2, fits_st hok.2.2 (by simp) (by simp [htf, q3]), by dsimp only; omega, hq⟩ (by show g < g + 1; omega)
                    simp [setAll, Sl.le, A.le_refl_iff, A.le_u_iff, As.lo, A.lo, C.lo, Ref.lo, Cs.lo, Obs.lo, Ob.lo, setAll, and_true, true_and, List.length_nil, List.length_cons]
            · rw [if_neg hll] at hq
              cases hq
              have hll1 : ¬ levelN n = (l : Int) + 1 := fun e => hll (by rw [e]; simp)
              have hll2 : (levelN n != (l : Int) + 1) = true := by simpa using hll1
              simp -implicitDefEqProofs [hll1, hll2, readA, Rs.tm, row_len, take_row, pure_d, re_d, thaw_d, fits_map, hf, go_sem, -List.set_cons_succ, -List.set_cons_zero]
end
/-- the parser does what it is said to do -/
theorem par (s : List UInt8) (hs : s.length ≤ 1000000) : ∀ f, Par s f := by
  intro f
  induction f using Nat.strongRecOn with
  | ind f ih =>
    cases f with
    | zero => exact ⟨fun _ _ _ _ _ _ _ h => (by cases h), fun _ _ _ _ _ h => (by cases h), fun _ _ _ _ _ _ _ h => (by cases h)⟩
    | succ f =>
      have h : ∀ g, g ≤ f → Par s g := fun g hg => ih g (by omega)
      exact ⟨fun i d l r hi hd hl hr H => read_step hs h i d l r hi hd hl hr H, fun i d r hi hd hr H => prime_step hs (h f (Nat.le_refl _)) i d hi hd r hr H, fun i d e o r hi hd hr H => terms_step hs h i d e o r hi hd hr H⟩
/-- texts, with a byte between them -/
def joinS (c : UInt8) : List (List UInt8) → List UInt8
  | [] => []
  | [a] => a
  | a :: b :: l => a ++ c :: joinS c (b :: l)
def Tm.atomB (t : Tm) : Bool := decide (t.k = 3) && t.kids.isEmpty
def Tm.lv (t : Tm) : Int := if t.kids.length = 2 then levelN t.s else 0
def plainC (b : UInt8) : Bool := decide (97 ≤ b.toNat ∧ b.toNat ≤ 122) || decide (65 ≤ b.toNat ∧ b.toNat ≤ 90) || decide (48 ≤ b.toNat ∧ b.toNat ≤ 57) || b == 91 || b == 40
def opnd (t : Tm) (w : List UInt8) (most : Int) (right : Bool) : List UInt8 :=
  if decide (most < t.lv) || (t.atomB && decide (0 < levelN t.s)) || (right && !plainC (w.headD 0)) then 40 :: w ++ [41] else w
def opSp (s : List UInt8) : List UInt8 := if lettersB s then 32 :: s ++ [32] else s
def leftMost (s : List UInt8) : Int := if leftB s then levelN s else levelN s - 1
def leafT : Tm := .mk 3 0 [91, 93] []
def wrNode (k n : Int) (s : List UInt8) (l : List Tm) (ws ts : List (List UInt8)) : List UInt8 :=
  if k = 1 then [UInt8.ofNat (65 + n.toNat)]
  else if k = 2 then Lib.itoa n
  else if s = [46] ∧ l.length = 2 then 91 :: ws.headD [] ++ ts.getD 1 [] ++ [93]
  else if l.length = 2 ∧ 0 < levelN s then opnd (l.getD 0 leafT) (ws.getD 0 []) (leftMost s) false ++ opSp s ++ opnd (l.getD 1 leafT) (ws.getD 1 []) (levelN s - 1) true
  else if l = [] then s else s ++ 40 :: joinS 44 ws ++ [41]
mutual
def Tm.wr : Tm → List UInt8
  | .mk k n s l => wrNode k n s l (wrs l) (wrts l)
/-- the rest of a list -/
def Tm.wrt : Tm → List UInt8
  | .mk k n s l => if k = 3 ∧ s = [46] ∧ l.length = 2 then 44 :: (wrs l).headD [] ++ (wrts l).getD 1 []
    else if k = 3 ∧ s = [91, 93] ∧ l = [] then [] else 124 :: wrNode k n s l (wrs l) (wrts l)
def wrs : List Tm → List (List UInt8)
  | [] => []
  | t :: l => t.wr :: wrs l
def wrts : List Tm → List (List UInt8)
  | [] => []
  | t :: l => t.wrt :: wrts l
end
theorem wrs_map : ∀ l : List Tm, wrs l = l.map Tm.wr
  | [] => by rw [wrs]; rfl
  | t :: l => by rw [wrs, wrs_map l]; rfl
theorem wrts_map : ∀ l : List Tm, wrts l = l.map Tm.wrt
  | [] => by rw [wrts]; rfl
  | t :: l => by rw [wrts, wrts_map l]; rfl
theorem joinS_snoc (c : UInt8) : ∀ (l : List (List UInt8)) (x : List UInt8), joinS c (l ++ [x]) = if l = [] then x else joinS c l ++ c :: x
  | [], x => rfl
  | [a], x => rfl
  | a :: b :: l, x => by
    have ih := joinS_snoc c (b :: l) x
    simp at ih
    simp [joinS, ih]
theorem joinS_len (c : UInt8) : ∀ (l : List (List UInt8)), (joinS c l).length ≤ (l.map fun x => x.length + 1).sum
  | [] => by simp [joinS]
  | [a] => by simp [joinS]
  | a :: b :: l => by
    have ih := joinS_len c (b :: l)
    simp [joinS] at ih ⊢
    omega
theorem itoa_short {n : Int} (h0 : -999 ≤ n) (h1 : n ≤ 999) : 1 ≤ (Lib.itoa n).length ∧ (Lib.itoa n).length ≤ 5 := by
  have key : ∀ u : Nat, u ≤ 999 → 1 ≤ (Lib.decDigits u).length ∧ (Lib.decDigits u).length ≤ 4 := by
    intro u hu
    rw [Lib.decDigits]
    split
    · simp
    · rw [Lib.decDigits]
      split
      · simp
      · rw [Lib.decDigits]
        split
        · simp
        · rw [Lib.decDigits, dif_pos (by omega)]
          simp
  unfold Lib.itoa
  split
  · have := key n.natAbs (by omega)
    simp
    omega
  · have := key n.toNat (by omega)
    omega
theorem opnd_len (t : Tm) (w : List UInt8) (m : Int) (r : Bool) : (opnd t w m r).length ≤ w.length + 2 := by
  unfold opnd
  split <;> simp
theorem opnd_ne {t : Tm} {w : List UInt8} {m : Int} {r : Bool} (h : w ≠ []) : opnd t w m r ≠ [] := by
  unfold opnd
  split
  · simp
  · exact h
theorem opSp_len (s : List UInt8) : (opSp s).length ≤ s.length + 2 := by
  unfold opSp
  split <;> simp
theorem sizes_mem {t : Tm} : ∀ {l : List Tm}, t ∈ l → t.size ≤ sizes l
  | a :: l, h => by
    simp only [sizes]
    rcases List.mem_cons.1 h with rfl | h
    · omega
    · have := sizes_mem h; omega
theorem sum_wr : ∀ l : List Tm, (∀ t ∈ l, t.wr.length ≤ 20 * t.size) → ((l.map Tm.wr).map fun x => x.length + 1).sum ≤ 20 * sizes l + l.length
  | [], _ => by simp [sizes]
  | a :: l, h => by
    have ha := h a (by simp)
    have := sum_wr l fun t ht => h t (by simp [ht])
    simp [sizes] at this ⊢
    omega
/-- how long a text is -/
theorem wr_len : ∀ t : Tm, t.good → (t.wr.length ≤ 20 * t.size ∧ t.wrt.length ≤ 20 * t.size + 1) ∧ t.wr ≠ [] := by
  refine Tm.ind fun k n s l ih hg => ?_
  obtain ⟨ho, hk⟩ := hg
  have ih2 := fun t ht => ih t ht (hk t ht)
  have hnode : (wrNode k n s l (wrs l) (wrts l)).length ≤ 20 * (Tm.mk k n s l).size ∧ wrNode k n s l (wrs l) (wrts l) ≠ [] := by
    unfold wrNode
    rw [wrs_map, wrts_map, Tm.size]
    rcases own_cases ho with ⟨rfl, _, _, rfl, rfl⟩ | ⟨rfl, n0, n1, rfl, rfl⟩ | ⟨rfl, rfl, hs, hl⟩
    · simp; omega
    · have := itoa_short n0 n1
      simp
      refine ⟨by omega, fun h => ?_⟩
      rw [h] at this
      simp at this
    · obtain ⟨s1, s6⟩ := name_len hs
      have hsne : s ≠ [] := by intro h; subst h; simp at s1
      simp only [show ¬ (3 : Int) = 1 by decide, show ¬ (3 : Int) = 2 by decide, if_false]
      split
      · rename_i hp
        match l, hp.2, ih2 with
        | [a, b], _, ih2 =>
          have ha := ih2 a (by simp)
          have hb := ih2 b (by simp)
          simp [sizes]
          omega
      · split
        · rename_i hp hq
          match l, hq.1, ih2 with
          | [a, b], _, ih2 =>
            have ha := ih2 a (by simp)
            have hb := ih2 b (by simp)
            have h1 := opnd_len a a.wr (leftMost s) false
            have h2 := opnd_len b b.wr (levelN s - 1) true
            have h3 := opSp_len s
            simp [sizes, opnd_ne ha.2]
            omega
        · split
          · simp [hsne]; omega
          · refine ⟨?_, by simp⟩
            have hj := joinS_len 44 (l.map Tm.wr)
            have hsum := sum_wr l (fun t ht => (ih2 t ht).1.1)
            simp
            omega
  refine ⟨⟨by rw [Tm.wr]; exact hnode.1, ?_⟩, by rw [Tm.wr]; exact hnode.2⟩
  rw [Tm.wrt]
  split
  · rename_i hp
    rw [wrs_map, wrts_map, Tm.size]
    match l, hp.2.2, ih2 with
    | [a, b], _, ih2 =>
      have ha := ih2 a (by simp)
      have hb := ih2 b (by simp)
      simp [sizes]
      omega
  · split
    · simp
    · simp
      exact hnode.1
end Go.Proofs.YtcapnainldlnjaaGreat

open Go Go.AM Go.Proofs
namespace Go.Proofs.YtcapnainldlnjaaGreat
set_option linter.unusedVariables false
set_option linter.unusedSimpArgs false
set_option maxRecDepth 100000
/-- small numbers in decimal -/
def dec3 (u : Nat) : List UInt8 := if u < 10 then [UInt8.ofNat (48 + u)] else if u < 100 then [UInt8.ofNat (48 + u / 10), UInt8.ofNat (48 + u % 10)] else [UInt8.ofNat (48 + u / 100), UInt8.ofNat (48 + u / 10 % 10), UInt8.ofNat (48 + u % 10)]
def itoa3 (n : Int) : List UInt8 := if n < 0 then 45 :: dec3 n.natAbs else dec3 n.toNat
theorem dd_lt {u : Nat} (h : u < 10) : Lib.decDigits u = [UInt8.ofNat (48 + u)] := by rw [Lib.decDigits, dif_pos h]
theorem dd_ge {u : Nat} (h : ¬ u < 10) : Lib.decDigits u = Lib.decDigits (u / 10) ++ [UInt8.ofNat (48 + u % 10)] := by rw [Lib.decDigits, dif_neg h]
theorem dec3_eq {u : Nat} (h : u ≤ 999) : dec3 u = Lib.decDigits u := by
  unfold dec3
  by_cases h1 : u < 10
  · rw [if_pos h1, dd_lt h1]
  · rw [if_neg h1, dd_ge h1]
    by_cases h2 : u < 100
    · rw [if_pos h2, dd_lt (by omega)]; rfl
    · rw [if_neg h2, dd_ge (u := u / 10) (by omega), dd_lt (u := u / 10 / 10) (by omega)]
      have : u / 10 / 10 = u / 100 := by omega
      rw [this]; rfl
theorem itoa3_eq {n : Int} (h0 : -999 ≤ n) (h1 : n ≤ 999) : itoa3 n = Lib.itoa n := by
  unfold itoa3 Lib.itoa
  split
  · rw [dec3_eq (by omega)]
  · rw [dec3_eq (by omega)]
end Go.Proofs.YtcapnainldlnjaaGreat

open Go Go.AM Go.Proofs
namespace Go.Proofs.YtcapnainldlnjaaGreat
open Go.ChangeShapes Go.WideShapes Go.ChangeAt Go.RowKit
set_option linter.unusedVariables false
set_option linter.unusedSimpArgs false
set_option maxRecDepth 100000
-- 68 loop.example/prologserver/spec.l18Cut params 2 ntmps 36
-- loop head live: [0,1,5,6,7]
def ac68 : Cd := .seq (.region [oc 4 (.mv (.k (.c (.full []))))] [4])
 (.seq (.region [oc 8 (.buildSlice 1 0 [(.str [])] []),
 oa 5 8] [8])
 (.seq (.region [oc 6 (.mv (ki 0))] [])
 (.seq (.seq (.region [oc 7 (.mv (ki 0))] [])
 (.block 0 (.loop (.seq (.seq (.region [oa 9 7,
 oa 10 0,
 oc 11 (.len 0 (.t 10)),
 oc 12 (.bin .leq (.t 9) (.t 11))] [9,10,11])
 (.cond (.t 12)
 (.skip)
 (.exit 0)))
 (.seq (.block 1 (.seq (.region [oa 15 7,
 oa 16 0,
 oc 17 (.len 0 (.t 16)),
 oc 18 (.bin .eql (.t 15) (.t 17)),
 oa 19 18,
 ⟨some 20,.mv (.t 0),some (19,false)⟩,
 ⟨some 21,.mv (.t 7),some (19,false)⟩,
 ⟨some 22,.index (.t 20) (.t 21),some (19,false)⟩,
 ⟨some 23,.mv (.t 1),some (19,false)⟩,
 ⟨some 24,.bin .eql (.t 22) (.t 23),some (19,false)⟩,
 oc 25 (.pick (.t 19) (.k (.c (.d (.bool true)))) (.t 24))] [12,15,16,17,18,19,20,21,22,23,24])
 (.cond (.t 25)
 (.seq (.region [oa 26 5,
 oa 27 0,
 oa 28 6,
 oa 29 7,
 oc 30 (.slice 0 (.t 27) (some (.t 28)) (some (.t 29)) none),
 oc 31 (.buildSlice 1 1 [(.str [])] [(0,(.t 30))]),
 oc 32 (.append false 1 (.t 26) (.t 31)),
 oa 5 32] [6,25,26,27,28,29,30,31,32])
 (.region [oa 33 7,
 oc 34 (.bin .add (.t 33) (ki 1)),
 oa 6 34] [33,34]))
 (.skip))))
 (.region [oa 13 7,
 oc 14 (.bin .add (.t 13) (ki 1)),
 oa 7 14] [13,14,25]))))))
 (.seq (.region [oa 35 5,
 oa 4 35] [5,35])
 (.ret)))))
theorem ac68_ok : cFunc Tryz.prog [] [(0,[4],[]),(1,[8],[]),(2,[],[]),(3,[],[]),(4,[9,10,11],[]),(6,[12,15,16,17,18,19,20,21,22,23,24],[]),(7,[6,25,26,27,28,29,30,31,32],[]),(8,[33,34],[]),(5,[13,14,25],[]),(9,[5,35],[])] Tryz.f68 = some (ac68,[.tmp 4],36) := by kernel_rfl
/-- a text, cut at each of a byte -/
def cutAt (c : UInt8) : List UInt8 → List (List UInt8)
  | [] => [[]]
  | b :: s => if b = c then [] :: cutAt c s else match cutAt c s with
    | l :: r => (b :: l) :: r
    | [] => [[b]]
def glue (p : List UInt8) : List (List UInt8) → List (List UInt8)
  | l :: r => (p ++ l) :: r
  | [] => [p]
theorem cutAt_ne (c : UInt8) : ∀ s : List UInt8, cutAt c s ≠ []
  | [] => by simp [cutAt]
  | b :: s => by
    unfold cutAt
    split
    · simp
    · split <;> simp
theorem glue_nil (l : List (List UInt8)) (h : l ≠ []) : glue [] l = l := by
  cases l with
  | nil => exact absurd rfl h
  | cons a l => rfl
theorem glue_cut (c b : UInt8) (p s : List UInt8) : glue p (cutAt c (b :: s)) = if b = c then p :: cutAt c s else glue (p ++ [b]) (cutAt c s) := by
  rw [cutAt]
  by_cases h : b = c
  · simp [h, glue]
  · simp only [if_neg h]
    cases hc : cutAt c s with
    | nil => exact absurd hc (cutAt_ne c s)
    | cons l r => simp [glue]
theorem byte_off2 {g : Bool} {s : List UInt8} {i : Int} (b : UInt8) {K : A → St → Prop} {st : St} (hg : g = false) (hk : K (.c (.d (.int .u8 b.toNat))) st) : ByteK g s i K st := ⟨b, fun h => absurd (hg ▸ h) (by simp), hk⟩
theorem byte_nat2 {g : Bool} {s : List UInt8} {i : Nat} {K : A → St → Prop} {st : St} (h : i < s.length) (hg : g = true) (hk : K (.c (.d (.int .u8 s[i].toNat))) st) : ByteK g s i K st := by
  subst hg
  exact byte_nat h hk
set_option maxHeartbeats 3200000 in
theorem cut_calls (s : List UInt8) (hs : s.length ≤ 2000000) (c : UInt8) (H : Heap) : ACalls Tryz.prog 68 [.c (.d (.str s)), .c (.d (.int .u8 c.toNat))] H (fun r H' => H' = H ∧ r = .c (.d (.sl ((cutAt c s).map strRow)))) := by
  refine acalls Tryz.func68 (by kernel_rfl) ac68_ok fun hf => ?_
  have hli : inR .i64 (s.length : Int) := small_i64 (by omega) (by omega)
  simp -implicitDefEqProofs [ac68, go_sem, -List.set_cons_succ, -List.set_cons_zero]
  refine loop_enter (St.le_token 5 1 rfl) ?_
  refine loop_set (σ := Nat × Nat × List (List UInt8)) (fun x => [(7, .c (.d (.int .i64 x.1))), (6, .c (.d (.int .i64 x.2.1))), (5, .c (.own (.l 0) x.2.2.length (x.2.2.map strRow)))]) (fun _ => H) (fun x => [.grow x.2.2.length 1])
    (fun x => x.2.2.length ≤ x.1 ∧ ((x.1 ≤ s.length ∧ x.2.1 ≤ x.1 ∧ x.2.2 ++ glue ((s.take x.1).drop x.2.1) (cutAt c (s.drop x.1)) = cutAt c s) ∨ (x.1 = s.length + 1 ∧ x.2.2 = cutAt c s))) (fun x => s.length + 1 - x.1) (0, 0, []) (by simp [setAll]) ⟨Nat.zero_le _, .inl ⟨Nat.zero_le _, Nat.zero_le _, by simp [glue_nil _ (cutAt_ne c s)]⟩⟩ ?_
  rintro ⟨i, fr, out⟩ ⟨hol, hI⟩
  simp only at hol hI
  simp -implicitDefEqProofs [setAll, hli, go_sem, -List.set_cons_succ, -List.set_cons_zero]
  refine ⟨fun hle => ?_, fun hgt => ?_⟩
  · obtain ⟨_, hfr, hcut⟩ := hI.resolve_right (by omega)
    have hadd : inR .i64 ((i : Int) + 1) := small_i64 (by omega) (by omega)
    by_cases he : i = s.length
    · subst he
      refine byte_off2 0 (by simp) ?_
      simp -implicitDefEqProofs [hadd, go_sem, -List.set_cons_succ, -List.set_cons_zero]
      refine ⟨hfr, fun r hr => ?_, by unfold maxApp; omega, ?_⟩
      · obtain ⟨y, _, rfl⟩ := List.mem_map.1 hr; rfl
      refine loop_back (s.length + 1, s.length + 1, out ++ [s.drop fr]) (by simp [setAll, strRow]) ⟨by simp; omega, .inr ⟨rfl, ?_⟩⟩ (by show s.length + 1 - (s.length + 1) < _; omega)
      rw [← hcut]
      simp [cutAt, glue]
    · have he2 : ¬ (i : Int) = s.length := by omega
      have hlt : i < s.length := by omega
      refine byte_nat2 hlt (by simp [he2]) ?_
      simp -implicitDefEqProofs [he, he2, hadd, go_sem, -List.set_cons_succ, -List.set_cons_zero]
      have hdr : s.drop i = s[i] :: s.drop (i + 1) := List.drop_eq_getElem_cons hlt
      rw [hdr, glue_cut] at hcut
      refine ⟨fun hb => ⟨⟨hfr, by omega⟩, fun r hr => ?_, by unfold maxApp; omega, ?_⟩, fun hb => ?_⟩
      · obtain ⟨y, _, rfl⟩ := List.mem_map.1 hr; rfl
      · have hb2 : s[i] = c := UInt8.toNat_inj.1 (by omega)
        rw [if_pos hb2] at hcut
        refine loop_back (i + 1, i + 1, out ++ [(s.take i).drop fr]) (by simp [setAll, strRow]) ⟨by simp; omega, .inl ⟨hlt, Nat.le_refl _, ?_⟩⟩ (by show s.length + 1 - (i + 1) < s.length + 1 - i; omega)
        rw [← hcut]
        simp [glue_nil _ (cutAt_ne c _)]
      · have hb2 : ¬ s[i] = c := fun h => hb (by rw [h])
        rw [if_neg hb2] at hcut
        refine loop_back (i + 1, fr, out) (by simp [setAll]) ⟨by dsimp only; omega, .inl ⟨hlt, by dsimp only; omega, ?_⟩⟩ (by show s.length + 1 - (i + 1) < s.length + 1 - i; omega)
        rw [← hcut]
        simp only
        rw [List.take_succ_eq_append_getElem hlt, List.drop_append_of_le_length (by simp; omega)]
  · obtain ⟨_, hcut⟩ := hI.resolve_left (by omega)
    simp -implicitDefEqProofs [hcut, hf, go_sem, -List.set_cons_succ, -List.set_cons_zero]
end Go.Proofs.YtcapnainldlnjaaGreat

open Go Go.AM Go.Proofs
namespace Go.Proofs.YtcapnainldlnjaaGreat
set_option linter.unusedVariables false
set_option linter.unusedSimpArgs false
set_option maxRecDepth 100000
/-- goals, separated by commas -/
def goalsR (s : List UInt8) : Nat → Nat → Option (List Tm × Nat)
  | 0, _ => none
  | n + 1, i => match rdF s (.read i 30 3) with
    | some (.ok ts j) => if sgn s j 44 then match goalsR s n (j + 1) with
        | some (us, k) => some (Rs.tm ts :: us, k)
        | none => none
      else some ([Rs.tm ts], j)
    | _ => none
/-- the text of a clause -/
def goalsW (W : Tm → List UInt8) (first : Bool) : List Tm → List UInt8
  | [] => []
  | t :: l => (if first then [58, 45] else [44]) ++ W t ++ goalsW W false l
def clW (W : Tm → List UInt8) (c : Cl) : List UInt8 := W c.head ++ goalsW W true c.body ++ [46]
def clauseB (W : Tm → List UInt8) (s : List UInt8) (c : Cl) (j : Nat) : Option Cl :=
  if decide (j + 1 = s.length) && sgn s j 46 && c.validB && clW W c == s then some c else none
def clauseR (W : Tm → List UInt8) (s : List UInt8) : Option Cl :=
  if 1000 < s.length then none
  else match rdF s (.read 0 30 3) with
    | some (.ok ts j) => if sgn s j 58 && sgn s (j + 1) 45 then match goalsR s 7 (j + 2) with
        | some (b, k) => clauseB W s ⟨Rs.tm ts, b⟩ k
        | none => none
      else clauseB W s ⟨Rs.tm ts, []⟩ j
    | _ => none
def linesR (W : Tm → List UInt8) : List (List UInt8) → Option (List Cl)
  | [] => some []
  | [l] => some []
  | l :: r => match clauseR W l, linesR W r with
    | some c, some p => some (c :: p)
    | _, _ => none
def progR (W : Tm → List UInt8) (s : List UInt8) : List Cl × Bool :=
  if decide (21 < (cutAt 10 s).length) || !((cutAt 10 s).getLastD []).isEmpty then ([], false)
  else match linesR W (cutAt 10 s) with
    | some p => (p, true)
    | none => ([], false)
def wrNode3 (k n : Int) (s : List UInt8) (l : List Tm) (ws ts : List (List UInt8)) : List UInt8 :=
  if k = 1 then [UInt8.ofNat (65 + n.toNat)]
  else if k = 2 then itoa3 n
  else if s = [46] ∧ l.length = 2 then 91 :: ws.headD [] ++ ts.getD 1 [] ++ [93]
  else if l.length = 2 ∧ 0 < levelN s then opnd (l.getD 0 leafT) (ws.getD 0 []) (leftMost s) false ++ opSp s ++ opnd (l.getD 1 leafT) (ws.getD 1 []) (levelN s - 1) true
  else if l.isEmpty then s else s ++ 40 :: joinS 44 ws ++ [41]
mutual
def Tm.wr3 : Tm → List UInt8
  | .mk k n s l => wrNode3 k n s l (wrs3 l) (wrts3 l)
def Tm.wrt3 : Tm → List UInt8
  | .mk k n s l => if k = 3 ∧ s = [46] ∧ l.length = 2 then 44 :: (wrs3 l).headD [] ++ (wrts3 l).getD 1 []
    else if (decide (k = 3) && decide (s = [91, 93]) && l.isEmpty) = true then [] else 124 :: wrNode3 k n s l (wrs3 l) (wrts3 l)
def wrs3 : List Tm → List (List UInt8)
  | [] => []
  | t :: l => t.wr3 :: wrs3 l
def wrts3 : List Tm → List (List UInt8)
  | [] => []
  | t :: l => t.wrt3 :: wrts3 l
end
theorem wr3_eq : ∀ t : Tm, t.good → t.wr3 = t.wr ∧ t.wrt3 = t.wrt := by
  refine Tm.ind fun k n s l ih hg => ?_
  obtain ⟨ho, hk⟩ := hg
  have hl : ∀ l : List Tm, (∀ t ∈ l, t.wr3 = t.wr ∧ t.wrt3 = t.wrt) → wrs3 l = wrs l ∧ wrts3 l = wrts l := by
    intro l
    induction l with
    | nil => intro _; exact ⟨by rw [wrs3, wrs], by rw [wrts3, wrts]⟩
    | cons a l ih2 =>
      intro h
      obtain ⟨h1, h2⟩ := ih2 fun t ht => h t (by simp [ht])
      obtain ⟨h3, h4⟩ := h a (by simp)
      exact ⟨by rw [wrs3, wrs, h1, h3], by rw [wrts3, wrts, h2, h4]⟩
  obtain ⟨e1, e2⟩ := hl l fun t ht => ih t ht (hk t ht)
  have hnode : wrNode3 k n s l (wrs3 l) (wrts3 l) = wrNode k n s l (wrs l) (wrts l) := by
    rw [e1, e2]
    unfold wrNode3 wrNode
    rcases own_cases ho with ⟨rfl, _, _, rfl, rfl⟩ | ⟨rfl, n0, n1, rfl, rfl⟩ | ⟨rfl, rfl, hs, hl⟩
    · rfl
    · rw [itoa3_eq n0 n1]; rfl
    · cases l <;> rfl
  refine ⟨by rw [Tm.wr3, Tm.wr, hnode], ?_⟩
  rw [Tm.wrt3, Tm.wrt, hnode, e1, e2]
  cases l <;> simp
theorem goalsW_eq : ∀ (b : Bool) (l : List Tm), (∀ t ∈ l, t.good) → goalsW Tm.wr3 b l = goalsW Tm.wr b l
  | _, [], _ => rfl
  | b, t :: l, h => by
    simp only [goalsW]
    rw [(wr3_eq t (h t (by simp))).1, goalsW_eq false l fun t ht => h t (by simp [ht])]
theorem clW_eq {c : Cl} (hv : c.validB = true) : clW Tm.wr3 c = clW Tm.wr c := by
  simp only [Cl.validB, Bool.and_eq_true, goalsB, List.all_eq_true, decide_eq_true_eq] at hv
  unfold clW
  rw [(wr3_eq c.head (valid_good hv.1.1)).1, goalsW_eq true c.body fun t ht => ?_]
  have := hv.2.2 t ht
  simp only [Tm.goal, Bool.and_eq_true] at this
  exact valid_good this.1
theorem clauseB_eq (s : List UInt8) (c : Cl) (j : Nat) : clauseB Tm.wr3 s c j = clauseB Tm.wr s c j := by
  unfold clauseB
  cases hv : c.validB with
  | false => simp
  | true => rw [clW_eq hv]
theorem clauseR_eq (s : List UInt8) : clauseR Tm.wr3 s = clauseR Tm.wr s := by
  simp only [clauseR, clauseB_eq]
theorem linesR_eq : ∀ l : List (List UInt8), linesR Tm.wr3 l = linesR Tm.wr l
  | [] => rfl
  | [_] => rfl
  | a :: b :: l => by
    have ih := linesR_eq (b :: l)
    show (match clauseR Tm.wr3 a, linesR Tm.wr3 (b :: l) with | some c, some p => some (c :: p) | _, _ => none) = (match clauseR Tm.wr a, linesR Tm.wr (b :: l) with | some c, some p => some (c :: p) | _, _ => none)
    rw [ih, clauseR_eq]
theorem progR_eq (s : List UInt8) : progR Tm.wr3 s = progR Tm.wr s := by
  simp only [progR, linesR_eq]
end Go.Proofs.YtcapnainldlnjaaGreat

open Go Go.AM Go.Proofs
namespace Go.Proofs.YtcapnainldlnjaaGreat
open Go.ChangeShapes Go.WideShapes Go.ChangeAt Go.RowKit
set_option linter.unusedVariables false
set_option linter.unusedSimpArgs false
set_option maxRecDepth 100000
-- 71 loop.example/prologserver/spec.l4Goals params 2 ntmps 33
-- loop head live: [0,1,6]
def ac71 : Cd := .seq (.region [oc 4 (.mv (.k (.c (.full [])))),
 oc 5 (.mv (ki 0))] [4,5])
 (.seq (.region [oc 9 (.buildSlice 4 0 [(.int .i64 0),(.int .i64 0),(.str []),(.sl [])] []),
 oa 6 9] [9])
 (.seq (.block 0 (.loop (.seq (.seq (.region [oa 10 6,
 oc 11 (.len 1 (.t 10)),
 oc 12 (.bin .leq (.t 11) (ki 6))] [10,11])
 (.cond (.t 12)
 (.skip)
 (.exit 0)))
 (.block 1 (.seq (.region [oa 14 0,
 oa 15 1,
 oc 16 (.qcall 91 [(.t 14),(.t 15),(ki 30),(ki 3)]),
 oa 13 16,
 oc 17 (.extract 0 (.t 13)),
 oc 18 (.extract 1 (.t 13)),
 oc 7 (.alloc [(.d (.int .i64 0)),(.d (.int .i64 0)),(.d (.str [])),(.full [])]),
 ⟨none,.store 4 (.t 7) (.t 17),none⟩,
 oa 8 18] [1,12,13,14,15,16,17,18])
 (.seq (.seq (.region [oa 19 8,
 oc 20 (.bin .lss (.t 19) (ki 0))] [19])
 (.cond (.t 20)
 (.seq (.region [oc 4 (.mv (.k (.c (.full [])))),
 oc 5 (.mv (ki (-1)))] [0,6,7,8,20])
 (.ret))
 (.skip)))
 (.seq (.region [oa 21 6,
 oc 22 (.load (some 4) (.t 7)),
 oc 23 (.buildSlice 4 1 [(.int .i64 0),(.int .i64 0),(.str []),(.sl [])] [(0,(.t 22))]),
 oc 24 (.append false 4 (.t 21) (.t 23)),
 oa 6 24] [4,5,7,20,21,22,23,24])
 (.seq (.seq (.region [oa 25 0,
 oa 26 8,
 oc 27 (.qcall 92 [(.t 25),(.t 26),(.k (.c (.d (.int .u8 44))))]),
 oc 28 (.un .not (.t 27))] [25,26,27])
 (.cond (.t 28)
 (.seq (.region [oa 29 6,
 oa 30 8,
 oa 4 29,
 oa 5 30] [0,6,8,28,29,30])
 (.ret))
 (.skip)))
 (.region [oa 31 8,
 oc 32 (.bin .add (.t 31) (ki 1)),
 oa 1 32] [4,5,8,28,31,32])))))))))
 (.seq (.region [oc 4 (.mv (.k (.c (.full [])))),
 oc 5 (.mv (ki (-1)))] [])
 (.ret))))
theorem ac71_ok : cFunc Tryz.prog [1000091,1000092] [(0,[4,5],[]),(1,[9],[]),(2,[10,11],[]),(3,[1,12,13,14,15,16,17,18],[]),(4,[19],[]),(5,[0,6,7,8,20],[]),(6,[4,5,7,20,21,22,23,24],[]),(7,[25,26,27],[]),(8,[0,6,8,28,29,30],[]),(9,[4,5,8,28,31,32],[]),(10,[],[])] Tryz.f71 = some (ac71,[.tmp 4,.tmp 5],33) := by kernel_rfl
-- 54 loop.example/prologserver/spec.ParseQuery params 1 ntmps 43
-- loop head live: [4,6,7]
def ac54 : Cd := .seq (.region [oc 2 (.mv (.k (.c (.full [])))),
 oc 3 (.mv (.k (.c (.d (.bool false)))))] [2,3])
 (.seq (.seq (.region [oa 8 0,
 oc 9 (.len 0 (.t 8)),
 oc 10 (.bin .gtr (.t 9) (ki 1000))] [8,9])
 (.cond (.t 10)
 (.seq (.region [oc 11 (.buildSlice 4 0 [(.int .i64 0),(.int .i64 0),(.str []),(.sl [])] []),
 oa 2 11,
 oc 3 (.mv (.k (.c (.d (.bool false)))))] [0,10,11])
 (.ret))
 (.skip)))
 (.seq (.region [oa 13 0,
 oc 14 (.qcall 71 [(.t 13),(ki 0)]),
 oa 12 14,
 oc 15 (.extract 0 (.t 12)),
 oc 16 (.extract 1 (.t 12)),
 oa 4 15,
 oa 5 16] [2,3,10,12,13,14,15,16])
 (.seq (.seq (.region [oa 17 5,
 oa 18 0,
 oc 19 (.len 0 (.t 18)),
 oc 20 (.bin .neq (.t 17) (.t 19)),
 oa 21 20,
 ⟨some 22,.mv (.t 4),some (21,false)⟩,
 ⟨some 23,.qcall 72 [(.t 22)],some (21,false)⟩,
 ⟨some 24,.un .not (.t 23),some (21,false)⟩,
 oc 25 (.pick (.t 21) (.k (.c (.d (.bool true)))) (.t 24))] [0,5,17,18,19,20,21,22,23,24])
 (.cond (.t 25)
 (.seq (.region [oc 26 (.buildSlice 4 0 [(.int .i64 0),(.int .i64 0),(.str []),(.sl [])] []),
 oa 2 26,
 oc 3 (.mv (.k (.c (.d (.bool false)))))] [4,25,26])
 (.ret))
 (.skip)))
 (.seq (.region [oc 27 (.buildSlice 4 0 [(.int .i64 0),(.int .i64 0),(.str []),(.sl [])] []),
 oa 6 27] [2,3,25,27])
 (.seq (.seq (.region [oc 7 (.mv (ki 0))] [])
 (.block 0 (.loop (.seq (.seq (.region [oa 28 7,
 oa 29 4,
 oc 30 (.len 1 (.t 29)),
 oc 31 (.bin .lss (.t 28) (.t 30))] [28,29,30])
 (.cond (.t 31)
 (.skip)
 (.exit 0)))
 (.seq (.block 1 (.region [oa 34 6,
 oa 35 4,
 oa 36 7,
 oc 37 (.indexAddr 4 (.t 35) (.t 36)),
 oc 38 (.load (some 4) (.t 37)),
 oc 39 (.qcall 31 [(.t 38)]),
 oc 40 (.buildSlice 4 1 [(.int .i64 0),(.int .i64 0),(.str []),(.sl [])] [(0,(.t 39))]),
 oc 41 (.append false 4 (.t 34) (.t 40)),
 oa 6 41] [31,34,35,36,37,38,39,40,41]))
 (.region [oa 32 7,
 oc 33 (.bin .add (.t 32) (ki 1)),
 oa 7 33] [32,33]))))))
 (.seq (.region [oa 42 6,
 oa 2 42,
 oc 3 (.mv (.k (.c (.d (.bool true)))))] [6,42])
 (.ret)))))))
theorem ac54_ok : cFunc Tryz.prog [1000031,1000071,1000072] [(0,[2,3],[]),(1,[8,9],[]),(2,[0,10,11],[]),(3,[2,3,10,12,13,14,15,16],[]),(4,[0,5,17,18,19,20,21,22,23,24],[]),(5,[4,25,26],[]),(6,[2,3,25,27],[]),(7,[],[]),(8,[28,29,30],[]),(10,[31,34,35,36,37,38,39,40,41],[]),(9,[32,33],[]),(11,[6,42],[])] Tryz.f54 = some (ac54,[.tmp 2,.tmp 3],43) := by kernel_rfl
def goalsA : Option (List Tm × Nat) → A
  | some (ts, k) => .tup [.c (.d (.sl (ts.map Tm.row))), .c (.d (.int .i64 k))]
  | none => .tup [.c (.d (.sl [])), .c (.d (.int .i64 (-1)))]
def appG (out : List Tm) : Option (List Tm × Nat) → Option (List Tm × Nat)
  | some (us, k) => some (out ++ us, k)
  | none => none
theorem rdF_ok (s : List UInt8) (hs : s.length ≤ 1000000) (i d : Nat) (hi : i ≤ s.length) : ∃ r, rdF s (.read i d 3) = some r ∧ (Job.read i d 3).post s r :=
  rd_total s hs _ (.read i d 3) (by simp only [Job.m]; omega) ⟨hi, by omega⟩
theorem l4Goals_calls (s : List UInt8) (hs : s.length ≤ 1000000) (i : Nat) (hi : i ≤ s.length) (H : Heap) : ACalls Tryz.prog 71 [.c (.d (.str s)), .c (.d (.int .i64 i))] H (fun r H' => H' = H ∧ r = goalsA (goalsR s 7 i)) := by
  refine acalls Tryz.func71 (by kernel_rfl) ac71_ok fun hf => ?_
  simp -implicitDefEqProofs [ac71, go_sem, -List.set_cons_succ, -List.set_cons_zero]
  refine loop_enter (St.le_token 6 4 rfl) ?_
  obtain ⟨G, hG⟩ : ∃ G, G = goalsR s 7 i := ⟨_, rfl⟩
  rw [← hG]
  refine loop_set (σ := Nat × List Tm × Nat) (fun x => [(1, .c (.d (.int .i64 x.1))), (6, .c (.own (.l 0) x.2.1.length (x.2.1.map Tm.row)))]) (fun _ => H) (fun x => [.grow x.2.1.length 4])
    (fun x => x.1 ≤ s.length ∧ x.2.1.length + x.2.2 = 7 ∧ appG x.2.1 (goalsR s x.2.2 x.1) = G) (fun x => x.2.2) (i, [], 7) (by simp [setAll]) ⟨hi, by simp, by rw [hG]; cases goalsR s 7 i <;> simp [appG]⟩ ?_
  rintro ⟨p, out, n⟩ ⟨hp, hn, h1⟩
  simp only at hp hn h1
  have hol : inR .i64 (out.length : Int) := small_i64 (by omega) (by omega)
  simp -implicitDefEqProofs [setAll, hol, go_sem, -List.set_cons_succ, -List.set_cons_zero]
  cases n with
  | zero =>
    have h6 : ¬ (out.length : Int) ≤ 6 := by omega
    have h7 : (6 : Int) < (out.length : Int) := by omega
    rw [goalsR] at h1
    subst h1
    simp -implicitDefEqProofs [h6, h7, appG, goalsA, hf, go_sem, -List.set_cons_succ, -List.set_cons_zero]
  | succ n =>
    have h6 : (out.length : Int) ≤ 6 := by omega
    have h7 : ¬ (6 : Int) < (out.length : Int) := by omega
    obtain ⟨r, hr, hpost⟩ := rdF_ok s hs p 30 hp
    rw [goalsR, hr] at h1
    have c1 := (par s hs _).read p 30 3 r hp (by omega) (by omega) hr
    simp only [Int.cast_ofNat_Int] at c1
    simp -implicitDefEqProofs [h6, h7, hf, go_sem, -List.set_cons_succ, -List.set_cons_zero]
    refine qcall_pure c1 hf (readA_re _ _) ?_
    cases r with
    | bad e =>
      have he : e ≤ s.length := hpost
      have hneg : (-1 - (e : Int)) < 0 := by omega
      subst h1
      simp -implicitDefEqProofs [readA, hneg, appG, goalsA, row_mk, hf, go_sem, -List.set_cons_succ, -List.set_cons_zero]
    | ok ts j =>
      obtain ⟨g1, g2, t, rfl, g3⟩ := hpost
      simp only [Rs.tm] at h1
      have hj0 : ¬ (j : Int) < 0 := by omega
      have hj1 : inR .i64 ((j : Int) + 1) := small_i64 (by omega) (by omega)
      simp -implicitDefEqProofs [readA, Rs.tm, hj0, row_len, take_row, pure_d, re_d, toDs_map, hf, go_sem, -List.set_cons_succ, -List.set_cons_zero]
      refine ⟨allLen_map row_len, by unfold maxApp; omega, ?_⟩
      refine qcall_pure (sign_calls s hs j (by omega) 44) hf rfl ?_
      cases hsg : sgn s j 44 with
      | false =>
        rw [hsg] at h1
        simp only [Bool.false_eq_true, if_false] at h1
        subst h1
        simp -implicitDefEqProofs [appG, goalsA, hf, go_sem, -List.set_cons_succ, -List.set_cons_zero]
      | true =>
        rw [hsg] at h1
        simp only [if_true] at h1
        have hjl := sgn_lt hsg
        simp -implicitDefEqProofs [hj1, hf, go_sem, -List.set_cons_succ, -List.set_cons_zero]
        refine loop_less (j + 1, out ++ [t], n) (St.le_cut [_] ?_ (by simp [Sl.le, A.le_refl_iff, A.le_u_iff, As.lo, A.lo, C.lo, Ref.lo, Cs.lo, Obs.lo, Ob.lo, setAll, and_true, true_and, List.length_nil, List.length_cons]) (by simp; rfl) (by simp [Sl.le, A.le_refl_iff, A.le_u_iff, As.lo, A.lo, C.lo, Ref.lo, Cs.lo, Obs.lo, Ob.lo, setAll, and_true, true_and, List.length_nil, List.length_cons])) ⟨by dsimp only; omega, by simp; omega, ?_⟩ (by show n < n + 1; omega)
        · simp [setAll, Sl.le, A.le_refl_iff, A.le_u_iff, As.lo, A.lo, C.lo, Ref.lo, Cs.lo, Obs.lo, Ob.lo, setAll, and_true, true_and, List.length_nil, List.length_cons]
        · rw [← h1]
          show appG (out ++ [t]) (goalsR s n (j + 1)) = _
          cases goalsR s n (j + 1) with
          | none => rfl
          | some q => obtain ⟨us, k⟩ := q; simp [appG]
theorem goalsR_ok (s : List UInt8) (hs : s.length ≤ 1000000) : ∀ (n i : Nat) (ts : List Tm) (k : Nat), i ≤ s.length → goalsR s n i = some (ts, k) → k ≤ s.length ∧ ts.length ≤ n ∧ (∀ t ∈ ts, t.fits) ∧ 1 ≤ ts.length
  | 0, i, ts, k, _, h => by cases h
  | n + 1, i, ts, k, hi, h => by
    obtain ⟨r, hr, hpost⟩ := rdF_ok s hs i 30 hi
    rw [goalsR, hr] at h
    cases r with
    | bad e => cases h
    | ok us j =>
      obtain ⟨g1, g2, t, rfl, g3⟩ := hpost
      simp only [Rs.tm] at h
      split at h
      · rename_i hc
        have hjl := sgn_lt hc
        cases hg : goalsR s n (j + 1) with
        | none => rw [hg] at h; cases h
        | some q =>
          obtain ⟨vs, m⟩ := q
          rw [hg] at h
          cases h
          obtain ⟨q1, q2, q3, q4⟩ := goalsR_ok s hs n (j + 1) _ _ (by omega) hg
          exact ⟨q1, by simp; omega, fun u hu => by
            rcases List.mem_cons.1 hu with rfl | hu
            · exact g3
            · exact q3 u hu, by simp⟩
      · cases h
        exact ⟨g2, by simp, by simpa using g3, by simp⟩
/-- what ParseQuery answers -/
def queryR (s : List UInt8) : List Tm × Bool :=
  if 1000 < s.length then ([], false)
  else match goalsR s 7 0 with
    | some (l, k) => if k = s.length ∧ goalsB l = true then (l, true) else ([], false)
    | none => ([], false)
theorem pqSpec_calls (s : List UInt8) (hs : s.length ≤ 1000000) (H : Heap) : ACalls Tryz.prog 54 [.c (.d (.str s))] H (fun r H' => H' = H ∧ r = .tup [.c (.d (.sl ((queryR s).1.map Tm.row))), .c (.d (.bool (queryR s).2))]) := by
  refine acalls Tryz.func54 (by kernel_rfl) ac54_ok fun hf => ?_
  have hli : inR .i64 (s.length : Int) := small_i64 (by omega) (by omega)
  unfold queryR
  by_cases h1000 : 1000 < s.length
  · have h1 : (1000 : Int) < s.length := by omega
    simp -implicitDefEqProofs [ac54, hli, h1, h1000, go_sem, -List.set_cons_succ, -List.set_cons_zero]
  · have h1 : ¬ (1000 : Int) < s.length := by omega
    rw [if_neg h1000]
    have cg := l4Goals_calls s hs 0 (by omega)
    simp only [Int.cast_ofNat_Int] at cg
    simp -implicitDefEqProofs [ac54, hli, h1, go_sem, -List.set_cons_succ, -List.set_cons_zero]
    cases hg : goalsR s 7 0 with
    | none =>
      rw [hg] at cg
      have hne : ((-1 : Int) != (s.length : Int)) = true := by first | (simp; done) | (simp; omega)
      have hne2 : ¬ (-1 : Int) = (s.length : Int) := by omega
      refine qcall_pure cg hf (by simp [goalsA, A.re, A.res, C.re]) ?_
      simp -implicitDefEqProofs [goalsA, hli, hne, hne2, hf, go_sem, -List.set_cons_succ, -List.set_cons_zero]
    | some q =>
      obtain ⟨l, k⟩ := q
      rw [hg] at cg
      obtain ⟨g1, g2, g3, _⟩ := goalsR_ok s hs 7 0 l k (by omega) hg
      have cq := qvSpec_calls l (by omega) g3
      have hll : inR .i64 (l.length : Int) := small_i64 (by omega) (by omega)
      refine qcall_pure cg hf (by simp [goalsA, A.re, A.res, C.re]) ?_
      by_cases hk : k = s.length
      · subst hk
        simp -implicitDefEqProofs [goalsA, hli, hf, go_sem, -List.set_cons_succ, -List.set_cons_zero]
        refine qcall_pure cq hf rfl ?_
        cases hv : goalsB l with
        | false => simp -implicitDefEqProofs [go_sem, -List.set_cons_succ, -List.set_cons_zero]
        | true =>
          simp -implicitDefEqProofs [go_sem, -List.set_cons_succ, -List.set_cons_zero]
          refine loop_enter (St.le_token 6 4 rfl) ?_
          refine loop_set (σ := Nat) (fun i => [(7, .c (.d (.int .i64 i))), (6, .c (.own (.l 0) i ((l.map Tm.row).take i)))]) (fun _ => H) (fun i => [.grow i 4]) (fun i => i ≤ l.length) (fun i => l.length - i) 0 (by simp [setAll]) (Nat.zero_le _) ?_
          intro i hi
          simp -implicitDefEqProofs [setAll, hll, go_sem, -List.set_cons_succ, -List.set_cons_zero]
          refine ⟨fun hlt => ?_, fun hge => ?_⟩
          · have hadd : inR .i64 ((i : Int) + 1) := small_i64 (by omega) (by omega)
            refine row_of hlt (row_len _) ?_
            simp -implicitDefEqProofs [row_len, take_row, pure_d, re_d, hf, go_sem, -List.set_cons_succ, -List.set_cons_zero]
            refine qcall_pure (copy_calls l[i] (g3 _ (List.getElem_mem hlt))) hf (by simp [A.re, re_d]) ?_
            simp -implicitDefEqProofs [row_len, toDs_map, hadd, hf, Nat.min_eq_left hi, go_sem, -List.set_cons_succ, -List.set_cons_zero]
            refine ⟨fun r hr => allLen_map row_len r (List.mem_of_mem_take hr), by unfold maxApp; omega, ?_⟩
            refine loop_back (i + 1) ?_ hlt (by show l.length - (i + 1) < l.length - i; omega)
            simp [setAll, take_map_succ hlt]
          · obtain rfl : i = l.length := by omega
            rw [show (l.map Tm.row).take l.length = l.map Tm.row from List.take_of_length_le (by simp)]
      · have hk1 : ((k : Int) != (s.length : Int)) = true := by simp; omega
        have hk2 : ¬ (k : Int) = (s.length : Int) := by omega
        have hk3 : ¬ (k = s.length ∧ goalsB l = true) := fun h => hk h.1
        simp -implicitDefEqProofs [goalsA, hli, hk, hk1, hk2, hk3, hf, go_sem, -List.set_cons_succ, -List.set_cons_zero]
end Go.Proofs.YtcapnainldlnjaaGreat

open Go Go.AM Go.Proofs
namespace Go.Proofs.YtcapnainldlnjaaGreat
set_option linter.unusedVariables false
set_option linter.unusedSimpArgs false
set_option maxRecDepth 100000
theorem itoa_len (n : Int) (h0 : -9223372036854775808 ≤ n) (h1 : n ≤ 9223372036854775807) : (Lib.itoa n).length ≤ 1000000 := by
  have key : ∀ k u : Nat, u < 10 ^ k → 0 < k → (Lib.decDigits u).length ≤ k := by
    intro k
    induction k with
    | zero => omega
    | succ k ih =>
      intro u hu _
      rw [Lib.decDigits]
      split
      · simp
      · rename_i hge
        have hk : 0 < k := by
          rcases Nat.eq_zero_or_pos k with e | e
          · subst e; simp at hu; omega
          · exact e
        have := ih (u / 10) (by rw [Nat.pow_succ] at hu; omega) hk
        simp
        omega
  unfold Lib.itoa
  split
  · have := key 30 n.natAbs (by omega) (by omega)
    simp
    omega
  · have := key 30 n.toNat (by omega) (by omega)
    omega
end Go.Proofs.YtcapnainldlnjaaGreat
