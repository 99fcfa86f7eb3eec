/-
  Contracts of functions that the law reaches, and plain lemmas: several texts in one.
  Conditions: none.
-/
import Derived.Test.YtgfmlifkhpjplaaGreatDoorBundA
import Derived.Test.YtgfmlifkhpjplaaGreatDoorBundB
import Derived.Lib.AtoiAllCases
open Go Go.AM Go.Proofs
attribute [local go_sem] kw ew sw tw a_ b_ c_ A.ok A.val d_ e_ f_ g_ h_ i_ j_ k_ l_ m_ unA unD n_ AOp.total o_ p_ q_ r_ s_ t_ u_ v_ A.thaw C.thaw A.fits As.fits C.fits evs oks w_ A.pure C.pure A.re C.re x_ y_ cut A.cells C.rows? z_ A_ B_ C_ a0_ b0_ D_ Ob.re Cs.fits E_ F_ G_ H_ I_ J_ K_ L_ M_ N_ O_ C.toD P_ Q_ R_ S_ T_ Obs.fits U_ eqD V_ W_ X_ Y_ Z_
/-
  The reference's parser does what it is said to do.
  Conditions: none.
-/
open Go Go.AM Go.Proofs
namespace Go.Proofs.YtgfmlifkhpjplaaGreatDoor
open Go.ChangeShapes Go.WideShapes Go.ChangeAt Go.RowKit
set_option linter.unusedVariables false
set_option linter.unusedSimpArgs false
set_option maxRecDepth 100000
-- 77 loop.example/prologserver/spec.l1Sign params 3 ntmps 22
def ac77 : Cd := .seq (.region [⟨(some 6),.mv (.k (.c (.d (.bool false)))),none⟩] [6])
 (.seq (.region [⟨(some 7),.mv (.t 1),none⟩,
 ⟨(some 8),.bin .geq (.t 7) (.k (.c (.d (.int .i64 0)))),none⟩,
 ⟨(some 9),.mv (.t 8),none⟩,
 ⟨(some 10),.mv (.t 1),some (9,true)⟩,
 ⟨(some 11),.mv (.t 0),some (9,true)⟩,
 ⟨(some 12),.len 0 (.t 11),some (9,true)⟩,
 ⟨(some 13),.bin .lss (.t 10) (.t 12),some (9,true)⟩,
 ⟨(some 14),.pick (.t 9) (.t 13) (.k (.c (.d (.bool false)))),none⟩,
 ⟨(some 15),.mv (.t 14),none⟩,
 ⟨(some 16),.mv (.t 0),some (15,true)⟩,
 ⟨(some 17),.mv (.t 1),some (15,true)⟩,
 ⟨(some 18),.index (.t 16) (.t 17),some (15,true)⟩,
 ⟨(some 19),.mv (.t 2),some (15,true)⟩,
 ⟨(some 20),.bin .eql (.t 18) (.t 19),some (15,true)⟩,
 ⟨(some 21),.pick (.t 15) (.t 20) (.k (.c (.d (.bool false)))),none⟩,
 ⟨(some 6),.mv (.t 21),none⟩] [0,1,2,7,8,9,10,11,12,13,14,15,16,17,18,19,20,21])
 (.ret))
theorem ac77_ok : cFunc Tryz.prog [] [(0,[6],[]),(1,[0,1,2,7,8,9,10,11,12,13,14,15,16,17,18,19,20,21],[])] Tryz.f77 = some (ac77,[.tmp 6],22) := by kernel_rfl
-- 106 loop.example/prologserver/spec.l18Num params 1 ntmps 67
-- loop head live: [0,4,5,6]
def ac106 : Cd := .seq (.region [⟨(some 2),.mv (.k (.c (.d (.int .i64 0)))),none⟩,
 ⟨(some 3),.mv (.k (.c (.d (.bool false)))),none⟩] [2,3])
 (.seq (.region [⟨(some 7),.mv (.t 0),none⟩,
 ⟨(some 8),.len 0 (.t 7),none⟩,
 ⟨(some 9),.bin .gtr (.t 8) (.k (.c (.d (.int .i64 0)))),none⟩,
 ⟨(some 10),.mv (.t 9),none⟩,
 ⟨(some 11),.mv (.t 0),some (10,true)⟩,
 ⟨(some 12),.index (.t 11) (.k (.c (.d (.int .i64 0)))),some (10,true)⟩,
 ⟨(some 13),.bin .eql (.t 12) (.k (.c (.d (.int .u8 45)))),some (10,true)⟩,
 ⟨(some 14),.pick (.t 10) (.t 13) (.k (.c (.d (.bool false)))),none⟩,
 ⟨(some 4),.mv (.t 14),none⟩] [7,8,9,10,11,12,13,14])
 (.seq (.seq (.region [⟨(some 15),.mv (.t 4),none⟩] [])
 (.cond (.t 15)
 (.region [⟨(some 16),.mv (.t 0),none⟩,
 ⟨(some 17),.slice 0 (.t 16) (some (.k (.c (.d (.int .i64 1))))) none none,none⟩,
 ⟨(some 0),.mv (.t 17),none⟩] [15,16,17])
 (.skip)))
 (.seq (.seq (.region [⟨(some 18),.mv (.t 0),none⟩,
 ⟨(some 19),.len 0 (.t 18),none⟩,
 ⟨(some 20),.bin .eql (.t 19) (.k (.c (.d (.int .i64 0)))),none⟩,
 ⟨(some 21),.mv (.t 20),none⟩,
 ⟨(some 22),.mv (.t 0),some (21,false)⟩,
 ⟨(some 23),.len 0 (.t 22),some (21,false)⟩,
 ⟨(some 24),.bin .gtr (.t 23) (.k (.c (.d (.int .i64 17)))),some (21,false)⟩,
 ⟨(some 25),.pick (.t 21) (.k (.c (.d (.bool true)))) (.t 24),none⟩,
 ⟨(some 26),.mv (.t 25),none⟩,
 ⟨(some 27),.mv (.t 0),some (26,false)⟩,
 ⟨(some 28),.index (.t 27) (.k (.c (.d (.int .i64 0)))),some (26,false)⟩,
 ⟨(some 29),.bin .eql (.t 28) (.k (.c (.d (.int .u8 48)))),some (26,false)⟩,
 ⟨(some 30),.mv (.t 29),some (26,false)⟩,
 ⟨(some 31),.mv (.t 0),some (30,true)⟩,
 ⟨(some 32),.len 0 (.t 31),some (30,true)⟩,
 ⟨(some 33),.bin .gtr (.t 32) (.k (.c (.d (.int .i64 1)))),some (30,true)⟩,
 ⟨(some 34),.mv (.t 33),some (30,true)⟩,
 ⟨(some 35),.mv (.t 4),some (34,false)⟩,
 ⟨(some 36),.pick (.t 34) (.k (.c (.d (.bool true)))) (.t 35),some (30,true)⟩,
 ⟨(some 37),.pick (.t 30) (.t 36) (.k (.c (.d (.bool false)))),some (26,false)⟩,
 ⟨(some 38),.pick (.t 26) (.k (.c (.d (.bool true)))) (.t 37),none⟩] [15,18,19,20,21,22,23,24,25,26,27,28,29,30,31,32,33,34,35,36,37])
 (.cond (.t 38)
 (.seq (.region [⟨(some 2),.mv (.k (.c (.d (.int .i64 0)))),none⟩,
 ⟨(some 3),.mv (.k (.c (.d (.bool false)))),none⟩] [0,4,38])
 (.ret))
 (.skip)))
 (.seq (.region [⟨(some 5),.mv (.k (.c (.d (.int .i64 0)))),none⟩] [2,3,38])
 (.seq (.seq (.region [⟨(some 6),.mv (.k (.c (.d (.int .i64 0)))),none⟩] [])
 (.block 0 (.loop (.seq (.seq (.region [⟨(some 39),.mv (.t 6),none⟩,
 ⟨(some 40),.mv (.t 0),none⟩,
 ⟨(some 41),.len 0 (.t 40),none⟩,
 ⟨(some 42),.bin .lss (.t 39) (.t 41),none⟩] [39,40,41])
 (.cond (.t 42)
 (.skip)
 (.exit 0)))
 (.seq (.block 1 (.seq (.seq (.region [⟨(some 45),.mv (.t 0),none⟩,
 ⟨(some 46),.mv (.t 6),none⟩,
 ⟨(some 47),.index (.t 45) (.t 46),none⟩,
 ⟨(some 48),.bin .lss (.t 47) (.k (.c (.d (.int .u8 48)))),none⟩,
 ⟨(some 49),.mv (.t 48),none⟩,
 ⟨(some 50),.mv (.t 0),some (49,false)⟩,
 ⟨(some 51),.mv (.t 6),some (49,false)⟩,
 ⟨(some 52),.index (.t 50) (.t 51),some (49,false)⟩,
 ⟨(some 53),.bin .gtr (.t 52) (.k (.c (.d (.int .u8 57)))),some (49,false)⟩,
 ⟨(some 54),.pick (.t 49) (.k (.c (.d (.bool true)))) (.t 53),none⟩] [42,45,46,47,48,49,50,51,52,53])
 (.cond (.t 54)
 (.seq (.region [⟨(some 2),.mv (.k (.c (.d (.int .i64 0)))),none⟩,
 ⟨(some 3),.mv (.k (.c (.d (.bool false)))),none⟩] [0,4,5,6,54])
 (.ret))
 (.skip)))
 (.region [⟨(some 55),.mv (.t 5),none⟩,
 ⟨(some 56),.bin .mul (.t 55) (.k (.c (.d (.int .i64 10)))),none⟩,
 ⟨(some 57),.mv (.t 0),none⟩,
 ⟨(some 58),.mv (.t 6),none⟩,
 ⟨(some 59),.index (.t 57) (.t 58),none⟩,
 ⟨(some 60),.bin .sub (.t 59) (.k (.c (.d (.int .u8 48)))),none⟩,
 ⟨(some 61),.cvInt .i64 (.t 60),none⟩,
 ⟨(some 62),.bin .add (.t 56) (.t 61),none⟩,
 ⟨(some 5),.mv (.t 62),none⟩] [2,3,54,55,56,57,58,59,60,61,62])))
 (.region [⟨(some 43),.mv (.t 6),none⟩,
 ⟨(some 44),.bin .add (.t 43) (.k (.c (.d (.int .i64 1)))),none⟩,
 ⟨(some 6),.mv (.t 44),none⟩] [43,44]))))))
 (.seq (.seq (.region [⟨(some 63),.mv (.t 4),none⟩] [4])
 (.cond (.t 63)
 (.region [⟨(some 64),.mv (.t 5),none⟩,
 ⟨(some 65),.un .neg (.t 64),none⟩,
 ⟨(some 5),.mv (.t 65),none⟩] [63,64,65])
 (.skip)))
 (.seq (.region [⟨(some 66),.mv (.t 5),none⟩,
 ⟨(some 2),.mv (.t 66),none⟩,
 ⟨(some 3),.mv (.k (.c (.d (.bool true)))),none⟩] [5,63,66])
 (.ret))))))))
theorem ac106_ok : cFunc Tryz.prog [] [(0,[2,3],[]),(1,[7,8,9,10,11,12,13,14],[]),(2,[],[]),(3,[15,16,17],[]),(4,[15,18,19,20,21,22,23,24,25,26,27,28,29,30,31,32,33,34,35,36,37],[]),(5,[0,4,38],[]),(6,[2,3,38],[]),(7,[],[]),(8,[39,40,41],[]),(10,[42,45,46,47,48,49,50,51,52,53],[]),(11,[0,4,5,6,54],[]),(12,[2,3,54,55,56,57,58,59,60,61,62],[]),(9,[43,44],[]),(13,[4],[]),(14,[63,64,65],[]),(15,[5,63,66],[])] Tryz.f106 = some (ac106,[.tmp 2,.tmp 3],67) := by kernel_rfl
set_option maxHeartbeats 3200000 in
theorem sign_callsL (s : List UInt8) (hs : s.length ≤ 2000000) (i : Nat) (hi : i ≤ 2000000) (c : UInt8) (H : Heap) : ACalls Tryz.prog 77 [.c (.d (.str s)), .c (.d (.int .i64 i)), .c (.d (.int .u8 c.toNat))] H (fun r H' => H' = H ∧ r = .c (.d (.bool (sgn s i c)))) := by
  refine acalls Tryz.func77 (by kernel_rfl) ac77_ok fun hf => ?_
  have hli : inR .i64 (s.length : Int) := small_i64 (by omega) (by omega)
  by_cases hlt : i < s.length
  · have hsg : sgn s i c = (s[i] == c) := by simp [sgn, hlt]
    rw [hsg]
    have hlt2 : (i : Int) < s.length := by omega
    simp -implicitDefEqProofs [ac77, hli, hlt, go_sem, -List.set_cons_succ, -List.set_cons_zero]
    refine byte_nat hlt ?_
    simp -implicitDefEqProofs [go_sem, -List.set_cons_succ, -List.set_cons_zero]
    rw [Bool.eq_iff_iff]
    simp
    exact ⟨fun h => UInt8.toNat_inj.1 (by omega), fun h => by rw [h]⟩
  · have hsg : sgn s i c = false := by simp [sgn, hlt]
    have hlt2 : ¬ (i : Int) < s.length := by omega
    rw [hsg]
    simp -implicitDefEqProofs [ac77, hli, hlt, go_sem, -List.set_cons_succ, -List.set_cons_zero]
    refine byte_off 0 ?_
    simp -implicitDefEqProofs [go_sem, -List.set_cons_succ, -List.set_cons_zero]
set_option maxHeartbeats 3200000 in
theorem sign_calls (s : List UInt8) (hs : s.length ≤ 1000000) (i : Nat) (hi : i ≤ 2000000) (c : UInt8) (H : Heap) : ACalls Tryz.prog 77 [.c (.d (.str s)), .c (.d (.int .i64 i)), .c (.d (.int .u8 c.toNat))] H (fun r H' => H' = H ∧ r = .c (.d (.bool (sgn s i c)))) := sign_callsL s (by omega) i hi c H
set_option maxHeartbeats 3200000 in
theorem digit_calls (s : List UInt8) (hs : s.length ≤ 1000000) (i : Nat) (hi : i ≤ 2000000) (H : Heap) : ACalls Tryz.prog 80 [.c (.d (.str s)), .c (.d (.int .i64 i))] H (fun r H' => H' = H ∧ r = .c (.d (.bool (digAt s i)))) := by
  refine acalls Tryz.func80 (by kernel_rfl) ac80_ok fun hf => ?_
  have hli : inR .i64 (s.length : Int) := small_i64 (by omega) (by omega)
  by_cases hlt : i < s.length
  · have hsg : digAt s i = digB s[i] := by simp [digAt, hlt]
    rw [hsg]
    simp -implicitDefEqProofs [ac80, hli, hlt, go_sem, -List.set_cons_succ, -List.set_cons_zero]
    refine byte_nat hlt ?_
    by_cases h1 : (48 : Int) ≤ s[i].toNat
    · have h1' : 48 ≤ s[i].toNat := by omega
      simp -implicitDefEqProofs [h1, go_sem, -List.set_cons_succ, -List.set_cons_zero]
      refine byte_nat hlt ?_
      simp -implicitDefEqProofs [digB, h1', go_sem, -List.set_cons_succ, -List.set_cons_zero]
      omega
    · have h1' : ¬ 48 ≤ s[i].toNat := by omega
      simp -implicitDefEqProofs [h1, go_sem, -List.set_cons_succ, -List.set_cons_zero]
      refine byte_off 0 ?_
      simp -implicitDefEqProofs [digB, h1', go_sem, -List.set_cons_succ, -List.set_cons_zero]
  · have hsg : digAt s i = false := by simp [digAt, hlt]
    rw [hsg]
    simp -implicitDefEqProofs [ac80, hli, hlt, go_sem, -List.set_cons_succ, -List.set_cons_zero]
    refine byte_off 0 ?_
    simp -implicitDefEqProofs [go_sem, -List.set_cons_succ, -List.set_cons_zero]
    refine byte_off 0 ?_
    simp -implicitDefEqProofs [go_sem, -List.set_cons_succ, -List.set_cons_zero]
set_option maxHeartbeats 3200000 in
theorem small_calls (s : List UInt8) (hs : s.length ≤ 1000000) (i : Nat) (hi : i ≤ 2000000) (H : Heap) : ACalls Tryz.prog 107 [.c (.d (.str s)), .c (.d (.int .i64 i))] H (fun r H' => H' = H ∧ r = .c (.d (.bool (smaAt s i)))) := by
  refine acalls Tryz.func107 (by kernel_rfl) ac107_ok fun hf => ?_
  have hli : inR .i64 (s.length : Int) := small_i64 (by omega) (by omega)
  by_cases hlt : i < s.length
  · have hsg : smaAt s i = smaB s[i] := by simp [smaAt, hlt]
    rw [hsg]
    simp -implicitDefEqProofs [ac107, hli, hlt, go_sem, -List.set_cons_succ, -List.set_cons_zero]
    refine byte_nat hlt ?_
    by_cases h1 : (97 : Int) ≤ s[i].toNat
    · have h1' : 97 ≤ s[i].toNat := by omega
      simp -implicitDefEqProofs [h1, go_sem, -List.set_cons_succ, -List.set_cons_zero]
      refine byte_nat hlt ?_
      simp -implicitDefEqProofs [smaB, h1', go_sem, -List.set_cons_succ, -List.set_cons_zero]
      omega
    · have h1' : ¬ 97 ≤ s[i].toNat := by omega
      simp -implicitDefEqProofs [h1, go_sem, -List.set_cons_succ, -List.set_cons_zero]
      refine byte_off 0 ?_
      simp -implicitDefEqProofs [smaB, h1', go_sem, -List.set_cons_succ, -List.set_cons_zero]
  · have hsg : smaAt s i = false := by simp [smaAt, hlt]
    rw [hsg]
    simp -implicitDefEqProofs [ac107, hli, hlt, go_sem, -List.set_cons_succ, -List.set_cons_zero]
    refine byte_off 0 ?_
    simp -implicitDefEqProofs [go_sem, -List.set_cons_succ, -List.set_cons_zero]
    refine byte_off 0 ?_
    simp -implicitDefEqProofs [go_sem, -List.set_cons_succ, -List.set_cons_zero]
theorem numV_snoc (l : List UInt8) (b : UInt8) : numV (l ++ [b]) = numV l * 10 + (b.toNat - 48) := by simp [numV]
theorem numV_lt : ∀ (n : Nat) (l : List UInt8), l.length = n → l.all digB = true → numV l < 10 ^ n := by
  intro n
  induction n with
  | zero => intro l hl _; obtain rfl := List.eq_nil_of_length_eq_zero hl; simp [numV]
  | succ n ih =>
    intro l hl hd
    have hne : l ≠ [] := by intro h; subst h; simp at hl
    obtain ⟨m, b, rfl⟩ : ∃ m b, l = m ++ [b] := ⟨l.dropLast, l.getLast hne, (List.dropLast_concat_getLast hne).symm⟩
    simp at hl
    rw [List.all_append, Bool.and_eq_true] at hd
    have h1 := ih m hl hd.1
    have h2 := hd.2
    simp [digB] at h2
    rw [numV_snoc, Nat.pow_succ]
    omega
set_option maxHeartbeats 1600000 in
theorem num_calls (t : List UInt8) (hl : t.length ≤ 17) (hd : t.all digB = true) (H : Heap) : ACalls Tryz.prog 106 [.c (.d (.str t))] H
    (fun r H' => H' = H ∧ r = .tup [.c (.d (.int .i64 (if canB t then (numV t : Int) else 0))), .c (.d (.bool (canB t)))]) := by
  refine acalls Tryz.func106 (by kernel_rfl) ac106_ok fun hf => ?_
  have hli : inR .i64 (t.length : Int) := small_i64 (by omega) (by omega)
  cases t with
  | nil =>
    have h0 : inR .i64 (0 : Int) := small_i64 (by omega) (by omega)
    simp -implicitDefEqProofs [ac106, h0, go_sem, -List.set_cons_succ, -List.set_cons_zero]
    refine byte_off 0 ?_
    simp -implicitDefEqProofs [canB, h0, go_sem, -List.set_cons_succ, -List.set_cons_zero]
    refine byte_off 0 ?_
    simp -implicitDefEqProofs [canB, h0, go_sem, -List.set_cons_succ, -List.set_cons_zero]
  | cons b l =>
    have hb : digB b = true := by simp at hd; exact hd.1
    have hb2 : 48 ≤ b.toNat ∧ b.toNat ≤ 57 := by simpa [digB] using hb
    have hb45 : ((b.toNat : Int) == 45) = false := by simp; omega
    have hz : ((l.length : Int) + 1 == 0) = false := by simp; omega
    have h17 : ¬ (17 : Int) < (l.length : Int) + 1 := by simp at hl; omega
    simp only [List.length_cons, Int.natCast_add, Int.cast_ofNat_Int] at hli
    have hpos : (0 : Int) < (l.length : Int) + 1 := by omega
    obtain ⟨t, ht⟩ : ∃ t, t = b :: l := ⟨_, rfl⟩
    simp -implicitDefEqProofs [ac106, hli, hpos, go_sem, -List.set_cons_succ, -List.set_cons_zero]
    refine byte_int b (by omega) (by simp) ?_
    simp -implicitDefEqProofs [hb45, hz, h17, hli, go_sem, -List.set_cons_succ, -List.set_cons_zero]
    refine byte_int b (by omega) (by simp) ?_
    simp -implicitDefEqProofs [hb45, hz, h17, hli, go_sem, -List.set_cons_succ, -List.set_cons_zero]
    refine ⟨fun h1 h2 => ?_, fun h1 => ?_⟩
    · have hb48 : b = 48 := UInt8.toNat_inj.1 (by have : (48 : UInt8).toNat = 48 := rfl; omega)
      have hl0 : l ≠ [] := by intro h; subst h; simp at h2
      have : canB (b :: l) = false := by simp [canB, hb48, hl0]
      simp [this]
    · have hcan : canB (b :: l) = true := by
        have e1 : (b != 48) = true ∨ l = [] := by
          by_cases hb48 : b = 48
          · subst hb48
            have := h1 rfl
            right
            exact List.eq_nil_of_length_eq_zero (by omega)
          · left; simp [hb48]
        simp only [canB, Bool.and_eq_true, Bool.or_eq_true, decide_eq_true_eq, List.headD_cons]
        refine ⟨⟨⟨by simp, hl⟩, ?_⟩, hd⟩
        rcases e1 with e1 | e1
        · exact .inl e1
        · exact .inr (by simp [e1])
      rw [hcan]
      simp only [if_true]
      rw [← ht] at hl hd ⊢
      have htl : inR .i64 (t.length : Int) := small_i64 (by omega) (by omega)
      refine loop_set (σ := Nat) (fun i => [(6, .c (.d (.int .i64 i))), (5, .c (.d (.int .i64 (numV (t.take i)))))]) (fun _ => H) (fun _ => []) (fun i => i ≤ t.length) (fun i => t.length - i) 0 (by simp [setAll, numV]) (Nat.zero_le _) ?_
      intro i hi
      simp -implicitDefEqProofs [setAll, htl, go_sem, -List.set_cons_succ, -List.set_cons_zero]
      refine ⟨fun hlt => ?_, fun hge => ?_⟩
      · have hadd : inR .i64 ((i : Int) + 1) := small_i64 (by omega) (by omega)
        have hdi : digB t[i] = true := List.all_eq_true.1 hd _ (List.getElem_mem hlt)
        have hd2 : 48 ≤ t[i].toNat ∧ t[i].toNat ≤ 57 := by simpa [digB] using hdi
        have q1 : ¬ (t[i].toNat : Int) < 48 := by omega
        have q2 : ¬ (57 : Int) < t[i].toNat := by omega
        have hts : t.take (i + 1) = t.take i ++ [t[i]] := List.take_succ_eq_append_getElem hlt
        have hnv := numV_lt i (t.take i) (by simp; omega) (by
          rw [List.all_eq_true]
          intro x hx
          exact List.all_eq_true.1 hd _ (List.mem_of_mem_take hx))
        have hp : 10 ^ i ≤ 10 ^ 17 := Nat.pow_le_pow_right (by omega) (by omega)
        have hw : IntKind.i64.wrap ((t[i].toNat : Int) - 48) = (t[i].toNat : Int) - 48 := by rw [IntKind.wrap_i64]; omega
        have hr1 : inR .i64 ((numV (t.take i) : Int) * 10) := i64_def.2 (by omega)
        have hr2 : inR .i64 ((numV (t.take i) : Int) * 10 + ((t[i].toNat : Int) - 48)) := i64_def.2 (by omega)
        have hr3 : inR .u8 ((t[i].toNat : Int) - 48) := by simp [inR, IntKind.min, IntKind.max, IntKind.signed, IntKind.bits]; omega
        refine byte_nat hlt ?_
        simp -implicitDefEqProofs [q1, go_sem, -List.set_cons_succ, -List.set_cons_zero]
        refine byte_nat hlt ?_
        simp -implicitDefEqProofs [q1, q2, hr1, go_sem, -List.set_cons_succ, -List.set_cons_zero]
        refine byte_nat hlt ?_
        simp -implicitDefEqProofs [q1, q2, hr1, hr2, hr3, hw, hadd, go_sem, -List.set_cons_succ, -List.set_cons_zero]
        refine loop_back (i + 1) (by rw [hts, numV_snoc]; simp [setAll]; omega) hlt (by show t.length - (i + 1) < t.length - i; omega)
      · obtain rfl : i = t.length := by omega
        simp -implicitDefEqProofs [go_sem, -List.set_cons_succ, -List.set_cons_zero]
-- 81 loop.example/prologserver/spec.l1Number params 2 ntmps 60
-- loop head live: [0,1,4,6,7]
def ac81 : Cd := .seq (.region [⟨(some 4),.alloc [(.d (.int .i64 0)),(.d (.int .i64 0)),(.d (.str [])),(.full [])],none⟩,
 ⟨(some 5),.mv (.k (.c (.d (.int .i64 0)))),none⟩] [5])
 (.seq (.region [⟨(some 10),.mv (.t 1),none⟩,
 ⟨(some 6),.mv (.t 10),none⟩] [10])
 (.seq (.seq (.region [⟨(some 11),.mv (.t 0),none⟩,
 ⟨(some 12),.mv (.t 6),none⟩,
 ⟨(some 13),.qcall 77 [(.t 11),(.t 12),(.k (.c (.d (.int .u8 45))))],none⟩] [11,12])
 (.cond (.t 13)
 (.region [⟨(some 14),.mv (.t 6),none⟩,
 ⟨(some 15),.bin .add (.t 14) (.k (.c (.d (.int .i64 1)))),none⟩,
 ⟨(some 6),.mv (.t 15),none⟩] [13,14,15])
 (.skip)))
 (.seq (.region [⟨(some 16),.mv (.t 6),none⟩,
 ⟨(some 7),.mv (.t 16),none⟩] [13,16])
 (.seq (.block 0 (.loop (.seq (.seq (.region [⟨(some 17),.mv (.t 0),none⟩,
 ⟨(some 18),.mv (.t 6),none⟩,
 ⟨(some 19),.qcall 80 [(.t 17),(.t 18)],none⟩,
 ⟨(some 20),.mv (.t 19),none⟩,
 ⟨(some 21),.mv (.t 6),some (20,true)⟩,
 ⟨(some 22),.mv (.t 7),some (20,true)⟩,
 ⟨(some 23),.bin .add (.t 22) (.k (.c (.d (.int .i64 4)))),some (20,true)⟩,
 ⟨(some 24),.bin .lss (.t 21) (.t 23),some (20,true)⟩,
 ⟨(some 25),.pick (.t 20) (.t 24) (.k (.c (.d (.bool false)))),none⟩] [17,18,19,20,21,22,23,24])
 (.cond (.t 25)
 (.skip)
 (.exit 0)))
 (.block 1 (.region [⟨(some 26),.mv (.t 6),none⟩,
 ⟨(some 27),.bin .add (.t 26) (.k (.c (.d (.int .i64 1)))),none⟩,
 ⟨(some 6),.mv (.t 27),none⟩] [25,26,27])))))
 (.seq (.region [⟨(some 29),.mv (.t 0),none⟩,
 ⟨(some 30),.mv (.t 7),none⟩,
 ⟨(some 31),.mv (.t 6),none⟩,
 ⟨(some 32),.slice 0 (.t 29) (some (.t 30)) (some (.t 31)) none,none⟩,
 ⟨(some 33),.qcall 106 [(.t 32)],none⟩,
 ⟨(some 28),.mv (.t 33),none⟩,
 ⟨(some 34),.extract 0 (.t 28),none⟩,
 ⟨(some 35),.extract 1 (.t 28),none⟩,
 ⟨(some 8),.mv (.t 34),none⟩,
 ⟨(some 9),.mv (.t 35),none⟩] [0,28,29,30,31,32,33,34,35])
 (.seq (.seq (.region [⟨(some 36),.mv (.t 9),none⟩,
 ⟨(some 37),.un .not (.t 36),none⟩,
 ⟨(some 38),.mv (.t 37),none⟩,
 ⟨(some 39),.mv (.t 7),some (38,false)⟩,
 ⟨(some 40),.mv (.t 1),some (38,false)⟩,
 ⟨(some 41),.bin .gtr (.t 39) (.t 40),some (38,false)⟩,
 ⟨(some 42),.mv (.t 41),some (38,false)⟩,
 ⟨(some 43),.mv (.t 8),some (42,true)⟩,
 ⟨(some 44),.bin .eql (.t 43) (.k (.c (.d (.int .i64 0)))),some (42,true)⟩,
 ⟨(some 45),.pick (.t 42) (.t 44) (.k (.c (.d (.bool false)))),some (38,false)⟩,
 ⟨(some 46),.pick (.t 38) (.k (.c (.d (.bool true)))) (.t 45),none⟩,
 ⟨(some 47),.mv (.t 46),none⟩,
 ⟨(some 48),.mv (.t 8),some (47,false)⟩,
 ⟨(some 49),.bin .gtr (.t 48) (.k (.c (.d (.int .i64 999)))),some (47,false)⟩,
 ⟨(some 50),.pick (.t 47) (.k (.c (.d (.bool true)))) (.t 49),none⟩] [9,36,37,38,39,40,41,42,43,44,45,46,47,48,49])
 (.cond (.t 50)
 (.seq (.region [⟨(some 51),.build [(.d (.int .i64 0)),(.d (.int .i64 0)),(.d (.str [])),(.full [])] [],none⟩,
 ⟨none,.store 4 (.t 4) (.t 51),none⟩,
 ⟨(some 5),.mv (.k (.c (.d (.int .i64 (-1))))),none⟩] [1,6,7,8,50,51])
 (.ret))
 (.skip)))
 (.seq (.seq (.region [⟨(some 52),.mv (.t 7),none⟩,
 ⟨(some 53),.mv (.t 1),none⟩,
 ⟨(some 54),.bin .gtr (.t 52) (.t 53),none⟩] [1,5,7,50,52,53])
 (.cond (.t 54)
 (.region [⟨(some 55),.mv (.t 8),none⟩,
 ⟨(some 56),.un .neg (.t 55),none⟩,
 ⟨(some 8),.mv (.t 56),none⟩] [54,55,56])
 (.skip)))
 (.seq (.region [⟨(some 57),.mv (.t 8),none⟩,
 ⟨(some 58),.qcall 55 [(.t 57)],none⟩,
 ⟨(some 59),.mv (.t 6),none⟩,
 ⟨none,.store 4 (.t 4) (.t 58),none⟩,
 ⟨(some 5),.mv (.t 59),none⟩] [6,8,54,57,58,59])
 (.ret)))))))))
theorem ac81_ok : cFunc Tryz.prog [1000055,1000077,1000080,1000106] [(0,[5],[]),(1,[10],[]),(2,[11,12],[]),(3,[13,14,15],[]),(4,[13,16],[]),(5,[17,18,19,20,21,22,23,24],[]),(6,[25,26,27],[]),(7,[0,28,29,30,31,32,33,34,35],[]),(8,[9,36,37,38,39,40,41,42,43,44,45,46,47,48,49],[]),(9,[1,6,7,8,50,51],[]),(10,[1,5,7,50,52,53],[]),(11,[54,55,56],[]),(12,[6,8,54,57,58,59],[])] Tryz.f81 = some (ac81,[.cell 4 (some 4),.tmp 5],60) := by kernel_rfl
theorem cutS_succ {s : List UInt8} {i j : Nat} (hij : i ≤ j) (hj : j < s.length) : cutS s i (j + 1) = cutS s i j ++ [s[j]] := by
  unfold cutS
  rw [List.take_succ_eq_append_getElem hj, List.drop_append_of_le_length (by simp; omega)]
theorem cutS_same (s : List UInt8) (i : Nat) : cutS s i i = [] := by
  unfold cutS
  exact List.drop_of_length_le (by simp; omega)
/-- a run that stops -/
theorem runE_stop {p : List UInt8 → Nat → Bool} {s : List UInt8} : ∀ (n i m : Nat), m ≤ n → (∀ k, k < m → p s (i + k) = true) → (m = n ∨ p s (i + m) = false) → runE p s n i = i + m
  | 0, i, m, hm, _, _ => by
    have : m = 0 := by omega
    subst this; rfl
  | n + 1, i, 0, hm, _, h => by
    rcases h with h | h
    · omega
    · unfold runE; rw [if_neg (by simpa using h)]; rfl
  | n + 1, i, m + 1, hm, h1, h => by
    have h0 : p s i = true := h1 0 (by omega)
    unfold runE
    rw [if_pos h0, runE_stop n (i + 1) m (by omega) (fun k hk => by have := h1 (k + 1) (by omega); rwa [show i + 1 + k = i + (k + 1) by omega]) (by
      rcases h with h | h
      · left; omega
      · right; rwa [show i + 1 + m = i + (m + 1) by omega])]
    omega
theorem cut_digs {s : List UInt8} (p : Nat) : ∀ k : Nat, p + k ≤ s.length → (∀ m, m < k → digAt s (p + m) = true) → (cutS s p (p + k)).all digB = true
  | 0, _, _ => by rw [Nat.add_zero, cutS_same]; rfl
  | k + 1, h, hd => by
    rw [show p + (k + 1) = p + k + 1 by omega, cutS_succ (by omega) (by omega), List.all_append, cut_digs p k (by omega) fun m hm => hd m (by omega)]
    have h1 := hd k (by omega)
    have hlt : p + k < s.length := by omega
    simp [digAt, hlt] at h1
    simp [h1]
def numA : Option (Int × Nat) → A
  | some (n, j) => .tup [.agg ((Tm.mk 2 n [] []).row.map .d), .c (.d (.int .i64 j))]
  | none => .tup [.agg ((Tm.mk 0 0 [] []).row.map .d), .c (.d (.int .i64 (-1)))]
set_option maxHeartbeats 1600000 in
theorem number_calls (s : List UInt8) (hs : s.length ≤ 1000000) (i : Nat) (hi : i ≤ s.length) (H : Heap) : ACalls Tryz.prog 81 [.c (.d (.str s)), .c (.d (.int .i64 i))] H (fun r H' => H' = H ∧ r = numA (numR s i)) := by
  refine acalls Tryz.func81 (by kernel_rfl) ac81_ok fun hf => ?_
  have hi1 : inR .i64 ((i : Int) + 1) := small_i64 (by omega) (by omega)
  simp -implicitDefEqProofs [ac81, go_sem, -List.set_cons_succ, -List.set_cons_zero]
  refine qcall_pure (sign_calls s hs i (by omega) 45) hf rfl ?_
  cases hsg : sgn s i 45 with
  | true =>
    have hlt := sgn_lt hsg
    simp -implicitDefEqProofs [hi1, go_sem, -List.set_cons_succ, -List.set_cons_zero]
    refine loop_set (σ := Nat) (fun k => [(6, .c (.d (.int .i64 ((i + 1 + k : Nat) : Int))))]) (fun _ => H) (fun _ => [.cells [.d (.int .i64 0), .d (.int .i64 0), .d (.str []), .full []]]) (fun k => k ≤ 4 ∧ i + 1 + k ≤ s.length ∧ ∀ m, m < k → digAt s (i + 1 + m) = true) (fun k => 4 - k) 0 (by simp [setAll]) ⟨by omega, by omega, by simp⟩ ?_
    rintro k ⟨hk4, hkl, hkd⟩
    have hpk4 : inR .i64 (((i + 1 : Nat) : Int) + 4) := small_i64 (by omega) (by omega)
    have hpk4' : inR .i64 ((i : Int) + 1 + 4) := small_i64 (by omega) (by omega)
    have hpk : inR .i64 (((i + 1 : Nat) : Int) + (k : Int) + 1) := small_i64 (by omega) (by omega)
    have hpk' : inR .i64 ((i : Int) + 1 + (k : Int) + 1) := small_i64 (by omega) (by omega)
    simp -implicitDefEqProofs [setAll, go_sem, -List.set_cons_succ, -List.set_cons_zero]
    have cd := digit_calls s hs (i + 1 + k) (by omega)
    simp only [Int.natCast_add, Int.cast_ofNat_Int] at cd
    refine qcall_pure cd hf rfl ?_
    have stop : (k = 4 ∨ digAt s (i + 1 + k) = false) → runE digAt s 4 (i + 1) = i + 1 + k := fun h => runE_stop 4 (i + 1) k hk4 hkd h
    have fin : runE digAt s 4 (i + 1) = i + 1 + k → True := fun _ => trivial
    cases hdg : digAt s (i + 1 + k) with
    | true =>
      by_cases hk3 : k < 4
      · have c1 : (i : Int) + 1 + (k : Int) < (i : Int) + 1 + 4 := by omega
        simp -implicitDefEqProofs [hpk4, hpk4', c1, hpk, hpk', hk3, go_sem, -List.set_cons_succ, -List.set_cons_zero]
        have hlt := dig_lt _ hdg
        exact loop_back (k + 1) (by simp [setAll, Int.add_assoc]) ⟨by omega, by omega, fun m hm => by
          rcases Nat.lt_or_ge m k with h | h
          · exact hkd m h
          · obtain rfl : m = k := by omega
            exact hdg⟩ (by show 4 - (k + 1) < 4 - k; omega)
      · obtain rfl : k = 4 := by omega
        have he := stop (.inl rfl)
        simp -implicitDefEqProofs [hpk4, hpk4', go_sem, -List.set_cons_succ, -List.set_cons_zero]
        obtain ⟨T, hT⟩ : ∃ T, T = cutS s (i + 1) (i + 1 + 4) := ⟨_, rfl⟩
        have hTd : T.all digB = true := by rw [hT]; exact cut_digs (i + 1) 4 hkl hkd
        have hTl : T.length ≤ 17 := by rw [hT, cutS_len]; omega
        have hnat : ((i : Int) + 1 + 4).toNat = i + 1 + 4 := by omega
        have hnm := num_calls T hTl hTd
        have hVl := numV_lt T.length T rfl hTd
        have hTk : T.length ≤ 4 := by rw [hT, cutS_len]; omega
        have hp4 : 10 ^ T.length ≤ 10 ^ 4 := Nat.pow_le_pow_right (by omega) hTk
        have hR : numR s i = if canB T then if (true && decide (numV T = 0)) || decide (999 < numV T) then none else some (-(numV T : Int), i + 1 + 4) else none := by
          unfold numR
          simp only [hsg, if_true, if_false, Bool.false_eq_true, he, ← hT]
        rw [hR, hnat]
        have hT' : (s.take (i + 1 + 4)).drop (i + 1) = T := hT.symm
        rw [hT']
        refine ⟨by omega, qcall_pure hnm hf rfl ?_⟩
        have hii : (i : Int) < (i : Int) + 1 := by omega
        have hij : ¬ (i : Int) + 1 ≤ (i : Int) := by omega
        have i1 : inR .i64 (0 - (numV T : Int)) := small_i64 (by omega) (by omega)
        have i2 : inR .i64 (-(numV T : Int)) := small_i64 (by omega) (by omega)
        cases hc : canB T with
        | false => simp -implicitDefEqProofs [numA, row_mk, hf, hii, hij, go_sem, -List.set_cons_succ, -List.set_cons_zero]
        | true =>
          by_cases h0 : numV T = 0
          · simp -implicitDefEqProofs [h0, numA, row_mk, hf, hii, hij, go_sem, -List.set_cons_succ, -List.set_cons_zero]
          · by_cases h9 : 999 < numV T
            · have h9' : (999 : Int) < numV T := by omega
              have h0' : ((numV T : Int) == 0) = false := by simp; omega
              simp -implicitDefEqProofs [h0, h0', h9, h9', numA, row_mk, hf, hii, hij, go_sem, -List.set_cons_succ, -List.set_cons_zero]
            · have h9' : ¬ (999 : Int) < numV T := by omega
              have h0' : ((numV T : Int) == 0) = false := by simp; omega
              simp -implicitDefEqProofs [h0, h0', h9, h9', i1, i2, hf, hii, hij, go_sem, -List.set_cons_succ, -List.set_cons_zero]
              refine qcall_pure (int_calls (-(numV T : Int))) hf (by simp [A.re, re_d]) ?_
              simp -implicitDefEqProofs [numA, row_mk, hf, hii, hij, go_sem, -List.set_cons_succ, -List.set_cons_zero]
    | false =>
      have he := stop (.inr hdg)
      simp -implicitDefEqProofs [go_sem, -List.set_cons_succ, -List.set_cons_zero]
      obtain ⟨T, hT⟩ : ∃ T, T = cutS s (i + 1) (i + 1 + k) := ⟨_, rfl⟩
      have hTd : T.all digB = true := by rw [hT]; exact cut_digs (i + 1) k hkl hkd
      have hTl : T.length ≤ 17 := by rw [hT, cutS_len]; omega
      have hnat : ((i : Int) + 1 + (k : Int)).toNat = i + 1 + k := by omega
      have hnm := num_calls T hTl hTd
      have hVl := numV_lt T.length T rfl hTd
      have hTk : T.length ≤ 4 := by rw [hT, cutS_len]; omega
      have hp4 : 10 ^ T.length ≤ 10 ^ 4 := Nat.pow_le_pow_right (by omega) hTk
      have hR : numR s i = if canB T then if (true && decide (numV T = 0)) || decide (999 < numV T) then none else some (-(numV T : Int), i + 1 + k) else none := by
        unfold numR
        simp only [hsg, if_true, if_false, Bool.false_eq_true, he, ← hT]
      rw [hR, hnat]
      have hT' : (s.take (i + 1 + k)).drop (i + 1) = T := hT.symm
      rw [hT']
      refine ⟨by omega, qcall_pure hnm hf rfl ?_⟩
      have hii : (i : Int) < (i : Int) + 1 := by omega
      have hij : ¬ (i : Int) + 1 ≤ (i : Int) := by omega
      have i1 : inR .i64 (0 - (numV T : Int)) := small_i64 (by omega) (by omega)
      have i2 : inR .i64 (-(numV T : Int)) := small_i64 (by omega) (by omega)
      cases hc : canB T with
      | false => simp -implicitDefEqProofs [numA, row_mk, hf, hii, hij, go_sem, -List.set_cons_succ, -List.set_cons_zero]
      | true =>
        by_cases h0 : numV T = 0
        · simp -implicitDefEqProofs [h0, numA, row_mk, hf, hii, hij, go_sem, -List.set_cons_succ, -List.set_cons_zero]
        · by_cases h9 : 999 < numV T
          · have h9' : (999 : Int) < numV T := by omega
            have h0' : ((numV T : Int) == 0) = false := by simp; omega
            simp -implicitDefEqProofs [h0, h0', h9, h9', numA, row_mk, hf, hii, hij, go_sem, -List.set_cons_succ, -List.set_cons_zero]
          · have h9' : ¬ (999 : Int) < numV T := by omega
            have h0' : ((numV T : Int) == 0) = false := by simp; omega
            simp -implicitDefEqProofs [h0, h0', h9, h9', i1, i2, hf, hii, hij, go_sem, -List.set_cons_succ, -List.set_cons_zero]
            refine qcall_pure (int_calls (-(numV T : Int))) hf (by simp [A.re, re_d]) ?_
            simp -implicitDefEqProofs [numA, row_mk, hf, hii, hij, go_sem, -List.set_cons_succ, -List.set_cons_zero]
  | false =>
    simp -implicitDefEqProofs [hi1, go_sem, -List.set_cons_succ, -List.set_cons_zero]
    refine loop_set (σ := Nat) (fun k => [(6, .c (.d (.int .i64 ((i + k : Nat) : Int))))]) (fun _ => H) (fun _ => [.cells [.d (.int .i64 0), .d (.int .i64 0), .d (.str []), .full []]]) (fun k => k ≤ 4 ∧ i + k ≤ s.length ∧ ∀ m, m < k → digAt s (i + m) = true) (fun k => 4 - k) 0 (by simp [setAll]) ⟨by omega, by omega, by simp⟩ ?_
    rintro k ⟨hk4, hkl, hkd⟩
    have hpk4 : inR .i64 (((i : Nat) : Int) + 4) := small_i64 (by omega) (by omega)
    have hpk4' : inR .i64 ((i : Int) + 4) := small_i64 (by omega) (by omega)
    have hpk : inR .i64 (((i : Nat) : Int) + (k : Int) + 1) := small_i64 (by omega) (by omega)
    have hpk' : inR .i64 ((i : Int) + (k : Int) + 1) := small_i64 (by omega) (by omega)
    simp -implicitDefEqProofs [setAll, go_sem, -List.set_cons_succ, -List.set_cons_zero]
    have cd := digit_calls s hs (i + k) (by omega)
    simp only [Int.natCast_add, Int.cast_ofNat_Int] at cd
    refine qcall_pure cd hf rfl ?_
    have stop : (k = 4 ∨ digAt s (i + k) = false) → runE digAt s 4 (i) = i + k := fun h => runE_stop 4 (i) k hk4 hkd h
    have fin : runE digAt s 4 (i) = i + k → True := fun _ => trivial
    cases hdg : digAt s (i + k) with
    | true =>
      by_cases hk3 : k < 4
      · have c1 : (i : Int) + (k : Int) < (i : Int) + 4 := by omega
        simp -implicitDefEqProofs [hpk4, hpk4', c1, hpk, hpk', hk3, go_sem, -List.set_cons_succ, -List.set_cons_zero]
        have hlt := dig_lt _ hdg
        exact loop_back (k + 1) (by simp [setAll, Int.add_assoc]) ⟨by omega, by omega, fun m hm => by
          rcases Nat.lt_or_ge m k with h | h
          · exact hkd m h
          · obtain rfl : m = k := by omega
            exact hdg⟩ (by show 4 - (k + 1) < 4 - k; omega)
      · obtain rfl : k = 4 := by omega
        have he := stop (.inl rfl)
        simp -implicitDefEqProofs [hpk4, hpk4', go_sem, -List.set_cons_succ, -List.set_cons_zero]
        obtain ⟨T, hT⟩ : ∃ T, T = cutS s (i) (i + 4) := ⟨_, rfl⟩
        have hTd : T.all digB = true := by rw [hT]; exact cut_digs (i) 4 hkl hkd
        have hTl : T.length ≤ 17 := by rw [hT, cutS_len]; omega
        have hnat : ((i : Int) + 4).toNat = i + 4 := by omega
        have hnm := num_calls T hTl hTd
        have hVl := numV_lt T.length T rfl hTd
        have hTk : T.length ≤ 4 := by rw [hT, cutS_len]; omega
        have hp4 : 10 ^ T.length ≤ 10 ^ 4 := Nat.pow_le_pow_right (by omega) hTk
        have hR : numR s i = if canB T then if (false && decide (numV T = 0)) || decide (999 < numV T) then none else some ((numV T : Int), i + 4) else none := by
          unfold numR
          simp only [hsg, if_true, if_false, Bool.false_eq_true, he, ← hT]
        rw [hR, hnat]
        have hT' : (s.take (i + 4)).drop (i) = T := hT.symm
        rw [hT']
        refine ⟨by omega, qcall_pure hnm hf rfl ?_⟩
        have hii : (i : Int) < (i : Int) + 1 := by omega
        have hij : ¬ (i : Int) + 1 ≤ (i : Int) := by omega
        have i1 : inR .i64 (0 - (numV T : Int)) := small_i64 (by omega) (by omega)
        have i2 : inR .i64 (-(numV T : Int)) := small_i64 (by omega) (by omega)
        cases hc : canB T with
        | false => simp -implicitDefEqProofs [numA, row_mk, hf, hii, hij, go_sem, -List.set_cons_succ, -List.set_cons_zero]
        | true =>
          by_cases h0 : numV T = 0
          · simp -implicitDefEqProofs [h0, numA, row_mk, hf, hii, hij, go_sem, -List.set_cons_succ, -List.set_cons_zero]
            refine qcall_pure (int_calls 0) hf (by simp [A.re, re_d]) ?_
            simp -implicitDefEqProofs [numA, row_mk, h0, hf, hii, hij, go_sem, -List.set_cons_succ, -List.set_cons_zero]
          · by_cases h9 : 999 < numV T
            · have h9' : (999 : Int) < numV T := by omega
              have h0' : ((numV T : Int) == 0) = false := by simp; omega
              simp -implicitDefEqProofs [h0, h0', h9, h9', numA, row_mk, hf, hii, hij, go_sem, -List.set_cons_succ, -List.set_cons_zero]
            · have h9' : ¬ (999 : Int) < numV T := by omega
              have h0' : ((numV T : Int) == 0) = false := by simp; omega
              simp -implicitDefEqProofs [h0, h0', h9, h9', i1, i2, hf, hii, hij, go_sem, -List.set_cons_succ, -List.set_cons_zero]
              refine qcall_pure (int_calls ((numV T : Int))) hf (by simp [A.re, re_d]) ?_
              simp -implicitDefEqProofs [numA, row_mk, hf, hii, hij, go_sem, -List.set_cons_succ, -List.set_cons_zero]
    | false =>
      have he := stop (.inr hdg)
      simp -implicitDefEqProofs [go_sem, -List.set_cons_succ, -List.set_cons_zero]
      obtain ⟨T, hT⟩ : ∃ T, T = cutS s (i) (i + k) := ⟨_, rfl⟩
      have hTd : T.all digB = true := by rw [hT]; exact cut_digs (i) k hkl hkd
      have hTl : T.length ≤ 17 := by rw [hT, cutS_len]; omega
      have hnat : ((i : Int) + (k : Int)).toNat = i + k := by omega
      have hnm := num_calls T hTl hTd
      have hVl := numV_lt T.length T rfl hTd
      have hTk : T.length ≤ 4 := by rw [hT, cutS_len]; omega
      have hp4 : 10 ^ T.length ≤ 10 ^ 4 := Nat.pow_le_pow_right (by omega) hTk
      have hR : numR s i = if canB T then if (false && decide (numV T = 0)) || decide (999 < numV T) then none else some ((numV T : Int), i + k) else none := by
        unfold numR
        simp only [hsg, if_true, if_false, Bool.false_eq_true, he, ← hT]
      rw [hR, hnat]
      have hT' : (s.take (i + k)).drop (i) = T := hT.symm
      rw [hT']
      refine ⟨by omega, qcall_pure hnm hf rfl ?_⟩
      have hii : (i : Int) < (i : Int) + 1 := by omega
      have hij : ¬ (i : Int) + 1 ≤ (i : Int) := by omega
      have i1 : inR .i64 (0 - (numV T : Int)) := small_i64 (by omega) (by omega)
      have i2 : inR .i64 (-(numV T : Int)) := small_i64 (by omega) (by omega)
      cases hc : canB T with
      | false => simp -implicitDefEqProofs [numA, row_mk, hf, hii, hij, go_sem, -List.set_cons_succ, -List.set_cons_zero]
      | true =>
        by_cases h0 : numV T = 0
        · simp -implicitDefEqProofs [h0, numA, row_mk, hf, hii, hij, go_sem, -List.set_cons_succ, -List.set_cons_zero]
          refine qcall_pure (int_calls 0) hf (by simp [A.re, re_d]) ?_
          simp -implicitDefEqProofs [numA, row_mk, h0, hf, hii, hij, go_sem, -List.set_cons_succ, -List.set_cons_zero]
        · by_cases h9 : 999 < numV T
          · have h9' : (999 : Int) < numV T := by omega
            have h0' : ((numV T : Int) == 0) = false := by simp; omega
            simp -implicitDefEqProofs [h0, h0', h9, h9', numA, row_mk, hf, hii, hij, go_sem, -List.set_cons_succ, -List.set_cons_zero]
          · have h9' : ¬ (999 : Int) < numV T := by omega
            have h0' : ((numV T : Int) == 0) = false := by simp; omega
            simp -implicitDefEqProofs [h0, h0', h9, h9', i1, i2, hf, hii, hij, go_sem, -List.set_cons_succ, -List.set_cons_zero]
            refine qcall_pure (int_calls ((numV T : Int))) hf (by simp [A.re, re_d]) ?_
            simp -implicitDefEqProofs [numA, row_mk, hf, hii, hij, go_sem, -List.set_cons_succ, -List.set_cons_zero]
end Go.Proofs.YtgfmlifkhpjplaaGreatDoor

/-
  Numbers as the program reads them: the plain law.
  Conditions: none.
-/
open Go Go.AM Go.Proofs
namespace Go.Proofs.YtgfmlifkhpjplaaGreatDoor
set_option linter.unusedVariables false
set_option linter.unusedSimpArgs false
set_option maxRecDepth 100000
def ofDs (ds : List Nat) : List UInt8 := ds.map fun x => UInt8.ofNat (48 + x)
def canOk (l : List UInt8) : Bool := !canB l || dec3 (numV l) == l
theorem can1 : ((List.range 10).all fun x => canOk (ofDs [x])) = true := by kernel_rfl
theorem can2 : ((List.range 100).all fun x => canOk (ofDs [x / 10, x % 10])) = true := by kernel_rfl
theorem can3 : ((List.range 1000).all fun x => canOk (ofDs [x / 100, x / 10 % 10, x % 10])) = true := by kernel_rfl
theorem dig_of {b : UInt8} (h : digB b = true) : ∃ x, x < 10 ∧ b = UInt8.ofNat (48 + x) := by
  simp only [digB, Bool.and_eq_true, decide_eq_true_eq] at h
  refine ⟨b.toNat - 48, by omega, ?_⟩
  rw [show 48 + (b.toNat - 48) = b.toNat by omega]
  simp
theorem canon3 {l : List UInt8} (h : canB l = true) (h3 : l.length ≤ 3) : dec3 (numV l) = l := by
  have hd := can_digs h
  have key : canOk l = true → dec3 (numV l) = l := fun hk => by
    simp only [canOk, h, Bool.not_true, Bool.false_or, beq_iff_eq] at hk
    exact hk
  apply key
  match l, h3 with
  | [], _ => simp [canB] at h
  | [a], _ =>
    simp at hd
    obtain ⟨x, hx, rfl⟩ := dig_of hd
    exact List.all_eq_true.1 can1 x (by simp; omega)
  | [a, b], _ =>
    simp at hd
    obtain ⟨x, hx, rfl⟩ := dig_of hd.1
    obtain ⟨y, hy, rfl⟩ := dig_of hd.2
    have := List.all_eq_true.1 can2 (10 * x + y) (by simp; omega)
    rw [show (10 * x + y) / 10 = x by omega, show (10 * x + y) % 10 = y by omega] at this
    exact this
  | [a, b, c], _ =>
    simp at hd
    obtain ⟨x, hx, rfl⟩ := dig_of hd.1
    obtain ⟨y, hy, rfl⟩ := dig_of hd.2.1
    obtain ⟨z, hz, rfl⟩ := dig_of hd.2.2
    have := List.all_eq_true.1 can3 (100 * x + 10 * y + z) (by simp; omega)
    rw [show (100 * x + 10 * y + z) / 100 = x by omega, show (100 * x + 10 * y + z) / 10 % 10 = y by omega, show (100 * x + 10 * y + z) % 10 = z by omega] at this
    exact this
def atOk (n : Int) : Bool := match Lib.atoiAll (itoa3 n) with
  | .ok v => decide (v = n)
  | _ => false
theorem at_all : ((List.range 1000).all fun x => atOk x && atOk (-x)) = true := by kernel_rfl
theorem atoi_itoa3 {n : Int} (h0 : -999 ≤ n) (h1 : n ≤ 999) : Lib.atoiAll (itoa3 n) = .ok n := by
  have := List.all_eq_true.1 at_all n.natAbs (by simp; omega)
  rw [Bool.and_eq_true] at this
  have h : atOk n = true := by
    by_cases hn : 0 ≤ n
    · rw [show n = (n.natAbs : Int) by omega]; exact this.1
    · rw [show n = -(n.natAbs : Int) by omega]; exact this.2
  unfold atOk at h
  split at h
  · rename_i v hv
    rw [hv, of_decide_eq_true h]
  · cases h
theorem parse_digs : ∀ (l : List UInt8) (acc : Nat), l.all digB = true → endOk (Lib.parseUint10 acc l) = true
  | [], acc, _ => by simp [Lib.parseUint10, endOk]
  | c :: r, acc, h => by
    simp only [List.all_cons, Bool.and_eq_true] at h
    have hc := h.1
    simp only [digB, Bool.and_eq_true, decide_eq_true_eq] at hc
    simp only [Lib.parseUint10]
    rw [if_pos hc]
    split
    · rfl
    · split
      · rfl
      · exact parse_digs r _ h.2
theorem mag_digs {l : List UInt8} (h : l.all digB = true) (hne : l ≠ []) : endOk (Lib.parseMag l) = true := by
  unfold Lib.parseMag
  rw [if_neg hne]
  exact parse_digs l 0 h
/-- digits, with or without a sign -/
theorem atoi_digs {l : List UInt8} (h : l.all digB = true) (hne : l ≠ []) : endOk (Lib.atoiAll l) = true ∧ endOk (Lib.atoiAll (45 :: l)) = true := by
  have hm0 := mag_digs h hne
  constructor
  · cases l with
    | nil => exact absurd rfl hne
    | cons c r =>
      have hc : digB c = true := by simp at h; exact h.1
      simp only [digB, Bool.and_eq_true, decide_eq_true_eq] at hc
      rw [Lib.atoiAll_plain c r (by omega) (by omega)]
      cases hm : Lib.parseMag (c :: r) with
      | range => rfl
      | ok u => simp only [Lib.signless]; split <;> rfl
      | _ => rw [hm] at hm0; cases hm0
  · rw [Lib.atoiAll_minus]
    cases hm : Lib.parseMag l with
    | range => rfl
    | ok u => simp only [Lib.signed]; split <;> rfl
    | _ => rw [hm] at hm0; cases hm0
theorem take_while_split (p : UInt8 → Bool) : ∀ l : List UInt8, ∃ w r, l = w ++ r ∧ w.all p = true ∧ ∀ c r', r = c :: r' → p c = false
  | [] => ⟨[], [], rfl, rfl, by simp⟩
  | c :: l => by
    cases hc : p c with
    | true =>
      obtain ⟨w, r, h1, h2, h3⟩ := take_while_split p l
      exact ⟨c :: w, r, by rw [h1]; rfl, by simp [hc, h2], h3⟩
    | false => exact ⟨[], c :: l, rfl, rfl, fun d r' e => by cases e; exact hc⟩
/-- where a number stands -/
theorem num_split {s : List UInt8} {a : Nat} (h : digAt s a = true ∨ (sgn s a 45 = true ∧ digAt s (a + 1) = true)) :
    ∃ ds r, ds ≠ [] ∧ ds.all digB = true ∧ (∀ c r', r = c :: r' → digB c = false) ∧ (s.drop a = ds ++ r ∨ s.drop a = 45 :: ds ++ r) := by
  have get : ∀ i b, s[i]? = some b → s.drop i = b :: s.drop (i + 1) := fun i b hb => by
    obtain ⟨h1, h2⟩ := List.getElem?_eq_some_iff.1 hb
    rw [List.drop_eq_getElem_cons h1, h2]
  have dg : ∀ i, digAt s i = true → ∃ b, s[i]? = some b ∧ digB b = true := fun i hi => by
    unfold digAt at hi
    split at hi
    · rename_i b hb; exact ⟨b, hb, hi⟩
    · cases hi
  have main : ∀ i, digAt s i = true → ∃ ds r, ds ≠ [] ∧ ds.all digB = true ∧ (∀ c r', r = c :: r' → digB c = false) ∧ s.drop i = ds ++ r := fun i hi => by
    obtain ⟨b, hb, hd⟩ := dg i hi
    obtain ⟨w, r, h1, h2, h3⟩ := take_while_split digB (s.drop (i + 1))
    exact ⟨b :: w, r, by simp, by simp [hd, h2], h3, by rw [get i b hb, h1]; rfl⟩
  rcases h with h | ⟨h1, h2⟩
  · obtain ⟨ds, r, q1, q2, q3, q4⟩ := main a h
    exact ⟨ds, r, q1, q2, q3, .inl q4⟩
  · obtain ⟨ds, r, q1, q2, q3, q4⟩ := main (a + 1) h2
    have : s[a]? = some 45 := by
      unfold sgn at h1
      split at h1
      · rename_i b hb; simp at h1; rw [hb, h1]
      · cases h1
    exact ⟨ds, r, q1, q2, q3, .inr (by rw [get a 45 this, q4]; rfl)⟩
theorem four_big {l : List UInt8} (h : canB l = true) (h4 : l.length = 4) : 999 < numV l := by
  match l, h4 with
  | [a, b, c, d], _ =>
    have hd := can_digs h
    simp at hd
    simp [canB] at h
    have ha : a ≠ 48 := h.1
    have hd1 := hd.1
    simp only [digB, Bool.and_eq_true, decide_eq_true_eq] at hd1
    have : a.toNat ≠ 48 := fun e => ha (UInt8.toNat_inj.1 e)
    simp [numV]
    omega
/-- the digits that the reference looks at -/
theorem run4 {s : List UInt8} {i : Nat} {ds r : List UInt8} (hd : ds.all digB = true) (hr : ∀ c r', r = c :: r' → digB c = false) (h : s.drop i = ds ++ r) : runE digAt s 4 i = i + (ds.take 4).length ∧ cutS s i (i + (ds.take 4).length) = ds.take 4 := by
  have h2 : s.drop i = ds.take 4 ++ (ds.drop 4 ++ r) := by rw [← List.append_assoc, List.take_append_drop]; exact h
  refine ⟨?_, cut_dr h2⟩
  by_cases hl : ds.length ≤ 4
  · rw [List.take_of_length_le hl]
    exact run_dr digAt_def h hd hr hl
  · have h4 : (ds.take 4).length = 4 := by simp; omega
    rw [h4]
    refine runE_stop 4 i 4 (Nat.le_refl _) (fun k hk => ?_) (.inl rfl)
    have hk2 : k < ds.length := by omega
    have : s[i + k]? = some ds[k] := by
      rw [← List.getElem?_drop, h, List.getElem?_append_left hk2, List.getElem?_eq_getElem hk2]
    unfold digAt
    rw [this]
    exact List.all_eq_true.1 hd _ (List.getElem_mem hk2)
/-- the program's number against the reference's -/
theorem number_law {s : List UInt8} {a : Nat} (ha : a ≤ s.length) (h : digAt s a = true ∨ (sgn s a 45 = true ∧ digAt s (a + 1) = true)) :
    a + 1 ≤ runE digAt s s.length (a + 1) ∧ runE digAt s s.length (a + 1) ≤ s.length ∧ endOk (Lib.atoiAll (cutS s a (runE digAt s s.length (a + 1)))) = true ∧
    match numR s a with
    | some (n, j) => Lib.atoiAll (cutS s a (runE digAt s s.length (a + 1))) = .ok n ∧ Lib.itoa n = cutS s a (runE digAt s s.length (a + 1)) ∧ runE digAt s s.length (a + 1) = j ∧ -999 ≤ n ∧ n ≤ 999
    | none => ∀ n, Lib.itoa n = cutS s a (runE digAt s s.length (a + 1)) → ¬ (-999 ≤ n ∧ n ≤ 999) := by
  obtain ⟨ds, r, h1, h2, h3, h4⟩ := num_split h
  obtain ⟨D, hD, hdr, hrun, hDs⟩ : ∃ D, (D = ds ∨ D = 45 :: ds) ∧ s.drop a = D ++ r ∧ runE digAt s s.length (a + 1) = a + D.length ∧ endOk (Lib.atoiAll D) = true := by
    have hat := atoi_digs h2 h1
    rcases h4 with h4 | h4
    · refine ⟨ds, .inl rfl, h4, ?_, hat.1⟩
      have hlen := dr_len h4 ha
      cases hds : ds with
      | nil => exact absurd hds h1
      | cons c w =>
        rw [hds] at h4 h2
        have hd2 : s.drop (a + 1) = w ++ r := by
          have := dr_add (w := [c]) (r := w ++ r) (s := s) (i := a) (by simpa using h4)
          simpa using this
        have hlw : w.length ≤ s.length := by rw [hds] at hlen; simp at hlen; omega
        have hw : w.all digB = true := by simp at h2; exact List.all_eq_true.2 h2.2
        rw [run_dr digAt_def hd2 hw h3 hlw]
        simp; omega
    · refine ⟨45 :: ds, .inr rfl, h4, ?_, hat.2⟩
      have hlen := dr_len h4 ha
      have hd2 : s.drop (a + 1) = ds ++ r := by
        have := dr_add (w := [45]) (r := ds ++ r) (s := s) (i := a) (by simpa using h4)
        simpa using this
      rw [run_dr digAt_def hd2 h2 h3 (by simp at hlen; omega)]
      simp; omega
  have hlen := dr_len hdr ha
  have hpos : 1 ≤ D.length := by
    rcases hD with rfl | rfl
    · exact List.length_pos_iff.2 h1
    · simp
  rw [hrun, cut_dr hdr]
  refine ⟨by omega, by omega, hDs, ?_⟩
  cases hn : numR s a with
  | none =>
    intro n hi ⟨b0, b1⟩
    rw [← itoa3_eq b0 b1] at hi
    rw [← hi] at hdr
    rw [numR_dr b0 b1 hdr h3] at hn
    cases hn
  | some q =>
    obtain ⟨n, j⟩ := q
    have hok := numR_ok ha hn
    have key : D = itoa3 n ∧ j = a + D.length := by
      rcases hD with rfl | rfl
      · have hsg : sgn s a 45 = false := by
          cases hds : D with
          | nil => exact absurd hds h1
          | cons c w =>
            rw [hds] at hdr h2
            rw [sgn_dr (c := c) (r := w ++ r) (by simpa using hdr)]
            simp only [List.all_cons, Bool.and_eq_true] at h2
            have := h2.1
            cases hc : (c == 45) with
            | false => rfl
            | true => simp at hc; subst hc; simp [digB] at this
        obtain ⟨r1, r2⟩ := run4 h2 h3 hdr
        unfold numR at hn
        simp only [hsg, Bool.false_eq_true, if_false, r1, r2, Bool.false_and, Bool.false_or] at hn
        split at hn
        · rename_i hc
          split at hn
          · cases hn
          · rename_i hv
            simp at hv
            simp only [Option.some.injEq, Prod.mk.injEq] at hn
            have hl3 : (D.take 4).length ≤ 3 := by
              rcases Nat.lt_or_ge (D.take 4).length 4 with h | h
              · omega
              · have := four_big hc (by simp at h ⊢; omega); omega
            have hD4 : D.take 4 = D := List.take_of_length_le (by simp at hl3; omega)
            rw [hD4] at hc hl3 hn
            refine ⟨?_, hn.2.symm⟩
            rw [← hn.1]
            unfold itoa3
            rw [if_neg (by omega), Int.toNat_natCast, canon3 hc hl3]
        · cases hn
      · have hsg : sgn s a 45 = true := by rw [sgn_dr (c := 45) (r := ds ++ r) (by simpa using hdr)]; rfl
        have hd2 : s.drop (a + 1) = ds ++ r := by
          have := dr_add (w := [45]) (r := ds ++ r) (s := s) (i := a) (by simpa using hdr)
          simpa using this
        obtain ⟨r1, r2⟩ := run4 h2 h3 hd2
        unfold numR at hn
        simp only [hsg, if_true, r1, r2, Bool.true_and] at hn
        split at hn
        · rename_i hc
          split at hn
          · cases hn
          · rename_i hv
            simp at hv
            simp only [Option.some.injEq, Prod.mk.injEq] at hn
            have hl3 : (ds.take 4).length ≤ 3 := by
              rcases Nat.lt_or_ge (ds.take 4).length 4 with h | h
              · omega
              · have := four_big hc (by simp at h ⊢; omega); omega
            have hD4 : ds.take 4 = ds := List.take_of_length_le (by simp at hl3; omega)
            rw [hD4] at hc hl3 hn hv
            refine ⟨?_, by rw [← hn.2]; simp; omega⟩
            rw [← hn.1]
            unfold itoa3
            rw [if_pos (by omega), show (-(numV ds : Int)).natAbs = numV ds by omega, canon3 hc hl3]
        · cases hn
    obtain ⟨k1, k2⟩ := key
    refine ⟨?_, ?_, k2.symm, hok.2.2.1, hok.2.2.2⟩
    · rw [k1]; exact atoi_itoa3 hok.2.2.1 hok.2.2.2
    · rw [← itoa3_eq hok.2.2.1 hok.2.2.2, k1]
end Go.Proofs.YtgfmlifkhpjplaaGreatDoor

/-
  Terms as the program writes them.
  Conditions: none.
-/
open Go Go.AM Go.Proofs
namespace Go.Proofs.YtgfmlifkhpjplaaGreatDoor
open Go.ChangeShapes Go.WideShapes Go.ChangeAt Go.RowKit
set_option linter.unusedVariables false
set_option linter.unusedSimpArgs false
set_option maxRecDepth 100000
-- 90 loop.example/prologserver/impl.letter params 1 ntmps 8
def ac87 : Cd := .seq (.region [⟨(some 2),.mv (.k (.c (.d (.bool false)))),none⟩] [2])
 (.seq (.region [⟨(some 3),.mv (.t 0),none⟩,
 ⟨(some 4),.bin .geq (.t 3) (.k (.c (.d (.int .u8 48)))),none⟩,
 ⟨(some 5),.mv (.t 4),none⟩,
 ⟨(some 6),.mv (.t 0),some (5,true)⟩,
 ⟨(some 7),.bin .leq (.t 6) (.k (.c (.d (.int .u8 57)))),some (5,true)⟩,
 ⟨(some 8),.pick (.t 5) (.t 7) (.k (.c (.d (.bool false)))),none⟩,
 ⟨(some 2),.mv (.t 8),none⟩] [0,3,4,5,6,7,8])
 (.ret))
theorem ac87_ok : cFunc Tryz.prog [] [(0,[2],[]),(1,[0,3,4,5,6,7,8],[])] Tryz.f87 = some (ac87,[.tmp 2],9) := by kernel_rfl
-- 60 loop.example/prologserver/impl.leftMost params 1 ntmps 14
def ac60 : Cd := .seq (.region [⟨(some 2),.mv (.k (.c (.d (.int .i64 0)))),none⟩] [2])
 (.seq (.region [⟨(some 6),.mv (.t 0),none⟩,
 ⟨(some 7),.qcall 58 [(.t 6)],none⟩,
 ⟨(some 5),.mv (.t 7),none⟩,
 ⟨(some 8),.extract 0 (.t 5),none⟩,
 ⟨(some 9),.extract 1 (.t 5),none⟩,
 ⟨(some 3),.mv (.t 8),none⟩,
 ⟨(some 4),.mv (.t 9),none⟩] [0,5,6,7,8,9])
 (.seq (.seq (.region [⟨(some 10),.mv (.t 4),none⟩] [4])
 (.cond (.t 10)
 (.seq (.region [⟨(some 11),.mv (.t 3),none⟩,
 ⟨(some 2),.mv (.t 11),none⟩] [3,10,11])
 (.ret))
 (.skip)))
 (.seq (.region [⟨(some 12),.mv (.t 3),none⟩,
 ⟨(some 13),.bin .sub (.t 12) (.k (.c (.d (.int .i64 1)))),none⟩,
 ⟨(some 2),.mv (.t 13),none⟩] [3,10,12,13])
 (.ret))))
theorem ac60_ok : cFunc Tryz.prog [1000058] [(0,[2],[]),(1,[0,5,6,7,8,9],[]),(2,[4],[]),(3,[3,10,11],[]),(4,[3,10,12,13],[])] Tryz.f60 = some (ac60,[.tmp 2],14) := by kernel_rfl
-- 61 loop.example/prologserver/impl.opText params 1 ntmps 9
def ac61 : Cd := .seq (.region [⟨(some 2),.mv (.k (.c (.d (.str [])))),none⟩] [2])
 (.seq (.seq (.region [⟨(some 3),.mv (.t 0),none⟩,
 ⟨(some 4),.qcall 89 [(.t 3)],none⟩] [3])
 (.cond (.t 4)
 (.seq (.region [⟨(some 5),.mv (.t 0),none⟩,
 ⟨(some 6),.bin .add (.k (.c (.d (.str [32])))) (.t 5),none⟩,
 ⟨(some 7),.bin .add (.t 6) (.k (.c (.d (.str [32])))),none⟩,
 ⟨(some 2),.mv (.t 7),none⟩] [0,4,5,6,7])
 (.ret))
 (.skip)))
 (.seq (.region [⟨(some 8),.mv (.t 0),none⟩,
 ⟨(some 2),.mv (.t 8),none⟩] [0,4,8])
 (.ret)))
theorem ac61_ok : cFunc Tryz.prog [1000089] [(0,[2],[]),(1,[3],[]),(2,[0,4,5,6,7],[]),(3,[0,4,8],[])] Tryz.f61 = some (ac61,[.tmp 2],9) := by kernel_rfl
-- 59 loop.example/prologserver/impl.writeOperand params 3 ntmps 74
theorem isDigit_calls (b : UInt8) (H : Heap) : ACalls Tryz.prog 87 [.c (.d (.int .u8 b.toNat))] H (fun r H' => H' = H ∧ r = .c (.d (.bool (decide (48 ≤ b.toNat ∧ b.toNat ≤ 57))))) := by
  refine acalls Tryz.func87 (by kernel_rfl) ac87_ok fun hf => ?_
  by_cases h1 : (48 : Int) ≤ b.toNat
  · have h1' : 48 ≤ b.toNat := by omega
    simp -implicitDefEqProofs [ac87, h1, h1', go_sem, -List.set_cons_succ, -List.set_cons_zero]
    omega
  · have h1' : ¬ 48 ≤ b.toNat := by omega
    simp -implicitDefEqProofs [ac87, h1, h1', go_sem, -List.set_cons_succ, -List.set_cons_zero]
theorem leftMost_calls (s : List UInt8) (H : Heap) : ACalls Tryz.prog 60 [.c (.d (.str s))] H (fun r H' => H' = H ∧ r = .c (.d (.int .i64 (leftMost s)))) := by
  refine acalls Tryz.func60 (by kernel_rfl) ac60_ok fun hf => ?_
  simp -implicitDefEqProofs [ac60, go_sem, -List.set_cons_succ, -List.set_cons_zero]
  refine qcall_pure (opLevel_calls s) hf rfl ?_
  have hr : 0 ≤ levelN s ∧ levelN s ≤ 3 := by
    by_cases h : 0 < levelN s
    · have := (lv_range h).1; omega
    · unfold levelN at h ⊢
      split
      · simp
      · split
        · simp
        · split <;> simp
  have hsub : inR .i64 (levelN s - 1) := small_i64 (by omega) (by omega)
  cases hb : leftB s <;> simp -implicitDefEqProofs [hb, leftMost, hsub, go_sem, -List.set_cons_succ, -List.set_cons_zero]
theorem opText_calls (s : List UInt8) (hs : s.length ≤ 1048576) (H : Heap) : ACalls Tryz.prog 61 [.c (.d (.str s))] H (fun r H' => H' = H ∧ r = .c (.d (.str (opSp s)))) := by
  refine acalls Tryz.func61 (by kernel_rfl) ac61_ok fun hf => ?_
  simp -implicitDefEqProofs [ac61, go_sem, -List.set_cons_succ, -List.set_cons_zero]
  refine qcall_pure (isLetters_calls s (by omega)) hf rfl ?_
  cases hb : lettersB s <;> simp -implicitDefEqProofs [hb, opSp, maxStr, go_sem, -List.set_cons_succ, -List.set_cons_zero]
  omega
end Go.Proofs.YtgfmlifkhpjplaaGreatDoor

/-
  The program's reader: small steps.
  Conditions: none.
-/
open Go Go.AM Go.Proofs
namespace Go.Proofs.YtgfmlifkhpjplaaGreatDoor
open Go.ChangeShapes Go.WideShapes Go.ChangeAt Go.RowKit
set_option linter.unusedVariables false
set_option linter.unusedSimpArgs false
set_option maxRecDepth 100000
-- 115 (*loop.example/prologserver/impl.reader).skip params 2 ntmps 21
def ac115 : Cd := .seq (.seq (.region [⟨(some 4),.mv (.t 0),none⟩,
 ⟨(some 5),.call false 111 [(.t 4)],none⟩,
 ⟨(some 6),.mv (.t 1),none⟩,
 ⟨(some 7),.bin .neq (.t 5) (.t 6),none⟩] [1,4,5,6])
 (.cond (.t 7)
 (.seq (.region [⟨(some 8),.mv (.t 0),none⟩,
 ⟨(some 9),.mv (.t 0),none⟩,
 ⟨(some 10),.nilCheck (.t 9),none⟩,
 ⟨(some 11),.fieldAddr 1 (.t 10),none⟩,
 ⟨(some 12),.load none (.t 11),none⟩,
 ⟨(some 13),.call false 110 [(.t 8),(.t 12)],none⟩] [0,7,8,9,10,11,12,13])
 (.ret))
 (.skip)))
 (.region [⟨(some 14),.mv (.t 0),none⟩,
 ⟨(some 15),.nilCheck (.t 14),none⟩,
 ⟨(some 16),.fieldAddr 1 (.t 15),none⟩,
 ⟨(some 17),.load none (.t 16),none⟩,
 ⟨(some 18),.bin .add (.t 17) (.k (.c (.d (.int .i64 1)))),none⟩,
 ⟨(some 19),.nilCheck (.t 14),none⟩,
 ⟨(some 20),.fieldAddr 1 (.t 19),none⟩,
 ⟨none,.store 1 (.t 20) (.t 18),none⟩] [0,7,14,15,16,17,18,19,20])
theorem ac115_ok : cFunc Tryz.prog [] [(0,[1,4,5,6],[]),(1,[0,7,8,9,10,11,12,13],[]),(2,[0,7,14,15,16,17,18,19,20],[])] Tryz.f115 = some (ac115,[],21) := by kernel_rfl
-- 113 (*loop.example/prologserver/impl.reader).isNumber params 1 ntmps 38
def ac113 : Cd := .seq (.region [⟨(some 2),.mv (.k (.c (.d (.bool false)))),none⟩] [2])
 (.seq (.region [⟨(some 4),.mv (.t 0),none⟩,
 ⟨(some 5),.call false 111 [(.t 4)],none⟩,
 ⟨(some 3),.mv (.t 5),none⟩] [4,5])
 (.seq (.region [⟨(some 6),.mv (.t 3),none⟩,
 ⟨(some 7),.qcall 87 [(.t 6)],none⟩,
 ⟨(some 8),.mv (.t 7),none⟩,
 ⟨(some 9),.mv (.t 3),some (8,false)⟩,
 ⟨(some 10),.bin .eql (.t 9) (.k (.c (.d (.int .u8 45)))),some (8,false)⟩,
 ⟨(some 11),.mv (.t 10),some (8,false)⟩,
 ⟨(some 12),.mv (.t 0),some (11,true)⟩,
 ⟨(some 13),.nilCheck (.t 12),some (11,true)⟩,
 ⟨(some 14),.fieldAddr 1 (.t 13),some (11,true)⟩,
 ⟨(some 17),.mv (.t 0),some (11,true)⟩,
 ⟨(some 18),.nilCheck (.t 17),some (11,true)⟩,
 ⟨(some 19),.fieldAddr 0 (.t 18),some (11,true)⟩,
 ⟨(some 15),.load none (.t 14),some (11,true)⟩,
 ⟨(some 16),.bin .add (.t 15) (.k (.c (.d (.int .i64 1)))),some (11,true)⟩,
 ⟨(some 20),.load none (.t 19),some (11,true)⟩,
 ⟨(some 21),.len 0 (.t 20),some (11,true)⟩,
 ⟨(some 22),.bin .lss (.t 16) (.t 21),some (11,true)⟩,
 ⟨(some 23),.pick (.t 11) (.t 22) (.k (.c (.d (.bool false)))),some (8,false)⟩,
 ⟨(some 24),.mv (.t 23),some (8,false)⟩,
 ⟨(some 25),.mv (.t 0),some (24,true)⟩,
 ⟨(some 26),.nilCheck (.t 25),some (24,true)⟩,
 ⟨(some 27),.fieldAddr 0 (.t 26),some (24,true)⟩,
 ⟨(some 29),.mv (.t 0),some (24,true)⟩,
 ⟨(some 30),.nilCheck (.t 29),some (24,true)⟩,
 ⟨(some 31),.fieldAddr 1 (.t 30),some (24,true)⟩,
 ⟨(some 28),.load none (.t 27),some (24,true)⟩,
 ⟨(some 32),.load none (.t 31),some (24,true)⟩,
 ⟨(some 33),.bin .add (.t 32) (.k (.c (.d (.int .i64 1)))),some (24,true)⟩,
 ⟨(some 34),.index (.t 28) (.t 33),some (24,true)⟩,
 ⟨(some 35),.qcall 87 [(.t 34)],some (24,true)⟩,
 ⟨(some 36),.pick (.t 24) (.t 35) (.k (.c (.d (.bool false)))),some (8,false)⟩,
 ⟨(some 37),.pick (.t 8) (.k (.c (.d (.bool true)))) (.t 36),none⟩,
 ⟨(some 2),.mv (.t 37),none⟩] [0,3,6,7,8,9,10,11,12,13,14,15,16,17,18,19,20,21,22,23,24,25,26,27,28,29,30,31,32,33,34,35,36,37])
 (.ret)))
theorem ac113_ok : cFunc Tryz.prog [1000087] [(0,[2],[]),(1,[4,5],[]),(2,[0,3,6,7,8,9,10,11,12,13,14,15,16,17,18,19,20,21,22,23,24,25,26,27,28,29,30,31,32,33,34,35,36,37],[0,1,2,3,4,5,6,7,8,11,12,13,9,10,14,15,16,17,18,19,20,21,23,24,25,22,26,27,28,29,30,31,32])] Tryz.f113 = some (ac113,[.tmp 2],38) := by kernel_rfl
-- 116 strings.HasPrefix params 2 ntmps 8
def ac116 : Cd := .seq (.region [⟨(some 4),.mv (.k (.c (.d (.bool false)))),none⟩] [4])
 (.seq (.region [⟨(some 5),.mv (.t 0),none⟩,
 ⟨(some 6),.mv (.t 1),none⟩,
 ⟨(some 7),.qcall 131 [(.t 5),(.t 6)],none⟩,
 ⟨(some 4),.mv (.t 7),none⟩] [0,1,5,6,7])
 (.ret))
theorem ac116_ok : cFunc Tryz.prog [1000131] [(0,[4],[]),(1,[0,1,5,6,7],[])] Tryz.f116 = some (ac116,[.tmp 4],8) := by kernel_rfl
-- 131 internal/stringslite.HasPrefix params 2 ntmps 18
def ac131 : Cd := .seq (.region [⟨(some 4),.mv (.k (.c (.d (.bool false)))),none⟩] [4])
 (.seq (.region [⟨(some 5),.mv (.t 0),none⟩,
 ⟨(some 6),.len 0 (.t 5),none⟩,
 ⟨(some 7),.mv (.t 1),none⟩,
 ⟨(some 8),.len 0 (.t 7),none⟩,
 ⟨(some 9),.bin .geq (.t 6) (.t 8),none⟩,
 ⟨(some 10),.mv (.t 9),none⟩,
 ⟨(some 11),.mv (.t 0),some (10,true)⟩,
 ⟨(some 12),.mv (.t 1),some (10,true)⟩,
 ⟨(some 13),.len 0 (.t 12),some (10,true)⟩,
 ⟨(some 14),.slice 0 (.t 11) none (some (.t 13)) none,some (10,true)⟩,
 ⟨(some 15),.mv (.t 1),some (10,true)⟩,
 ⟨(some 16),.bin .eql (.t 14) (.t 15),some (10,true)⟩,
 ⟨(some 17),.pick (.t 10) (.t 16) (.k (.c (.d (.bool false)))),none⟩,
 ⟨(some 4),.mv (.t 17),none⟩] [0,1,5,6,7,8,9,10,11,12,13,14,15,16,17])
 (.ret))
theorem ac131_ok : cFunc Tryz.prog [] [(0,[4],[]),(1,[0,1,5,6,7,8,9,10,11,12,13,14,15,16,17],[])] Tryz.f131 = some (ac131,[.tmp 4],18) := by kernel_rfl
theorem skip_mv (s : List UInt8) (hs : s.length ≤ 1000000) (a : Nat) (b : Int) (ha : a ≤ 1000000) (c : UInt8) : Mv 115 [.c (.d (.int .u8 c.toNat))] s a b (.tup []) (if nxt s a b = c then a + 1 else a) (if nxt s a b = c then b else if b < 0 then (a : Int) else b) := fun H i hp h2 hi => by
  refine acalls Tryz.func115 (by kernel_rfl) ac115_ok fun hf => ?_
  rw [ro_len] at hf
  have hf1 := fun a' b' => ro_fits (s' := s) (a' := a') (b' := b') hf
  have ha1 : inR .i64 ((a : Int) + 1) := small_i64 (by omega) (by omega)
  simp -implicitDefEqProofs [ac115, ro_len, go_sem, -List.set_cons_succ, -List.set_cons_zero]
  refine call_mv (next_mv s hs a b ha) hp h2 hi (by simp [Ob.re, C.re]) rfl hf ?_
  by_cases h : nxt s a b = c
  · simp -implicitDefEqProofs [h, ro_get hi, ro_len, ro_up, ha1, Ref.re, hf1, go_sem, -List.set_cons_succ, -List.set_cons_zero]
  · have h' : ¬ (((nxt s a b).toNat : Int) = c.toNat) := fun e => h (UInt8.toNat_inj.1 (by omega))
    have h'' : ((nxt s a b).toNat : Int) != c.toNat := by simpa using h'
    simp -implicitDefEqProofs [h, h', ro_get hi, ro_len, ro_set, Ref.re, hf1, go_sem, -List.set_cons_succ, -List.set_cons_zero]
    refine call_mv (stop_mv s a b a) hp h2 hi (by simp [Ob.re, C.re]) (zeroA_re _) hf ?_
    simp -implicitDefEqProofs [go_sem, -List.set_cons_succ, -List.set_cons_zero]
theorem nxt_dig (s : List UInt8) (a : Nat) : decide (48 ≤ (nxt s a (-1)).toNat ∧ (nxt s a (-1)).toNat ≤ 57) = digAt s a := by
  unfold nxt digAt digB
  rw [if_neg (by decide)]
  cases s[a]? with
  | none => rfl
  | some b => simp
theorem nxt_sgn (s : List UInt8) (a : Nat) (c : UInt8) (h0 : c ≠ 0) : (nxt s a (-1) == c) = sgn s a c := by
  unfold nxt sgn
  rw [if_neg (by decide)]
  cases s[a]? with
  | none => simp; exact fun h => h0 h.symm
  | some b => rfl
theorem nxt_eq (s : List UInt8) (a : Nat) (c : UInt8) (h0 : c ≠ 0) : (((nxt s a (-1)).toNat : Int) == (c.toNat : Int)) = sgn s a c := by
  rw [← nxt_sgn s a c h0, Bool.eq_iff_iff]
  simp
  exact ⟨fun h => UInt8.toNat_inj.1 (by omega), fun h => by rw [h]⟩
theorem isNumber_mv (s : List UInt8) (hs : s.length ≤ 1000000) (a : Nat) (ha : a ≤ 1000000) : Mv 113 [] s a (-1) (.c (.d (.bool (digAt s a || sgn s a 45 && digAt s (a + 1))))) a (-1) := fun H i hp h2 hi => by
  refine acalls Tryz.func113 (by kernel_rfl) ac113_ok fun hf => ?_
  rw [ro_len] at hf
  have hf1 := fun a' b' => ro_fits (s' := s) (a' := a') (b' := b') hf
  have ha1 : inR .i64 ((a : Int) + 1) := small_i64 (by omega) (by omega)
  have hli : inR .i64 (s.length : Int) := small_i64 (by omega) (by omega)
  simp -implicitDefEqProofs [ac113, ro_len, go_sem, -List.set_cons_succ, -List.set_cons_zero]
  refine call_mv (next_mv s hs a (-1) ha) hp h2 hi (by simp [Ob.re, C.re]) rfl hf ?_
  simp -implicitDefEqProofs [ro_len, go_sem, -List.set_cons_succ, -List.set_cons_zero]
  have e45 := nxt_eq s a 45 (by decide)
  have e45' : (((nxt s a (-1)).toNat : Int) == 45) = sgn s a 45 := e45
  have hfr : Obs.fits (ro H i s a (-1)).length 0 (ro H i s a (-1)) := by rw [ro_len]; exact hf
  refine qcall_pure (isDigit_calls (nxt s a (-1))) hfr rfl ?_
  rw [nxt_dig]
  cases hd : digAt s a with
  | true =>
    by_cases hlt2 : (a : Int) + 1 < (s.length : Int) <;> cases h45 : sgn s a 45
    all_goals
      rw [h45] at e45'
      simp -implicitDefEqProofs [ro_get hi, ro_len, ro_set, e45', hli, ha1, hlt2, Ref.re, go_sem, -List.set_cons_succ, -List.set_cons_zero]
      refine byte_off 0 ?_
      simp -implicitDefEqProofs [go_sem, -List.set_cons_succ, -List.set_cons_zero]
  | false =>
    cases h45 : sgn s a 45 with
    | false =>
      rw [h45] at e45'
      simp -implicitDefEqProofs [ro_get hi, ro_len, ro_set, e45', hli, ha1, Ref.re, go_sem, -List.set_cons_succ, -List.set_cons_zero]
      refine byte_off 0 ?_
      simp -implicitDefEqProofs [go_sem, -List.set_cons_succ, -List.set_cons_zero]
    | true =>
      rw [h45] at e45'
      by_cases hlt : a + 1 < s.length
      · have hlt2 : (a : Int) + 1 < s.length := by omega
        have e1 : (a : Int) + 1 = ((a + 1 : Nat) : Int) := by omega
        have hdd : decide (48 ≤ s[a + 1].toNat ∧ s[a + 1].toNat ≤ 57) = digAt s (a + 1) := by
          unfold digAt digB
          rw [List.getElem?_eq_getElem hlt]
          simp
        simp -implicitDefEqProofs [ro_get hi, ro_len, ro_set, e45', hli, ha1, hlt2, Ref.re, go_sem, -List.set_cons_succ, -List.set_cons_zero]
        rw [e1]
        refine byte_nat hlt ?_
        simp -implicitDefEqProofs [go_sem, -List.set_cons_succ, -List.set_cons_zero]
        refine qcall_pure (isDigit_calls s[a + 1]) hfr rfl ?_
        rw [hdd]
        simp -implicitDefEqProofs [go_sem, -List.set_cons_succ, -List.set_cons_zero]
      · have hlt2 : ¬ (a : Int) + 1 < s.length := by omega
        have hdd : digAt s (a + 1) = false := dig_end (by simp; omega)
        simp -implicitDefEqProofs [ro_get hi, ro_len, ro_set, e45', hli, ha1, hlt2, hdd, Ref.re, go_sem, -List.set_cons_succ, -List.set_cons_zero]
        refine byte_off 0 ?_
        simp -implicitDefEqProofs [go_sem, -List.set_cons_succ, -List.set_cons_zero]
theorem hasPrefix0_calls (t x : List UInt8) (ht : t.length ≤ 1000000) (hx : x.length ≤ 1000000) (H : Heap) : ACalls Tryz.prog 131 [.c (.d (.str t)), .c (.d (.str x))] H (fun r H' => H' = H ∧ r = .c (.d (.bool (t.take x.length == x)))) := by
  refine acalls Tryz.func131 (by kernel_rfl) ac131_ok fun hf => ?_
  have h1 : inR .i64 (t.length : Int) := small_i64 (by omega) (by omega)
  have h2 : inR .i64 (x.length : Int) := small_i64 (by omega) (by omega)
  by_cases h : x.length ≤ t.length
  · have h' : (x.length : Int) ≤ t.length := by omega
    simp -implicitDefEqProofs [ac131, h1, h2, h, h', go_sem, -List.set_cons_succ, -List.set_cons_zero]
  · have h' : ¬ (x.length : Int) ≤ t.length := by omega
    have h3 : (t.take x.length == x) = false := by
      simp only [beq_eq_false_iff_ne]
      intro e
      have := congrArg List.length e
      simp at this
      omega
    simp -implicitDefEqProofs [ac131, h1, h2, h, h', h3, go_sem, -List.set_cons_succ, -List.set_cons_zero]
theorem hasPrefix_calls (t x : List UInt8) (ht : t.length ≤ 1000000) (hx : x.length ≤ 1000000) (H : Heap) : ACalls Tryz.prog 116 [.c (.d (.str t)), .c (.d (.str x))] H (fun r H' => H' = H ∧ r = .c (.d (.bool (t.take x.length == x)))) := by
  refine acalls Tryz.func116 (by kernel_rfl) ac116_ok fun hf => ?_
  simp -implicitDefEqProofs [ac116, go_sem, -List.set_cons_succ, -List.set_cons_zero]
  refine qcall_pure (hasPrefix0_calls t x ht hx) hf rfl ?_
  simp -implicitDefEqProofs [go_sem, -List.set_cons_succ, -List.set_cons_zero]
end Go.Proofs.YtgfmlifkhpjplaaGreatDoor

/-
  The program's reader: numbers.
  Conditions: none.
-/
open Go Go.AM Go.Proofs
namespace Go.Proofs.YtgfmlifkhpjplaaGreatDoor
open Go.ChangeShapes Go.WideShapes Go.ChangeAt Go.RowKit
set_option linter.unusedVariables false
set_option linter.unusedSimpArgs false
set_option maxRecDepth 100000
-- 114 (*loop.example/prologserver/impl.reader).number params 1 ntmps 61
-- loop head live: [0,2,3]
def ac114 : Cd := .seq (.region [⟨(some 2),.alloc [(.d (.int .i64 0)),(.d (.int .i64 0)),(.d (.str [])),(.full [])],none⟩] [])
 (.seq (.region [⟨(some 7),.mv (.t 0),none⟩,
 ⟨(some 8),.nilCheck (.t 7),none⟩,
 ⟨(some 9),.fieldAddr 1 (.t 8),none⟩,
 ⟨(some 10),.load none (.t 9),none⟩,
 ⟨(some 3),.mv (.t 10),none⟩] [7,8,9,10])
 (.seq (.region [⟨(some 11),.mv (.t 0),none⟩,
 ⟨(some 12),.nilCheck (.t 11),none⟩,
 ⟨(some 13),.fieldAddr 1 (.t 12),none⟩,
 ⟨(some 14),.load none (.t 13),none⟩,
 ⟨(some 15),.bin .add (.t 14) (.k (.c (.d (.int .i64 1)))),none⟩,
 ⟨(some 16),.nilCheck (.t 11),none⟩,
 ⟨(some 17),.fieldAddr 1 (.t 16),none⟩,
 ⟨none,.store 1 (.t 17) (.t 15),none⟩] [11,12,13,14,15,16,17])
 (.seq (.block 0 (.loop (.seq (.seq (.region [⟨(some 18),.mv (.t 0),none⟩,
 ⟨(some 19),.call false 111 [(.t 18)],none⟩,
 ⟨(some 20),.qcall 87 [(.t 19)],none⟩] [18,19])
 (.cond (.t 20)
 (.skip)
 (.exit 0)))
 (.block 1 (.region [⟨(some 21),.mv (.t 0),none⟩,
 ⟨(some 22),.nilCheck (.t 21),none⟩,
 ⟨(some 23),.fieldAddr 1 (.t 22),none⟩,
 ⟨(some 24),.load none (.t 23),none⟩,
 ⟨(some 25),.bin .add (.t 24) (.k (.c (.d (.int .i64 1)))),none⟩,
 ⟨(some 26),.nilCheck (.t 21),none⟩,
 ⟨(some 27),.fieldAddr 1 (.t 26),none⟩,
 ⟨none,.store 1 (.t 27) (.t 25),none⟩] [20,21,22,23,24,25,26,27])))))
 (.seq (.region [⟨(some 28),.mv (.t 0),none⟩,
 ⟨(some 29),.nilCheck (.t 28),none⟩,
 ⟨(some 30),.fieldAddr 0 (.t 29),none⟩,
 ⟨(some 32),.mv (.t 3),none⟩,
 ⟨(some 33),.mv (.t 0),none⟩,
 ⟨(some 34),.nilCheck (.t 33),none⟩,
 ⟨(some 35),.fieldAddr 1 (.t 34),none⟩,
 ⟨(some 31),.load none (.t 30),none⟩,
 ⟨(some 36),.load none (.t 35),none⟩,
 ⟨(some 37),.slice 0 (.t 31) (some (.t 32)) (some (.t 36)) none,none⟩,
 ⟨(some 4),.mv (.t 37),none⟩] [28,29,30,31,32,33,34,35,36,37])
 (.seq (.region [⟨(some 39),.mv (.t 4),none⟩,
 ⟨(some 40),.call false 129 [(.t 39)],none⟩,
 ⟨(some 38),.mv (.t 40),none⟩,
 ⟨(some 41),.extract 0 (.t 38),none⟩,
 ⟨(some 42),.extract 1 (.t 38),none⟩,
 ⟨(some 5),.mv (.t 41),none⟩,
 ⟨(some 6),.mv (.t 42),none⟩] [38,39,40,41,42])
 (.seq (.seq (.region [⟨(some 43),.mv (.t 6),none⟩,
 ⟨(some 44),.errNil true (.t 43),none⟩,
 ⟨(some 45),.mv (.t 44),none⟩,
 ⟨(some 46),.mv (.t 5),some (45,false)⟩,
 ⟨(some 47),.qcall 91 [(.t 46)],some (45,false)⟩,
 ⟨(some 48),.mv (.t 4),some (45,false)⟩,
 ⟨(some 49),.bin .neq (.t 47) (.t 48),some (45,false)⟩,
 ⟨(some 50),.pick (.t 45) (.k (.c (.d (.bool true)))) (.t 49),none⟩,
 ⟨(some 51),.mv (.t 50),none⟩,
 ⟨(some 52),.mv (.t 5),some (51,false)⟩,
 ⟨(some 53),.qcall 71 [(.t 52),(.k (.c (.d (.int .i64 (-999))))),(.k (.c (.d (.int .i64 999))))],some (51,false)⟩,
 ⟨(some 54),.un .not (.t 53),some (51,false)⟩,
 ⟨(some 55),.pick (.t 51) (.k (.c (.d (.bool true)))) (.t 54),none⟩] [4,6,43,44,45,46,47,48,49,50,51,52,53,54])
 (.cond (.t 55)
 (.seq (.region [⟨(some 56),.mv (.t 0),none⟩,
 ⟨(some 57),.mv (.t 3),none⟩,
 ⟨(some 58),.call false 110 [(.t 56),(.t 57)],none⟩,
 ⟨none,.store 4 (.t 2) (.t 58),none⟩] [0,3,5,55,56,57,58])
 (.ret))
 (.skip)))
 (.seq (.region [⟨(some 59),.mv (.t 5),none⟩,
 ⟨(some 60),.qcall 130 [(.t 59)],none⟩,
 ⟨none,.store 4 (.t 2) (.t 60),none⟩] [0,3,5,55,59,60])
 (.ret))))))))
theorem ac114_ok : cFunc Tryz.prog [1000071,1000087,1000091,1000130] [(0,[],[]),(1,[7,8,9,10],[]),(2,[11,12,13,14,15,16,17],[]),(3,[18,19],[]),(4,[20,21,22,23,24,25,26,27],[]),(5,[28,29,30,31,32,33,34,35,36,37],[0,1,2,4,5,6,7,3,8,9,10]),(6,[38,39,40,41,42],[]),(7,[4,6,43,44,45,46,47,48,49,50,51,52,53,54],[]),(8,[0,3,5,55,56,57,58],[]),(9,[0,3,5,55,59,60],[])] Tryz.f114 = some (ac114,[.cell 2 (some 4)],61) := by kernel_rfl
-- 130 loop.example/prologserver/impl.number params 1 ntmps 5
def ac130 : Cd := .seq (.region [⟨(some 2),.alloc [(.d (.int .i64 0)),(.d (.int .i64 0)),(.d (.str [])),(.full [])],none⟩] [])
 (.seq (.region [⟨(some 3),.mv (.t 0),none⟩,
 ⟨(some 4),.build [(.d (.int .i64 0)),(.d (.int .i64 0)),(.d (.str [])),(.full [])] [(0,1,(.k (.c (.d (.int .i64 2))))),(1,1,(.t 3))],none⟩,
 ⟨none,.store 4 (.t 2) (.t 4),none⟩] [0,3,4])
 (.ret))
theorem ac130_ok : cFunc Tryz.prog [] [(0,[],[]),(1,[0,3,4],[])] Tryz.f130 = some (ac130,[.cell 2 (some 4)],5) := by kernel_rfl
theorem numberC_calls (n : Int) (hn : inR .i64 n) (H : Heap) : ACalls Tryz.prog 130 [.c (.d (.int .i64 n))] H (fun r H' => H' = H ∧ r = .agg ((Tm.mk 2 n [] []).row.map .d)) := by
  refine acalls Tryz.func130 (by kernel_rfl) ac130_ok fun hf => ?_
  simp -implicitDefEqProofs [ac130, row_mk, hn, hf, go_sem, -List.set_cons_succ, -List.set_cons_zero]
/-- a call that leaves all objects as they were, with one of several results -/
theorem call_rel {P : Program} {f : FuncId} {xs : List A} {sl : List A} {ext loc H₂ : Heap} {R : A → Prop} {K : A → St → Prop} (hc : ACalls P f xs H₂ (fun r' H' => H' = H₂ ∧ R r')) (hf : Obs.fits ext.length 0 ext) (hH : H₂ = ext ++ loc.map (Ob.re ext.length))
    (hk : ∀ r, R r → A.re ext.length r = r ∧ K r ⟨sl, ext, loc⟩) : ACalls P f xs H₂ (CallK K ⟨sl, ext, loc⟩) := by
  subst hH
  exact hc.mono fun r' H' ⟨h1, h2⟩ => ⟨ext, loc, r', h1, rfl, Nat.le_refl _, hf, (hk r' h2).1.symm, (hk r' h2).2⟩
/-- what number gives -/
def numV2 (s : List UInt8) (a : Nat) : A := match numR s a with
  | some (n, _) => .agg ((Tm.mk 2 n [] []).row.map .d)
  | none => zeroA
def numB (s : List UInt8) (a : Nat) : Int := match numR s a with
  | some _ => -1
  | none => a
set_option maxHeartbeats 1600000 in
theorem number_mv (s : List UInt8) (hs : s.length ≤ 1000000) (a : Nat) (ha : a ≤ s.length) (h : digAt s a = true ∨ (sgn s a 45 = true ∧ digAt s (a + 1) = true)) : Mv 114 [] s a (-1) (numV2 s a) (runE digAt s s.length (a + 1)) (numB s a) := fun H i hp h2 hi => by
  obtain ⟨l1, l2, l3, l4⟩ := number_law ha h
  refine acalls Tryz.func114 (by kernel_rfl) ac114_ok fun hf => ?_
  rw [ro_len] at hf
  have hf1 := fun a' b' => ro_fits (s' := s) (a' := a') (b' := b') hf
  have hfr : ∀ a' b', Obs.fits (ro H i s a' b').length 0 (ro H i s a' b') := fun a' b' => by rw [ro_len]; exact hf1 a' b'
  have ha1 : inR .i64 ((a : Int) + 1) := small_i64 (by omega) (by omega)
  have hli : inR .i64 (s.length : Int) := small_i64 (by omega) (by omega)
  simp -implicitDefEqProofs [ac114, ro_get hi, ro_len, ro_up, ha1, Ref.re, hf1, go_sem, -List.set_cons_succ, -List.set_cons_zero]
  refine loop_set (σ := Nat) (fun k => []) (fun k => ro H i s k (-1)) (fun _ => [.cells [.d (.int .i64 0), .d (.int .i64 0), .d (.str []), .full []]])
    (fun k => a + 1 ≤ k ∧ k ≤ s.length ∧ ∀ m, a + 1 + m < k → digAt s (a + 1 + m) = true) (fun k => s.length - k) (a + 1) (by simp [setAll]) ⟨Nat.le_refl _, by omega, fun m hm => by omega⟩ ?_
  rintro k ⟨hk1, hk2, hk3⟩
  have hki : inR .i64 ((k : Int) + 1) := small_i64 (by omega) (by omega)
  simp -implicitDefEqProofs [setAll, ro_len, go_sem, -List.set_cons_succ, -List.set_cons_zero]
  refine call_mv (next_mv s hs k (-1) (by omega)) hp h2 hi (by simp [Ob.re, C.re]) rfl (hf1 _ _) ?_
  simp -implicitDefEqProofs [ro_len, go_sem, -List.set_cons_succ, -List.set_cons_zero]
  refine qcall_pure (isDigit_calls (nxt s k (-1))) (hfr _ _) rfl ?_
  rw [nxt_dig]
  cases hd : digAt s k with
  | true =>
    have hlt := dig_lt _ hd
    simp -implicitDefEqProofs [ro_get hi, ro_len, ro_up, hki, Ref.re, hf1, go_sem, -List.set_cons_succ, -List.set_cons_zero]
    exact loop_back (k + 1) (by simp [setAll]) ⟨by omega, by omega, fun m hm => by
      rcases Nat.lt_or_ge (a + 1 + m) k with h | h
      · exact hk3 m h
      · rw [show a + 1 + m = k by omega]; exact hd⟩ (by show s.length - (k + 1) < s.length - k; omega)
  | false =>
    have he : runE digAt s s.length (a + 1) = k := by
      rw [runE_stop s.length (a + 1) (k - (a + 1)) (by omega) (fun m hm => hk3 m (by omega)) (.inr (by rw [show a + 1 + (k - (a + 1)) = k by omega]; exact hd))]
      omega
    rw [he] at l3 l4 ⊢
    have hcut : (s.take k).drop a = cutS s a k := rfl
    simp -implicitDefEqProofs [ro_get hi, ro_len, ro_up, hki, Ref.re, hf1, hcut, go_sem, -List.set_cons_succ, -List.set_cons_zero]
    obtain ⟨o, o2, g1, g2, hT, hE⟩ := id hp
    have hi0 : (0 : Nat) ≠ i := by omega
    have hi1 : (1 : Nat) ≠ i := by omega
    have hcl : (cutS s a k).length ≤ 1000000 := by rw [cutS_len]; omega
    refine ⟨⟨by omega, hk2⟩, ?_⟩
    refine call_rel (atoi_call hE _ (by omega) l3 _ (by rw [List.getElem?_append_left (by rw [ro_len]; omega), ro_other hi1]; exact g2)) (hfr _ _) (by simp [Ob.re, C.re]) ?_
    rintro r ⟨n, e, hn, rfl, hr⟩
    refine ⟨by simp [A.re, A.res, C.re], ?_⟩
    have hg0 : (ro H i s k (-1))[0]? = some (.tab 0 o) := by rw [ro_other hi0]; exact g1
    have fail : numR s a = none → numV2 s a = zeroA ∧ numB s a = a := fun h => by simp [numV2, numB, h]
    rcases hr with ⟨rfl, hok⟩ | ⟨p, q, rfl, hrg⟩
    · simp -implicitDefEqProofs [go_sem, -List.set_cons_succ, -List.set_cons_zero]
      refine qcall_tab (fun H' hH' => itoa_call hT n hn H' hH') (hfr _ _) hg0 rfl ?_
      by_cases heq : Lib.itoa n = cutS s a k
      · simp -implicitDefEqProofs [heq, go_sem, -List.set_cons_succ, -List.set_cons_zero]
        refine qcall_pure (within_calls n (-999) 999) (hfr _ _) rfl ?_
        cases hn4 : numR s a with
        | some x =>
          obtain ⟨m, j⟩ := x
          rw [hn4] at l4
          obtain ⟨q1, q2, q3, q4, q5⟩ := l4
          have hm : n = m := by rw [q1] at hok; cases hok; rfl
          subst hm
          simp -implicitDefEqProofs [q4, q5, hn, go_sem, -List.set_cons_succ, -List.set_cons_zero]
          refine qcall_pure (numberC_calls n hn) (hfr _ _) (by simp [A.re, re_d]) ?_
          simp -implicitDefEqProofs [numV2, numB, hn4, row_mk, hfr, go_sem, -List.set_cons_succ, -List.set_cons_zero]
        | none =>
          rw [hn4] at l4
          have hno := l4 n heq
          have hw : (decide (-999 ≤ n) && decide (n ≤ 999)) = false := by
            rw [Bool.and_eq_false_iff, decide_eq_false_iff_not, decide_eq_false_iff_not]; omega
          rw [hw]
          obtain ⟨e1, e2⟩ := fail hn4
          simp -implicitDefEqProofs [go_sem, -List.set_cons_succ, -List.set_cons_zero]
          refine call_mv (stop_mv s k (-1) a) hp h2 hi (by simp [Ob.re, C.re]) (zeroA_re _) (hf1 _ _) ?_
          simp -implicitDefEqProofs [e1, e2, zeroA, row_mk, hfr, go_sem, -List.set_cons_succ, -List.set_cons_zero]
      · have hn4 : numR s a = none := by
          cases hn4 : numR s a with
          | none => rfl
          | some x =>
            rw [hn4] at l4
            obtain ⟨q1, q2, _⟩ := l4
            rw [q1] at hok
            cases hok
            exact absurd q2 heq
        obtain ⟨e1, e2⟩ := fail hn4
        have heq2 : (Lib.itoa n != cutS s a k) = true := by simpa using heq
        simp -implicitDefEqProofs [heq, heq2, go_sem, -List.set_cons_succ, -List.set_cons_zero]
        refine call_mv (stop_mv s k (-1) a) hp h2 hi (by simp [Ob.re, C.re]) (zeroA_re _) (hf1 _ _) ?_
        simp -implicitDefEqProofs [e1, e2, zeroA, row_mk, hfr, go_sem, -List.set_cons_succ, -List.set_cons_zero]
    · have hn4 : numR s a = none := by
        cases hn4 : numR s a with
        | none => rfl
        | some x =>
          rw [hn4] at l4
          obtain ⟨q1, _⟩ := l4
          rw [q1] at hrg
          cases hrg
      obtain ⟨e1, e2⟩ := fail hn4
      simp -implicitDefEqProofs [go_sem, -List.set_cons_succ, -List.set_cons_zero]
      refine call_mv (stop_mv s k (-1) a) hp h2 hi (by simp [Ob.re, C.re]) (zeroA_re _) (hf1 _ _) ?_
      simp -implicitDefEqProofs [e1, e2, zeroA, row_mk, hfr, go_sem, -List.set_cons_succ, -List.set_cons_zero]
end Go.Proofs.YtgfmlifkhpjplaaGreatDoor

/-
  The program's reader: names.
  Conditions: none.
-/
open Go Go.AM Go.Proofs
namespace Go.Proofs.YtgfmlifkhpjplaaGreatDoor
open Go.ChangeShapes Go.WideShapes Go.ChangeAt Go.RowKit
set_option linter.unusedVariables false
set_option linter.unusedSimpArgs false
set_option maxRecDepth 100000
-- 119 (*loop.example/prologserver/impl.reader).name params 1 ntmps 77
-- loop head live: [0,3,4]
-- loop head live: [0,3,4,44,45,46]
def ac119 : Cd := .seq (.region [⟨(some 2),.mv (.k (.c (.d (.str [])))),none⟩] [2])
 (.seq (.region [⟨(some 7),.mv (.t 0),none⟩,
 ⟨(some 8),.nilCheck (.t 7),none⟩,
 ⟨(some 9),.fieldAddr 0 (.t 8),none⟩,
 ⟨(some 11),.mv (.t 0),none⟩,
 ⟨(some 12),.nilCheck (.t 11),none⟩,
 ⟨(some 13),.fieldAddr 1 (.t 12),none⟩,
 ⟨(some 10),.load none (.t 9),none⟩,
 ⟨(some 14),.load none (.t 13),none⟩,
 ⟨(some 15),.slice 0 (.t 10) (some (.t 14)) none none,none⟩,
 ⟨(some 3),.mv (.t 15),none⟩] [7,8,9,10,11,12,13,14,15])
 (.seq (.region [⟨(some 4),.mv (.k (.c (.d (.int .i64 0)))),none⟩] [])
 (.seq (.block 0 (.loop (.seq (.seq (.region [⟨(some 16),.mv (.t 4),none⟩,
 ⟨(some 17),.mv (.t 3),none⟩,
 ⟨(some 18),.len 0 (.t 17),none⟩,
 ⟨(some 19),.bin .lss (.t 16) (.t 18),none⟩,
 ⟨(some 20),.mv (.t 19),none⟩,
 ⟨(some 21),.mv (.t 3),some (20,true)⟩,
 ⟨(some 22),.mv (.t 4),some (20,true)⟩,
 ⟨(some 23),.index (.t 21) (.t 22),some (20,true)⟩,
 ⟨(some 24),.bin .geq (.t 23) (.k (.c (.d (.int .u8 97)))),some (20,true)⟩,
 ⟨(some 25),.pick (.t 20) (.t 24) (.k (.c (.d (.bool false)))),none⟩,
 ⟨(some 26),.mv (.t 25),none⟩,
 ⟨(some 27),.mv (.t 3),some (26,true)⟩,
 ⟨(some 28),.mv (.t 4),some (26,true)⟩,
 ⟨(some 29),.index (.t 27) (.t 28),some (26,true)⟩,
 ⟨(some 30),.bin .leq (.t 29) (.k (.c (.d (.int .u8 122)))),some (26,true)⟩,
 ⟨(some 31),.pick (.t 26) (.t 30) (.k (.c (.d (.bool false)))),none⟩] [16,17,18,19,20,21,22,23,24,25,26,27,28,29,30])
 (.cond (.t 31)
 (.skip)
 (.exit 0)))
 (.block 1 (.region [⟨(some 32),.mv (.t 4),none⟩,
 ⟨(some 33),.bin .add (.t 32) (.k (.c (.d (.int .i64 1)))),none⟩,
 ⟨(some 4),.mv (.t 33),none⟩] [31,32,33])))))
 (.seq (.seq (.region [⟨(some 34),.mv (.t 4),none⟩,
 ⟨(some 35),.bin .gtr (.t 34) (.k (.c (.d (.int .i64 6)))),none⟩] [34])
 (.cond (.t 35)
 (.seq (.region [⟨(some 36),.mv (.t 0),none⟩,
 ⟨(some 37),.mv (.t 0),none⟩,
 ⟨(some 38),.nilCheck (.t 37),none⟩,
 ⟨(some 39),.fieldAddr 1 (.t 38),none⟩,
 ⟨(some 40),.load none (.t 39),none⟩,
 ⟨(some 41),.call false 110 [(.t 36),(.t 40)],none⟩] [0,3,4,35,36,37,38,39,40,41])
 (.seq (.region [⟨(some 2),.mv (.k (.c (.d (.str [])))),none⟩] [])
 (.ret)))
 (.skip)))
 (.seq (.seq (.region [⟨(some 42),.mv (.t 4),none⟩,
 ⟨(some 43),.bin .eql (.t 42) (.k (.c (.d (.int .i64 0)))),none⟩] [2,35,42])
 (.cond (.t 43)
 (.seq (.region [⟨(some 44),.qcall 103 [],none⟩,
 ⟨(some 45),.len 1 (.t 44),none⟩,
 ⟨(some 46),.mv (.k (.c (.d (.int .i64 0)))),none⟩] [43])
 (.block 2 (.loop (.seq (.region [⟨(some 47),.bin .lss (.t 46) (.t 45),none⟩] [])
 (.seq (.cond (.t 47)
 (.skip)
 (.exit 2))
 (.seq (.block 3 (.seq (.region [⟨(some 48),.indexAddr 1 (.t 44) (.t 46),none⟩,
 ⟨(some 49),.load none (.t 48),none⟩,
 ⟨(some 6),.mv (.t 49),none⟩] [47,48,49])
 (.seq (.region [⟨(some 50),.mv (.t 3),none⟩,
 ⟨(some 51),.mv (.t 6),none⟩,
 ⟨(some 52),.qcall 116 [(.t 50),(.t 51)],none⟩] [50,51])
 (.cond (.t 52)
 (.region [⟨(some 53),.mv (.t 4),none⟩,
 ⟨(some 54),.mv (.t 6),none⟩,
 ⟨(some 55),.len 0 (.t 54),none⟩,
 ⟨(some 56),.imax (.t 53) (.t 55),none⟩,
 ⟨(some 4),.mv (.t 56),none⟩] [6,52,53,54,55,56])
 (.skip)))))
 (.region [⟨(some 57),.bin .add (.t 46) (.k (.c (.d (.int .i64 1)))),none⟩,
 ⟨(some 46),.mv (.t 57),none⟩] [6,52,57])))))))
 (.skip)))
 (.seq (.seq (.region [⟨(some 58),.mv (.t 4),none⟩,
 ⟨(some 59),.bin .eql (.t 58) (.k (.c (.d (.int .i64 0)))),none⟩] [43,58])
 (.cond (.t 59)
 (.seq (.region [⟨(some 60),.mv (.t 0),none⟩,
 ⟨(some 61),.mv (.t 0),none⟩,
 ⟨(some 62),.nilCheck (.t 61),none⟩,
 ⟨(some 63),.fieldAddr 1 (.t 62),none⟩,
 ⟨(some 64),.load none (.t 63),none⟩,
 ⟨(some 65),.call false 110 [(.t 60),(.t 64)],none⟩] [0,3,4,59,60,61,62,63,64,65])
 (.seq (.region [⟨(some 2),.mv (.k (.c (.d (.str [])))),none⟩] [])
 (.ret)))
 (.skip)))
 (.seq (.region [⟨(some 66),.mv (.t 0),none⟩,
 ⟨(some 67),.nilCheck (.t 66),none⟩,
 ⟨(some 68),.fieldAddr 1 (.t 67),none⟩,
 ⟨(some 69),.load none (.t 68),none⟩,
 ⟨(some 70),.mv (.t 4),none⟩,
 ⟨(some 71),.bin .add (.t 69) (.t 70),none⟩,
 ⟨(some 72),.nilCheck (.t 66),none⟩,
 ⟨(some 73),.fieldAddr 1 (.t 72),none⟩,
 ⟨none,.store 1 (.t 73) (.t 71),none⟩] [0,2,59,66,67,68,69,70,71,72,73])
 (.seq (.region [⟨(some 74),.mv (.t 3),none⟩,
 ⟨(some 75),.mv (.t 4),none⟩,
 ⟨(some 76),.slice 0 (.t 74) none (some (.t 75)) none,none⟩,
 ⟨(some 2),.mv (.t 76),none⟩] [3,4,74,75,76])
 (.ret)))))))))
theorem ac119_ok : cFunc Tryz.prog [1000103,1000116] [(0,[2],[]),(1,[7,8,9,10,11,12,13,14,15],[0,1,2,4,5,6,3,7,8,9]),(2,[],[]),(3,[16,17,18,19,20,21,22,23,24,25,26,27,28,29,30],[]),(4,[31,32,33],[]),(5,[34],[]),(6,[0,3,4,35,36,37,38,39,40,41],[]),(7,[],[]),(8,[2,35,42],[]),(9,[43],[]),(10,[],[]),(11,[47,48,49],[]),(12,[50,51],[]),(13,[6,52,53,54,55,56],[]),(14,[6,52,57],[]),(15,[43,58],[]),(16,[0,3,4,59,60,61,62,63,64,65],[]),(17,[],[]),(18,[0,2,59,66,67,68,69,70,71,72,73],[]),(19,[3,4,74,75,76],[])] Tryz.f119 = some (ac119,[.tmp 2],77) := by kernel_rfl
/-- the greatest length of a beginning out of a list -/
def maxP (t : List UInt8) : List (List UInt8) → Nat → Nat
  | [], n => n
  | x :: l, n => maxP t l (if t.take x.length == x then (if n < x.length then x.length else n) else n)
theorem cut_drop (s : List UInt8) (a n : Nat) : cutS s a (a + n) = (s.drop a).take n := by
  rw [cutS, List.drop_take, Nat.add_sub_cancel_left]
theorem maxP_best {s : List UInt8} {a : Nat} (ha : a ≤ s.length) : ∀ (l : List (List UInt8)) (b : List UInt8), maxP (s.drop a) l b.length = (bestS s a l b).length
  | [], b => rfl
  | x :: l, b => by
    unfold maxP bestS
    rw [cut_drop]
    by_cases h : ((s.drop a).take x.length == x) = true
    · have hl : a + x.length ≤ s.length := by
        have := congrArg List.length (beq_iff_eq.1 h)
        simp at this
        omega
      rw [if_pos h]
      by_cases hb : b.length < x.length
      · simp only [hl, h, hb, decide_true, Bool.and_self, if_true]
        exact maxP_best ha l x
      · simp only [hl, h, hb, decide_true, decide_false, Bool.and_false, Bool.false_eq_true, if_false]
        exact maxP_best ha l b
    · rw [if_neg h]
      have h' : ((s.drop a).take x.length == x) = false := by simpa using h
      simp only [h', Bool.and_false, Bool.false_and, Bool.false_eq_true, if_false]
      exact maxP_best ha l b
def nameV (s : List UInt8) (a : Nat) : A := match nameR s a with
  | some (n, _) => .c (.d (.str n))
  | none => .c (.d (.str []))
def nameJ (s : List UInt8) (a : Nat) : Nat := match nameR s a with
  | some (_, j) => j
  | none => a
def nameF (s : List UInt8) (a : Nat) : Int := match nameR s a with
  | some _ => -1
  | none => a
set_option maxHeartbeats 1600000 in
theorem name_mv (s : List UInt8) (hs : s.length ≤ 1000000) (a : Nat) (ha : a ≤ s.length) : Mv 119 [] s a (-1) (nameV s a) (nameJ s a) (nameF s a) := fun H i hp h2 hi => by
  refine acalls Tryz.func119 (by kernel_rfl) ac119_ok fun hf => ?_
  rw [ro_len] at hf
  have hf1 := fun a' b' => ro_fits (s' := s) (a' := a') (b' := b') hf
  have hfr : ∀ a' b', Obs.fits (ro H i s a' b').length 0 (ro H i s a' b') := fun a' b' => by rw [ro_len]; exact hf1 a' b'
  obtain ⟨t, ht⟩ : ∃ t, t = s.drop a := ⟨_, rfl⟩
  have htl : t.length = s.length - a := by rw [ht]; simp
  have hli : inR .i64 (t.length : Int) := small_i64 (by omega) (by omega)
  have hst : s.take s.length = s := List.take_length
  simp -implicitDefEqProofs [ac119, ro_get hi, ro_len, Ref.re, hf1, ← ht, go_sem, -List.set_cons_succ, -List.set_cons_zero]
  refine ⟨by omega, ?_⟩
  refine loop_set (σ := Nat) (fun k => [(4, .c (.d (.int .i64 k)))]) (fun k => ro H i s a (-1)) (fun _ => [])
    (fun k => k ≤ t.length ∧ ∀ m, m < k → smaAt s (a + m) = true) (fun k => t.length - k) 0 (by simp [setAll]) ⟨Nat.zero_le _, fun m hm => by omega⟩ ?_
  rintro k ⟨hk2, hk3⟩
  have hki : inR .i64 ((k : Int) + 1) := small_i64 (by omega) (by omega)
  simp -implicitDefEqProofs [setAll, ro_len, hli, go_sem, -List.set_cons_succ, -List.set_cons_zero]
  refine (fun (more : smaAt s (a + k) = true → (?more : Prop)) (stop : smaAt s (a + k) = false → (?stop : Prop)) => ?main) ?rest1 ?rest2
  case main =>
    by_cases hlt : k < t.length
    · have hsm : smaAt s (a + k) = smaB t[k] := by
        have : s[a + k]? = some t[k] := by rw [← List.getElem?_drop, ← ht, List.getElem?_eq_getElem hlt]
        unfold smaAt
        rw [this]
      simp -implicitDefEqProofs [hlt, go_sem, -List.set_cons_succ, -List.set_cons_zero]
      refine byte_nat hlt ?_
      by_cases h1 : (97 : Int) ≤ t[k].toNat
      · simp -implicitDefEqProofs [h1, go_sem, -List.set_cons_succ, -List.set_cons_zero]
        refine byte_nat hlt ?_
        by_cases h3 : (t[k].toNat : Int) ≤ 122
        · simp -implicitDefEqProofs [h3, hki, go_sem, -List.set_cons_succ, -List.set_cons_zero]
          exact more (by rw [hsm]; simp [smaB]; omega)
        · simp -implicitDefEqProofs [h3, hki, go_sem, -List.set_cons_succ, -List.set_cons_zero]
          exact stop (by rw [hsm]; simp [smaB]; omega)
      · simp -implicitDefEqProofs [h1, go_sem, -List.set_cons_succ, -List.set_cons_zero]
        refine byte_off 0 ?_
        simp -implicitDefEqProofs [go_sem, -List.set_cons_succ, -List.set_cons_zero]
        exact stop (by rw [hsm]; simp [smaB]; omega)
    · simp -implicitDefEqProofs [hlt, go_sem, -List.set_cons_succ, -List.set_cons_zero]
      refine byte_off 0 ?_
      simp -implicitDefEqProofs [go_sem, -List.set_cons_succ, -List.set_cons_zero]
      refine byte_off 0 ?_
      simp -implicitDefEqProofs [go_sem, -List.set_cons_succ, -List.set_cons_zero]
      exact stop (sma_end (by simp; omega))
  case rest1 =>
    intro hsm
    have hlt := sma_lt _ hsm
    exact loop_back (k + 1) (by simp [setAll]) ⟨by omega, fun m hm => by
      rcases Nat.lt_or_ge m k with h | h
      · exact hk3 m h
      · rw [show m = k by omega]; exact hsm⟩ (by show t.length - (k + 1) < t.length - k; omega)
  case rest2 =>
    intro hsm
    have he : runE smaAt s s.length a = a + k := runE_stop s.length a k (by omega) hk3 (.inr hsm)
    have hii : inR .i64 ((a : Int) + (k : Int)) := small_i64 (by omega) (by omega)
    refine ⟨fun h6 => ?_, fun h6 => ⟨fun h0 => ?_, fun h0 => ⟨fun h => absurd h h0, fun _ => ?_⟩⟩⟩
    · have hn : nameR s a = none := by unfold nameR; rw [he, if_pos (by omega)]
      simp -implicitDefEqProofs [ro_get hi, ro_len, go_sem, -List.set_cons_succ, -List.set_cons_zero]
      refine call_mv (stop_mv s a (-1) a) hp h2 hi (by simp [Ob.re, C.re]) (zeroA_re _) (hf1 _ _) ?_
      simp -implicitDefEqProofs [nameV, nameJ, nameF, hn, go_sem, -List.set_cons_succ, -List.set_cons_zero]
    · subst h0
      refine qcall_pure symbols_calls (hfr _ _) rfl ?_
      have hsl : signs.length = 15 := rfl
      have hs15 : inR .i64 (15 : Int) := small_i64 (by omega) (by omega)
      have hs0 : inR .i64 (0 : Int) := small_i64 (by omega) (by omega)
      simp -implicitDefEqProofs [hsl, hs15, go_sem, -List.set_cons_succ, -List.set_cons_zero]
      obtain ⟨G, hG⟩ : ∃ G, G = bestS s a signs [] := ⟨_, rfl⟩
      have hG2 : maxP t signs 0 = G.length := by rw [hG, ht]; exact maxP_best ha signs []
      have hG3 : G.length ≤ t.length := by
        obtain ⟨⟨y, hy⟩, _⟩ := best_max ha signs [] ⟨s.drop a, by simp⟩
        rw [← hG, ← ht] at hy
        rw [← hy]; simp
      refine loop_set (σ := Nat × Nat) (fun x => [(46, .c (.d (.int .i64 x.1))), (4, .c (.d (.int .i64 x.2)))]) (fun _ => ro H i s a (-1)) (fun _ => []) (fun x => x.1 ≤ 15 ∧ maxP t (signs.drop x.1) x.2 = G.length ∧ x.2 ≤ 3) (fun x => 15 - x.1) (0, 0) (by simp [setAll]) ⟨by omega, hG2, by simp⟩ ?_
      rintro ⟨j, b⟩ ⟨hj, h1, h3⟩
      simp only at hj h1 h3
      simp -implicitDefEqProofs [setAll, hsl, hs15, ro_len, go_sem, -List.set_cons_succ, -List.set_cons_zero]
      refine ⟨fun hlt => ?_, fun hge => ?_⟩
      · have hlt' : j < signs.length := by rw [hsl]; omega
        have hd : signs.drop j = signs[j] :: signs.drop (j + 1) := List.drop_eq_getElem_cons hlt'
        rw [hd, maxP] at h1
        have h4 : signs[j].length ≤ 3 := by
          have : ∀ n ∈ signs, n.length ≤ 3 := by decide
          exact this _ (List.getElem_mem hlt')
        have hrow : (signs.map strRow)[j]? = some [.str signs[j]] := by simp [hlt', strRow]
        obtain ⟨w, hw⟩ : ∃ w, w = signs[j] := ⟨_, rfl⟩
        rw [← hw] at h1 h4 hrow
        have hwl : inR .i64 (w.length : Int) := small_i64 (by omega) (by omega)
        have hadd : inR .i64 ((j : Int) + 1) := small_i64 (by omega) (by omega)
        refine row_nat _ hrow rfl ?_
        simp -implicitDefEqProofs [ro_len, go_sem, -List.set_cons_succ, -List.set_cons_zero]
        refine qcall_pure (hasPrefix_calls t w (by omega) (by omega)) (hfr _ _) rfl ?_
        cases hq : (t.take w.length == w) with
        | true =>
          rw [hq] at h1
          simp only [if_true] at h1
          simp -implicitDefEqProofs [hwl, hadd, ro_len, go_sem, -List.set_cons_succ, -List.set_cons_zero]
          by_cases hbw : b < w.length
          · rw [if_pos hbw] at h1
            refine loop_back (j + 1, w.length) (by simp [setAll, hbw]) ⟨by omega, h1, h4⟩ (by show 15 - (j + 1) < 15 - j; omega)
          · rw [if_neg hbw] at h1
            refine loop_back (j + 1, b) (by simp [setAll, hbw]) ⟨by omega, h1, h3⟩ (by show 15 - (j + 1) < 15 - j; omega)
        | false =>
          rw [hq] at h1
          simp only [Bool.false_eq_true, if_false] at h1
          simp -implicitDefEqProofs [hadd, ro_len, go_sem, -List.set_cons_succ, -List.set_cons_zero]
          exact loop_back (j + 1, b) (by simp [setAll]) ⟨by omega, h1, h3⟩ (by show 15 - (j + 1) < 15 - j; omega)
      · obtain rfl : j = 15 := by omega
        have h15 : signs.drop 15 = [] := rfl
        rw [h15, maxP] at h1
        subst h1
        have hgi : inR .i64 ((a : Int) + (G.length : Int)) := small_i64 (by omega) (by omega)
        by_cases hG0 : G = []
        · have hn : nameR s a = none := by unfold nameR; rw [he, if_neg (by omega), if_neg (by omega), ← hG, if_pos hG0]
          simp -implicitDefEqProofs [hG0, ro_get hi, ro_len, go_sem, -List.set_cons_succ, -List.set_cons_zero]
          refine call_mv (stop_mv s a (-1) a) hp h2 hi (by simp [Ob.re, C.re]) (zeroA_re _) (hf1 _ _) ?_
          simp -implicitDefEqProofs [nameV, nameJ, nameF, hn, go_sem, -List.set_cons_succ, -List.set_cons_zero]
        · have hn : nameR s a = some (G, a + G.length) := by unfold nameR; rw [he, if_neg (by omega), if_neg (by omega), ← hG, if_neg hG0]
          have htk : t.take G.length = G := by
            obtain ⟨⟨y, hy⟩, _⟩ := best_max ha signs [] ⟨s.drop a, by simp⟩
            rw [← hG, ← ht] at hy
            rw [← hy, List.take_left]
          simp -implicitDefEqProofs [hG0, ro_get hi, ro_len, hgi, hf1, htk, ro_set1, Ref.re, nameV, nameJ, nameF, hn, go_sem, -List.set_cons_succ, -List.set_cons_zero]
          exact hG3
    · have hn : nameR s a = some (t.take k, a + k) := by
        unfold nameR
        rw [he, if_neg (by omega), if_pos (by omega), cut_drop, ← ht]
      simp -implicitDefEqProofs [ro_get hi, ro_len, hii, hf1, ro_set1, Ref.re, nameV, nameJ, nameF, hn, go_sem, -List.set_cons_succ, -List.set_cons_zero]
      exact hk2
end Go.Proofs.YtgfmlifkhpjplaaGreatDoor

/-
  The program's reader: operators.
  Conditions: none.
-/
open Go Go.AM Go.Proofs
namespace Go.Proofs.YtgfmlifkhpjplaaGreatDoor
open Go.ChangeShapes Go.WideShapes Go.ChangeAt Go.RowKit
set_option linter.unusedVariables false
set_option linter.unusedSimpArgs false
set_option maxRecDepth 100000
namespace Full
-- 103 loop.example/prologserver/impl.symbols params 0 ntmps 2
def ac103 : Cd := .seq (.region [⟨(some 0),.mv (.k (.c (.full []))),none⟩] [0])
 (.seq (.region [⟨(some 1),.buildSlice 1 15 [(.str [])] [(0,(.k (.c (.d (.str [43]))))),(1,(.k (.c (.d (.str [45]))))),(2,(.k (.c (.d (.str [42]))))),(3,(.k (.c (.d (.str [47,47]))))),(4,(.k (.c (.d (.str [61]))))),(5,(.k (.c (.d (.str [92,61]))))),(6,(.k (.c (.d (.str [61,61]))))),(7,(.k (.c (.d (.str [60]))))),(8,(.k (.c (.d (.str [62]))))),(9,(.k (.c (.d (.str [61,60]))))),(10,(.k (.c (.d (.str [62,61]))))),(11,(.k (.c (.d (.str [61,58,61]))))),(12,(.k (.c (.d (.str [46]))))),(13,(.k (.c (.d (.str [91,93]))))),(14,(.k (.c (.d (.str [33])))))],none⟩,
 ⟨(some 0),.mv (.t 1),none⟩] [1])
 (.ret))
theorem ac103_ok : cFunc Tryz.prog [] [(0,[0],[]),(1,[1],[])] Tryz.f103 = some (ac103,[.tmp 0],2) := by kernel_rfl
end Full
-- 86 (*loop.example/prologserver/impl.reader).operator params 1 ntmps 46
-- loop head live: [0,3,14,15,16]
def ac86 : Cd := .seq (.region [⟨(some 2),.mv (.k (.c (.d (.str [])))),none⟩] [2])
 (.seq (.region [⟨(some 3),.mv (.k (.c (.d (.str [])))),none⟩] [])
 (.seq (.seq (.region [⟨(some 6),.mv (.t 0),none⟩,
 ⟨(some 7),.nilCheck (.t 6),none⟩,
 ⟨(some 8),.fieldAddr 2 (.t 7),none⟩,
 ⟨(some 9),.load none (.t 8),none⟩,
 ⟨(some 10),.bin .geq (.t 9) (.k (.c (.d (.int .i64 0)))),none⟩] [6,7,8,9])
 (.cond (.t 10)
 (.seq (.region [⟨(some 11),.mv (.t 3),none⟩,
 ⟨(some 2),.mv (.t 11),none⟩] [0,3,10,11])
 (.ret))
 (.skip)))
 (.seq (.seq (.region [⟨(some 12),.qcall 103 [],none⟩,
 ⟨(some 13),.buildSlice 1 2 [(.str [])] [(0,(.k (.c (.d (.str [105,115]))))),(1,(.k (.c (.d (.str [109,111,100])))))],none⟩,
 ⟨(some 14),.append false 1 (.t 12) (.t 13),none⟩,
 ⟨(some 15),.len 1 (.t 14),none⟩,
 ⟨(some 16),.mv (.k (.c (.d (.int .i64 0)))),none⟩] [2,10,12,13])
 (.block 0 (.loop (.seq (.region [⟨(some 17),.bin .lss (.t 16) (.t 15),none⟩] [])
 (.seq (.cond (.t 17)
 (.skip)
 (.exit 0))
 (.seq (.block 1 (.seq (.region [⟨(some 18),.indexAddr 1 (.t 14) (.t 16),none⟩,
 ⟨(some 19),.load none (.t 18),none⟩,
 ⟨(some 5),.mv (.t 19),none⟩] [17,18,19])
 (.seq (.region [⟨(some 20),.mv (.t 5),none⟩,
 ⟨(some 21),.qcall 57 [(.t 20)],none⟩,
 ⟨(some 22),.mv (.t 21),none⟩,
 ⟨(some 23),.mv (.t 0),some (22,true)⟩,
 ⟨(some 24),.nilCheck (.t 23),some (22,true)⟩,
 ⟨(some 25),.fieldAddr 0 (.t 24),some (22,true)⟩,
 ⟨(some 27),.mv (.t 0),some (22,true)⟩,
 ⟨(some 28),.nilCheck (.t 27),some (22,true)⟩,
 ⟨(some 29),.fieldAddr 1 (.t 28),some (22,true)⟩,
 ⟨(some 32),.mv (.t 5),some (22,true)⟩,
 ⟨(some 26),.load none (.t 25),some (22,true)⟩,
 ⟨(some 30),.load none (.t 29),some (22,true)⟩,
 ⟨(some 31),.slice 0 (.t 26) (some (.t 30)) none none,some (22,true)⟩,
 ⟨(some 33),.qcall 61 [(.t 32)],some (22,true)⟩,
 ⟨(some 34),.qcall 116 [(.t 31),(.t 33)],some (22,true)⟩,
 ⟨(some 35),.pick (.t 22) (.t 34) (.k (.c (.d (.bool false)))),none⟩,
 ⟨(some 36),.mv (.t 35),none⟩,
 ⟨(some 37),.mv (.t 5),some (36,true)⟩,
 ⟨(some 38),.len 0 (.t 37),some (36,true)⟩,
 ⟨(some 39),.mv (.t 3),some (36,true)⟩,
 ⟨(some 40),.len 0 (.t 39),some (36,true)⟩,
 ⟨(some 41),.bin .gtr (.t 38) (.t 40),some (36,true)⟩,
 ⟨(some 42),.pick (.t 36) (.t 41) (.k (.c (.d (.bool false)))),none⟩] [20,21,22,23,24,25,26,27,28,29,30,31,32,33,34,35,36,37,38,39,40,41])
 (.cond (.t 42)
 (.region [⟨(some 43),.mv (.t 5),none⟩,
 ⟨(some 3),.mv (.t 43),none⟩] [5,42,43])
 (.skip)))))
 (.region [⟨(some 44),.bin .add (.t 16) (.k (.c (.d (.int .i64 1)))),none⟩,
 ⟨(some 16),.mv (.t 44),none⟩] [5,42,44])))))))
 (.seq (.region [⟨(some 45),.mv (.t 3),none⟩,
 ⟨(some 2),.mv (.t 45),none⟩] [3,45])
 (.ret)))))
theorem ac86_ok : cFunc Tryz.prog [1000057,1000061,1000103,1000116] [(0,[2],[]),(1,[],[]),(2,[6,7,8,9],[]),(3,[0,3,10,11],[]),(4,[2,10,12,13],[]),(5,[],[]),(6,[17,18,19],[]),(7,[20,21,22,23,24,25,26,27,28,29,30,31,32,33,34,35,36,37,38,39,40,41],[0,1,2,3,4,5,7,8,9,12,6,10,11,13,14,15,16,17,18,19,20,21,22]),(8,[5,42,43],[]),(9,[5,42,44],[]),(10,[3,45],[])] Tryz.f86 = some (ac86,[.tmp 2],46) := by kernel_rfl
theorem symbols_full (H : Heap) : ACalls Tryz.prog 103 [] H (fun r H' => H' = H ∧ r = .c (.full (signs.map strRow))) := by
  refine acallsK Tryz.func103 (by kernel_rfl) Full.ac103_ok fun hf => ?_
  simp -implicitDefEqProofs [Full.ac103, hf, go_sem, -List.set_cons_succ, -List.set_cons_zero]
  refine finK_ret _ ⟨trivial, trivial⟩ rfl ?_
  exact ⟨by simp, rfl⟩
def opV (s : List UInt8) (a : Nat) : List UInt8 := match opR s a with
  | some (n, _) => n
  | none => []
theorem operator_bad (s : List UInt8) (a : Nat) (b : Int) (hb : 0 ≤ b) : Mv 86 [] s a b (.c (.d (.str []))) a b := fun H i hp h2 hi => by
  refine acalls Tryz.func86 (by kernel_rfl) ac86_ok fun hf => ?_
  simp -implicitDefEqProofs [ac86, ro_get hi, hb, Ref.re, go_sem, -List.set_cons_succ, -List.set_cons_zero]
set_option maxHeartbeats 1600000 in
theorem operator_mv (s : List UInt8) (hs : s.length ≤ 1000000) (a : Nat) (ha : a ≤ s.length) : Mv 86 [] s a (-1) (.c (.d (.str (opV s a)))) a (-1) := fun H i hp h2 hi => by
  refine acalls Tryz.func86 (by kernel_rfl) ac86_ok fun hf => ?_
  rw [ro_len] at hf
  have hf1 := fun a' b' => ro_fits (s' := s) (a' := a') (b' := b') hf
  have hfr : ∀ a' b', Obs.fits (ro H i s a' b').length 0 (ro H i s a' b') := fun a' b' => by rw [ro_len]; exact hf1 a' b'
  obtain ⟨t, ht⟩ : ∃ t, t = s.drop a := ⟨_, rfl⟩
  have htl : t.length = s.length - a := by rw [ht]; simp
  have hst : s.take s.length = s := List.take_length
  have hV : opBest t opL [] = opV s a := by
    have := op_law ha
    rw [ht]
    unfold opV
    cases ho : opR s a with
    | none => rw [ho] at this; exact this
    | some q => obtain ⟨n, j⟩ := q; rw [ho] at this; exact this.1
  simp -implicitDefEqProofs [ac86, ro_get hi, ro_len, Ref.re, hf1, ← ht, go_sem, -List.set_cons_succ, -List.set_cons_zero]
  refine qcall_pure symbols_full (hfr _ _) (by simp [A.re, C.re]) ?_
  have hrows : signs.map strRow ++ [[.str [105, 115]], [.str [109, 111, 100]]] = opL.map strRow := rfl
  simp -implicitDefEqProofs [ro_len, go_sem, -List.set_cons_succ, -List.set_cons_zero]
  have hl15 : signs.length = 15 := rfl
  have hi17 : inR .i64 ((signs.length : Int) + 2) := small_i64 (by omega) (by omega)
  have hlo : opL.length = 17 := rfl
  refine ⟨allLen_map fun _ => rfl, by unfold maxApp; omega, hi17, ?_⟩
  have hpos : posF (signs.map strRow) [[.str [105, 115]], [.str [109, 111, 100]]] = signs.length + 2 := rfl
  simp only [hrows]
  refine loop_set (σ := Nat × List UInt8) (fun x => [(16, .c (.d (.int .i64 x.1))), (3, .c (.d (.str x.2)))]) (fun _ => ro H i s a (-1)) (fun _ => [.grow (signs.length + 2) 1]) (fun x => x.1 ≤ 17 ∧ opBest t (opL.drop x.1) x.2 = opV s a ∧ x.2.length ≤ 3) (fun x => 17 - x.1) (0, []) (by simp [setAll, hpos]) ⟨by omega, hV, by simp⟩ ?_
  rintro ⟨j, b⟩ ⟨hj, h1, h3⟩
  simp only at hj h1 h3
  have hadd : inR .i64 ((j : Int) + 1) := small_i64 (by omega) (by omega)
  simp -implicitDefEqProofs [setAll, hl15, ro_len, go_sem, -List.set_cons_succ, -List.set_cons_zero]
  refine ⟨fun hlt => ?_, fun hge => ?_⟩
  · have hlt' : j < opL.length := by rw [hlo]; omega
    have hd : opL.drop j = opL[j] :: opL.drop (j + 1) := List.drop_eq_getElem_cons hlt'
    rw [hd, opBest] at h1
    have h4 : opL[j].length ≤ 3 ∧ (opSp opL[j]).length ≤ 5 := by
      have : ∀ n ∈ opL, n.length ≤ 3 ∧ (opSp n).length ≤ 5 := by decide
      exact this _ (List.getElem_mem hlt')
    have hrow : (opL.map strRow)[j]? = some [.str opL[j]] := by simp [hlt', strRow]
    obtain ⟨w, hw⟩ : ∃ w, w = opL[j] := ⟨_, rfl⟩
    rw [← hw] at h1 h4 hrow
    have hwl : inR .i64 (w.length : Int) := small_i64 (by omega) (by omega)
    have hbl : inR .i64 (b.length : Int) := small_i64 (by omega) (by omega)
    refine row_nat _ hrow rfl ?_
    simp -implicitDefEqProofs [ro_len, go_sem, -List.set_cons_succ, -List.set_cons_zero]
    refine qcall_pure (isOp_calls w) (hfr _ _) rfl ?_
    have hok : opOk t w = (decide (0 < levelN w) && (t.take (opSp w).length == opSp w)) := rfl
    rw [hok] at h1
    cases hlv : decide (0 < levelN w) with
    | true =>
      rw [hlv] at h1
      simp -implicitDefEqProofs [ro_get hi, ro_len, ← ht, go_sem, -List.set_cons_succ, -List.set_cons_zero]
      refine ⟨ha, qcall_pure (opText_calls w (by omega)) (hfr _ _) rfl ?_⟩
      simp -implicitDefEqProofs [ro_len, go_sem, -List.set_cons_succ, -List.set_cons_zero]
      refine qcall_pure (hasPrefix_calls t (opSp w) (by omega) (by omega)) (hfr _ _) rfl ?_
      simp only [Bool.true_and] at h1
      cases hq : (t.take (opSp w).length == opSp w) with
      | true =>
        rw [hq] at h1
        simp only [Bool.true_and, decide_eq_true_eq] at h1
        by_cases hbw : b.length < w.length
        · have hbw' : (b.length : Int) < (w.length : Int) := by omega
          rw [if_pos hbw] at h1
          simp -implicitDefEqProofs [hwl, hbl, hbw, hbw', hadd, ro_len, go_sem, -List.set_cons_succ, -List.set_cons_zero]
          exact loop_back (j + 1, w) (by simp [setAll, hpos, hl15]) ⟨by omega, h1, h4.1⟩ (by show 17 - (j + 1) < 17 - j; omega)
        · have hbw' : ¬ (b.length : Int) < (w.length : Int) := by omega
          rw [if_neg hbw] at h1
          simp -implicitDefEqProofs [hwl, hbl, hbw, hbw', hadd, ro_len, go_sem, -List.set_cons_succ, -List.set_cons_zero]
          exact loop_back (j + 1, b) (by simp [setAll, hpos, hl15]) ⟨by omega, h1, h3⟩ (by show 17 - (j + 1) < 17 - j; omega)
      | false =>
        rw [hq] at h1
        simp only [Bool.false_and, Bool.false_eq_true, if_false] at h1
        simp -implicitDefEqProofs [hwl, hbl, hadd, ro_len, go_sem, -List.set_cons_succ, -List.set_cons_zero]
        exact loop_back (j + 1, b) (by simp [setAll, hpos, hl15]) ⟨by omega, h1, h3⟩ (by show 17 - (j + 1) < 17 - j; omega)
    | false =>
      rw [hlv] at h1
      simp only [Bool.false_and, Bool.false_eq_true, if_false] at h1
      simp -implicitDefEqProofs [ro_get hi, ro_len, ← ht, hadd, go_sem, -List.set_cons_succ, -List.set_cons_zero]
      exact loop_back (j + 1, b) (by simp [setAll, hpos, hl15]) ⟨by omega, h1, h3⟩ (by show 17 - (j + 1) < 17 - j; omega)
  · obtain rfl : j = 17 := by omega
    have h17 : opL.drop 17 = [] := rfl
    rw [h17, opBest] at h1
    subst h1
    simp -implicitDefEqProofs [ro_len, go_sem, -List.set_cons_succ, -List.set_cons_zero]
end Go.Proofs.YtgfmlifkhpjplaaGreatDoor

/-
  The program's reader: what its functions do, and terms with operators.
  Conditions: none.
-/
open Go Go.AM Go.Proofs
namespace Go.Proofs.YtgfmlifkhpjplaaGreatDoor
open Go.ChangeShapes Go.WideShapes Go.ChangeAt Go.RowKit
set_option linter.unusedVariables false
set_option linter.unusedSimpArgs false
set_option maxRecDepth 100000
-- 51 (*loop.example/prologserver/impl.reader).term params 3 ntmps 58
-- loop head live: [0,1,2,6,7,8]
def ac51 : Cd := .seq (.region [⟨(some 6),.alloc [(.d (.int .i64 0)),(.d (.int .i64 0)),(.d (.str [])),(.full [])],none⟩] [])
 (.seq (.region [⟨(some 13),.mv (.t 0),none⟩,
 ⟨(some 14),.mv (.t 2),none⟩,
 ⟨(some 15),.call false 85 [(.t 13),(.t 14)],none⟩,
 ⟨(some 7),.alloc [(.d (.int .i64 0)),(.d (.int .i64 0)),(.d (.str [])),(.full [])],none⟩,
 ⟨none,.store 4 (.t 7) (.t 15),none⟩] [13,14,15])
 (.seq (.region [⟨(some 8),.mv (.k (.c (.d (.int .i64 0)))),none⟩] [])
 (.block 0 (.loop (.block 1 (.seq (.region [⟨(some 16),.mv (.t 0),none⟩,
 ⟨(some 17),.call false 86 [(.t 16)],none⟩,
 ⟨(some 9),.mv (.t 17),none⟩] [16,17])
 (.seq (.region [⟨(some 19),.mv (.t 9),none⟩,
 ⟨(some 20),.qcall 58 [(.t 19)],none⟩,
 ⟨(some 18),.mv (.t 20),none⟩,
 ⟨(some 21),.extract 0 (.t 18),none⟩,
 ⟨(some 22),.extract 1 (.t 18),none⟩,
 ⟨(some 10),.mv (.t 21),none⟩,
 ⟨(some 11),.mv (.t 22),none⟩] [11,18,19,20,21,22])
 (.seq (.seq (.region [⟨(some 23),.mv (.t 9),none⟩,
 ⟨(some 24),.bin .eql (.t 23) (.k (.c (.d (.str [])))),none⟩,
 ⟨(some 25),.mv (.t 24),none⟩,
 ⟨(some 26),.mv (.t 10),some (25,false)⟩,
 ⟨(some 27),.mv (.t 1),some (25,false)⟩,
 ⟨(some 28),.bin .gtr (.t 26) (.t 27),some (25,false)⟩,
 ⟨(some 29),.pick (.t 25) (.k (.c (.d (.bool true)))) (.t 28),none⟩,
 ⟨(some 30),.mv (.t 29),none⟩,
 ⟨(some 31),.mv (.t 8),some (30,false)⟩,
 ⟨(some 32),.mv (.t 9),some (30,false)⟩,
 ⟨(some 33),.qcall 60 [(.t 32)],some (30,false)⟩,
 ⟨(some 34),.bin .gtr (.t 31) (.t 33),some (30,false)⟩,
 ⟨(some 35),.pick (.t 30) (.k (.c (.d (.bool true)))) (.t 34),none⟩] [8,23,24,25,26,27,28,29,30,31,32,33,34])
 (.cond (.t 35)
 (.seq (.region [⟨(some 36),.load (some 4) (.t 7),none⟩,
 ⟨none,.store 4 (.t 6) (.t 36),none⟩] [0,1,2,7,9,10,35,36])
 (.ret))
 (.skip)))
 (.seq (.region [⟨(some 37),.mv (.t 0),none⟩,
 ⟨(some 38),.nilCheck (.t 37),none⟩,
 ⟨(some 39),.fieldAddr 1 (.t 38),none⟩,
 ⟨(some 41),.mv (.t 9),none⟩,
 ⟨(some 40),.load none (.t 39),none⟩,
 ⟨(some 42),.qcall 61 [(.t 41)],none⟩,
 ⟨(some 43),.len 0 (.t 42),none⟩,
 ⟨(some 44),.bin .add (.t 40) (.t 43),none⟩,
 ⟨(some 45),.nilCheck (.t 37),none⟩,
 ⟨(some 46),.fieldAddr 1 (.t 45),none⟩,
 ⟨none,.store 1 (.t 46) (.t 44),none⟩] [35,37,38,39,40,41,42,43,44,45,46])
 (.seq (.region [⟨(some 47),.mv (.t 0),none⟩,
 ⟨(some 48),.mv (.t 10),none⟩,
 ⟨(some 49),.bin .sub (.t 48) (.k (.c (.d (.int .i64 1)))),none⟩,
 ⟨(some 50),.mv (.t 2),none⟩,
 ⟨(some 51),.call false 51 [(.t 47),(.t 49),(.t 50)],none⟩,
 ⟨(some 12),.alloc [(.d (.int .i64 0)),(.d (.int .i64 0)),(.d (.str [])),(.full [])],none⟩,
 ⟨none,.store 4 (.t 12) (.t 51),none⟩] [47,48,49,50,51])
 (.region [⟨(some 52),.mv (.t 9),none⟩,
 ⟨(some 53),.load (some 4) (.t 7),none⟩,
 ⟨(some 54),.load (some 4) (.t 12),none⟩,
 ⟨(some 55),.buildSlice 4 2 [(.int .i64 0),(.int .i64 0),(.str []),(.sl [])] [(0,(.t 53)),(1,(.t 54))],none⟩,
 ⟨(some 56),.build [(.d (.int .i64 0)),(.d (.int .i64 0)),(.d (.str [])),(.full [])] [(0,1,(.k (.c (.d (.int .i64 3))))),(2,1,(.t 52)),(3,1,(.t 55))],none⟩,
 ⟨(some 57),.mv (.t 10),none⟩,
 ⟨none,.store 4 (.t 7) (.t 56),none⟩,
 ⟨(some 8),.mv (.t 57),none⟩] [9,10,12,52,53,54,55,56,57])))))))))))
theorem ac51_ok : cFunc Tryz.prog [1000058,1000060,1000061] [(0,[],[]),(1,[13,14,15],[]),(2,[],[]),(3,[16,17],[]),(4,[11,18,19,20,21,22],[]),(5,[8,23,24,25,26,27,28,29,30,31,32,33,34],[]),(6,[0,1,2,7,9,10,35,36],[]),(7,[35,37,38,39,40,41,42,43,44,45,46],[0,1,2,4,3,5,6,7,8,9,10]),(8,[47,48,49,50,51],[]),(9,[9,10,12,52,53,54,55,56,57],[])] Tryz.f51 = some (ac51,[.cell 6 (some 4)],58) := by kernel_rfl
-- 120 (*loop.example/prologserver/impl.reader).part params 2 ntmps 15
def ac120 : Cd := .seq (.region [⟨(some 4),.alloc [(.d (.int .i64 0)),(.d (.int .i64 0)),(.d (.str [])),(.full [])],none⟩] [])
 (.seq (.seq (.region [⟨(some 5),.mv (.t 0),none⟩,
 ⟨(some 6),.nilCheck (.t 5),none⟩,
 ⟨(some 7),.fieldAddr 3 (.t 6),none⟩,
 ⟨(some 8),.load none (.t 7),none⟩] [5,6,7])
 (.cond (.t 8)
 (.seq (.region [⟨(some 9),.mv (.t 0),none⟩,
 ⟨(some 10),.mv (.t 1),none⟩,
 ⟨(some 11),.call false 51 [(.t 9),(.k (.c (.d (.int .i64 3)))),(.t 10)],none⟩,
 ⟨none,.store 4 (.t 4) (.t 11),none⟩] [0,1,8,9,10,11])
 (.ret))
 (.skip)))
 (.seq (.region [⟨(some 12),.mv (.t 0),none⟩,
 ⟨(some 13),.mv (.t 1),none⟩,
 ⟨(some 14),.call false 85 [(.t 12),(.t 13)],none⟩,
 ⟨none,.store 4 (.t 4) (.t 14),none⟩] [0,1,8,12,13,14])
 (.ret)))
theorem ac120_ok : cFunc Tryz.prog [] [(0,[],[]),(1,[5,6,7],[]),(2,[0,1,8,9,10,11],[]),(3,[0,1,8,12,13,14],[])] Tryz.f120 = some (ac120,[.cell 4 (some 4)],15) := by kernel_rfl
/-- what a reader's function gives for a result -/
def RP (s : List UInt8) (r : Rs) (v : A) (a : Nat) (b : Int) : Prop := ∃ t : Tm, t.fits ∧ v = .agg (t.row.map .d) ∧ match r with
  | .ok ts k => t = Rs.tm ts ∧ a = k ∧ b = -1
  | .bad e => a ≤ s.length ∧ b = e
def RQ (H : Heap) (i : Nat) (s : List UInt8) (r : Rs) (v : A) (H' : Heap) : Prop := ∃ a b, RP s r v a b ∧ H' = ro H i s a b
def Rdr (f : FuncId) (xs : List A) (s : List UInt8) (a : Nat) (r : Rs) : Prop := ∀ (H : Heap) (i : Nat), Hp H → 2 ≤ i → i < H.length → ACalls Tryz.prog f (.c (.ptr (.e i) 0) :: xs) (ro H i s a (-1)) (fun r' H' => RQ H i s r r' H')
theorem call_rd {f : FuncId} {xs : List A} {s : List UInt8} {a : Nat} {r : Rs} (hd : Rdr f xs s a r) {H : Heap} {i : Nat} {sl : List A} {loc H₂ : Heap} {K : A → St → Prop} (hp : Hp H) (h2 : 2 ≤ i) (hi : i < H.length)
    (hH : H₂ = ro H i s a (-1) ++ loc.map (Ob.re H.length)) (hf : Obs.fits H.length 0 (ro H i s a (-1))) (hk : ∀ v a' b', RP s r v a' b' → K v ⟨sl, ro H i s a' b', loc⟩) :
    ACalls Tryz.prog f (.c (.ptr (.e i) 0) :: xs) H₂ (CallK K ⟨sl, ro H i s a (-1), loc⟩) := by
  subst hH
  have h := hd (H ++ loc.map (Ob.re H.length)) i (hp_append hp _) h2 (by simp; omega)
  rw [ro_append hi]
  refine h.mono fun r' H' ⟨a', b', hrp, h2⟩ => ?_
  rw [← ro_append hi] at h2
  refine ⟨ro H i s a' b', loc, r', by simpa [ro_len] using h2, by simp [ro_len], Nat.le_refl _, by simpa [ro_len] using ro_fits hf, ?_, hk _ _ _ hrp⟩
  obtain ⟨t, _, hv, _⟩ := hrp
  rw [hv]
  simp [A.re, re_d]
/-- the reader's functions at so many steps -/
structure Prd (s : List UInt8) (f : Nat) : Prop where
  term : ∀ (l d a : Nat) (r : Rs), a ≤ s.length → l ≤ 3 → d ≤ 2000000 → rp s f (.term l d a) = some r → Rdr 51 [.c (.d (.int .i64 l)), .c (.d (.int .i64 d))] s a r
  prime : ∀ (d a : Nat) (r : Rs), a ≤ s.length → d ≤ 2000000 → rp s f (.prime d a) = some r → Rdr 85 [.c (.d (.int .i64 d))] s a r
theorem rq_ok {H : Heap} {i : Nat} {s : List UInt8} {t : Tm} {k : Nat} (ht : t.fits) : RQ H i s (.ok [t] k) (.agg (t.row.map .d)) (ro H i s k (-1)) := ⟨k, -1, ⟨t, ht, rfl, rfl, rfl, rfl⟩, rfl⟩
theorem rq_bad {H : Heap} {i : Nat} {s : List UInt8} {t : Tm} {a e : Nat} (ht : t.fits) (ha : a ≤ s.length) : RQ H i s (.bad e) (.agg (t.row.map .d)) (ro H i s a e) := ⟨a, e, ⟨t, ht, rfl, ha, rfl⟩, rfl⟩
theorem sl_same : ∀ l : List A, Sl.le l l
  | [] => trivial
  | a :: l => ⟨.refl a, sl_same l⟩
theorem drop_row (t : Tm) : List.drop 4 (t.row.map C.d) = [] := List.drop_of_length_le (by simp [row_len])
theorem full_le (n : List UInt8) (l : List Tm) : Ob.le (.cells [.d (.int .i64 3), .d (.int .i64 0), .d (.str n), .full (l.map Tm.row)]) (.cells ((Tm.mk 3 0 n l).row.map .d)) := by
  have := Ob.le.pure [.d (.int .i64 3), .d (.int .i64 0), .d (.str n), .full (l.map Tm.row)]
  simpa [C.pure, row_mk] using this
section
variable {s : List UInt8} (hs : s.length ≤ 1000000) {f : Nat}
include hs
omit hs in
theorem part_of (h : Prd s f) (d a : Nat) (r : Rs) (ha : a ≤ s.length) (hd : d ≤ 2000000) (hr : rp s f (.term 3 d a) = some r) : Rdr 120 [.c (.d (.int .i64 d))] s a r := fun H i hp h2 hi => by
  refine acalls Tryz.func120 (by kernel_rfl) ac120_ok fun hf => ?_
  rw [ro_len] at hf
  have hf1 := fun a' b' => ro_fits (s' := s) (a' := a') (b' := b') hf
  have hfr : ∀ a' b', Obs.fits (ro H i s a' b').length 0 (ro H i s a' b') := fun a' b' => by rw [ro_len]; exact hf1 a' b'
  have c1 := h.term 3 d a r ha (by omega) hd hr
  simp -implicitDefEqProofs [ac120, ro_get hi, ro_len, Ref.re, go_sem, -List.set_cons_succ, -List.set_cons_zero]
  refine call_rd c1 hp h2 hi (by simp [Ob.re, C.re]) hf ?_
  rintro v a' b' ⟨t, ht, rfl, hm⟩
  simp -implicitDefEqProofs [row_len, take_row, pure_d, re_d, thaw_d, fits_map, hfr, go_sem, -List.set_cons_succ, -List.set_cons_zero]
  exact ⟨a', b', ⟨t, ht, rfl, hm⟩, rfl⟩
set_option maxHeartbeats 1600000 in
theorem term_of (h : ∀ g, g ≤ f → Prd s g) (l d a : Nat) (r : Rs) (ha : a ≤ s.length) (hl : l ≤ 3) (hd : d ≤ 2000000) (hr : rp s (f + 1) (.term l d a) = some r) : Rdr 51 [.c (.d (.int .i64 l)), .c (.d (.int .i64 d))] s a r := fun H i hp h2 hi => by
  refine acalls Tryz.func51 (by kernel_rfl) ac51_ok fun hf => ?_
  rw [ro_len] at hf
  have hf1 := fun a' b' => ro_fits (s' := s) (a' := a') (b' := b') hf
  have hfr : ∀ a' b', Obs.fits (ro H i s a' b').length 0 (ro H i s a' b') := fun a' b' => by rw [ro_len]; exact hf1 a' b'
  have hr : thn (rp s f (.prime d a)) (fun ts j => rp s f (.loop (Rs.tm ts) 0 l d j)) = some r := hr
  obtain ⟨w, hw⟩ : ∃ w, rp s f (.prime d a) = some w := by
    rcases thn_some hr with ⟨e, h1, _⟩ | ⟨ts, j, h1, _⟩
    · exact ⟨_, h1⟩
    · exact ⟨_, h1⟩
  have c1 := (h f (Nat.le_refl _)).prime d a w ha hd hw
  have p1 := rp_post hs (j := .prime d a) ha hw
  simp -implicitDefEqProofs [ac51, ro_get hi, ro_len, Ref.re, go_sem, -List.set_cons_succ, -List.set_cons_zero]
  refine call_rd c1 hp h2 hi (by simp [Ob.re, C.re]) hf ?_
  rintro v a' b' ⟨t, ht, rfl, hm⟩
  simp -implicitDefEqProofs [row_len, take_row, pure_d, re_d, thaw_d, fits_map, hfr, go_sem, -List.set_cons_succ, -List.set_cons_zero]
  refine loop_set (σ := Tm × Nat × Nat × Int × Nat) (fun x => [(8, .c (.d (.int .i64 x.2.1)))]) (fun x => ro H i s x.2.2.1 x.2.2.2.1) (fun x => [.cells [.d (.int .i64 0), .d (.int .i64 0), .d (.str []), .full []], .cells (x.1.row.map .d)])
    (fun x => x.1.fits ∧ x.2.1 ≤ 3 ∧ x.2.2.1 ≤ s.length ∧ ((x.2.2.2.1 = -1 ∧ x.2.2.2.2 ≤ f ∧ rp s x.2.2.2.2 (.loop x.1 x.2.1 l d x.2.2.1) = some r) ∨ ∃ e : Nat, x.2.2.2.1 = e ∧ r = .bad e)) (fun x => if x.2.2.2.1 < 0 then x.2.2.2.2 + 1 else 0) (t, 0, a', b', f) (by simp [setAll]) ?_ ?_
  · refine ⟨ht, Nat.zero_le _, ?_⟩
    rw [hw] at hr
    cases w with
    | bad e =>
      obtain ⟨g1, g2⟩ := hm
      cases hr
      exact ⟨g1, .inr ⟨e, g2, rfl⟩⟩
    | ok ts k =>
      obtain ⟨g1, g2, g3⟩ := hm
      obtain ⟨q1, q2, q3⟩ := p1
      rw [thn_ok, ← g1, ← g2] at hr
      exact ⟨by show a' ≤ s.length; omega, .inl ⟨g3, Nat.le_refl _, hr⟩⟩
  · rintro ⟨t, m, p, b, g⟩ ⟨htf, hm3, hpl, hst⟩
    simp only at htf hm3 hpl hst
    simp -implicitDefEqProofs [setAll, ro_len, go_sem, -List.set_cons_succ, -List.set_cons_zero]
    rcases hst with ⟨rfl, hg, hq⟩ | ⟨e, rfl, rfl⟩
    · cases g with
      | zero => cases hq
      | succ g =>
        have hq : pstep s (rp s g) (.loop t m l d p) = some r := hq
        simp only [pstep] at hq
        refine call_mv (operator_mv s hs p hpl) hp h2 hi (by simp [Ob.re, C.re]) rfl (hf1 _ _) ?_
        have hol := op_law hpl
        cases ho : opR s p with
        | none =>
          rw [ho] at hq
          cases hq
          have hv : opV s p = [] := by simp [opV, ho]
          rw [hv]
          simp -implicitDefEqProofs [ro_len, go_sem, -List.set_cons_succ, -List.set_cons_zero]
          refine qcall_pure (opLevel_calls []) (hfr _ _) rfl ?_
          simp -implicitDefEqProofs [row_len, take_row, pure_d, re_d, thaw_d, fits_map, hfr, go_sem, -List.set_cons_succ, -List.set_cons_zero]
          exact rq_ok htf
        | some x =>
          obtain ⟨n, j⟩ := x
          rw [ho] at hq hol
          obtain ⟨o1, o2, o3⟩ := opR_ok hpl ho
          have hlv := opR_level ho
          have hj := hol.2
          have hv : opV s p = n := by simp [opV, ho]
          rw [hv]
          have hne : n ≠ [] := fun e => by rw [e] at hlv; exact absurd hlv.1 (by decide)
          have hne2 : (n == []) = false := by simp [hne]
          simp only at hq
          simp -implicitDefEqProofs [ro_len, hne, hne2, go_sem, -List.set_cons_succ, -List.set_cons_zero]
          refine qcall_pure (opLevel_calls n) (hfr _ _) rfl ?_
          simp -implicitDefEqProofs [ro_len, hne, hne2, go_sem, -List.set_cons_succ, -List.set_cons_zero]
          have hsp : (opSp n).length ≤ 1000 := by
            unfold opSp
            split
            · simp; omega
            · omega
          have hspi : inR .i64 ((opSp n).length : Int) := small_i64 (by omega) (by omega)
          have hpi : inR .i64 ((p : Int) + ((opSp n).length : Int)) := small_i64 (by omega) (by omega)
          refine ⟨fun h1 => ⟨h1, ?_⟩, fun h1 => ?_⟩
          · refine qcall_pure (leftMost_calls n) (hfr _ _) rfl ?_
            by_cases hlm : leftMost n < (m : Int)
            · rw [if_pos (.inr hlm)] at hq
              cases hq
              have h1' : ¬ (l : Int) < levelN n := by omega
              simp -implicitDefEqProofs [ro_len, hne, hne2, h1', hlm, row_len, take_row, pure_d, re_d, thaw_d, fits_map, hfr, hf1, go_sem, -List.set_cons_succ, -List.set_cons_zero]
              exact rq_ok htf
            · have h1' : ¬ (l : Int) < levelN n := by omega
              rw [if_neg (by omega)] at hq
              simp -implicitDefEqProofs [ro_len, ro_get hi, hne, hne2, h1', hlm, row_len, take_row, pure_d, re_d, hfr, go_sem, -List.set_cons_succ, -List.set_cons_zero]
              refine qcall_pure (opText_calls n (by omega)) (hfr _ _) rfl ?_
              simp -implicitDefEqProofs [ro_len, ro_get hi, ro_set1, hspi, hpi, Ref.re, hf1, hfr, row_len, take_row, pure_d, re_d, go_sem, -List.set_cons_succ, -List.set_cons_zero]
              refine ⟨small_i64 (by omega) (by omega), ?_⟩
              obtain ⟨w2, hw2⟩ : ∃ w2, rp s g (.term (levelN n - 1).toNat d j) = some w2 := by
                rcases thn_some hq with ⟨e, q1, _⟩ | ⟨ts, j, q1, _⟩
                · exact ⟨_, q1⟩
                · exact ⟨_, q1⟩
              have c2 := (h g (by omega)).term (levelN n - 1).toNat d j w2 o2 (by omega) hd hw2
              have p2 := rp_post hs (j := .term (levelN n - 1).toNat d j) ⟨o2, by omega⟩ hw2
              have e1 : ((levelN n - 1).toNat : Int) = levelN n - 1 := by omega
              have e2 : ((levelN n).toNat : Int) = levelN n := by omega
              rw [e1, hj] at c2
              rw [hw2] at hq
              refine call_rd c2 hp h2 hi (by simp [Ob.re, C.re]) (hf1 _ _) ?_
              rintro v a3 b3 ⟨u, hu, rfl, hm2⟩
              have hst : (Tm.mk 3 0 n [t, u]).fits := fits_st o3 (by simp) (by simp [htf, hu])
              simp -implicitDefEqProofs [ro_len, row_len, take_row, drop_row, pure_d, re_d, toDs_map, hfr, hf1, go_sem, -List.set_cons_succ, -List.set_cons_zero]
              refine loop_less (.mk 3 0 n [t, u], (levelN n).toNat, a3, b3, g) (St.le_trans (St.le_more (sl_same _) (show Obs.le _ [_, _, _] from ⟨.refl _, full_le n [t, u], .refl _, trivial⟩)) (St.le_cut [_] ?_ (by simp [ro_len, hi, Sl.le, A.le_refl_iff, A.le_u_iff, As.lo, A.lo, C.lo, Ref.lo, Cs.lo, Obs.lo, Ob.lo, setAll, and_true, true_and, List.length_nil, List.length_cons]) rfl (by simp [row_mk, Sl.le, A.le_refl_iff, A.le_u_iff, As.lo, A.lo, C.lo, Ref.lo, Cs.lo, Obs.lo, Ob.lo, setAll, and_true, true_and, List.length_nil, List.length_cons]))) ⟨hst, by show (levelN n).toNat ≤ 3; omega, ?_⟩ ?_
              · simp [setAll, e2, Sl.le, A.le_refl_iff, A.le_u_iff, As.lo, A.lo, C.lo, Ref.lo, Cs.lo, Obs.lo, Ob.lo, setAll, and_true, true_and, List.length_nil, List.length_cons]
              · cases w2 with
                | bad e =>
                  obtain ⟨g1, g2⟩ := hm2
                  cases hq
                  exact ⟨g1, .inr ⟨e, g2, rfl⟩⟩
                | ok us k =>
                  obtain ⟨g1, g2, g3⟩ := hm2
                  obtain ⟨q1, q2, q3⟩ := p2
                  rw [thn_ok, ← g1, ← g2] at hq
                  exact ⟨by show a3 ≤ s.length; omega, .inl ⟨g3, by show g ≤ f; omega, hq⟩⟩
              · show (if b3 < 0 then g + 1 else 0) < (if (-1 : Int) < 0 then g + 1 + 1 else 0)
                rw [if_pos (by decide : (-1 : Int) < 0)]
                split <;> omega
          · rw [if_pos (.inl h1)] at hq
            cases hq
            simp -implicitDefEqProofs [ro_len, h1, row_len, take_row, pure_d, re_d, thaw_d, fits_map, hfr, hf1, go_sem, -List.set_cons_succ, -List.set_cons_zero]
            exact rq_ok htf
    · refine call_mv (operator_bad s p e (by omega)) hp h2 hi (by simp [Ob.re, C.re]) rfl (hf1 _ _) ?_
      simp -implicitDefEqProofs [ro_len, go_sem, -List.set_cons_succ, -List.set_cons_zero]
      refine qcall_pure (opLevel_calls []) (hfr _ _) rfl ?_
      simp -implicitDefEqProofs [row_len, take_row, pure_d, re_d, thaw_d, fits_map, hfr, go_sem, -List.set_cons_succ, -List.set_cons_zero]
      exact rq_bad htf hpl
end
end Go.Proofs.YtgfmlifkhpjplaaGreatDoor

/-
  The program's reader: lists.
  Conditions: none.
-/
open Go Go.AM Go.Proofs
namespace Go.Proofs.YtgfmlifkhpjplaaGreatDoor
open Go.ChangeShapes Go.WideShapes Go.ChangeAt Go.RowKit
set_option linter.unusedVariables false
set_option linter.unusedSimpArgs false
set_option maxRecDepth 100000
-- 117 (*loop.example/prologserver/impl.reader).list params 2 ntmps 52
-- loop head live: [0,1,4,5,6]
def ac117 : Cd := .seq (.region [⟨(some 4),.alloc [(.d (.int .i64 0)),(.d (.int .i64 0)),(.d (.str [])),(.full [])],none⟩] [])
 (.seq (.region [⟨(some 5),.mv (.k (.c (.full []))),none⟩] [])
 (.seq (.seq (.region [⟨(some 6),.mv (.k (.c (.d (.bool true)))),none⟩] [])
 (.block 0 (.loop (.seq (.seq (.region [⟨(some 8),.mv (.t 6),none⟩] [6])
 (.cond (.t 8)
 (.skip)
 (.exit 0)))
 (.block 1 (.seq (.region [⟨(some 9),.mv (.t 5),none⟩,
 ⟨(some 10),.mv (.t 0),none⟩,
 ⟨(some 11),.mv (.t 1),none⟩,
 ⟨(some 12),.bin .add (.t 11) (.k (.c (.d (.int .i64 1)))),none⟩,
 ⟨(some 13),.mv (.t 5),none⟩,
 ⟨(some 14),.len 1 (.t 13),none⟩,
 ⟨(some 15),.bin .add (.t 12) (.t 14),none⟩,
 ⟨(some 16),.call false 120 [(.t 10),(.t 15)],none⟩,
 ⟨(some 17),.buildSlice 4 1 [(.int .i64 0),(.int .i64 0),(.str []),(.sl [])] [(0,(.t 16))],none⟩,
 ⟨(some 18),.append false 4 (.t 9) (.t 17),none⟩,
 ⟨(some 5),.mv (.t 18),none⟩] [8,9,10,11,12,13,14,15,16,17,18])
 (.seq (.region [⟨(some 19),.mv (.t 0),none⟩,
 ⟨(some 20),.call false 111 [(.t 19)],none⟩,
 ⟨(some 21),.bin .eql (.t 20) (.k (.c (.d (.int .u8 44)))),none⟩,
 ⟨(some 6),.mv (.t 21),none⟩] [19,20,21])
 (.seq (.region [⟨(some 22),.mv (.t 6),none⟩] [])
 (.cond (.t 22)
 (.region [⟨(some 23),.mv (.t 0),none⟩,
 ⟨(some 24),.nilCheck (.t 23),none⟩,
 ⟨(some 25),.fieldAddr 1 (.t 24),none⟩,
 ⟨(some 26),.load none (.t 25),none⟩,
 ⟨(some 27),.bin .add (.t 26) (.k (.c (.d (.int .i64 1)))),none⟩,
 ⟨(some 28),.nilCheck (.t 23),none⟩,
 ⟨(some 29),.fieldAddr 1 (.t 28),none⟩,
 ⟨none,.store 1 (.t 29) (.t 27),none⟩] [22,23,24,25,26,27,28,29])
 (.skip))))))))))
 (.seq (.region [⟨(some 30),.qcall 118 [(.k (.c (.d (.str [91,93]))))],none⟩,
 ⟨(some 7),.alloc [(.d (.int .i64 0)),(.d (.int .i64 0)),(.d (.str [])),(.full [])],none⟩,
 ⟨none,.store 4 (.t 7) (.t 30),none⟩] [30])
 (.seq (.seq (.region [⟨(some 31),.mv (.t 0),none⟩,
 ⟨(some 32),.call false 111 [(.t 31)],none⟩,
 ⟨(some 33),.bin .eql (.t 32) (.k (.c (.d (.int .u8 124)))),none⟩] [31,32])
 (.cond (.t 33)
 (.seq (.region [⟨(some 34),.mv (.t 0),none⟩,
 ⟨(some 35),.nilCheck (.t 34),none⟩,
 ⟨(some 36),.fieldAddr 1 (.t 35),none⟩,
 ⟨(some 37),.load none (.t 36),none⟩,
 ⟨(some 38),.bin .add (.t 37) (.k (.c (.d (.int .i64 1)))),none⟩,
 ⟨(some 39),.nilCheck (.t 34),none⟩,
 ⟨(some 40),.fieldAddr 1 (.t 39),none⟩,
 ⟨none,.store 1 (.t 40) (.t 38),none⟩] [33,34,35,36,37,38,39,40])
 (.region [⟨(some 41),.mv (.t 0),none⟩,
 ⟨(some 42),.mv (.t 1),none⟩,
 ⟨(some 43),.mv (.t 5),none⟩,
 ⟨(some 44),.len 1 (.t 43),none⟩,
 ⟨(some 45),.bin .add (.t 42) (.t 44),none⟩,
 ⟨(some 46),.call false 120 [(.t 41),(.t 45)],none⟩,
 ⟨none,.store 4 (.t 7) (.t 46),none⟩] [1,41,42,43,44,45,46]))
 (.skip)))
 (.seq (.region [⟨(some 47),.mv (.t 0),none⟩,
 ⟨(some 48),.call false 115 [(.t 47),(.k (.c (.d (.int .u8 93))))],none⟩] [0,1,33,47,48])
 (.seq (.region [⟨(some 49),.mv (.t 5),none⟩,
 ⟨(some 50),.load (some 4) (.t 7),none⟩,
 ⟨(some 51),.qcall 132 [(.t 49),(.t 50)],none⟩,
 ⟨none,.store 4 (.t 4) (.t 51),none⟩] [5,7,49,50,51])
 (.ret)))))))
theorem ac117_ok : cFunc Tryz.prog [1000118,1000132] [(0,[],[]),(1,[],[]),(2,[],[]),(3,[6],[]),(4,[8,9,10,11,12,13,14,15,16,17,18],[]),(5,[19,20,21],[]),(6,[],[]),(7,[22,23,24,25,26,27,28,29],[]),(8,[30],[]),(9,[31,32],[]),(10,[33,34,35,36,37,38,39,40],[]),(11,[1,41,42,43,44,45,46],[]),(12,[0,1,33,47,48],[]),(13,[5,7,49,50,51],[])] Tryz.f117 = some (ac117,[.cell 4 (some 4)],52) := by kernel_rfl
-- 118 loop.example/prologserver/impl.atom params 1 ntmps 5
def ac118 : Cd := .seq (.region [⟨(some 2),.alloc [(.d (.int .i64 0)),(.d (.int .i64 0)),(.d (.str [])),(.full [])],none⟩] [])
 (.seq (.region [⟨(some 3),.mv (.t 0),none⟩,
 ⟨(some 4),.build [(.d (.int .i64 0)),(.d (.int .i64 0)),(.d (.str [])),(.full [])] [(0,1,(.k (.c (.d (.int .i64 3))))),(2,1,(.t 3))],none⟩,
 ⟨none,.store 4 (.t 2) (.t 4),none⟩] [0,3,4])
 (.ret))
theorem ac118_ok : cFunc Tryz.prog [] [(0,[],[]),(1,[0,3,4],[])] Tryz.f118 = some (ac118,[.cell 2 (some 4)],5) := by kernel_rfl
theorem atom_calls (n : List UInt8) (H : Heap) : ACalls Tryz.prog 118 [.c (.d (.str n))] H (fun r H' => H' = H ∧ r = .agg ((Tm.mk 3 0 n []).row.map .d)) := by
  refine acalls Tryz.func118 (by kernel_rfl) ac118_ok fun hf => ?_
  simp -implicitDefEqProofs [ac118, row_mk, hf, go_sem, -List.set_cons_succ, -List.set_cons_zero]
theorem nxt_bad (s : List UInt8) (a : Nat) (e : Nat) : nxt s a e = 0 := by unfold nxt; rw [if_pos (by omega)]
def Rs.app2 (out : List Tm) : Rs → Rs
  | .ok us k => .ok (out ++ us) k
  | .bad e => .bad e
/-- a closing byte is taken, or missed -/
theorem skip_rq {H : Heap} {i a : Nat} {s : List UInt8} {t : Tm} {c : UInt8} {r : Rs} (h : (if sgn s a c then some (Rs.ok [t] (a + 1)) else some (Rs.bad a)) = some r) (ht : t.fits) (ha : a ≤ s.length) (hc : c ≠ 0 := by decide) :
    RQ H i s r (.agg (t.row.map .d)) (ro H i s (if nxt s a (-1) = c then a + 1 else a) (if nxt s a (-1) = c then -1 else if (-1 : Int) < 0 then (a : Int) else -1)) := by
  have e := nxt_sgn s a c hc
  cases hsg : sgn s a c with
  | true =>
    rw [hsg] at h e
    cases h
    rw [if_pos (beq_iff_eq.1 e), if_pos (beq_iff_eq.1 e)]
    exact rq_ok ht
  | false =>
    rw [hsg] at h e
    cases h
    have hn : ¬ nxt s a (-1) = c := fun h => by rw [beq_iff_eq.2 h] at e; cases e
    rw [if_neg hn, if_neg hn, if_pos (by decide)]
    exact rq_bad ht ha
section
variable {s : List UInt8} (hs : s.length ≤ 1000000) {f : Nat}
include hs
/-- what stands behind a list's elements -/
def listK (s : List UInt8) (f d : Nat) (ts : List Tm) (j : Nat) : Option Rs :=
  if sgn s j 124 then thn (rp s f (.term 3 (d + ts.length) (j + 1))) fun us k => if sgn s k 93 then some (.ok [chainT ts (Rs.tm us)] (k + 1)) else some (.bad k)
  else if sgn s j 93 then some (.ok [chainT ts nilT] (j + 1)) else some (.bad j)
set_option maxHeartbeats 3200000 in
theorem list_of (h : ∀ g, g ≤ f → Prd s g) (d a : Nat) (r : Rs) (ha : a ≤ s.length) (hd : d ≤ 1000) (hr : thn (rp s f (.items d 0 a)) (listK s f d) = some r) : Rdr 117 [.c (.d (.int .i64 d))] s a r := fun H i hp h2 hi => by
  refine acalls Tryz.func117 (by kernel_rfl) ac117_ok fun hf => ?_
  rw [ro_len] at hf
  have hf1 := fun a' b' => ro_fits (s' := s) (a' := a') (b' := b') hf
  have hfr : ∀ a' b', Obs.fits (ro H i s a' b').length 0 (ro H i s a' b') := fun a' b' => by rw [ro_len]; exact hf1 a' b'
  obtain ⟨R, hR⟩ : ∃ R, rp s f (.items d 0 a) = some R := by
    rcases thn_some hr with ⟨e, h1, _⟩ | ⟨ts, j, h1, _⟩
    · exact ⟨_, h1⟩
    · exact ⟨_, h1⟩
  have pR := rp_post hs (j := .items d 0 a) ha hR
  rw [hR] at hr
  simp -implicitDefEqProofs [ac117, ro_len, Ref.re, go_sem, -List.set_cons_succ, -List.set_cons_zero]
  refine loop_enter (St.le_token 5 4 rfl) ?_
  refine loop_set (σ := Nat × Int × List Tm × Nat × Rs × Bool) (fun x => [(5, .c (.own (.l 1) x.2.2.1.length (x.2.2.1.map Tm.row))), (6, .c (.d (.bool x.2.2.2.2.2)))]) (fun x => ro H i s x.1 x.2.1)
    (fun x => [.cells [.d (.int .i64 0), .d (.int .i64 0), .d (.str []), .full []], .grow x.2.2.1.length 4])
    (fun x => x.1 ≤ s.length ∧ x.2.2.1.length ≤ 1000001 ∧ (∀ t ∈ x.2.2.1, t.fits) ∧
      ((x.2.2.2.2.2 = true ∧ x.2.1 = -1 ∧ x.2.2.1.length ≤ x.1 ∧ x.2.2.2.1 ≤ f ∧ rp s x.2.2.2.1 (.items d x.2.2.1.length x.1) = some x.2.2.2.2.1 ∧ x.2.2.2.2.1.app2 x.2.2.1 = R) ∨
       (x.2.2.2.2.2 = false ∧ ((x.2.1 = -1 ∧ R = .ok x.2.2.1 x.1) ∨ ∃ e : Nat, x.2.1 = e ∧ R = .bad e))))
    (fun x => if x.2.2.2.2.2 then x.2.2.2.1 + 1 else 0) (a, -1, [], f, R, true) (by simp [setAll]) ⟨ha, by simp, by simp, .inl ⟨rfl, rfl, by simp, Nat.le_refl _, hR, by cases R <;> rfl⟩⟩ ?_
  rintro ⟨p, b, out, g, q, more⟩ ⟨hpl, hol, hof, hst⟩
  simp only at hpl hol hof hst
  simp -implicitDefEqProofs [setAll, ro_len, go_sem, -List.set_cons_succ, -List.set_cons_zero]
  rcases hst with ⟨rfl, rfl, hop, hg, hq, happ⟩ | ⟨rfl, hst⟩
  · cases g with
    | zero => cases hq
    | succ g =>
      have hq : pstep s (rp s g) (.items d out.length p) = some q := hq
      simp only [pstep] at hq
      obtain ⟨w, hw⟩ : ∃ w, rp s g (.term 3 (d + 1 + out.length) p) = some w := by
        rcases thn_some hq with ⟨e, h1, _⟩ | ⟨ts, j, h1, _⟩
        · exact ⟨_, h1⟩
        · exact ⟨_, h1⟩
      have c1 := part_of (h g (by omega)) (d + 1 + out.length) p w hpl (by omega) hw
      have p1 := rp_post hs (j := .term 3 (d + 1 + out.length) p) ⟨hpl, by omega⟩ hw
      rw [hw] at hq
      have e1 : ((d + 1 + out.length : Nat) : Int) = (d : Int) + 1 + (out.length : Int) := by omega
      rw [e1] at c1
      have i1 : inR .i64 ((d : Int) + 1) := small_i64 (by omega) (by omega)
      have i2 : inR .i64 ((d : Int) + 1 + (out.length : Int)) := small_i64 (by omega) (by omega)
      have i3 : inR .i64 (out.length : Int) := small_i64 (by omega) (by omega)
      simp -implicitDefEqProofs [ro_len, i1, i2, i3, go_sem, -List.set_cons_succ, -List.set_cons_zero]
      refine call_rd c1 hp h2 hi (by simp [Ob.re, C.re]) (hf1 _ _) ?_
      rintro v a' b' ⟨t, ht, rfl, hm⟩
      have ha' : a' ≤ s.length ∧ (∀ e : Nat, w = .bad e → b' = e) := by
        cases w with
        | bad e => exact ⟨hm.1, fun e' he => by cases he; exact hm.2⟩
        | ok ts k => exact ⟨by rw [hm.2.1]; exact p1.2.1, fun e' he => by cases he⟩
      simp -implicitDefEqProofs [ro_len, row_len, take_row, drop_row, pure_d, re_d, toDs_map, hfr, hf1, go_sem, -List.set_cons_succ, -List.set_cons_zero]
      refine ⟨allLen_map row_len, by unfold maxApp; omega, ?_⟩
      refine call_mv (next_mv s hs a' b' (by omega)) hp h2 hi (by simp [Ob.re, C.re]) rfl (hf1 _ _) ?_
      simp -implicitDefEqProofs [ro_len, go_sem, -List.set_cons_succ, -List.set_cons_zero]
      have hfo : ∀ x ∈ out ++ [t], x.fits := fun x hx => by
        rcases List.mem_append.1 hx with hx | hx
        · exact hof x hx
        · rw [List.mem_singleton.1 hx]; exact ht
      cases w with
      | bad e =>
        obtain ⟨g1, g2⟩ := hm
        subst g2
        rw [nxt_bad]
        cases hq
        have hRe : R = .bad e := by rw [← happ]; rfl
        simp -implicitDefEqProofs [ro_len, go_sem, -List.set_cons_succ, -List.set_cons_zero]
        refine loop_less (a', (e : Int), out ++ [t], 0, .bad e, false) (St.le_more ?_ (by simp; exact Obs.le_refl _)) ⟨g1, by simp; omega, hfo, .inr ⟨rfl, .inr ⟨e, rfl, hRe⟩⟩⟩ (by show 0 < g + 1 + 1; omega)
        simp [setAll, Sl.le, A.le_refl_iff, A.le_u_iff, As.lo, A.lo, C.lo, Ref.lo, Cs.lo, Obs.lo, Ob.lo, setAll, and_true, true_and, List.length_nil, List.length_cons]
      | ok ts k =>
        obtain ⟨g1, g2, g3⟩ := hm
        subst g2
        subst g3
        obtain ⟨q1, q2, q3⟩ := p1
        have e44 := nxt_eq s a' 44 (by decide)
        have e44 : (((nxt s a' (-1)).toNat : Int) == 44) = sgn s a' 44 := e44
        rw [thn_ok, ← g1] at hq
        cases hsg : sgn s a' 44 with
        | true =>
          rw [hsg] at hq e44
          simp only [if_true] at hq
          have he : ((nxt s a' (-1)).toNat : Int) = 44 := beq_iff_eq.1 e44
          have hlt := sgn_lt hsg
          have i4 : inR .i64 ((a' : Int) + 1) := small_i64 (by omega) (by omega)
          obtain ⟨v, hv, hva⟩ : ∃ v, rp s g (.items d (out.length + 1) (a' + 1)) = some v ∧ v.app2 (out ++ [t]) = R := by
            rcases thn_some hq with ⟨e, h1, h3⟩ | ⟨us, k2, h1, h3⟩
            · exact ⟨_, h1, by rw [← happ, h3]; rfl⟩
            · cases h3
              exact ⟨_, h1, by rw [← happ]; simp [Rs.app2]⟩
          simp -implicitDefEqProofs [he, ro_len, ro_get hi, ro_up, i4, Ref.re, hf1, go_sem, -List.set_cons_succ, -List.set_cons_zero]
          exact loop_back (a' + 1, -1, out ++ [t], g, v, true) (by simp [setAll]) ⟨by show a' + 1 ≤ s.length; omega, by simp; omega, hfo, .inl ⟨rfl, rfl, by simp; omega, by show g ≤ f; omega, by simpa using hv, hva⟩⟩ (by show g + 1 < g + 1 + 1; omega)
        | false =>
          rw [hsg] at hq e44
          simp only [Bool.false_eq_true, if_false, Option.some.injEq] at hq
          have he : ¬ ((nxt s a' (-1)).toNat : Int) = 44 := fun h => by rw [beq_iff_eq.2 h] at e44; cases e44
          simp -implicitDefEqProofs [he, ro_len, go_sem, -List.set_cons_succ, -List.set_cons_zero]
          refine loop_less (a', -1, out ++ [t], 0, q, false) (St.le_more ?_ (by simp; exact Obs.le_refl _)) ⟨ha'.1, by simp; omega, hfo, .inr ⟨rfl, .inl ⟨rfl, by rw [← happ, ← hq]; rfl⟩⟩⟩ (by show 0 < g + 1 + 1; omega)
          simp [setAll, he, Sl.le, A.le_refl_iff, A.le_u_iff, As.lo, A.lo, C.lo, Ref.lo, Cs.lo, Obs.lo, Ob.lo, setAll, and_true, true_and, List.length_nil, List.length_cons]
          rw [e44]
          exact .refl _
  · simp -implicitDefEqProofs [ro_len, go_sem, -List.set_cons_succ, -List.set_cons_zero]
    refine qcall_pure (atom_calls [91, 93]) (hfr _ _) (by simp [A.re, re_d]) ?_
    simp -implicitDefEqProofs [ro_len, row_len, take_row, drop_row, pure_d, re_d, hfr, hf1, go_sem, -List.set_cons_succ, -List.set_cons_zero]
    refine call_mv (next_mv s hs p b (by omega)) hp h2 hi (by simp [Ob.re, C.re]) rfl (hf1 _ _) ?_
    simp -implicitDefEqProofs [ro_len, go_sem, -List.set_cons_succ, -List.set_cons_zero]
    have hil : inR .i64 (out.length : Int) := small_i64 (by omega) (by omega)
    rcases hst with ⟨rfl, hRo⟩ | ⟨e, rfl, hRe⟩
    · subst hRo
      have hr : listK s f d out p = some r := hr
      unfold listK at hr
      have e124 : (((nxt s p (-1)).toNat : Int) == 124) = sgn s p 124 := nxt_eq s p 124 (by decide)
      cases hsg : sgn s p 124 with
      | true =>
        rw [hsg] at hr e124
        have he : ((nxt s p (-1)).toNat : Int) = 124 := beq_iff_eq.1 e124
        have hlt := sgn_lt hsg
        have i4 : inR .i64 ((p : Int) + 1) := small_i64 (by omega) (by omega)
        have i5 : inR .i64 ((d : Int) + (out.length : Int)) := small_i64 (by omega) (by omega)
        simp only [if_true] at hr
        obtain ⟨w, hw⟩ : ∃ w, rp s f (.term 3 (d + out.length) (p + 1)) = some w := by
          rcases thn_some hr with ⟨e, h1, _⟩ | ⟨ts, j, h1, _⟩
          · exact ⟨_, h1⟩
          · exact ⟨_, h1⟩
        have c1 := part_of (h f (Nat.le_refl _)) (d + out.length) (p + 1) w (by omega) (by omega) hw
        have p1 := rp_post hs (j := .term 3 (d + out.length) (p + 1)) ⟨by omega, by omega⟩ hw
        rw [hw] at hr
        have e1 : ((d + out.length : Nat) : Int) = (d : Int) + (out.length : Int) := by omega
        rw [e1] at c1
        simp -implicitDefEqProofs [he, ro_len, ro_get hi, ro_up, i4, i5, hil, Ref.re, hf1, go_sem, -List.set_cons_succ, -List.set_cons_zero]
        refine call_rd c1 hp h2 hi (by simp [Ob.re, C.re]) (hf1 _ _) ?_
        rintro v a' b' ⟨t, ht, rfl, hm⟩
        have ha' : a' ≤ s.length := by
          cases w with
          | bad e => exact hm.1
          | ok ts k => rw [hm.2.1]; exact p1.2.1
        simp -implicitDefEqProofs [ro_len, row_len, take_row, drop_row, pure_d, re_d, toDs_map, hfr, hf1, go_sem, -List.set_cons_succ, -List.set_cons_zero]
        refine call_mv (skip_mv s hs a' b' (by omega) 93) hp h2 hi (by simp [Ob.re, C.re]) rfl (hf1 _ _) ?_
        simp -implicitDefEqProofs [ro_len, row_len, take_row, drop_row, pure_d, re_d, hfr, hf1, go_sem, -List.set_cons_succ, -List.set_cons_zero]
        refine qcall_pure (chainImpl_calls out (by omega) t) (hfr _ _) (by simp [A.re, re_d]) ?_
        simp -implicitDefEqProofs [ro_len, row_len, take_row, drop_row, pure_d, re_d, thaw_d, fits_map, hfr, hf1, go_sem, -List.set_cons_succ, -List.set_cons_zero]
        cases w with
        | bad e =>
          obtain ⟨g1, g2⟩ := hm
          subst g2
          cases hr
          rw [nxt_bad, if_neg (by decide), if_neg (by decide), if_neg (by omega)]
          exact rq_bad (fits_chain _ _ hof ht) ha'
        | ok ts k =>
          obtain ⟨g1, g2, g3⟩ := hm
          subst g2
          subst g3
          rw [thn_ok, ← g1] at hr
          exact skip_rq hr (fits_chain _ _ hof ht) ha'
      | false =>
        rw [hsg] at hr e124
        have he : ¬ ((nxt s p (-1)).toNat : Int) = 124 := fun h => by rw [beq_iff_eq.2 h] at e124; cases e124
        simp only [Bool.false_eq_true, if_false] at hr
        simp -implicitDefEqProofs [he, ro_len, go_sem, -List.set_cons_succ, -List.set_cons_zero]
        refine call_mv (skip_mv s hs p (-1) (by omega) 93) hp h2 hi (by simp [Ob.re, C.re]) rfl (hf1 _ _) ?_
        simp -implicitDefEqProofs [ro_len, row_len, take_row, drop_row, pure_d, re_d, hfr, hf1, go_sem, -List.set_cons_succ, -List.set_cons_zero]
        refine qcall_pure (chainImpl_calls out (by omega) nilT) (hfr _ _) (by simp [A.re, re_d]) ?_
        simp -implicitDefEqProofs [ro_len, row_len, take_row, drop_row, pure_d, re_d, thaw_d, fits_map, hfr, hf1, go_sem, -List.set_cons_succ, -List.set_cons_zero]
        exact skip_rq hr (fits_chain _ _ hof fits_nil) hpl
    · subst hRe
      cases hr
      rw [nxt_bad]
      simp -implicitDefEqProofs [ro_len, go_sem, -List.set_cons_succ, -List.set_cons_zero]
      refine call_mv (skip_mv s hs p e (by omega) 93) hp h2 hi (by simp [Ob.re, C.re]) rfl (hf1 _ _) ?_
      simp -implicitDefEqProofs [ro_len, row_len, take_row, drop_row, pure_d, re_d, hfr, hf1, go_sem, -List.set_cons_succ, -List.set_cons_zero]
      refine qcall_pure (chainImpl_calls out (by omega) nilT) (hfr _ _) (by simp [A.re, re_d]) ?_
      simp -implicitDefEqProofs [ro_len, row_len, take_row, drop_row, pure_d, re_d, thaw_d, fits_map, hfr, hf1, go_sem, -List.set_cons_succ, -List.set_cons_zero]
      rw [nxt_bad, if_neg (by decide), if_neg (by decide), if_neg (by omega)]
      exact rq_bad (fits_chain _ _ hof fits_nil) hpl
end
end Go.Proofs.YtgfmlifkhpjplaaGreatDoor

/-
  The program's reader: terms without operators.
  Conditions: none.
-/
open Go Go.AM Go.Proofs
namespace Go.Proofs.YtgfmlifkhpjplaaGreatDoor
open Go.ChangeShapes Go.WideShapes Go.ChangeAt Go.RowKit
set_option linter.unusedVariables false
set_option linter.unusedSimpArgs false
set_option maxRecDepth 100000
namespace Full
-- 85 (*loop.example/prologserver/impl.reader).primary params 2 ntmps 134
-- loop head live: [0,1,4,7,8]
def ac85 : Cd := .seq (.region [⟨(some 4),.alloc [(.d (.int .i64 0)),(.d (.int .i64 0)),(.d (.str [])),(.full [])],none⟩] [])
 (.seq (.seq (.region [⟨(some 9),.mv (.t 0),none⟩,
 ⟨(some 10),.nilCheck (.t 9),none⟩,
 ⟨(some 11),.fieldAddr 2 (.t 10),none⟩,
 ⟨(some 12),.load none (.t 11),none⟩,
 ⟨(some 13),.bin .geq (.t 12) (.k (.c (.d (.int .i64 0)))),none⟩] [9,10,11,12])
 (.cond (.t 13)
 (.seq (.region [⟨(some 14),.build [(.d (.int .i64 0)),(.d (.int .i64 0)),(.d (.str [])),(.full [])] [],none⟩,
 ⟨none,.store 4 (.t 4) (.t 14),none⟩] [0,1,13,14])
 (.ret))
 (.skip)))
 (.seq (.seq (.region [⟨(some 15),.mv (.t 1),none⟩,
 ⟨(some 16),.bin .gtr (.t 15) (.k (.c (.d (.int .i64 30)))),none⟩] [13,15])
 (.cond (.t 16)
 (.seq (.region [⟨(some 17),.mv (.t 0),none⟩,
 ⟨(some 18),.mv (.t 0),none⟩,
 ⟨(some 19),.nilCheck (.t 18),none⟩,
 ⟨(some 20),.fieldAddr 1 (.t 19),none⟩,
 ⟨(some 21),.load none (.t 20),none⟩,
 ⟨(some 22),.call false 110 [(.t 17),(.t 21)],none⟩,
 ⟨none,.store 4 (.t 4) (.t 22),none⟩] [0,1,16,17,18,19,20,21,22])
 (.ret))
 (.skip)))
 (.seq (.region [⟨(some 23),.mv (.t 0),none⟩,
 ⟨(some 24),.call false 111 [(.t 23)],none⟩,
 ⟨(some 5),.mv (.t 24),none⟩] [16,23,24])
 (.seq (.block 0 (.seq (.region [⟨(some 26),.mv (.t 5),none⟩,
 ⟨(some 27),.bin .eql (.t 26) (.k (.c (.d (.int .u8 0)))),none⟩,
 ⟨(some 25),.mv (.t 27),none⟩] [26,27])
 (.cond (.t 25)
 (.seq (.region [⟨(some 28),.mv (.t 0),none⟩,
 ⟨(some 29),.mv (.t 0),none⟩,
 ⟨(some 30),.nilCheck (.t 29),none⟩,
 ⟨(some 31),.fieldAddr 1 (.t 30),none⟩,
 ⟨(some 32),.load none (.t 31),none⟩,
 ⟨(some 33),.call false 110 [(.t 28),(.t 32)],none⟩,
 ⟨none,.store 4 (.t 4) (.t 33),none⟩] [0,1,5,25,28,29,30,31,32,33])
 (.ret))
 (.seq (.region [⟨(some 35),.mv (.t 5),none⟩,
 ⟨(some 36),.bin .geq (.t 35) (.k (.c (.d (.int .u8 65)))),none⟩,
 ⟨(some 37),.mv (.t 36),none⟩,
 ⟨(some 38),.mv (.t 5),some (37,true)⟩,
 ⟨(some 39),.bin .leq (.t 38) (.k (.c (.d (.int .u8 90)))),some (37,true)⟩,
 ⟨(some 40),.pick (.t 37) (.t 39) (.k (.c (.d (.bool false)))),none⟩,
 ⟨(some 34),.mv (.t 40),none⟩] [25,35,36,37,38,39,40])
 (.cond (.t 34)
 (.seq (.region [⟨(some 41),.mv (.t 0),none⟩,
 ⟨(some 42),.nilCheck (.t 41),none⟩,
 ⟨(some 43),.fieldAddr 1 (.t 42),none⟩,
 ⟨(some 44),.load none (.t 43),none⟩,
 ⟨(some 45),.bin .add (.t 44) (.k (.c (.d (.int .i64 1)))),none⟩,
 ⟨(some 46),.nilCheck (.t 41),none⟩,
 ⟨(some 47),.fieldAddr 1 (.t 46),none⟩,
 ⟨none,.store 1 (.t 47) (.t 45),none⟩] [0,1,34,41,42,43,44,45,46,47])
 (.seq (.region [⟨(some 48),.mv (.t 5),none⟩,
 ⟨(some 49),.bin .sub (.t 48) (.k (.c (.d (.int .u8 65)))),none⟩,
 ⟨(some 50),.cvInt .i64 (.t 49),none⟩,
 ⟨(some 51),.qcall 112 [(.t 50)],none⟩,
 ⟨none,.store 4 (.t 4) (.t 51),none⟩] [5,48,49,50,51])
 (.ret)))
 (.seq (.region [⟨(some 53),.mv (.t 0),none⟩,
 ⟨(some 54),.call false 113 [(.t 53)],none⟩,
 ⟨(some 52),.mv (.t 54),none⟩] [34,53,54])
 (.cond (.t 52)
 (.seq (.region [⟨(some 55),.mv (.t 0),none⟩,
 ⟨(some 56),.call false 114 [(.t 55)],none⟩,
 ⟨none,.store 4 (.t 4) (.t 56),none⟩] [0,1,5,52,55,56])
 (.ret))
 (.seq (.region [⟨(some 58),.mv (.t 5),none⟩,
 ⟨(some 59),.bin .eql (.t 58) (.k (.c (.d (.int .u8 40)))),none⟩,
 ⟨(some 60),.mv (.t 59),none⟩,
 ⟨(some 61),.mv (.t 0),some (60,true)⟩,
 ⟨(some 62),.nilCheck (.t 61),some (60,true)⟩,
 ⟨(some 63),.fieldAddr 3 (.t 62),some (60,true)⟩,
 ⟨(some 64),.load none (.t 63),some (60,true)⟩,
 ⟨(some 65),.pick (.t 60) (.t 64) (.k (.c (.d (.bool false)))),none⟩,
 ⟨(some 57),.mv (.t 65),none⟩] [52,58,59,60,61,62,63,64,65])
 (.cond (.t 57)
 (.seq (.region [⟨(some 66),.mv (.t 0),none⟩,
 ⟨(some 67),.nilCheck (.t 66),none⟩,
 ⟨(some 68),.fieldAddr 1 (.t 67),none⟩,
 ⟨(some 69),.load none (.t 68),none⟩,
 ⟨(some 70),.bin .add (.t 69) (.k (.c (.d (.int .i64 1)))),none⟩,
 ⟨(some 71),.nilCheck (.t 66),none⟩,
 ⟨(some 72),.fieldAddr 1 (.t 71),none⟩,
 ⟨none,.store 1 (.t 72) (.t 70),none⟩] [5,57,66,67,68,69,70,71,72])
 (.seq (.region [⟨(some 73),.mv (.t 0),none⟩,
 ⟨(some 74),.mv (.t 1),none⟩,
 ⟨(some 75),.call false 51 [(.t 73),(.k (.c (.d (.int .i64 3)))),(.t 74)],none⟩,
 ⟨(some 6),.alloc [(.d (.int .i64 0)),(.d (.int .i64 0)),(.d (.str [])),(.full [])],none⟩,
 ⟨none,.store 4 (.t 6) (.t 75),none⟩] [1,73,74,75])
 (.seq (.region [⟨(some 76),.mv (.t 0),none⟩,
 ⟨(some 77),.call false 115 [(.t 76),(.k (.c (.d (.int .u8 41))))],none⟩] [0,76,77])
 (.seq (.region [⟨(some 78),.load (some 4) (.t 6),none⟩,
 ⟨none,.store 4 (.t 4) (.t 78),none⟩] [6,78])
 (.ret)))))
 (.seq (.region [⟨(some 80),.mv (.t 5),none⟩,
 ⟨(some 81),.bin .eql (.t 80) (.k (.c (.d (.int .u8 91)))),none⟩,
 ⟨(some 82),.mv (.t 81),none⟩,
 ⟨(some 83),.mv (.t 0),some (82,true)⟩,
 ⟨(some 84),.nilCheck (.t 83),some (82,true)⟩,
 ⟨(some 85),.fieldAddr 0 (.t 84),some (82,true)⟩,
 ⟨(some 87),.mv (.t 0),some (82,true)⟩,
 ⟨(some 88),.nilCheck (.t 87),some (82,true)⟩,
 ⟨(some 89),.fieldAddr 1 (.t 88),some (82,true)⟩,
 ⟨(some 86),.load none (.t 85),some (82,true)⟩,
 ⟨(some 90),.load none (.t 89),some (82,true)⟩,
 ⟨(some 91),.slice 0 (.t 86) (some (.t 90)) none none,some (82,true)⟩,
 ⟨(some 92),.qcall 116 [(.t 91),(.k (.c (.d (.str [91,93]))))],some (82,true)⟩,
 ⟨(some 93),.un .not (.t 92),some (82,true)⟩,
 ⟨(some 94),.pick (.t 82) (.t 93) (.k (.c (.d (.bool false)))),none⟩,
 ⟨(some 79),.mv (.t 94),none⟩] [5,57,80,81,82,83,84,85,86,87,88,89,90,91,92,93,94])
 (.cond (.t 79)
 (.seq (.region [⟨(some 95),.mv (.t 0),none⟩,
 ⟨(some 96),.nilCheck (.t 95),none⟩,
 ⟨(some 97),.fieldAddr 1 (.t 96),none⟩,
 ⟨(some 98),.load none (.t 97),none⟩,
 ⟨(some 99),.bin .add (.t 98) (.k (.c (.d (.int .i64 1)))),none⟩,
 ⟨(some 100),.nilCheck (.t 95),none⟩,
 ⟨(some 101),.fieldAddr 1 (.t 100),none⟩,
 ⟨none,.store 1 (.t 101) (.t 99),none⟩] [79,95,96,97,98,99,100,101])
 (.seq (.region [⟨(some 102),.mv (.t 0),none⟩,
 ⟨(some 103),.mv (.t 1),none⟩,
 ⟨(some 104),.call false 117 [(.t 102),(.t 103)],none⟩,
 ⟨none,.store 4 (.t 4) (.t 104),none⟩] [0,1,102,103,104])
 (.ret)))
 (.skip))))))))))))
 (.seq (.region [⟨(some 105),.mv (.t 0),none⟩,
 ⟨(some 106),.call false 119 [(.t 105)],none⟩,
 ⟨(some 107),.call false 118 [(.t 106)],none⟩,
 ⟨(some 7),.alloc [(.d (.int .i64 0)),(.d (.int .i64 0)),(.d (.str [])),(.full [])],none⟩,
 ⟨none,.store 4 (.t 7) (.t 107),none⟩] [79,105,106,107])
 (.seq (.seq (.region [⟨(some 108),.mv (.t 0),none⟩,
 ⟨(some 109),.call false 111 [(.t 108)],none⟩,
 ⟨(some 110),.bin .eql (.t 109) (.k (.c (.d (.int .u8 40)))),none⟩] [108,109])
 (.cond (.t 110)
 (.seq (.seq (.region [⟨(some 8),.mv (.k (.c (.d (.bool true)))),none⟩] [110])
 (.block 1 (.loop (.seq (.seq (.region [⟨(some 111),.mv (.t 8),none⟩] [8])
 (.cond (.t 111)
 (.skip)
 (.exit 1)))
 (.seq (.block 2 (.seq (.region [⟨(some 115),.mv (.t 0),none⟩,
 ⟨(some 116),.nilCheck (.t 115),none⟩,
 ⟨(some 117),.fieldAddr 1 (.t 116),none⟩,
 ⟨(some 118),.load none (.t 117),none⟩,
 ⟨(some 119),.bin .add (.t 118) (.k (.c (.d (.int .i64 1)))),none⟩,
 ⟨(some 120),.nilCheck (.t 115),none⟩,
 ⟨(some 121),.fieldAddr 1 (.t 120),none⟩,
 ⟨none,.store 1 (.t 121) (.t 119),none⟩] [111,115,116,117,118,119,120,121])
 (.region [⟨(some 122),.fieldAddr 3 (.t 7),none⟩,
 ⟨(some 124),.mv (.t 0),none⟩,
 ⟨(some 125),.mv (.t 1),none⟩,
 ⟨(some 126),.bin .add (.t 125) (.k (.c (.d (.int .i64 1)))),none⟩,
 ⟨(some 123),.loadL false none (.t 122),none⟩,
 ⟨(some 127),.callL false false 120 [(.t 124),(.t 126)],none⟩,
 ⟨(some 128),.buildSlice 4 1 [(.int .i64 0),(.int .i64 0),(.str []),(.sl [])] [(0,(.t 127))],none⟩,
 ⟨(some 129),.append false 4 (.t 123) (.t 128),none⟩,
 ⟨(some 130),.fieldAddr 3 (.t 7),none⟩,
 ⟨none,.store 1 (.t 130) (.t 129),none⟩] [122,123,124,125,126,127,128,129,130])))
 (.region [⟨(some 112),.mv (.t 0),none⟩,
 ⟨(some 113),.call false 111 [(.t 112)],none⟩,
 ⟨(some 114),.bin .eql (.t 113) (.k (.c (.d (.int .u8 44)))),none⟩,
 ⟨(some 8),.mv (.t 114),none⟩] [112,113,114]))))))
 (.region [⟨(some 131),.mv (.t 0),none⟩,
 ⟨(some 132),.call false 115 [(.t 131),(.k (.c (.d (.int .u8 41))))],none⟩] [0,131,132]))
 (.skip)))
 (.seq (.region [⟨(some 133),.load (some 4) (.t 7),none⟩,
 ⟨none,.store 4 (.t 4) (.t 133),none⟩] [0,1,7,110,133])
 (.ret))))))))
theorem ac85_ok : cFunc Tryz.prog [1000112,1000116,5000122,6000120] [(0,[],[]),(1,[9,10,11,12],[]),(2,[0,1,13,14],[]),(3,[13,15],[]),(4,[0,1,16,17,18,19,20,21,22],[]),(5,[16,23,24],[]),(6,[26,27],[]),(7,[0,1,5,25,28,29,30,31,32,33],[]),(8,[25,35,36,37,38,39,40],[]),(9,[0,1,34,41,42,43,44,45,46,47],[]),(10,[5,48,49,50,51],[]),(11,[34,53,54],[]),(12,[0,1,5,52,55,56],[]),(13,[52,58,59,60,61,62,63,64,65],[]),(14,[5,57,66,67,68,69,70,71,72],[]),(15,[1,73,74,75],[]),(16,[0,76,77],[]),(17,[6,78],[]),(18,[5,57,80,81,82,83,84,85,86,87,88,89,90,91,92,93,94],[0,1,2,3,4,5,7,8,9,6,10,11,12,13,14,15]),(19,[79,95,96,97,98,99,100,101],[]),(20,[0,1,102,103,104],[]),(21,[79,105,106,107],[]),(22,[108,109],[]),(23,[110],[]),(24,[8],[]),(26,[111,115,116,117,118,119,120,121],[]),(27,[122,123,124,125,126,127,128,129,130],[0,2,3,4,1,5,6,7,8,9]),(25,[112,113,114],[]),(28,[0,131,132],[]),(29,[0,1,7,110,133],[])] Tryz.f85 = some (ac85,[.cell 4 (some 4)],134) := by kernel_rfl
end Full
-- 112 loop.example/prologserver/impl.variable params 1 ntmps 5
def ac112 : Cd := .seq (.region [⟨(some 2),.alloc [(.d (.int .i64 0)),(.d (.int .i64 0)),(.d (.str [])),(.full [])],none⟩] [])
 (.seq (.region [⟨(some 3),.mv (.t 0),none⟩,
 ⟨(some 4),.build [(.d (.int .i64 0)),(.d (.int .i64 0)),(.d (.str [])),(.full [])] [(0,1,(.k (.c (.d (.int .i64 1))))),(1,1,(.t 3))],none⟩,
 ⟨none,.store 4 (.t 2) (.t 4),none⟩] [0,3,4])
 (.ret))
theorem ac112_ok : cFunc Tryz.prog [] [(0,[],[]),(1,[0,3,4],[])] Tryz.f112 = some (ac112,[.cell 2 (some 4)],5) := by kernel_rfl
theorem variableR_calls (n : Int) (H : Heap) : ACalls Tryz.prog 112 [.c (.d (.int .i64 n))] H (fun r H' => H' = H ∧ r = .agg ((Tm.mk 1 n [] []).row.map .d)) := by
  refine acalls Tryz.func112 (by kernel_rfl) ac112_ok fun hf => ?_
  simp -implicitDefEqProofs [ac112, row_mk, hf, go_sem, -List.set_cons_succ, -List.set_cons_zero]
/-- an atom: nothing stands behind its arguments -/
theorem atom_full (name : List UInt8) (H : Heap) : ACalls Tryz.prog 118 [.c (.d (.str name))] H (fun r H' => H' = H ++ [.cells [.d (.int .i64 3), .d (.int .i64 0), .d (.str name), .full []]] ∧ r = .agg [.d (.int .i64 3), .d (.int .i64 0), .d (.str name), .full []]) := by
  refine acallsK Tryz.func118 (by kernel_rfl) ac118_ok fun hf => ?_
  simp -implicitDefEqProofs [ac118, hf, go_sem, -List.set_cons_succ, -List.set_cons_zero]
  refine finK_ret _ ⟨trivial, trivial⟩ rfl ?_
  simp [Ob.re, C.re, A.re]
/-- a call that leaves one object more, which looks at no other -/
theorem call_newR {P : Program} {f : FuncId} {xs : List A} {sl : List A} {ext loc H₂ : Heap} {o : Ob} {r : A} {K : A → St → Prop} (hc : ∀ H, ACalls P f xs H (fun r' H' => H' = H ++ [o] ∧ r' = r)) (ho : Ob.re ext.length o = o) (hr : A.re ext.length r = r)
    (hf : Obs.fits ext.length 0 ext) (hH : H₂ = ext ++ loc.map (Ob.re ext.length)) (hk : K r ⟨sl, ext, loc ++ [o]⟩) : ACalls P f xs H₂ (CallK K ⟨sl, ext, loc⟩) := by
  subst hH
  exact (hc _).mono fun r' H' ⟨h1, h2⟩ => ⟨ext, loc ++ [o], r, by rw [h1, List.append_assoc, List.map_append]; simp [ho], rfl, by simp, hf, by rw [h2]; exact hr.symm, hk⟩
/-- a byte that begins nothing -/
theorem name_zero {s : List UInt8} {a : Nat} (ha : a ≤ s.length) (h : s[a]? = some 0) : nameR s a = none := by
  obtain ⟨h1, h2⟩ := List.getElem?_eq_some_iff.1 h
  have hd : s.drop a = 0 :: s.drop (a + 1) := by rw [List.drop_eq_getElem_cons h1, h2]
  refine nameR_none ha (fun c r' e => by rw [hd] at e; cases e; decide) fun x hx hp => ?_
  rw [hd] at hp
  have : ∀ x ∈ signs, (match x with | [] => false | c :: _ => c != 0) = true := by decide
  have := this x hx
  obtain ⟨y, hy⟩ := hp
  cases x with
  | nil => simp at this
  | cons c w => simp at this hy; exact this hy.1
section
variable {s : List UInt8} (hs : s.length ≤ 1000000) {f : Nat}
include hs
set_option maxHeartbeats 6400000 in
theorem prime_of (h : ∀ g, g ≤ f → Prd s g) (d a : Nat) (r : Rs) (ha : a ≤ s.length) (hd : d ≤ 2000000) (hr : rp s (f + 1) (.prime d a) = some r) : Rdr 85 [.c (.d (.int .i64 d))] s a r := fun H i hp h2 hi => by
  refine acalls Tryz.func85 (by kernel_rfl) Full.ac85_ok fun hf => ?_
  rw [ro_len] at hf
  have hf1 := fun a' b' => ro_fits (s' := s) (a' := a') (b' := b') hf
  have hfr : ∀ a' b', Obs.fits (ro H i s a' b').length 0 (ro H i s a' b') := fun a' b' => by rw [ro_len]; exact hf1 a' b'
  have hr : pstep s (rp s f) (.prime d a) = some r := hr
  have zf : (Tm.mk 0 0 [] []).fits := .mk (small_i64 (by omega) (by omega)) (small_i64 (by omega) (by omega)) (by simp) (by simp) (by simp)
  simp only [pstep] at hr
  by_cases hd30 : 30 < d
  · rw [if_pos hd30] at hr
    cases hr
    have hd30' : (30 : Int) < d := by omega
    simp -implicitDefEqProofs [Full.ac85, ro_get hi, ro_len, hd30', Ref.re, go_sem, -List.set_cons_succ, -List.set_cons_zero]
    refine call_mv (stop_mv s a (-1) a) hp h2 hi (by simp [Ob.re, C.re]) (zeroA_re _) (hf1 _ _) ?_
    simp -implicitDefEqProofs [zeroA, ro_len, row_len, take_row, drop_row, pure_d, re_d, thaw_d, fits_map, hfr, hf1, go_sem, -List.set_cons_succ, -List.set_cons_zero]
    exact rq_bad zf ha
  · rw [if_neg hd30] at hr
    have hd30' : ¬ (30 : Int) < d := by omega
    simp -implicitDefEqProofs [Full.ac85, ro_get hi, ro_len, hd30', Ref.re, go_sem, -List.set_cons_succ, -List.set_cons_zero]
    refine call_mv (next_mv s hs a (-1) (by omega)) hp h2 hi (by simp [Ob.re, C.re]) rfl (hf1 _ _) ?_
    have bad0 : nxt s a (-1) = 0 → some (Rs.bad a) = some r → (?stop : Prop) := ?stopP
    cases hb : s[a]? with
    | none =>
      rw [hb] at hr
      have hn : nxt s a (-1) = 0 := by unfold nxt; rw [if_neg (by decide), hb]
      exact bad0 hn hr
    | some b =>
      have hlt := (List.getElem?_eq_some_iff.1 hb).1
      have hn : nxt s a (-1) = b := by unfold nxt; rw [if_neg (by decide), hb]
      rw [hb] at hr
      simp only at hr
      by_cases hb0 : b = 0
      · subst hb0
        rw [name_zero ha hb] at hr
        exact bad0 hn (by simpa [bigB, digB] using hr)
      · have hb0' : ¬ ((b.toNat : Int) = 0) := fun e => hb0 (UInt8.toNat_inj.1 (by simpa using e))
        rw [hn]
        simp -implicitDefEqProofs [hb0', ro_len, go_sem, -List.set_cons_succ, -List.set_cons_zero]
        have hbz : ¬ b.toNat = 0 := fun e => hb0 (UInt8.toNat_inj.1 (by simpa using e))
        have hb255 := b.toNat_lt
        have i4 : inR .i64 ((a : Int) + 1) := small_i64 (by omega) (by omega)
        refine ⟨fun h => absurd h hbz, fun _ => ⟨fun q1 q2 => ?_, fun q1 => ?_⟩⟩
        · have hbig : bigB b = true := by simp [bigB]; omega
          rw [if_pos hbig] at hr
          cases hr
          have i5 : inR .u8 ((b.toNat : Int) - 65) := by simp [inR, IntKind.min, IntKind.max, IntKind.signed, IntKind.bits]; omega
          have i6 : IntKind.wrap .i64 ((b.toNat : Int) - 65) = (b.toNat : Int) - 65 := wrap_inR (small_i64 (by omega) (by omega))
          have e1 : (b.toNat : Int) - 65 = ((b.toNat - 65 : Nat) : Int) := by omega
          simp -implicitDefEqProofs [ro_get hi, ro_len, ro_up, i4, i5, i6, Ref.re, hf1, hfr, go_sem, -List.set_cons_succ, -List.set_cons_zero]
          refine qcall_pure (variableR_calls _) (hfr _ _) (by simp [A.re, re_d]) ?_
          rw [e1]
          simp -implicitDefEqProofs [ro_len, row_len, take_row, drop_row, pure_d, re_d, thaw_d, fits_map, hfr, hf1, go_sem, -List.set_cons_succ, -List.set_cons_zero]
          exact rq_ok (.mk (by decide) (small_i64 (by omega) (by omega)) (by simp) (by simp) (by simp))
        · have hbig : ¬ bigB b = true := by simp [bigB]; omega
          rw [if_neg hbig] at hr
          refine call_mv (isNumber_mv s hs a (by omega)) hp h2 hi (by simp [Ob.re, C.re]) rfl (hf1 _ _) ?_
          have hdg : digAt s a = digB b := by unfold digAt; rw [hb]
          have hsg45 : sgn s a 45 = (b == 45) := by unfold sgn; rw [hb]
          rw [hdg, hsg45]
          by_cases hnum : (digB b || b == 45 && digAt s (a + 1)) = true
          · rw [if_pos hnum] at hr
            have hnum' : digAt s a = true ∨ (sgn s a 45 = true ∧ digAt s (a + 1) = true) := by
              rw [hdg, hsg45]
              simp only [Bool.or_eq_true, Bool.and_eq_true] at hnum
              exact hnum
            rw [hnum]
            simp -implicitDefEqProofs [ro_len, go_sem, -List.set_cons_succ, -List.set_cons_zero]
            refine call_mv (number_mv s hs a ha hnum') hp h2 hi (by simp [Ob.re, C.re]) (by unfold numV2; split <;> simp [zeroA, A.re, re_d]) (hf1 _ _) ?_
            obtain ⟨l1, l2, l3, l4⟩ := number_law ha hnum'
            cases hn4 : numR s a with
            | none =>
              rw [hn4] at hr
              cases hr
              simp -implicitDefEqProofs [numV2, numB, hn4, zeroA, ro_len, row_len, take_row, drop_row, pure_d, re_d, thaw_d, fits_map, hfr, hf1, go_sem, -List.set_cons_succ, -List.set_cons_zero]
              exact rq_bad zf l2
            | some x =>
              obtain ⟨n, j⟩ := x
              rw [hn4] at hr l4
              cases hr
              obtain ⟨_, _, w3, w4, w5⟩ := l4
              simp -implicitDefEqProofs [numV2, numB, hn4, w3, ro_len, row_len, take_row, drop_row, pure_d, re_d, thaw_d, fits_map, hfr, hf1, go_sem, -List.set_cons_succ, -List.set_cons_zero]
              exact rq_ok (.mk (by decide) (small_i64 (by omega) (by omega)) (by simp) (by simp) (by simp))
          · rw [if_neg hnum] at hr
            have hnum2 : (digB b || b == 45 && digAt s (a + 1)) = false := by simpa using hnum
            rw [hnum2]
            have nameK : (match nameR s a with
              | none => some (Rs.bad a)
              | some (n, j) => if sgn s j 40 then thn (rp s f (.args d j)) fun ts k => if sgn s k 41 then some (Rs.ok [.mk 3 0 n ts] (k + 1)) else some (Rs.bad k)
                else some (Rs.ok [.mk 3 0 n []] j)) = some r → (?nm : Prop) := ?nmP
            by_cases h40 : b = 40
            · subst h40
              rw [if_pos rfl] at hr
              obtain ⟨w, hw⟩ : ∃ w, rp s f (.term 3 d (a + 1)) = some w := by
                rcases thn_some hr with ⟨e, h1, _⟩ | ⟨ts, j, h1, _⟩
                · exact ⟨_, h1⟩
                · exact ⟨_, h1⟩
              have c1 := (h f (Nat.le_refl _)).term 3 d (a + 1) w (by omega) (by omega) hd hw
              have p1 := rp_post hs (j := .term 3 d (a + 1)) ⟨by omega, by omega⟩ hw
              rw [hw] at hr
              simp -implicitDefEqProofs [ro_get hi, ro_len, ro_up, i4, Ref.re, hf1, go_sem, -List.set_cons_succ, -List.set_cons_zero]
              refine call_rd c1 hp h2 hi (by simp [Ob.re, C.re]) (hf1 _ _) ?_
              rintro v a' b' ⟨t, ht, rfl, hm⟩
              have ha' : a' ≤ s.length := by
                cases w with
                | bad e => exact hm.1
                | ok ts k => rw [hm.2.1]; exact p1.2.1
              simp -implicitDefEqProofs [ro_len, row_len, take_row, drop_row, pure_d, re_d, toDs_map, hfr, hf1, go_sem, -List.set_cons_succ, -List.set_cons_zero]
              refine call_mv (skip_mv s hs a' b' (by omega) 41) hp h2 hi (by simp [Ob.re, C.re]) rfl (hf1 _ _) ?_
              simp -implicitDefEqProofs [ro_len, row_len, take_row, drop_row, pure_d, re_d, thaw_d, fits_map, hfr, hf1, go_sem, -List.set_cons_succ, -List.set_cons_zero]
              cases w with
              | bad e =>
                obtain ⟨g1, g2⟩ := hm
                subst g2
                cases hr
                rw [nxt_bad, if_neg (by decide), if_neg (by decide), if_neg (by omega)]
                exact rq_bad ht ha'
              | ok ts k =>
                obtain ⟨g1, g2, g3⟩ := hm
                subst g2
                subst g3
                rw [thn_ok, ← g1] at hr
                exact skip_rq hr ht ha'
            · rw [if_neg h40] at hr
              have h40' : ¬ b.toNat = 40 := fun e => h40 (UInt8.toNat_inj.1 (by simpa using e))
              by_cases h91 : b = 91
              · subst h91
                have hrest : s.drop a = 91 :: s.drop (a + 1) := by
                  obtain ⟨g1, g2⟩ := List.getElem?_eq_some_iff.1 hb
                  rw [List.drop_eq_getElem_cons g1, g2]
                have hpre : ((s.drop a).take ([91, 93] : List UInt8).length == [91, 93]) = sgn s (a + 1) 93 := by
                  rw [hrest]
                  unfold sgn
                  cases hr1 : s.drop (a + 1) with
                  | nil =>
                    have : s[a + 1]? = none := by rw [List.getElem?_eq_none_iff]; have := List.drop_eq_nil_iff.1 hr1; omega
                    rw [this]; rfl
                  | cons c w =>
                    have : s[a + 1]? = some c := at_dr hr1
                    rw [this]
                    simp [Bool.eq_iff_iff]
                simp -implicitDefEqProofs [ro_get hi, ro_len, Ref.re, go_sem, -List.set_cons_succ, -List.set_cons_zero]
                refine ⟨ha, qcall_pure (hasPrefix_calls (s.drop a) [91, 93] (by simp; omega) (by simp)) (hfr _ _) rfl ?_⟩
                rw [hpre]
                cases hsg : sgn s (a + 1) 93 with
                | true =>
                  rw [if_neg (fun h => by rw [hsg] at h; cases h.2)] at hr
                  simp -implicitDefEqProofs [ro_get hi, ro_len, Ref.re, go_sem, -List.set_cons_succ, -List.set_cons_zero]
                  exact nameK hr
                | false =>
                  rw [if_pos ⟨rfl, hsg⟩] at hr
                  have c1 := list_of hs h d (a + 1) r (by omega) (by omega) hr
                  simp -implicitDefEqProofs [ro_get hi, ro_len, ro_up, i4, Ref.re, hf1, go_sem, -List.set_cons_succ, -List.set_cons_zero]
                  refine call_rd c1 hp h2 hi (by simp [Ob.re, C.re]) (hf1 _ _) ?_
                  rintro v a' b' ⟨t, ht, rfl, hm⟩
                  simp -implicitDefEqProofs [ro_len, row_len, take_row, drop_row, pure_d, re_d, thaw_d, fits_map, hfr, hf1, go_sem, -List.set_cons_succ, -List.set_cons_zero]
                  exact ⟨a', b', ⟨t, ht, rfl, hm⟩, rfl⟩
              · have h91' : ¬ b.toNat = 91 := fun e => h91 (UInt8.toNat_inj.1 (by simpa using e))
                rw [if_neg (fun h => h91 h.1)] at hr
                simp -implicitDefEqProofs [ro_get hi, ro_len, h40', h91', Ref.re, go_sem, -List.set_cons_succ, -List.set_cons_zero]
                refine ⟨fun h => absurd h (by omega), fun _ => ⟨fun _ => ha, fun h => absurd h (by omega), fun _ => ?_⟩⟩
                exact nameK hr
            case nmP =>
              intro hr
              refine call_mv (name_mv s hs a ha) hp h2 hi (by simp [Ob.re, C.re]) (by unfold nameV; split <;> simp [A.re, C.re]) (hf1 _ _) ?_
              cases hn : nameR s a with
              | none =>
                rw [hn] at hr
                cases hr
                simp -implicitDefEqProofs [nameV, nameJ, nameF, hn, ro_len, go_sem, -List.set_cons_succ, -List.set_cons_zero]
                refine call_newR (atom_full []) (by simp [Ob.re, C.re]) (by simp [A.re, C.re]) (hfr _ _) (by simp [Ob.re, C.re]) ?_
                simp -implicitDefEqProofs [ro_len, hf1, go_sem, -List.set_cons_succ, -List.set_cons_zero]
                refine call_mv (next_mv s hs a a (by omega)) hp h2 hi (by simp [Ob.re, C.re]) rfl (hf1 _ _) ?_
                rw [nxt_bad]
                simp -implicitDefEqProofs [ro_len, hfr, hf1, go_sem, -List.set_cons_succ, -List.set_cons_zero]
                exact rq_bad (t := .mk 3 0 [] []) (fits_st (by simp) (by simp) (by simp)) ha
              | some x =>
                obtain ⟨n, j⟩ := x
                rw [hn] at hr
                simp only at hr
                obtain ⟨n1, n2, n3⟩ := nameR_ok ha hn
                have hnf : (Tm.mk 3 0 n []).fits := fits_st n3 (by simp) (by simp)
                simp -implicitDefEqProofs [nameV, nameJ, nameF, hn, ro_len, go_sem, -List.set_cons_succ, -List.set_cons_zero]
                refine call_newR (atom_full n) (by simp [Ob.re, C.re]) (by simp [A.re, C.re]) (hfr _ _) (by simp [Ob.re, C.re]) ?_
                simp -implicitDefEqProofs [ro_len, hf1, go_sem, -List.set_cons_succ, -List.set_cons_zero]
                refine call_mv (next_mv s hs j (-1) (by omega)) hp h2 hi (by simp [Ob.re, C.re]) rfl (hf1 _ _) ?_
                have e40 : (((nxt s j (-1)).toNat : Int) == 40) = sgn s j 40 := nxt_eq s j 40 (by decide)
                cases hsg : sgn s j 40 with
                | false =>
                  rw [hsg] at hr e40
                  have he : ¬ ((nxt s j (-1)).toNat : Int) = 40 := fun h => by rw [beq_iff_eq.2 h] at e40; cases e40
                  cases hr
                  simp -implicitDefEqProofs [he, ro_len, hfr, hf1, go_sem, -List.set_cons_succ, -List.set_cons_zero]
                  exact rq_ok (t := .mk 3 0 n []) hnf
                | true =>
                  rw [hsg] at hr e40
                  have he : ((nxt s j (-1)).toNat : Int) = 40 := beq_iff_eq.1 e40
                  simp only [if_true] at hr
                  have hjl := sgn_lt hsg
                  obtain ⟨R, hR⟩ : ∃ R, rp s f (.args d j) = some R := by
                    rcases thn_some hr with ⟨e, h1, _⟩ | ⟨ts, j, h1, _⟩
                    · exact ⟨_, h1⟩
                    · exact ⟨_, h1⟩
                  have pR := rp_post hs (j := .args d j) hjl hR
                  rw [hR] at hr
                  simp -implicitDefEqProofs [he, ro_len, hfr, hf1, go_sem, -List.set_cons_succ, -List.set_cons_zero]
                  refine loop_enter (St.le_tokenC 2 3 4 rfl rfl) ?_
                  refine loop_set (σ := Nat × Int × List Tm × Nat × Rs × Bool) (fun x => [(8, .c (.d (.bool x.2.2.2.2.2)))]) (fun x => ro H i s x.1 x.2.1)
                    (fun x => [.cells [.d (.int .i64 0), .d (.int .i64 0), .d (.str []), .full []], .cells [.d (.int .i64 3), .d (.int .i64 0), .d (.str n), .full []], .cells [.d (.int .i64 3), .d (.int .i64 0), .d (.str n), .own (.l 3) x.2.2.1.length (x.2.2.1.map Tm.row)], .grow x.2.2.1.length 4])
                    (fun x => x.1 ≤ s.length ∧ x.2.2.1.length ≤ 1000001 ∧ (∀ t ∈ x.2.2.1, t.fits) ∧
                      ((x.2.2.2.2.2 = true ∧ x.2.1 = -1 ∧ x.2.2.1.length ≤ x.1 ∧ x.1 < s.length ∧ x.2.2.2.1 ≤ f ∧ rp s x.2.2.2.1 (.args d x.1) = some x.2.2.2.2.1 ∧ x.2.2.2.2.1.app2 x.2.2.1 = R) ∨
                       (x.2.2.2.2.2 = false ∧ ((x.2.1 = -1 ∧ R = .ok x.2.2.1 x.1) ∨ ∃ e : Nat, x.2.1 = e ∧ R = .bad e))))
                    (fun x => if x.2.2.2.2.2 then x.2.2.2.1 + 1 else 0) (j, -1, [], f, R, true) (by simp [setAll]) ⟨n2, by simp, by simp, .inl ⟨rfl, rfl, by simp, hjl, Nat.le_refl _, hR, by cases R <;> rfl⟩⟩ ?_
                  rintro ⟨p, b2, out, g, q, more⟩ ⟨hpl, hol, hof, hst⟩
                  simp only at hpl hol hof hst
                  simp -implicitDefEqProofs [setAll, ro_len, go_sem, -List.set_cons_succ, -List.set_cons_zero]
                  refine ⟨fun hmore => ?_, fun hmore => ?_⟩
                  · rcases hst with ⟨_, rfl, hop, hpl2, hg, hq, happ⟩ | ⟨hmf, _⟩
                    · subst hmore
                      cases g with
                      | zero => cases hq
                      | succ g =>
                        have hq : pstep s (rp s g) (.args d p) = some q := hq
                        simp only [pstep] at hq
                        obtain ⟨w, hw⟩ : ∃ w, rp s g (.term 3 (d + 1) (p + 1)) = some w := by
                          rcases thn_some hq with ⟨e, h1, _⟩ | ⟨ts, j, h1, _⟩
                          · exact ⟨_, h1⟩
                          · exact ⟨_, h1⟩
                        have c1 := part_of (h g (by omega)) (d + 1) (p + 1) w (by omega) (by omega) hw
                        have p1 := rp_post hs (j := .term 3 (d + 1) (p + 1)) ⟨by omega, by omega⟩ hw
                        rw [hw] at hq
                        have e1 : ((d + 1 : Nat) : Int) = (d : Int) + 1 := by omega
                        rw [e1] at c1
                        have i1 : inR .i64 ((d : Int) + 1) := small_i64 (by omega) (by omega)
                        have i5 : inR .i64 ((p : Int) + 1) := small_i64 (by omega) (by omega)
                        simp -implicitDefEqProofs [ro_len, ro_get hi, ro_up, i1, i5, Ref.re, hf1, go_sem, -List.set_cons_succ, -List.set_cons_zero]
                        refine call_rd c1 hp h2 hi (by simp [Ob.re, C.re, Ref.re]) (hf1 _ _) ?_
                        rintro v a' b' ⟨t, ht, rfl, hm⟩
                        refine ⟨LocSame.refl _, ?_⟩
                        have ha' : a' ≤ s.length ∧ (∀ e : Nat, w = .bad e → b' = e) := by
                          cases w with
                          | bad e => exact ⟨hm.1, fun e' he => by cases he; exact hm.2⟩
                          | ok ts k => exact ⟨by rw [hm.2.1]; exact p1.2.1, fun e' he => by cases he⟩
                        simp -implicitDefEqProofs [ro_len, row_len, take_row, drop_row, pure_d, re_d, toDs_map, hfr, hf1, go_sem, -List.set_cons_succ, -List.set_cons_zero]
                        refine ⟨allLen_map row_len, by unfold maxApp; omega, ?_⟩
                        refine call_mv (next_mv s hs a' b' (by omega)) hp h2 hi (by simp [Ob.re, C.re]) rfl (hf1 _ _) ?_
                        simp -implicitDefEqProofs [ro_len, go_sem, -List.set_cons_succ, -List.set_cons_zero]
                        have hfo : ∀ x ∈ out ++ [t], x.fits := fun x hx => by
                          rcases List.mem_append.1 hx with hx | hx
                          · exact hof x hx
                          · rw [List.mem_singleton.1 hx]; exact ht
                        cases w with
                        | bad e =>
                          obtain ⟨g1, g2⟩ := hm
                          subst g2
                          rw [nxt_bad]
                          cases hq
                          have hRe : R = .bad e := by rw [← happ]; rfl
                          exact loop_back (a', (e : Int), out ++ [t], 0, .bad e, false) (by simp [setAll]) ⟨g1, by simp; omega, hfo, .inr ⟨rfl, .inr ⟨e, rfl, hRe⟩⟩⟩ (by show 0 < g + 1 + 1; omega)
                        | ok ts k =>
                          obtain ⟨g1, g2, g3⟩ := hm
                          subst g2
                          subst g3
                          obtain ⟨q1, q2, q3⟩ := p1
                          have e44 : (((nxt s a' (-1)).toNat : Int) == 44) = sgn s a' 44 := nxt_eq s a' 44 (by decide)
                          rw [thn_ok, ← g1] at hq
                          cases hsg : sgn s a' 44 with
                          | true =>
                            rw [hsg] at hq e44
                            simp only [if_true] at hq
                            have hlt := sgn_lt hsg
                            obtain ⟨v, hv, hva⟩ : ∃ v, rp s g (.args d a') = some v ∧ v.app2 (out ++ [t]) = R := by
                              rcases thn_some hq with ⟨e, h1, h3⟩ | ⟨us, k2, h1, h3⟩
                              · exact ⟨_, h1, by rw [← happ, h3]; rfl⟩
                              · cases h3
                                exact ⟨_, h1, by rw [← happ]; simp [Rs.app2]⟩
                            rw [e44]
                            exact loop_back (a', -1, out ++ [t], g, v, true) (by simp [setAll]) ⟨q2, by simp; omega, hfo, .inl ⟨rfl, rfl, by simp; omega, hlt, by show g ≤ f; omega, hv, hva⟩⟩ (by show g + 1 < g + 1 + 1; omega)
                          | false =>
                            rw [hsg] at hq e44
                            simp only [Bool.false_eq_true, if_false, Option.some.injEq] at hq
                            rw [e44]
                            exact loop_back (a', -1, out ++ [t], 0, q, false) (by simp [setAll]) ⟨q2, by simp; omega, hfo, .inr ⟨rfl, .inl ⟨rfl, by rw [← happ, ← hq]; rfl⟩⟩⟩ (by show 0 < g + 1 + 1; omega)
                    · rw [hmore] at hmf; cases hmf
                  · rcases hst with ⟨hmt, _⟩ | ⟨_, hst⟩
                    · rw [hmore] at hmt; cases hmt
                    · subst hmore
                      refine call_mv (skip_mv s hs p b2 (by omega) 41) hp h2 hi (by simp [Ob.re, C.re]) rfl (hf1 _ _) ?_
                      simp -implicitDefEqProofs [ro_len, hfr, hf1, go_sem, -List.set_cons_succ, -List.set_cons_zero]
                      have hrw : (Tm.mk 3 0 n out).row.map C.d = [C.d (.int .i64 3), C.d (.int .i64 0), C.d (.str n), C.d (.sl (out.map Tm.row))] := by simp [row_mk]
                      rw [← hrw]
                      have hof2 : (Tm.mk 3 0 n out).fits := fits_st n3 (by omega) hof
                      rcases hst with ⟨rfl, hRo⟩ | ⟨e, rfl, hRe⟩
                      · subst hRo
                        rw [thn_ok] at hr
                        exact skip_rq (t := .mk 3 0 n out) hr hof2 hpl
                      · subst hRe
                        cases hr
                        rw [nxt_bad, if_neg (by decide), if_neg (by decide), if_neg (by omega)]
                        exact rq_bad (t := .mk 3 0 n out) hof2 hpl
    case stopP =>
      intro hn hr
      cases hr
      rw [hn]
      simp -implicitDefEqProofs [ro_get hi, ro_len, Ref.re, go_sem, -List.set_cons_succ, -List.set_cons_zero]
      refine call_mv (stop_mv s a (-1) a) hp h2 hi (by simp [Ob.re, C.re]) (zeroA_re _) (hf1 _ _) ?_
      simp -implicitDefEqProofs [zeroA, ro_len, row_len, take_row, drop_row, pure_d, re_d, thaw_d, fits_map, hfr, hf1, go_sem, -List.set_cons_succ, -List.set_cons_zero]
      exact rq_bad zf ha
end
/-- the program's reader does what it is said to do -/
theorem prd (s : List UInt8) (hs : s.length ≤ 1000000) : ∀ f, Prd s f := by
  intro f
  induction f using Nat.strongRecOn with
  | ind f ih =>
    cases f with
    | zero => exact ⟨fun _ _ _ _ _ _ _ h => (by cases h), fun _ _ _ _ _ h => (by cases h)⟩
    | succ f =>
      have h : ∀ g, g ≤ f → Prd s g := fun g hg => ih g (by omega)
      exact ⟨fun l d a r ha hl hd hr => term_of hs h l d a r ha hl hd hr, fun d a r ha hd hr => prime_of hs h d a r ha hd hr⟩
end Go.Proofs.YtgfmlifkhpjplaaGreatDoor

/-
  Names and operators as the reference reads them.
  Conditions: none.
-/
open Go Go.AM Go.Proofs
namespace Go.Proofs.YtgfmlifkhpjplaaGreatDoor
open Go.ChangeShapes Go.WideShapes Go.ChangeAt Go.RowKit
set_option linter.unusedVariables false
set_option linter.unusedSimpArgs false
set_option maxRecDepth 100000
-- 82 loop.example/prologserver/spec.l1Name params 2 ntmps 77
-- loop head live: [0,1,6]
-- loop head live: [0,1,7,8,9]
def ac82 : Cd := .seq (.region [⟨(some 4),.mv (.k (.c (.d (.str [])))),none⟩,
 ⟨(some 5),.mv (.k (.c (.d (.int .i64 0)))),none⟩] [4,5])
 (.seq (.region [⟨(some 11),.mv (.t 1),none⟩,
 ⟨(some 6),.mv (.t 11),none⟩] [11])
 (.seq (.block 0 (.loop (.seq (.seq (.region [⟨(some 12),.mv (.t 0),none⟩,
 ⟨(some 13),.mv (.t 6),none⟩,
 ⟨(some 14),.qcall 107 [(.t 12),(.t 13)],none⟩] [12,13])
 (.cond (.t 14)
 (.skip)
 (.exit 0)))
 (.block 1 (.region [⟨(some 15),.mv (.t 6),none⟩,
 ⟨(some 16),.bin .add (.t 15) (.k (.c (.d (.int .i64 1)))),none⟩,
 ⟨(some 6),.mv (.t 16),none⟩] [14,15,16])))))
 (.seq (.seq (.region [⟨(some 17),.mv (.t 6),none⟩,
 ⟨(some 18),.mv (.t 1),none⟩,
 ⟨(some 19),.bin .add (.t 18) (.k (.c (.d (.int .i64 6)))),none⟩,
 ⟨(some 20),.bin .gtr (.t 17) (.t 19),none⟩] [17,18,19])
 (.cond (.t 20)
 (.seq (.region [⟨(some 4),.mv (.k (.c (.d (.str [])))),none⟩,
 ⟨(some 5),.mv (.k (.c (.d (.int .i64 (-1))))),none⟩] [0,1,6,20])
 (.ret))
 (.skip)))
 (.seq (.seq (.region [⟨(some 21),.mv (.t 6),none⟩,
 ⟨(some 22),.mv (.t 1),none⟩,
 ⟨(some 23),.bin .gtr (.t 21) (.t 22),none⟩] [4,5,20,21,22])
 (.cond (.t 23)
 (.seq (.region [⟨(some 24),.mv (.t 0),none⟩,
 ⟨(some 25),.mv (.t 1),none⟩,
 ⟨(some 26),.mv (.t 6),none⟩,
 ⟨(some 27),.slice 0 (.t 24) (some (.t 25)) (some (.t 26)) none,none⟩,
 ⟨(some 28),.mv (.t 6),none⟩,
 ⟨(some 4),.mv (.t 27),none⟩,
 ⟨(some 5),.mv (.t 28),none⟩] [0,1,6,23,24,25,26,27,28])
 (.ret))
 (.skip)))
 (.seq (.region [⟨(some 7),.mv (.k (.c (.d (.str [])))),none⟩] [4,5,6,23])
 (.seq (.region [⟨(some 29),.qcall 108 [],none⟩,
 ⟨(some 8),.mv (.t 29),none⟩] [29])
 (.seq (.seq (.region [⟨(some 9),.mv (.k (.c (.d (.int .i64 0)))),none⟩] [])
 (.block 2 (.loop (.seq (.seq (.region [⟨(some 30),.mv (.t 9),none⟩,
 ⟨(some 31),.mv (.t 8),none⟩,
 ⟨(some 32),.len 1 (.t 31),none⟩,
 ⟨(some 33),.bin .lss (.t 30) (.t 32),none⟩] [30,31,32])
 (.cond (.t 33)
 (.skip)
 (.exit 2)))
 (.seq (.block 3 (.seq (.region [⟨(some 36),.mv (.t 8),none⟩,
 ⟨(some 37),.mv (.t 9),none⟩,
 ⟨(some 38),.indexAddr 1 (.t 36) (.t 37),none⟩,
 ⟨(some 39),.load none (.t 38),none⟩,
 ⟨(some 40),.len 0 (.t 39),none⟩,
 ⟨(some 10),.mv (.t 40),none⟩] [33,36,37,38,39,40])
 (.seq (.region [⟨(some 41),.mv (.t 1),none⟩,
 ⟨(some 42),.mv (.t 10),none⟩,
 ⟨(some 43),.bin .add (.t 41) (.t 42),none⟩,
 ⟨(some 44),.mv (.t 0),none⟩,
 ⟨(some 45),.len 0 (.t 44),none⟩,
 ⟨(some 46),.bin .leq (.t 43) (.t 45),none⟩,
 ⟨(some 47),.mv (.t 46),none⟩,
 ⟨(some 48),.mv (.t 0),some (47,true)⟩,
 ⟨(some 49),.mv (.t 1),some (47,true)⟩,
 ⟨(some 50),.mv (.t 1),some (47,true)⟩,
 ⟨(some 51),.mv (.t 10),some (47,true)⟩,
 ⟨(some 52),.bin .add (.t 50) (.t 51),some (47,true)⟩,
 ⟨(some 53),.slice 0 (.t 48) (some (.t 49)) (some (.t 52)) none,some (47,true)⟩,
 ⟨(some 54),.mv (.t 8),some (47,true)⟩,
 ⟨(some 55),.mv (.t 9),some (47,true)⟩,
 ⟨(some 56),.indexAddr 1 (.t 54) (.t 55),some (47,true)⟩,
 ⟨(some 57),.load none (.t 56),some (47,true)⟩,
 ⟨(some 58),.bin .eql (.t 53) (.t 57),some (47,true)⟩,
 ⟨(some 59),.pick (.t 47) (.t 58) (.k (.c (.d (.bool false)))),none⟩,
 ⟨(some 60),.mv (.t 59),none⟩,
 ⟨(some 61),.mv (.t 10),some (60,true)⟩,
 ⟨(some 62),.mv (.t 7),some (60,true)⟩,
 ⟨(some 63),.len 0 (.t 62),some (60,true)⟩,
 ⟨(some 64),.bin .gtr (.t 61) (.t 63),some (60,true)⟩,
 ⟨(some 65),.pick (.t 60) (.t 64) (.k (.c (.d (.bool false)))),none⟩] [10,41,42,43,44,45,46,47,48,49,50,51,52,53,54,55,56,57,58,59,60,61,62,63,64])
 (.cond (.t 65)
 (.region [⟨(some 66),.mv (.t 8),none⟩,
 ⟨(some 67),.mv (.t 9),none⟩,
 ⟨(some 68),.indexAddr 1 (.t 66) (.t 67),none⟩,
 ⟨(some 69),.load none (.t 68),none⟩,
 ⟨(some 7),.mv (.t 69),none⟩] [65,66,67,68,69])
 (.skip)))))
 (.region [⟨(some 34),.mv (.t 9),none⟩,
 ⟨(some 35),.bin .add (.t 34) (.k (.c (.d (.int .i64 1)))),none⟩,
 ⟨(some 9),.mv (.t 35),none⟩] [34,35,65]))))))
 (.seq (.seq (.region [⟨(some 70),.mv (.t 7),none⟩,
 ⟨(some 71),.bin .eql (.t 70) (.k (.c (.d (.str [])))),none⟩] [70])
 (.cond (.t 71)
 (.seq (.region [⟨(some 4),.mv (.k (.c (.d (.str [])))),none⟩,
 ⟨(some 5),.mv (.k (.c (.d (.int .i64 (-1))))),none⟩] [1,7,71])
 (.ret))
 (.skip)))
 (.seq (.region [⟨(some 72),.mv (.t 7),none⟩,
 ⟨(some 73),.mv (.t 1),none⟩,
 ⟨(some 74),.mv (.t 7),none⟩,
 ⟨(some 75),.len 0 (.t 74),none⟩,
 ⟨(some 76),.bin .add (.t 73) (.t 75),none⟩,
 ⟨(some 4),.mv (.t 72),none⟩,
 ⟨(some 5),.mv (.t 76),none⟩] [1,7,71,72,73,74,75,76])
 (.ret))))))))))
theorem ac82_ok : cFunc Tryz.prog [1000107,1000108] [(0,[4,5],[]),(1,[11],[]),(2,[12,13],[]),(3,[14,15,16],[]),(4,[17,18,19],[]),(5,[0,1,6,20],[]),(6,[4,5,20,21,22],[]),(7,[0,1,6,23,24,25,26,27,28],[]),(8,[4,5,6,23],[]),(9,[29],[]),(10,[],[]),(11,[30,31,32],[]),(13,[33,36,37,38,39,40],[]),(14,[10,41,42,43,44,45,46,47,48,49,50,51,52,53,54,55,56,57,58,59,60,61,62,63,64],[0,1,2,3,4,5,6,7,8,9,10,11,12,13,14,15,16,17,18,19,20,21,22,23,24]),(15,[65,66,67,68,69],[]),(12,[34,35,65],[]),(16,[70],[]),(17,[1,7,71],[]),(18,[1,7,71,72,73,74,75,76],[])] Tryz.f82 = some (ac82,[.tmp 4,.tmp 5],77) := by kernel_rfl
-- 46 loop.example/prologserver/spec.l2Op params 2 ntmps 61
def ac46 : Cd := .seq (.region [⟨(some 4),.mv (.k (.c (.d (.str [])))),none⟩,
 ⟨(some 5),.mv (.k (.c (.d (.int .i64 0)))),none⟩] [4,5])
 (.seq (.region [⟨(some 10),.mv (.t 1),none⟩,
 ⟨(some 6),.mv (.t 10),none⟩] [10])
 (.seq (.seq (.region [⟨(some 11),.mv (.t 0),none⟩,
 ⟨(some 12),.mv (.t 1),none⟩,
 ⟨(some 13),.qcall 77 [(.t 11),(.t 12),(.k (.c (.d (.int .u8 32))))],none⟩] [11,12])
 (.cond (.t 13)
 (.region [⟨(some 14),.mv (.t 1),none⟩,
 ⟨(some 15),.bin .add (.t 14) (.k (.c (.d (.int .i64 1)))),none⟩,
 ⟨(some 6),.mv (.t 15),none⟩] [13,14,15])
 (.skip)))
 (.seq (.seq (.region [⟨(some 16),.mv (.t 6),none⟩,
 ⟨(some 17),.mv (.t 0),none⟩,
 ⟨(some 18),.len 0 (.t 17),none⟩,
 ⟨(some 19),.bin .geq (.t 16) (.t 18),none⟩] [13,16,17,18])
 (.cond (.t 19)
 (.seq (.region [⟨(some 20),.mv (.t 1),none⟩,
 ⟨(some 4),.mv (.k (.c (.d (.str [])))),none⟩,
 ⟨(some 5),.mv (.t 20),none⟩] [0,1,6,19,20])
 (.ret))
 (.skip)))
 (.seq (.region [⟨(some 22),.mv (.t 0),none⟩,
 ⟨(some 23),.mv (.t 6),none⟩,
 ⟨(some 24),.qcall 82 [(.t 22),(.t 23)],none⟩,
 ⟨(some 21),.mv (.t 24),none⟩,
 ⟨(some 25),.extract 0 (.t 21),none⟩,
 ⟨(some 26),.extract 1 (.t 21),none⟩,
 ⟨(some 7),.mv (.t 25),none⟩,
 ⟨(some 8),.mv (.t 26),none⟩] [4,5,19,21,22,23,24,25,26])
 (.seq (.seq (.region [⟨(some 27),.mv (.t 8),none⟩,
 ⟨(some 28),.bin .lss (.t 27) (.k (.c (.d (.int .i64 0)))),none⟩,
 ⟨(some 29),.mv (.t 28),none⟩,
 ⟨(some 30),.mv (.t 7),some (29,false)⟩,
 ⟨(some 31),.qcall 47 [(.t 30)],some (29,false)⟩,
 ⟨(some 32),.bin .eql (.t 31) (.k (.c (.d (.int .i64 0)))),some (29,false)⟩,
 ⟨(some 33),.pick (.t 29) (.k (.c (.d (.bool true)))) (.t 32),none⟩] [27,28,29,30,31,32])
 (.cond (.t 33)
 (.seq (.region [⟨(some 34),.mv (.t 1),none⟩,
 ⟨(some 4),.mv (.k (.c (.d (.str [])))),none⟩,
 ⟨(some 5),.mv (.t 34),none⟩] [0,1,6,7,8,33,34])
 (.ret))
 (.skip)))
 (.seq (.region [⟨(some 35),.mv (.t 7),none⟩,
 ⟨(some 36),.bin .eql (.t 35) (.k (.c (.d (.str [105,115])))),none⟩,
 ⟨(some 37),.mv (.t 36),none⟩,
 ⟨(some 38),.mv (.t 7),some (37,false)⟩,
 ⟨(some 39),.bin .eql (.t 38) (.k (.c (.d (.str [109,111,100])))),some (37,false)⟩,
 ⟨(some 40),.pick (.t 37) (.k (.c (.d (.bool true)))) (.t 39),none⟩,
 ⟨(some 9),.mv (.t 40),none⟩] [4,5,33,35,36,37,38,39,40])
 (.seq (.seq (.region [⟨(some 41),.mv (.t 9),none⟩,
 ⟨(some 42),.mv (.t 6),none⟩,
 ⟨(some 43),.mv (.t 1),none⟩,
 ⟨(some 44),.bin .gtr (.t 42) (.t 43),none⟩,
 ⟨(some 45),.binB true (.t 41) (.t 44),none⟩,
 ⟨(some 46),.mv (.t 45),none⟩,
 ⟨(some 47),.mv (.t 9),some (46,false)⟩,
 ⟨(some 48),.mv (.t 47),some (46,false)⟩,
 ⟨(some 49),.mv (.t 0),some (48,true)⟩,
 ⟨(some 50),.mv (.t 8),some (48,true)⟩,
 ⟨(some 51),.qcall 77 [(.t 49),(.t 50),(.k (.c (.d (.int .u8 32))))],some (48,true)⟩,
 ⟨(some 52),.un .not (.t 51),some (48,true)⟩,
 ⟨(some 53),.pick (.t 48) (.t 52) (.k (.c (.d (.bool false)))),some (46,false)⟩,
 ⟨(some 54),.pick (.t 46) (.k (.c (.d (.bool true)))) (.t 53),none⟩] [0,6,41,42,43,44,45,46,47,48,49,50,51,52,53])
 (.cond (.t 54)
 (.seq (.region [⟨(some 55),.mv (.t 1),none⟩,
 ⟨(some 4),.mv (.k (.c (.d (.str [])))),none⟩,
 ⟨(some 5),.mv (.t 55),none⟩] [1,7,8,9,54,55])
 (.ret))
 (.skip)))
 (.seq (.seq (.region [⟨(some 56),.mv (.t 9),none⟩] [1,4,5,9,54])
 (.cond (.t 56)
 (.region [⟨(some 57),.mv (.t 8),none⟩,
 ⟨(some 58),.bin .add (.t 57) (.k (.c (.d (.int .i64 1)))),none⟩,
 ⟨(some 8),.mv (.t 58),none⟩] [56,57,58])
 (.skip)))
 (.seq (.region [⟨(some 59),.mv (.t 7),none⟩,
 ⟨(some 60),.mv (.t 8),none⟩,
 ⟨(some 4),.mv (.t 59),none⟩,
 ⟨(some 5),.mv (.t 60),none⟩] [7,8,56,59,60])
 (.ret))))))))))
theorem ac46_ok : cFunc Tryz.prog [1000047,1000077,1000082] [(0,[4,5],[]),(1,[10],[]),(2,[11,12],[]),(3,[13,14,15],[]),(4,[13,16,17,18],[]),(5,[0,1,6,19,20],[]),(6,[4,5,19,21,22,23,24,25,26],[]),(7,[27,28,29,30,31,32],[]),(8,[0,1,6,7,8,33,34],[]),(9,[4,5,33,35,36,37,38,39,40],[]),(10,[0,6,41,42,43,44,45,46,47,48,49,50,51,52,53],[]),(11,[1,7,8,9,54,55],[]),(12,[1,4,5,9,54],[]),(13,[56,57,58],[]),(14,[7,8,56,59,60],[])] Tryz.f46 = some (ac46,[.tmp 4,.tmp 5],61) := by kernel_rfl
def nameA : Option (List UInt8 × Nat) → A
  | some (n, j) => .tup [.c (.d (.str n)), .c (.d (.int .i64 j))]
  | none => .tup [.c (.d (.str [])), .c (.d (.int .i64 (-1)))]
set_option maxHeartbeats 1600000 in
theorem name_calls (s : List UInt8) (hs : s.length ≤ 1000000) (i : Nat) (hi : i ≤ s.length) (H : Heap) : ACalls Tryz.prog 82 [.c (.d (.str s)), .c (.d (.int .i64 i))] H (fun r H' => H' = H ∧ r = nameA (nameR s i)) := by
  refine acalls Tryz.func82 (by kernel_rfl) ac82_ok fun hf => ?_
  have hli : inR .i64 (s.length : Int) := small_i64 (by omega) (by omega)
  simp -implicitDefEqProofs [ac82, go_sem, -List.set_cons_succ, -List.set_cons_zero]
  refine loop_set (σ := Nat) (fun k => [(6, .c (.d (.int .i64 ((i + k : Nat) : Int))))]) (fun _ => H) (fun _ => []) (fun k => i + k ≤ s.length ∧ ∀ m, m < k → smaAt s (i + m) = true) (fun k => s.length - (i + k)) 0 (by simp [setAll]) ⟨by omega, by simp⟩ ?_
  rintro k ⟨hkl, hkd⟩
  have hk1 : inR .i64 ((i : Int) + (k : Int) + 1) := small_i64 (by omega) (by omega)
  simp -implicitDefEqProofs [setAll, go_sem, -List.set_cons_succ, -List.set_cons_zero]
  have cd := small_calls s hs (i + k) (by omega)
  simp only [Int.natCast_add] at cd
  refine qcall_pure cd hf rfl ?_
  cases hsm : smaAt s (i + k) with
  | true =>
    have hlt := sma_lt _ hsm
    simp -implicitDefEqProofs [hk1, go_sem, -List.set_cons_succ, -List.set_cons_zero]
    exact loop_back (k + 1) (by simp [setAll, Int.add_assoc]) ⟨by omega, fun m hm => by
      rcases Nat.lt_or_ge m k with h | h
      · exact hkd m h
      · obtain rfl : m = k := by omega
        exact hsm⟩ (by show s.length - (i + (k + 1)) < s.length - (i + k); omega)
  | false =>
    have he : runE smaAt s s.length i = i + k := runE_stop s.length i k (by omega) hkd (.inr hsm)
    have hi6 : inR .i64 ((i : Int) + 6) := small_i64 (by omega) (by omega)
    unfold nameR
    rw [he]
    by_cases h6 : i + 6 < i + k
    · have h6' : (i : Int) + 6 < (i : Int) + k := by omega
      simp -implicitDefEqProofs [hi6, h6, h6', nameA, go_sem, -List.set_cons_succ, -List.set_cons_zero]
    · have h6' : ¬ (i : Int) + 6 < (i : Int) + k := by omega
      rw [if_neg h6]
      by_cases h0 : i < i + k
      · have h0' : (i : Int) < (i : Int) + k := by omega
        rw [if_pos h0]
        simp -implicitDefEqProofs [hi6, h6', h0', nameA, go_sem, -List.set_cons_succ, -List.set_cons_zero]
        have hnat : ((i : Int) + (k : Int)).toNat = i + k := by omega
        rw [hnat]
        exact ⟨by omega, rfl⟩
      · obtain rfl : k = 0 := by omega
        rw [if_neg h0]
        have h6n : ¬ (i : Int) + 6 < (i : Int) := by omega
        simp -implicitDefEqProofs [hi6, h6n, go_sem, -List.set_cons_succ, -List.set_cons_zero]
        refine qcall_pure l1Signs_calls hf rfl ?_
        simp -implicitDefEqProofs [go_sem, -List.set_cons_succ, -List.set_cons_zero]
        obtain ⟨G, hG⟩ : ∃ G, G = bestS s i signs [] := ⟨_, rfl⟩
        rw [← hG]
        have hsl : signs.length = 15 := rfl
        have hs15 : inR .i64 (15 : Int) := small_i64 (by omega) (by omega)
        refine loop_set (σ := Nat × List UInt8) (fun x => [(9, .c (.d (.int .i64 x.1))), (7, .c (.d (.str x.2)))]) (fun _ => H) (fun _ => []) (fun x => x.1 ≤ 15 ∧ bestS s i (signs.drop x.1) x.2 = G ∧ x.2.length ≤ 3) (fun x => 15 - x.1) (0, []) (by simp [setAll]) ⟨by omega, by rw [hG]; rfl, by simp⟩ ?_
        rintro ⟨j, b⟩ ⟨hj, h1, h2⟩
        simp only at hj h1 h2
        simp -implicitDefEqProofs [setAll, hsl, hs15, go_sem, -List.set_cons_succ, -List.set_cons_zero]
        refine ⟨fun hlt => ?_, fun hge => ?_⟩
        · have hlt' : j < signs.length := by rw [hsl]; omega
          have hd : signs.drop j = signs[j] :: signs.drop (j + 1) := List.drop_eq_getElem_cons hlt'
          rw [hd, bestS] at h1
          have h3 : signs[j].length ≤ 3 := by
            have : ∀ n ∈ signs, n.length ≤ 3 := by decide
            exact this _ (List.getElem_mem hlt')
          have hrow : (signs.map strRow)[j]? = some [.str signs[j]] := by simp [hlt', strRow]
          obtain ⟨w, hw⟩ : ∃ w, w = signs[j] := ⟨_, rfl⟩
          rw [← hw] at h1 h3 hrow
          have hwl : inR .i64 (w.length : Int) := small_i64 (by omega) (by omega)
          have hbl : inR .i64 (b.length : Int) := small_i64 (by omega) (by omega)
          have hiw : inR .i64 ((i : Int) + (w.length : Int)) := small_i64 (by omega) (by omega)
          have hadd : inR .i64 ((j : Int) + 1) := small_i64 (by omega) (by omega)
          have hnat : ((i : Int) + (w.length : Int)).toNat = i + w.length := by omega
          have hcut : (s.take (i + w.length)).drop i = cutS s i (i + w.length) := rfl
          refine row_nat _ hrow rfl ?_
          by_cases hle : i + w.length ≤ s.length
          · have hle' : (i : Int) + (w.length : Int) ≤ (s.length : Int) := by omega
            simp -implicitDefEqProofs [hwl, hiw, hli, hnat, hcut, hle', go_sem, -List.set_cons_succ, -List.set_cons_zero]
            refine ⟨by omega, row_nat _ hrow rfl ?_⟩
            cases heq : cutS s i (i + w.length) == w with
            | true =>
              by_cases hbw : b.length < w.length
              · have hbw' : (b.length : Int) < (w.length : Int) := by omega
                simp only [hle, hbw, heq, decide_true, Bool.and_self, if_true] at h1
                simp -implicitDefEqProofs [hbl, hbw', heq, go_sem, -List.set_cons_succ, -List.set_cons_zero]
                refine row_nat _ hrow rfl ?_
                simp -implicitDefEqProofs [hadd, go_sem, -List.set_cons_succ, -List.set_cons_zero]
                exact loop_back (j + 1, w) (by simp [setAll]) ⟨by omega, h1, h3⟩ (by show 15 - (j + 1) < 15 - j; omega)
              · have hbw' : ¬ (b.length : Int) < (w.length : Int) := by omega
                simp only [hle, hbw, heq, decide_true, decide_false, Bool.and_false, Bool.false_eq_true, if_false] at h1
                simp -implicitDefEqProofs [hbl, hbw', heq, hadd, go_sem, -List.set_cons_succ, -List.set_cons_zero]
                exact loop_back (j + 1, b) (by simp [setAll]) ⟨by omega, h1, h2⟩ (by show 15 - (j + 1) < 15 - j; omega)
            | false =>
              simp only [heq, Bool.and_false, Bool.false_and, Bool.false_eq_true, if_false] at h1
              simp -implicitDefEqProofs [hbl, heq, hadd, go_sem, -List.set_cons_succ, -List.set_cons_zero]
              exact loop_back (j + 1, b) (by simp [setAll]) ⟨by omega, h1, h2⟩ (by show 15 - (j + 1) < 15 - j; omega)
          · have hle' : ¬ (i : Int) + (w.length : Int) ≤ (s.length : Int) := by omega
            simp only [hle, decide_false, Bool.false_and, Bool.false_eq_true, if_false] at h1
            simp -implicitDefEqProofs [hwl, hiw, hli, hnat, hcut, hle', go_sem, -List.set_cons_succ, -List.set_cons_zero]
            refine row_off [.str []] ?_
            simp -implicitDefEqProofs [hbl, hadd, go_sem, -List.set_cons_succ, -List.set_cons_zero]
            exact loop_back (j + 1, b) (by simp [setAll]) ⟨by omega, h1, h2⟩ (by show 15 - (j + 1) < 15 - j; omega)
        · obtain rfl : j = 15 := by omega
          have h15 : signs.drop 15 = [] := rfl
          rw [h15, bestS] at h1
          subst h1
          have hbl : inR .i64 (b.length : Int) := small_i64 (by omega) (by omega)
          have hib : inR .i64 ((i : Int) + (b.length : Int)) := small_i64 (by omega) (by omega)
          cases hb : b with
          | nil => simp -implicitDefEqProofs [hb, nameA, go_sem, -List.set_cons_succ, -List.set_cons_zero]
          | cons c r =>
            rw [hb] at hbl hib
            simp at hbl hib
            simp -implicitDefEqProofs [hb, nameA, hbl, hib, go_sem, -List.set_cons_succ, -List.set_cons_zero]
/-- what an operator is told by -/
def opA (i : Nat) : Option (List UInt8 × Nat) → A
  | some (n, j) => .tup [.c (.d (.str n)), .c (.d (.int .i64 j))]
  | none => .tup [.c (.d (.str [])), .c (.d (.int .i64 i))]
set_option maxHeartbeats 1600000 in
theorem op_calls (s : List UInt8) (hs : s.length ≤ 1000000) (i : Nat) (hi : i ≤ s.length) (H : Heap) : ACalls Tryz.prog 46 [.c (.d (.str s)), .c (.d (.int .i64 i))] H (fun r H' => H' = H ∧ r = opA i (opR s i)) := by
  refine acalls Tryz.func46 (by kernel_rfl) ac46_ok fun hf => ?_
  have hli : inR .i64 (s.length : Int) := small_i64 (by omega) (by omega)
  have hi1 : inR .i64 ((i : Int) + 1) := small_i64 (by omega) (by omega)
  simp -implicitDefEqProofs [ac46, go_sem, -List.set_cons_succ, -List.set_cons_zero]
  refine qcall_pure (sign_calls s hs i (by omega) 32) hf rfl ?_
  unfold opR
  cases hsg : sgn s i 32 with
  | true =>
    have hlt := sgn_lt hsg
    simp -implicitDefEqProofs [hi1, hli, go_sem, -List.set_cons_succ, -List.set_cons_zero]
    refine ⟨fun h => ?_, fun h => ?_⟩
    · have h' : s.length ≤ i + 1 := by omega
      simp -implicitDefEqProofs [h', opA, go_sem, -List.set_cons_succ, -List.set_cons_zero]
    have hP : ¬ s.length ≤ i + 1 := by omega
    have cn := name_calls s hs (i + 1) (by omega)
    try simp only [Int.natCast_add, Int.cast_ofNat_Int] at cn
    rw [if_neg hP]
    cases hn : nameR s (i + 1) with
    | none =>
      rw [hn] at cn
      refine qcall_pure cn hf rfl ?_
      simp -implicitDefEqProofs [nameA, opA, go_sem, -List.set_cons_succ, -List.set_cons_zero]
    | some q =>
      obtain ⟨w, j⟩ := q
      rw [hn] at cn
      have ho := nameR_ok (by omega) hn
      have hj1 : inR .i64 ((j : Int) + 1) := small_i64 (by omega) (by omega)
      have hj0 : ¬ (j : Int) < 0 := by omega
      refine qcall_pure cn hf rfl ?_
      simp -implicitDefEqProofs [nameA, hj0, go_sem, -List.set_cons_succ, -List.set_cons_zero]
      refine qcall_pure (level_calls w) hf rfl ?_
      by_cases hl : levelN w = 0
      · simp -implicitDefEqProofs [hl, opA, go_sem, -List.set_cons_succ, -List.set_cons_zero]
      · have hl' : (levelN w == 0) = false := by simp [hl]
        have hii : (i : Int) < (i : Int) + 1 := by omega
        have cs := sign_calls s hs j (by omega) 32
        by_cases e1 : w = [105, 115]
        · subst e1
          have hwb : wordB [105, 115] = true := rfl
          simp -implicitDefEqProofs [hl, hl', hii, hwb, go_sem, -List.set_cons_succ, -List.set_cons_zero]
          refine qcall_pure cs hf rfl ?_
          cases hs2 : sgn s j 32 <;> simp -implicitDefEqProofs [opA, hj1, hf, go_sem, -List.set_cons_succ, -List.set_cons_zero]
        · by_cases e2 : w = [109, 111, 100]
          · subst e2
            have hwb : wordB [109, 111, 100] = true := rfl
            simp -implicitDefEqProofs [hl, hl', hii, hwb, go_sem, -List.set_cons_succ, -List.set_cons_zero]
            refine qcall_pure cs hf rfl ?_
            cases hs2 : sgn s j 32 <;> simp -implicitDefEqProofs [opA, hj1, hf, go_sem, -List.set_cons_succ, -List.set_cons_zero]
          · have hwb : wordB w = false := by simp [wordB, e1, e2]
            have e1' : (w == [105, 115]) = false := by simp [e1]
            have e2' : (w == [109, 111, 100]) = false := by simp [e2]
            simp -implicitDefEqProofs [hl, hl', hii, hwb, e1, e2, e1', e2', opA, hf, go_sem, -List.set_cons_succ, -List.set_cons_zero]
  | false =>
    simp -implicitDefEqProofs [hi1, hli, go_sem, -List.set_cons_succ, -List.set_cons_zero]
    refine ⟨fun h => ?_, fun h => ?_⟩
    · have h' : s.length ≤ i := by omega
      simp -implicitDefEqProofs [h', opA, go_sem, -List.set_cons_succ, -List.set_cons_zero]
    have hP : ¬ s.length ≤ i := by omega
    have cn := name_calls s hs (i) (by omega)
    try simp only [Int.natCast_add, Int.cast_ofNat_Int] at cn
    rw [if_neg hP]
    cases hn : nameR s (i) with
    | none =>
      rw [hn] at cn
      refine qcall_pure cn hf rfl ?_
      simp -implicitDefEqProofs [nameA, opA, go_sem, -List.set_cons_succ, -List.set_cons_zero]
    | some q =>
      obtain ⟨w, j⟩ := q
      rw [hn] at cn
      have ho := nameR_ok (by omega) hn
      have hj1 : inR .i64 ((j : Int) + 1) := small_i64 (by omega) (by omega)
      have hj0 : ¬ (j : Int) < 0 := by omega
      refine qcall_pure cn hf rfl ?_
      simp -implicitDefEqProofs [nameA, hj0, go_sem, -List.set_cons_succ, -List.set_cons_zero]
      refine qcall_pure (level_calls w) hf rfl ?_
      by_cases hl : levelN w = 0
      · simp -implicitDefEqProofs [hl, opA, go_sem, -List.set_cons_succ, -List.set_cons_zero]
      · have hl' : (levelN w == 0) = false := by simp [hl]
        have hii : (i : Int) < (i : Int) + 1 := by omega
        have cs := sign_calls s hs j (by omega) 32
        by_cases e1 : w = [105, 115]
        · subst e1
          have hwb : wordB [105, 115] = true := rfl
          simp -implicitDefEqProofs [hl, hl', hii, hwb, go_sem, -List.set_cons_succ, -List.set_cons_zero]
          simp -implicitDefEqProofs [opA, hf, go_sem, -List.set_cons_succ, -List.set_cons_zero]
        · by_cases e2 : w = [109, 111, 100]
          · subst e2
            have hwb : wordB [109, 111, 100] = true := rfl
            simp -implicitDefEqProofs [hl, hl', hii, hwb, go_sem, -List.set_cons_succ, -List.set_cons_zero]
            simp -implicitDefEqProofs [opA, hf, go_sem, -List.set_cons_succ, -List.set_cons_zero]
          · have hwb : wordB w = false := by simp [wordB, e1, e2]
            have e1' : (w == [105, 115]) = false := by simp [e1]
            have e2' : (w == [109, 111, 100]) = false := by simp [e2]
            simp -implicitDefEqProofs [hl, hl', hii, hwb, e1, e2, e1', e2', opA, hf, go_sem, -List.set_cons_succ, -List.set_cons_zero]
end Go.Proofs.YtgfmlifkhpjplaaGreatDoor
