/-
  Contracts of functions that the law reaches, and plain lemmas: several texts in one.
  Conditions: none.
-/
import Derived.Test.YtbblefjbgbocoaaDoorBundA
open Go Go.AM Go.Proofs
attribute [local go_sem] kw ew sw tw a_ b_ c_ A.ok A.val d_ e_ f_ g_ h_ i_ j_ k_ l_ m_ unA unD n_ AOp.total o_ p_ q_ r_ s_ t_ u_ v_ A.thaw C.thaw A.fits As.fits C.fits evs oks w_ A.pure C.pure A.re C.re x_ y_ cut A.cells C.rows? z_ A_ B_ C_ a0_ b0_ D_ Ob.re Cs.fits E_ F_ G_ H_ I_ J_ K_ L_ M_ N_ O_ C.toD P_ Q_ R_ S_ T_ Obs.fits U_ eqD V_ W_ X_ Y_ Z_
/-
  Instructions, read from texts: the reference.
  Conditions: none.
-/
open Go Go.AM Go.Proofs
namespace Go.Proofs.YtbblefjbgbocoaaDoor
open Go.ChangeShapes Go.WideShapes Go.ChangeAt Go.RowKit
set_option linter.unusedVariables false
set_option linter.unusedSimpArgs false
set_option maxRecDepth 100000
-- 10 loop.example/prologserver/spec.l8Int params 1 ntmps 18
def ac10 : Cd := .seq (.region [⟨(some 2),.mv (.k (.c (.d (.int .i64 0)))),none⟩] [2])
 (.seq (.region [⟨(some 3),.mv (.k (.c (.d (.int .i64 1)))),none⟩] [])
 (.seq (.seq (.region [⟨(some 6),.mv (.t 0),none⟩,
 ⟨(some 7),.qcall 17 [(.t 6),(.k (.c (.d (.int .i64 0)))),(.k (.c (.d (.int .u8 45))))],none⟩] [6])
 (.cond (.t 7)
 (.seq (.region [⟨(some 3),.mv (.k (.c (.d (.int .i64 (-1))))),none⟩] [7])
 (.region [⟨(some 8),.mv (.t 0),none⟩,
 ⟨(some 9),.slice 0 (.t 8) (some (.k (.c (.d (.int .i64 1))))) none none,none⟩,
 ⟨(some 0),.mv (.t 9),none⟩] [8,9]))
 (.skip)))
 (.seq (.region [⟨(some 11),.mv (.t 0),none⟩,
 ⟨(some 12),.call false 18 [(.t 11)],none⟩,
 ⟨(some 10),.mv (.t 12),none⟩,
 ⟨(some 13),.extract 0 (.t 10),none⟩,
 ⟨(some 14),.extract 1 (.t 10),none⟩,
 ⟨(some 4),.mv (.t 13),none⟩,
 ⟨(some 5),.mv (.t 14),none⟩] [0,5,7,10,11,12,13,14])
 (.seq (.region [⟨(some 15),.mv (.t 3),none⟩,
 ⟨(some 16),.mv (.t 4),none⟩,
 ⟨(some 17),.bin .mul (.t 15) (.t 16),none⟩,
 ⟨(some 2),.mv (.t 17),none⟩] [3,4,15,16,17])
 (.ret)))))
theorem ac10_ok : cFunc Tryd.prog [1000017] [(0,[2],[]),(1,[],[]),(2,[6],[]),(3,[7],[]),(4,[8,9],[]),(5,[0,5,7,10,11,12,13,14],[]),(6,[3,4,15,16,17],[])] Tryd.f10 = some (ac10,[.tmp 2],18) := by kernel_rfl
-- 4 loop.example/prologserver/spec.ParseInstr params 1 ntmps 86
-- loop head live: [0,2,4,5,6,7]
-- loop head live: [0,2,4,5,8,9]
def ac4 : Cd := .seq (.region [⟨(some 2),.alloc [(.d (.int .i64 0)),(.d (.int .i64 0)),(.d (.int .i64 0)),(.d (.str []))],none⟩,
 ⟨(some 3),.mv (.k (.c (.d (.bool false)))),none⟩] [3])
 (.seq (.region [⟨(some 10),.mv (.t 0),none⟩,
 ⟨(some 11),.qcall 7 [(.t 10),(.k (.c (.d (.int .u8 32))))],none⟩,
 ⟨(some 4),.mv (.t 11),none⟩] [10,11])
 (.seq (.region [⟨(some 12),.build [(.d (.int .i64 0)),(.d (.int .i64 0)),(.d (.int .i64 0)),(.d (.str []))] [],none⟩,
 ⟨(some 5),.alloc [(.d (.int .i64 0)),(.d (.int .i64 0)),(.d (.int .i64 0)),(.d (.str []))],none⟩,
 ⟨none,.store 4 (.t 5) (.t 12),none⟩] [12])
 (.seq (.region [⟨(some 13),.qcall 8 [],none⟩,
 ⟨(some 6),.mv (.t 13),none⟩] [13])
 (.seq (.seq (.region [⟨(some 7),.mv (.k (.c (.d (.int .i64 1)))),none⟩] [])
 (.block 0 (.loop (.seq (.seq (.region [⟨(some 14),.mv (.t 7),none⟩,
 ⟨(some 15),.mv (.t 6),none⟩,
 ⟨(some 16),.len 1 (.t 15),none⟩,
 ⟨(some 17),.bin .lss (.t 14) (.t 16),none⟩] [14,15,16])
 (.cond (.t 17)
 (.skip)
 (.exit 0)))
 (.seq (.block 1 (.seq (.region [⟨(some 20),.mv (.t 6),none⟩,
 ⟨(some 21),.mv (.t 7),none⟩,
 ⟨(some 22),.indexAddr 1 (.t 20) (.t 21),none⟩,
 ⟨(some 24),.mv (.t 4),none⟩,
 ⟨(some 25),.indexAddr 1 (.t 24) (.k (.c (.d (.int .i64 0)))),none⟩,
 ⟨(some 23),.load none (.t 22),none⟩,
 ⟨(some 26),.load none (.t 25),none⟩,
 ⟨(some 27),.bin .eql (.t 23) (.t 26),none⟩] [17,20,21,22,23,24,25,26])
 (.cond (.t 27)
 (.region [⟨(some 28),.mv (.t 7),none⟩,
 ⟨(some 29),.fieldAddr 0 (.t 5),none⟩,
 ⟨none,.store 1 (.t 29) (.t 28),none⟩] [27,28,29])
 (.skip))))
 (.region [⟨(some 18),.mv (.t 7),none⟩,
 ⟨(some 19),.bin .add (.t 18) (.k (.c (.d (.int .i64 1)))),none⟩,
 ⟨(some 7),.mv (.t 19),none⟩] [18,19,27]))))))
 (.seq (.region [⟨(some 30),.fieldAddr 0 (.t 5),none⟩,
 ⟨(some 31),.load none (.t 30),none⟩,
 ⟨(some 32),.qcall 9 [(.t 31)],none⟩,
 ⟨(some 8),.mv (.t 32),none⟩] [30,31,32])
 (.seq (.seq (.region [⟨(some 33),.mv (.t 4),none⟩,
 ⟨(some 34),.len 1 (.t 33),none⟩,
 ⟨(some 35),.mv (.t 8),none⟩,
 ⟨(some 36),.len 0 (.t 35),none⟩,
 ⟨(some 37),.bin .add (.t 36) (.k (.c (.d (.int .i64 1)))),none⟩,
 ⟨(some 38),.bin .neq (.t 34) (.t 37),none⟩,
 ⟨(some 39),.mv (.t 38),none⟩,
 ⟨(some 40),.mv (.t 0),some (39,false)⟩,
 ⟨(some 41),.len 0 (.t 40),some (39,false)⟩,
 ⟨(some 42),.bin .gtr (.t 41) (.k (.c (.d (.int .i64 60)))),some (39,false)⟩,
 ⟨(some 43),.pick (.t 39) (.k (.c (.d (.bool true)))) (.t 42),none⟩] [33,34,35,36,37,38,39,40,41,42])
 (.cond (.t 43)
 (.seq (.region [⟨(some 44),.build [(.d (.int .i64 0)),(.d (.int .i64 0)),(.d (.int .i64 0)),(.d (.str []))] [],none⟩,
 ⟨none,.store 4 (.t 2) (.t 44),none⟩,
 ⟨(some 3),.mv (.k (.c (.d (.bool false)))),none⟩] [0,4,5,8,43,44])
 (.ret))
 (.skip)))
 (.seq (.seq (.region [⟨(some 9),.mv (.k (.c (.d (.int .i64 0)))),none⟩] [3,43])
 (.block 2 (.loop (.seq (.seq (.region [⟨(some 45),.mv (.t 9),none⟩,
 ⟨(some 46),.mv (.t 8),none⟩,
 ⟨(some 47),.len 0 (.t 46),none⟩,
 ⟨(some 48),.bin .lss (.t 45) (.t 47),none⟩] [45,46,47])
 (.cond (.t 48)
 (.skip)
 (.exit 2)))
 (.seq (.block 3 (.seq (.region [⟨(some 51),.mv (.t 8),none⟩,
 ⟨(some 52),.mv (.t 9),none⟩,
 ⟨(some 53),.index (.t 51) (.t 52),none⟩] [48,51,52])
 (.block 4 (.seq (.region [⟨(some 55),.bin .eql (.t 53) (.k (.c (.d (.int .u8 97)))),none⟩,
 ⟨(some 54),.mv (.t 55),none⟩] [55])
 (.cond (.t 54)
 (.region [⟨(some 56),.mv (.t 4),none⟩,
 ⟨(some 57),.mv (.t 9),none⟩,
 ⟨(some 58),.bin .add (.t 57) (.k (.c (.d (.int .i64 1)))),none⟩,
 ⟨(some 59),.indexAddr 1 (.t 56) (.t 58),none⟩,
 ⟨(some 60),.load none (.t 59),none⟩,
 ⟨(some 61),.call false 10 [(.t 60)],none⟩,
 ⟨(some 62),.fieldAddr 1 (.t 5),none⟩,
 ⟨none,.store 1 (.t 62) (.t 61),none⟩] [53,54,56,57,58,59,60,61,62])
 (.seq (.region [⟨(some 64),.bin .eql (.t 53) (.k (.c (.d (.int .u8 98)))),none⟩,
 ⟨(some 63),.mv (.t 64),none⟩] [54,64])
 (.cond (.t 63)
 (.region [⟨(some 65),.mv (.t 4),none⟩,
 ⟨(some 66),.mv (.t 9),none⟩,
 ⟨(some 67),.bin .add (.t 66) (.k (.c (.d (.int .i64 1)))),none⟩,
 ⟨(some 68),.indexAddr 1 (.t 65) (.t 67),none⟩,
 ⟨(some 69),.load none (.t 68),none⟩,
 ⟨(some 70),.call false 10 [(.t 69)],none⟩,
 ⟨(some 71),.fieldAddr 2 (.t 5),none⟩,
 ⟨none,.store 1 (.t 71) (.t 70),none⟩] [53,63,65,66,67,68,69,70,71])
 (.seq (.region [⟨(some 73),.bin .eql (.t 53) (.k (.c (.d (.int .u8 110)))),none⟩,
 ⟨(some 72),.mv (.t 73),none⟩] [53,63,73])
 (.cond (.t 72)
 (.region [⟨(some 74),.mv (.t 4),none⟩,
 ⟨(some 75),.mv (.t 9),none⟩,
 ⟨(some 76),.bin .add (.t 75) (.k (.c (.d (.int .i64 1)))),none⟩,
 ⟨(some 77),.indexAddr 1 (.t 74) (.t 76),none⟩,
 ⟨(some 78),.load none (.t 77),none⟩,
 ⟨(some 79),.fieldAddr 3 (.t 5),none⟩,
 ⟨none,.store 1 (.t 79) (.t 78),none⟩] [72,74,75,76,77,78,79])
 (.skip))))))))))
 (.region [⟨(some 49),.mv (.t 9),none⟩,
 ⟨(some 50),.bin .add (.t 49) (.k (.c (.d (.int .i64 1)))),none⟩,
 ⟨(some 9),.mv (.t 50),none⟩] [49,50,72]))))))
 (.seq (.seq (.region [⟨(some 80),.load (some 4) (.t 5),none⟩,
 ⟨(some 81),.qcall 11 [(.t 80)],none⟩,
 ⟨(some 82),.mv (.t 0),none⟩,
 ⟨(some 83),.bin .neq (.t 81) (.t 82),none⟩] [0,80,81,82])
 (.cond (.t 83)
 (.seq (.region [⟨(some 84),.build [(.d (.int .i64 0)),(.d (.int .i64 0)),(.d (.int .i64 0)),(.d (.str []))] [],none⟩,
 ⟨none,.store 4 (.t 2) (.t 84),none⟩,
 ⟨(some 3),.mv (.k (.c (.d (.bool false)))),none⟩] [5,83,84])
 (.ret))
 (.skip)))
 (.seq (.region [⟨(some 85),.load (some 4) (.t 5),none⟩,
 ⟨none,.store 4 (.t 2) (.t 85),none⟩,
 ⟨(some 3),.mv (.k (.c (.d (.bool true)))),none⟩] [5,83,85])
 (.ret))))))))))
theorem ac4_ok : cFunc Tryd.prog [1000007,1000008,1000009,1000011] [(0,[3],[]),(1,[10,11],[]),(2,[12],[]),(3,[13],[]),(4,[],[]),(5,[14,15,16],[]),(7,[17,20,21,22,23,24,25,26],[0,1,2,4,5,3,6,7]),(8,[27,28,29],[]),(6,[18,19,27],[]),(9,[30,31,32],[]),(10,[33,34,35,36,37,38,39,40,41,42],[]),(11,[0,4,5,8,43,44],[]),(12,[3,43],[]),(13,[45,46,47],[]),(15,[48,51,52],[]),(16,[55],[]),(17,[53,54,56,57,58,59,60,61,62],[]),(18,[54,64],[]),(19,[53,63,65,66,67,68,69,70,71],[]),(20,[53,63,73],[]),(21,[72,74,75,76,77,78,79],[]),(14,[49,50,72],[]),(22,[0,80,81,82],[]),(23,[5,83,84],[]),(24,[5,83,85],[])] Tryd.f4 = some (ac4,[.cell 2 (some 4),.tmp 3],86) := by kernel_rfl
def p10 (i : Nat) : Nat := 10 ^ i
theorem p10_succ (i : Nat) : p10 (i + 1) = 10 * p10 i := by unfold p10; rw [Nat.pow_succ, Nat.mul_comm]
theorem p10_le {i : Nat} (h : i ≤ 17) : p10 i ≤ 100000000000000000 := Nat.pow_le_pow_right (n := 10) (by omega) h
def big17 : Int := 100000000000000000
def NumA (t : List UInt8) (r : A) : Prop := ∃ (n : Int) (b : Bool), r = .tup [.c (.d (.int .i64 n)), .c (.d (.bool b))] ∧ -big17 ≤ n ∧ n ≤ big17 ∧ (t.all digB = true → t.length ≤ 17 → n = if canB t then (numV t : Int) else 0)
theorem numV_le17 {t : List UInt8} (h : t.length ≤ 17) (hd : t.all digB = true) : numV t < 10 ^ 17 := Nat.lt_of_lt_of_le (numV_lt t.length t rfl hd) (Nat.pow_le_pow_right (by omega) h)
set_option maxHeartbeats 3200000 in
theorem num_any (t : List UInt8) (hl : t.length ≤ 1048576) (H : Heap) : ACalls Tryd.prog 18 [.c (.d (.str t))] H (fun r H' => H' = H ∧ NumA t r) := by
  by_cases hA : t.all digB = true ∧ t.length ≤ 17
  · refine (num_calls t hA.2 hA.1 H).mono fun r H' ⟨h1, h2⟩ => ⟨h1, _, _, h2, ?_, ?_, fun _ _ => rfl⟩
    · split <;> unfold big17 <;> omega
    · split
      · have := numV_le17 hA.2 hA.1
        unfold big17; omega
      · unfold big17; omega
  · have weak : ∀ (n : Int) (b : Bool), -big17 ≤ n → n ≤ big17 → NumA t (.tup [.c (.d (.int .i64 n)), .c (.d (.bool b))]) := fun n b h1 h2 => ⟨n, b, rfl, h1, h2, fun h3 h4 => absurd ⟨h3, h4⟩ hA⟩
    refine acalls Tryd.func18 (by kernel_rfl) ac18_ok fun hf => ?_
    cases t with
    | nil => exact absurd ⟨rfl, by simp⟩ hA
    | cons b l =>
      have hli : inR .i64 ((l.length : Int) + 1) := small_i64 (by omega) (by simp at hl; omega)
      have hpos : (0 : Int) < (l.length : Int) + 1 := by omega
      have hz : ((l.length : Int) + 1 == 0) = false := by simp; omega
      by_cases hb : b = 45
      · subst hb
        simp -implicitDefEqProofs [ac18, hli, hpos, hf, go_sem, -List.set_cons_succ, -List.set_cons_zero]
        refine byte_int 45 (by omega) (by simp) ?_
        simp -implicitDefEqProofs [hz, hli, hf, go_sem, -List.set_cons_succ, -List.set_cons_zero]
        refine ⟨by omega, small_i64 (by omega) (by simp at hl; omega), fun _ => small_i64 (by omega) (by simp at hl; omega), ?_⟩
        cases l with
        | nil =>
          simp -implicitDefEqProofs [hf, go_sem, -List.set_cons_succ, -List.set_cons_zero]
          refine byte_off 0 ?_
          simp -implicitDefEqProofs [hf, go_sem, -List.set_cons_succ, -List.set_cons_zero]
          exact weak 0 false (by unfold big17; omega) (by unfold big17; omega)
        | cons c m =>
          have hmi : inR .i64 ((m.length : Int) + 1) := small_i64 (by omega) (by simp at hl; omega)
          have hz2 : ((m.length : Int) + 1 == 0) = false := by simp; omega
          by_cases h17 : (17 : Int) < (m.length : Int) + 1
          · simp -implicitDefEqProofs [hz2, h17, hf, go_sem, -List.set_cons_succ, -List.set_cons_zero]
            refine byte_off 0 ?_
            simp -implicitDefEqProofs [hz2, h17, hf, go_sem, -List.set_cons_succ, -List.set_cons_zero]
            exact weak 0 false (by unfold big17; omega) (by unfold big17; omega)
          · simp -implicitDefEqProofs [hz2, h17, hf, go_sem, -List.set_cons_succ, -List.set_cons_zero]
            refine byte_int c (by omega) (by simp) ?_
            by_cases hc : (c.toNat : Int) = 48
            · simp -implicitDefEqProofs [hz2, h17, hc, hmi, hf, go_sem, -List.set_cons_succ, -List.set_cons_zero]
              exact weak 0 false (by unfold big17; omega) (by unfold big17; omega)
            · simp -implicitDefEqProofs [hz2, h17, hc, hmi, hf, go_sem, -List.set_cons_succ, -List.set_cons_zero]
              obtain ⟨r, hrr⟩ : ∃ r, r = c :: m := ⟨_, rfl⟩
              have hr17 : r.length ≤ 17 := by rw [hrr]; simp; omega
              have hri : inR .i64 (r.length : Int) := small_i64 (by omega) (by omega)
              rw [← hrr] at weak ⊢
              refine loop_set (σ := Nat × Int) (fun x => [(6, .c (.d (.int .i64 x.1))), (5, .c (.d (.int .i64 x.2)))]) (fun _ => H) (fun _ => []) (fun x => x.1 ≤ r.length ∧ 0 ≤ x.2 ∧ x.2 < (p10 x.1 : Int)) (fun x => r.length - x.1) (0, 0) (by simp [setAll]) ⟨Nat.zero_le _, by simp, by simp [p10]⟩ ?_
              rintro ⟨i, n⟩ ⟨hi, hn0, hn1⟩
              simp only at hi hn0 hn1
              have hp : p10 i ≤ 100000000000000000 := p10_le (by omega)
              have hni : inR .i64 n := i64_def.2 (by omega)
              by_cases hlt : i < r.length
              · have hadd : inR .i64 ((i : Int) + 1) := small_i64 (by omega) (by omega)
                simp -implicitDefEqProofs [setAll, hri, hlt, hf, go_sem, -List.set_cons_succ, -List.set_cons_zero]
                refine byte_nat hlt ?_
                by_cases q1 : (r[i].toNat : Int) < 48
                · simp -implicitDefEqProofs [q1, hf, go_sem, -List.set_cons_succ, -List.set_cons_zero]
                  refine byte_off 0 ?_
                  simp -implicitDefEqProofs [hf, go_sem, -List.set_cons_succ, -List.set_cons_zero]
                  exact weak 0 false (by unfold big17; omega) (by unfold big17; omega)
                · simp -implicitDefEqProofs [q1, hf, go_sem, -List.set_cons_succ, -List.set_cons_zero]
                  refine byte_nat hlt ?_
                  by_cases q2 : (57 : Int) < r[i].toNat
                  · simp -implicitDefEqProofs [q2, hf, go_sem, -List.set_cons_succ, -List.set_cons_zero]
                    exact weak 0 false (by unfold big17; omega) (by unfold big17; omega)
                  · have hp1 : p10 (i + 1) = 10 * p10 i := p10_succ i
                    have hp2 : p10 (i + 1) ≤ 100000000000000000 := p10_le (by omega)
                    have hw : IntKind.i64.wrap ((r[i].toNat : Int) - 48) = (r[i].toNat : Int) - 48 := by rw [IntKind.wrap_i64]; omega
                    have hr1 : inR .i64 (n * 10) := i64_def.2 (by omega)
                    have hr2 : inR .i64 (n * 10 + ((r[i].toNat : Int) - 48)) := i64_def.2 (by omega)
                    have hr3 : inR .u8 ((r[i].toNat : Int) - 48) := by simp [inR, IntKind.min, IntKind.max, IntKind.signed, IntKind.bits]; omega
                    simp -implicitDefEqProofs [q2, hni, hr1, hf, go_sem, -List.set_cons_succ, -List.set_cons_zero]
                    refine byte_nat hlt ?_
                    simp -implicitDefEqProofs [hr1, hr2, hr3, hw, hadd, hf, go_sem, -List.set_cons_succ, -List.set_cons_zero]
                    exact loop_back (i + 1, n * 10 + ((r[i].toNat : Int) - 48)) (by simp [setAll]) ⟨hlt, by simp only; omega, by simp only; omega⟩ (by show r.length - (i + 1) < r.length - i; omega)
              · have hneg : inR .i64 (-n) := i64_def.2 (by omega)
                simp -implicitDefEqProofs [setAll, hri, hlt, hni, hneg, hf, go_sem, -List.set_cons_succ, -List.set_cons_zero]
                exact weak _ true (by unfold big17; omega) (by unfold big17; omega)
      · have hb45 : ((b.toNat : Int) == 45) = false := by
          have : b.toNat ≠ 45 := fun e => hb (UInt8.toNat_inj.1 e)
          simp; omega
        simp -implicitDefEqProofs [ac18, hli, hpos, hf, go_sem, -List.set_cons_succ, -List.set_cons_zero]
        refine byte_int b (by omega) (by simp) ?_
        simp -implicitDefEqProofs [hb45, hz, hli, hf, go_sem, -List.set_cons_succ, -List.set_cons_zero]
        by_cases h17 : (17 : Int) < (l.length : Int) + 1
        · simp -implicitDefEqProofs [h17, hf, go_sem, -List.set_cons_succ, -List.set_cons_zero]
          refine byte_off 0 ?_
          simp -implicitDefEqProofs [h17, hf, go_sem, -List.set_cons_succ, -List.set_cons_zero]
          exact weak 0 false (by unfold big17; omega) (by unfold big17; omega)
        · simp -implicitDefEqProofs [h17, hf, go_sem, -List.set_cons_succ, -List.set_cons_zero]
          refine byte_int b (by omega) (by simp) ?_
          by_cases hc : (b.toNat : Int) = 48 ∧ (1 : Int) < (l.length : Int) + 1
          · simp -implicitDefEqProofs [h17, hc.1, hc.2, hli, hf, go_sem, -List.set_cons_succ, -List.set_cons_zero]
            exact weak 0 false (by unfold big17; omega) (by unfold big17; omega)
          · simp -implicitDefEqProofs [h17, hli, hf, go_sem, -List.set_cons_succ, -List.set_cons_zero]
            refine ⟨fun e1 e2 => absurd ⟨e1, by omega⟩ hc, fun _ => ?_⟩
            obtain ⟨r, hrr⟩ : ∃ r, r = b :: l := ⟨_, rfl⟩
            have hr17 : r.length ≤ 17 := by rw [hrr]; simp; omega
            have hri : inR .i64 (r.length : Int) := small_i64 (by omega) (by omega)
            rw [← hrr] at weak ⊢
            refine loop_set (σ := Nat × Int) (fun x => [(6, .c (.d (.int .i64 x.1))), (5, .c (.d (.int .i64 x.2)))]) (fun _ => H) (fun _ => []) (fun x => x.1 ≤ r.length ∧ 0 ≤ x.2 ∧ x.2 < (p10 x.1 : Int)) (fun x => r.length - x.1) (0, 0) (by simp [setAll]) ⟨Nat.zero_le _, by simp, by simp [p10]⟩ ?_
            rintro ⟨i, n⟩ ⟨hi, hn0, hn1⟩
            simp only at hi hn0 hn1
            have hp : p10 i ≤ 100000000000000000 := p10_le (by omega)
            have hni : inR .i64 n := i64_def.2 (by omega)
            by_cases hlt : i < r.length
            · have hadd : inR .i64 ((i : Int) + 1) := small_i64 (by omega) (by omega)
              simp -implicitDefEqProofs [setAll, hri, hlt, hf, go_sem, -List.set_cons_succ, -List.set_cons_zero]
              refine byte_nat hlt ?_
              by_cases q1 : (r[i].toNat : Int) < 48
              · simp -implicitDefEqProofs [q1, hf, go_sem, -List.set_cons_succ, -List.set_cons_zero]
                refine byte_off 0 ?_
                simp -implicitDefEqProofs [hf, go_sem, -List.set_cons_succ, -List.set_cons_zero]
                exact weak 0 false (by unfold big17; omega) (by unfold big17; omega)
              · simp -implicitDefEqProofs [q1, hf, go_sem, -List.set_cons_succ, -List.set_cons_zero]
                refine byte_nat hlt ?_
                by_cases q2 : (57 : Int) < r[i].toNat
                · simp -implicitDefEqProofs [q2, hf, go_sem, -List.set_cons_succ, -List.set_cons_zero]
                  exact weak 0 false (by unfold big17; omega) (by unfold big17; omega)
                · have hp1 : p10 (i + 1) = 10 * p10 i := p10_succ i
                  have hp2 : p10 (i + 1) ≤ 100000000000000000 := p10_le (by omega)
                  have hw : IntKind.i64.wrap ((r[i].toNat : Int) - 48) = (r[i].toNat : Int) - 48 := by rw [IntKind.wrap_i64]; omega
                  have hr1 : inR .i64 (n * 10) := i64_def.2 (by omega)
                  have hr2 : inR .i64 (n * 10 + ((r[i].toNat : Int) - 48)) := i64_def.2 (by omega)
                  have hr3 : inR .u8 ((r[i].toNat : Int) - 48) := by simp [inR, IntKind.min, IntKind.max, IntKind.signed, IntKind.bits]; omega
                  simp -implicitDefEqProofs [q2, hni, hr1, hf, go_sem, -List.set_cons_succ, -List.set_cons_zero]
                  refine byte_nat hlt ?_
                  simp -implicitDefEqProofs [hr1, hr2, hr3, hw, hadd, hf, go_sem, -List.set_cons_succ, -List.set_cons_zero]
                  exact loop_back (i + 1, n * 10 + ((r[i].toNat : Int) - 48)) (by simp [setAll]) ⟨hlt, by simp only; omega, by simp only; omega⟩ (by show r.length - (i + 1) < r.length - i; omega)
            · have hneg : inR .i64 (-n) := i64_def.2 (by omega)
              simp -implicitDefEqProofs [setAll, hri, hlt, hni, hneg, hf, go_sem, -List.set_cons_succ, -List.set_cons_zero]
              exact weak _ true (by unfold big17; omega) (by unfold big17; omega)
/-- what the reference reads as a number -/
def L8 (t : List UInt8) (r : A) : Prop := ∃ n : Int, r = .c (.d (.int .i64 n)) ∧ inR .i64 n ∧ ∀ a : Int, -999 ≤ a → a ≤ 999 → t = Lib.itoa a → n = a
set_option maxHeartbeats 3200000 in
theorem l8Int_calls (t : List UInt8) (hl : t.length ≤ 1048576) (H : Heap) : ACalls Tryd.prog 10 [.c (.d (.str t))] H (fun r H' => H' = H ∧ L8 t r) := by
  refine acalls Tryd.func10 (by kernel_rfl) ac10_ok fun hf => ?_
  have hli : inR .i64 (t.length : Int) := small_i64 (by omega) (by omega)
  simp -implicitDefEqProofs [ac10, hf, go_sem, -List.set_cons_succ, -List.set_cons_zero]
  refine qcall_pure (sign_callsL t (by omega) 0 (by omega) 45) hf rfl ?_
  cases hs : sgn t 0 45 with
  | true =>
    simp -implicitDefEqProofs [hli, hf, go_sem, -List.set_cons_succ, -List.set_cons_zero]
    have htl : t.tail.length ≤ 1048576 := by simp; omega
    have hpos : (1 : Int) ≤ t.length := by have := sgn_lt hs; omega
    refine ⟨hpos, call_relA (num_any t.tail htl _) hf (by simp) ?_⟩
    rintro _ ⟨n, b, rfl, b1, b2, hv⟩
    have hm : inR .i64 (-1 * n) := i64_def.2 (by unfold big17 at b1 b2; omega)
    have hm2 : inR .i64 (-n) := i64_def.2 (by unfold big17 at b1 b2; omega)
    refine ⟨by simp [A.re, A.res, C.re], ?_⟩
    simp -implicitDefEqProofs [hm, hm2, hf, go_sem, -List.set_cons_succ, -List.set_cons_zero]
    refine ⟨-n, rfl, hm2, fun a a0 a1 ha => ?_⟩
    rw [← itoa3_eq a0 a1] at ha
    by_cases hneg : a < 0
    · have e3 : itoa3 a = 45 :: dec3 a.natAbs := by unfold itoa3; rw [if_pos hneg]
      obtain ⟨d1, d2, d3, d4⟩ := dec3_ok (u := a.natAbs) (by omega)
      rw [ha, e3] at hv
      simp only [List.tail_cons] at hv
      have := hv (can_digs d1) (by omega)
      simp [d1] at this
      omega
    · have e3 : itoa3 a = dec3 a.toNat := by unfold itoa3; rw [if_neg hneg]
      obtain ⟨d1, d2, d3, d4⟩ := dec3_ok (u := a.toNat) (by omega)
      rw [ha, e3] at hs
      cases hq : dec3 a.toNat with
      | nil => rw [hq] at d4; simp at d4
      | cons x y =>
        have hx := List.all_eq_true.1 (can_digs d1) x (by rw [hq]; simp)
        rw [hq] at hs
        simp [sgn] at hs
        subst hs
        simp [digB] at hx
  | false =>
    simp -implicitDefEqProofs [hli, hf, go_sem, -List.set_cons_succ, -List.set_cons_zero]
    refine call_relA (num_any t (by omega) _) hf (by simp) ?_
    rintro _ ⟨n, b, rfl, b1, b2, hv⟩
    have hm : inR .i64 (1 * n) := i64_def.2 (by unfold big17 at b1 b2; omega)
    have hm2 : inR .i64 n := i64_def.2 (by unfold big17 at b1 b2; omega)
    refine ⟨by simp [A.re, A.res, C.re], ?_⟩
    simp -implicitDefEqProofs [hm, hm2, hf, go_sem, -List.set_cons_succ, -List.set_cons_zero]
    refine ⟨n, rfl, hm2, fun a a0 a1 ha => ?_⟩
    rw [← itoa3_eq a0 a1] at ha
    by_cases hneg : a < 0
    · have e3 : itoa3 a = 45 :: dec3 a.natAbs := by unfold itoa3; rw [if_pos hneg]
      rw [ha, e3] at hs
      simp [sgn] at hs
    · have e3 : itoa3 a = dec3 a.toNat := by unfold itoa3; rw [if_neg hneg]
      obtain ⟨d1, d2, d3, d4⟩ := dec3_ok (u := a.toNat) (by omega)
      rw [ha, e3] at hv
      have := hv (can_digs d1) (by omega)
      simp [d1] at this
      omega
def L8v (w : List UInt8) (v : Int) : Prop := ∀ a : Int, -999 ≤ a → a ≤ 999 → w = Lib.itoa a → v = a
/-- an instruction, built of words so far -/
def Sb (W : List (List UInt8)) (o : Int) (j : Nat) (x : Ins) : Prop := x.op = o ∧ (if 1 ≤ j ∧ opIA o = true then L8v (W.getD 1 []) x.a else x.a = 0) ∧ (if 2 ≤ j ∧ opB o = true then L8v (W.getD 2 []) x.b else x.b = 0) ∧
  (if (if opB o then 2 else 1) < j ∧ opN o = true then x.text = W.getD (if opB o then 3 else 2) [] else x.text = [])
theorem shape_at {o : Int} {j : Nat} (h : j < (opShape o).length) : ((opShape o)[j] = 97 ∧ j = 0 ∧ opIA o = true) ∨ ((opShape o)[j] = 98 ∧ j = 1 ∧ opB o = true) ∨ ((opShape o)[j] = 110 ∧ opN o = true ∧ j = (if opB o then 2 else 1)) ∨ ((opShape o)[j] = 63 ∧ opIA o = false ∧ opB o = false ∧ opN o = false) := by
  rcases op_bits o with ⟨e1, e2, e3, e4⟩ | ⟨e1, e2, e3, e4⟩ | ⟨e1, e2, e3, e4⟩ | ⟨e1, e2, e3, e4⟩ | ⟨e1, e2, e3, e4⟩ | ⟨e1, e2, e3, e4⟩
  all_goals
    have hsh : opShape o = opShape o := rfl
    conv at hsh => rhs; unfold opShape
    simp [e1, e2, e3, e4] at hsh
    simp only [hsh, e2, e3, e4] at h ⊢
    simp at h
  · subst h; simp
  · obtain rfl | rfl : j = 0 ∨ j = 1 := by omega
    all_goals simp
  · obtain rfl | rfl | rfl : j = 0 ∨ j = 1 ∨ j = 2 := by omega
    all_goals simp
  · subst h; simp
  · obtain rfl | rfl : j = 0 ∨ j = 1 := by omega
    all_goals simp
theorem sb_a {W : List (List UInt8)} {o xo xa xb n : Int} {xt : List UInt8} (h : Sb W o 0 ⟨xo, xa, xb, xt⟩) (ho : opIA o = true) (hv : L8v (W.getD 1 []) n) : Sb W o 1 ⟨xo, n, xb, xt⟩ := by
  obtain ⟨b1, b2, b3, b4⟩ := h
  refine ⟨b1, by rw [if_pos ⟨Nat.le_refl _, ho⟩]; exact hv, by rw [if_neg (by omega)] at b3 ⊢; exact b3, ?_⟩
  rw [if_neg (by split <;> omega)] at b4 ⊢
  exact b4
theorem sb_b {W : List (List UInt8)} {o xo xa xb n : Int} {xt : List UInt8} (h : Sb W o 1 ⟨xo, xa, xb, xt⟩) (ho : opB o = true) (hv : L8v (W.getD 2 []) n) : Sb W o 2 ⟨xo, xa, n, xt⟩ := by
  obtain ⟨b1, b2, b3, b4⟩ := h
  refine ⟨b1, ?_, by rw [if_pos ⟨Nat.le_refl _, ho⟩]; exact hv, ?_⟩
  · by_cases hA : opIA o = true
    · rw [if_pos ⟨by omega, hA⟩] at b2 ⊢; exact b2
    · rw [if_neg (fun e => hA e.2)] at b2 ⊢; exact b2
  · rw [if_neg (by rw [if_pos ho]; omega)] at b4 ⊢
    exact b4
theorem sb_n {W : List (List UInt8)} {o xo xa xb : Int} {xt : List UInt8} {q : Nat} (hq : q = if opB o then 2 else 1) (h : Sb W o q ⟨xo, xa, xb, xt⟩) (ho : opN o = true) : Sb W o (q + 1) ⟨xo, xa, xb, W.getD (q + 1) []⟩ := by
  obtain ⟨b1, b2, b3, b4⟩ := h
  have hq1 : 1 ≤ q := by rw [hq]; split <;> omega
  refine ⟨b1, ?_, ?_, ?_⟩
  · by_cases hA : opIA o = true
    · rw [if_pos ⟨by omega, hA⟩] at b2 ⊢; exact b2
    · rw [if_neg (fun e => hA e.2)] at b2 ⊢; exact b2
  · by_cases hB : opB o = true
    · rw [if_pos hB] at hq
      rw [if_pos ⟨by omega, hB⟩] at b3 ⊢; exact b3
    · rw [if_neg (fun e => hB e.2)] at b3 ⊢; exact b3
  · rw [if_pos ⟨by omega, ho⟩]
    show W.getD (q + 1) [] = _
    rw [hq]
    split <;> rfl
theorem sb_skip {W : List (List UInt8)} {o : Int} {x : Ins} {j : Nat} (h : Sb W o j x) (hA : opIA o = false) (hB : opB o = false) (hN : opN o = false) : Sb W o (j + 1) x := by
  obtain ⟨b1, b2, b3, b4⟩ := h
  exact ⟨b1, by simpa [hA] using b2, by simpa [hB] using b3, by simpa [hN] using b4⟩
theorem sb_back {s : List UInt8} {o : Int} {x y : Ins} (hb : Sb (cutAt 32 s) o (opShape o).length x) (h : y.okB = true) (hs : y.fmt = s) (ho : y.op = o) : x = y := by
  obtain ⟨b1, b2, b3, b4⟩ := hb
  have hw := fmt_wds h
  rw [hs] at hw
  rw [hw] at b2 b3 b4
  have hl := wds_shape h
  obtain ⟨h1, h2, h3, h4, h5, h6, h7⟩ := okB_all h
  obtain ⟨yo, ya, yb, yt⟩ := y
  obtain ⟨xo, xa, xb, xt⟩ := x
  simp only at ho b1 b2 b3 b4 h1 h2 h3 h4 h5 h6 h7 hl
  subst ho; subst b1
  simp only [Ins.wds] at b2 b3 b4 hl
  have hAB : opB xo = true → opIA xo = true := fun hB => by rcases op_bits xo with ⟨e1, e2, e3, e4⟩ | ⟨e1, e2, e3, e4⟩ | ⟨e1, e2, e3, e4⟩ | ⟨e1, e2, e3, e4⟩ | ⟨e1, e2, e3, e4⟩ | ⟨e1, e2, e3, e4⟩ <;> simp_all
  have hNA : opN xo = true → opIA xo = true := fun hB => by rcases op_bits xo with ⟨e1, e2, e3, e4⟩ | ⟨e1, e2, e3, e4⟩ | ⟨e1, e2, e3, e4⟩ | ⟨e1, e2, e3, e4⟩ | ⟨e1, e2, e3, e4⟩ | ⟨e1, e2, e3, e4⟩ <;> simp_all
  have hsl : (opShape xo).length = (if opIA xo then 1 else 0) + (if opB xo then 1 else 0) + (if opN xo then 1 else 0) := by
    unfold opShape; rw [if_pos h1]
    cases opIA xo <;> cases opB xo <;> cases opN xo <;> rfl
  have ea : xa = ya := by
    cases hA : opIA xo with
    | true =>
      have hc : 1 ≤ (opShape xo).length ∧ opIA xo = true := ⟨by rw [hsl, if_pos hA]; omega, hA⟩
      rw [if_pos hc] at b2
      exact b2 ya h2.1 h2.2 (by simp [hA])
    | false => rw [if_neg (by simp [hA])] at b2; rw [b2, h4 hA]
  have eb : xb = yb := by
    cases hB : opB xo with
    | true =>
      have hA := hAB hB
      have hc : 2 ≤ (opShape xo).length ∧ opB xo = true := ⟨by rw [hsl, if_pos hA, if_pos hB]; omega, hB⟩
      rw [if_pos hc] at b3
      exact b3 yb (by omega) h3.2 (by simp [hA, hB])
    | false => rw [if_neg (by simp [hB])] at b3; rw [b3, h5 hB]
  have et : xt = yt := by
    cases hN : opN xo with
    | true =>
      have hA := hNA hN
      cases hB : opB xo with
      | true =>
        rw [if_pos ⟨by rw [hsl, if_pos hA, if_pos hB, if_pos hN, if_pos hB]; omega, hN⟩] at b4
        simpa [hA, hB, hN] using b4
      | false =>
        have hB2 : ¬ opB xo = true := by simp [hB]
        rw [if_pos ⟨by rw [hsl, if_pos hA, if_neg hB2, if_pos hN, if_neg hB2]; omega, hN⟩] at b4
        simpa [hA, hB, hN] using b4
    | false => rw [if_neg (by simp [hN])] at b4; rw [b4, h7 hN]
  rw [ea, eb, et]
set_option maxHeartbeats 3200000 in
theorem piSpec_calls (s : List UInt8) (hs : s.length ≤ 1048576) (H : Heap) : ACalls Tryd.prog 4 [.c (.d (.str s))] H (fun r H' => H' = H ∧ ∃ R, Pa s R ∧ r = insA R) := by
  refine acalls Tryd.func4 (by kernel_rfl) ac4_ok fun hf => ?_
  have hcl := cutw_len 32 s
  have hcm := cutw_mem 32 s
  have hsi : inR .i64 (s.length : Int) := small_i64 (by omega) (by omega)
  have hwd : ∀ y : Ins, y.okB = true → y.fmt = s → cutAt 32 s = y.wds := fun y hy h => by rw [← h, fmt_wds hy]
  simp -implicitDefEqProofs [ac4, hf, go_sem, -List.set_cons_succ, -List.set_cons_zero]
  refine qcall_pure (cut_calls s (by omega) 32) hf (by simp [A.re, C.re]) ?_
  have hbt := @sb_back s
  have hno := @no_op s
  have hs0 : s = [] → (cutAt 32 s).headD [] = [] := fun h => by rw [h]; rfl
  have hs1 : s = [] → (cutAt 32 s).length = 1 := fun h => by rw [h]; rfl
  generalize cutAt 32 s = W at hcl hcm hwd hbt hno hs0 hs1
  have hwi : inR .i64 (W.length : Int) := small_i64 (by omega) (by omega)
  obtain ⟨w0, wr, hW⟩ : ∃ w0 wr, W = w0 :: wr := by
    cases W with
    | nil => simp at hcl
    | cons a b => exact ⟨a, b, rfl⟩
  simp -implicitDefEqProofs [hf, go_sem, -List.set_cons_succ, -List.set_cons_zero]
  refine qcall_pure names_calls hf (by simp [A.re, C.re]) ?_
  simp -implicitDefEqProofs [hf, go_sem, -List.set_cons_succ, -List.set_cons_zero]
  refine loop_set (σ := Nat × Nat) (fun x => [(7, .c (.d (.int .i64 x.1)))]) (fun _ => H) (fun x => [.cells (zeroI.row.map .d), .cells [.d (.int .i64 x.2), .d (.int .i64 0), .d (.int .i64 0), .d (.str [])]]) (fun x => 1 ≤ x.1 ∧ x.1 ≤ 15 ∧ x.2 ≤ 14 ∧ (x.2 = 0 ∨ (1 ≤ x.2 ∧ opWord (x.2 : Int) = w0)) ∧ ∀ k : Nat, 1 ≤ k → k < x.1 → opWord (k : Int) = w0 → x.2 = k) (fun x => 15 - x.1) (1, 0) (by simp [setAll, zeroI, Ins.row]) ⟨by simp, by simp, by simp, .inl rfl, fun k h1 h2 => by simp only at h2; omega⟩ ?_
  rintro ⟨i, o⟩ ⟨i1, i15, ho, hko, hk⟩
  simp only at i1 i15 ho hko hk
  have h15 : inR .i64 (15 : Int) := small_i64 (by omega) (by omega)
  by_cases hlt : i < 15
  · have hlt' : (i : Int) < 15 := by omega
    have hadd : inR .i64 ((i : Int) + 1) := small_i64 (by omega) (by omega)
    simp -implicitDefEqProofs [setAll, namesL_len, h15, hlt, hlt', hf, go_sem, -List.set_cons_succ, -List.set_cons_zero]
    refine row_int [.str (opWord (i : Int))] (by omega) (by have := names_at (op := (i : Int)) (by omega) (by omega); exact this) rfl ?_
    simp -implicitDefEqProofs [hf, go_sem, -List.set_cons_succ, -List.set_cons_zero]
    refine row_int (strRow w0) (by omega) (by simp [hW]) rfl ?_
    by_cases hw : opWord (i : Int) = w0
    · simp -implicitDefEqProofs [strRow, hw, hadd, hf, go_sem, -List.set_cons_succ, -List.set_cons_zero]
      refine loop_back (i + 1, i) (by simp [setAll]) ⟨by simp, by simp only; omega, by simp only; omega, .inr ⟨i1, hw⟩, fun k h1 h2 h3 => ?_⟩ (by show 15 - (i + 1) < 15 - i; omega)
      simp only at h2
      have := word_inj (i := (i : Int)) (j := (k : Int)) (by simp [opOk]; omega) (by simp [opOk]; omega) (by rw [hw, h3])
      simp only
      omega
    · simp -implicitDefEqProofs [strRow, hw, hadd, hf, go_sem, -List.set_cons_succ, -List.set_cons_zero]
      refine loop_back (i + 1, o) (by simp [setAll]) ⟨by simp, by simp only; omega, ho, hko, fun k h1 h2 h3 => ?_⟩ (by show 15 - (i + 1) < 15 - i; omega)
      simp only at h2
      by_cases e : k = i
      · subst e; exact absurd h3 hw
      · exact hk k h1 (by omega) h3
  · obtain rfl : i = 15 := by omega
    simp -implicitDefEqProofs [setAll, namesL_len, h15, hf, go_sem, -List.set_cons_succ, -List.set_cons_zero]
    refine qcall_pure (shapeOf_calls o) hf rfl ?_
    have hfind : ∀ y : Ins, y.okB = true → y.fmt = s → y.op = o := fun y hy h => by
      have h1 := (okB_all hy).1
      simp only [opOk, Bool.and_eq_true, decide_eq_true_eq] at h1
      have h2 := hwd y hy h
      rw [hW] at h2
      have h3 : w0 = opWord y.op := by unfold Ins.wds at h2; exact (List.cons.inj h2).1
      obtain ⟨k, hk2⟩ := Int.eq_ofNat_of_zero_le (show 0 ≤ y.op by omega)
      have := hk k (by omega) (by omega) (by rw [h3, hk2])
      omega
    have hsl : (opShape (o : Int)).length ≤ 3 := by
      unfold opShape
      cases opOk (o : Int) <;> cases opIA (o : Int) <;> cases opB (o : Int) <;> cases opN (o : Int) <;> simp
    have hshi : inR .i64 ((opShape (o : Int)).length : Int) := small_i64 (by omega) (by omega)
    have hshi1 : inR .i64 (((opShape (o : Int)).length : Int) + 1) := small_i64 (by omega) (by omega)
    by_cases hlen : W.length = (opShape (o : Int)).length + 1
    · have hlen' : (W.length : Int) = ((opShape (o : Int)).length : Int) + 1 := by omega
      by_cases h60 : 60 < s.length
      · have h60' : (60 : Int) < s.length := by omega
        simp -implicitDefEqProofs [hwi, hsi, hshi, hshi1, hlen', h60', hf, zeroI, Ins.row, go_sem, -List.set_cons_succ, -List.set_cons_zero]
        exact ⟨none, Pa.no fun y hy h => by have := fmt_60 hy; rw [h] at this; omega, rfl⟩
      · have h60' : ¬ (60 : Int) < s.length := by omega
        simp -implicitDefEqProofs [hwi, hsi, hshi, hshi1, hlen', h60', hf, go_sem, -List.set_cons_succ, -List.set_cons_zero]
        refine loop_set (σ := Nat × Ins) (fun x => [(9, .c (.d (.int .i64 x.1)))]) (fun _ => H) (fun x => [.cells (zeroI.row.map .d), .cells (x.2.row.map .d)]) (fun x => x.1 ≤ (opShape (o : Int)).length ∧ x.2.ok ∧ Sb W o x.1 x.2) (fun x => (opShape (o : Int)).length - x.1) (0, ⟨o, 0, 0, []⟩) (by simp [setAll, zeroI, Ins.row]) ⟨Nat.zero_le _, ⟨small_i64 (by simp only; omega) (by simp only; omega), small_i64 (by simp) (by simp), small_i64 (by simp) (by simp), by simp⟩, ⟨rfl, by simp, by simp, by simp⟩⟩ ?_
        rintro ⟨j, x⟩ ⟨hj, hx, hb⟩
        simp only at hj hx hb
        obtain ⟨xo, xa, xb, xt⟩ := x
        by_cases hjl : j < (opShape (o : Int)).length
        · have hadd : inR .i64 ((j : Int) + 1) := small_i64 (by omega) (by omega)
          have hjl' : (j : Int) < (opShape (o : Int)).length := by omega
          have hWj : j + 1 < W.length := by omega
          have hwl : W[j + 1].length ≤ s.length := hcm _ (List.getElem_mem hWj)
          have hgd : W.getD (j + 1) [] = W[j + 1] := by simp [List.getD, hWj]
          obtain ⟨x1, x2, x3, x4⟩ := hx
          simp -implicitDefEqProofs [setAll, Ins.row, hshi, hjl, hjl', hf, go_sem, -List.set_cons_succ, -List.set_cons_zero]
          refine byte_nat hjl ?_
          rcases shape_at hjl with ⟨h1, h2, h3⟩ | ⟨h1, h2, h3⟩ | ⟨h1, h2, h3⟩ | ⟨h1, h2, h3, h4⟩
          · rw [h1]
            simp -implicitDefEqProofs [hadd, hf, go_sem, -List.set_cons_succ, -List.set_cons_zero]
            refine row_int (strRow W[j + 1]) (by omega) (by simp [hWj]) rfl ?_
            simp -implicitDefEqProofs [strRow, hf, go_sem, -List.set_cons_succ, -List.set_cons_zero]
            refine call_relA (l8Int_calls W[j + 1] (by omega) _) hf (by simp [zeroI, Ins.row, Ob.re, C.re]) ?_
            rintro _ ⟨n, rfl, hn, hv⟩
            refine ⟨by simp [A.re, C.re], ?_⟩
            simp -implicitDefEqProofs [hn, hadd, hf, go_sem, -List.set_cons_succ, -List.set_cons_zero]
            refine loop_back (j + 1, ⟨xo, n, xb, xt⟩) (by simp [setAll, Ins.row]) ⟨hjl, ⟨x1, hn, x3, x4⟩, ?_⟩ (by show (opShape (o : Int)).length - (j + 1) < (opShape (o : Int)).length - j; omega)
            subst h2
            exact sb_a hb h3 (by rw [hgd]; exact hv)
          · rw [h1]
            simp -implicitDefEqProofs [hadd, hf, go_sem, -List.set_cons_succ, -List.set_cons_zero]
            refine row_int (strRow W[j + 1]) (by omega) (by simp [hWj]) rfl ?_
            simp -implicitDefEqProofs [strRow, hf, go_sem, -List.set_cons_succ, -List.set_cons_zero]
            refine call_relA (l8Int_calls W[j + 1] (by omega) _) hf (by simp [zeroI, Ins.row, Ob.re, C.re]) ?_
            rintro _ ⟨n, rfl, hn, hv⟩
            refine ⟨by simp [A.re, C.re], ?_⟩
            simp -implicitDefEqProofs [hn, hadd, hf, go_sem, -List.set_cons_succ, -List.set_cons_zero]
            refine loop_back (j + 1, ⟨xo, xa, n, xt⟩) (by simp [setAll, Ins.row]) ⟨hjl, ⟨x1, x2, hn, x4⟩, ?_⟩ (by show (opShape (o : Int)).length - (j + 1) < (opShape (o : Int)).length - j; omega)
            subst h2
            exact sb_b hb h3 (by rw [hgd]; exact hv)
          · rw [h1]
            simp -implicitDefEqProofs [hadd, hf, go_sem, -List.set_cons_succ, -List.set_cons_zero]
            refine row_int (strRow W[j + 1]) (by omega) (by simp [hWj]) rfl ?_
            simp -implicitDefEqProofs [strRow, hadd, hf, go_sem, -List.set_cons_succ, -List.set_cons_zero]
            refine loop_back (j + 1, ⟨xo, xa, xb, W[j + 1]⟩) (by simp [setAll, Ins.row]) ⟨hjl, ⟨x1, x2, x3, by show W[j + 1].length ≤ reachBytes; unfold reachBytes; omega⟩, ?_⟩ (by show (opShape (o : Int)).length - (j + 1) < (opShape (o : Int)).length - j; omega)
            have := sb_n h3 hb h2
            rw [hgd] at this
            exact this
          · rw [h1]
            simp -implicitDefEqProofs [hadd, hf, go_sem, -List.set_cons_succ, -List.set_cons_zero]
            refine loop_back (j + 1, ⟨xo, xa, xb, xt⟩) (by simp [setAll, Ins.row]) ⟨hjl, ⟨x1, x2, x3, x4⟩, sb_skip hb h2 h3 h4⟩ (by show (opShape (o : Int)).length - (j + 1) < (opShape (o : Int)).length - j; omega)
        · obtain rfl : j = (opShape (o : Int)).length := by omega
          have hxt : xt.length ≤ 1048576 := by
            have h5 : xt = [] ∨ ∃ i, xt = W.getD i [] := by
              obtain ⟨_, _, _, b4⟩ := hb
              simp only at b4
              (repeat' split at b4)
              all_goals first
                | exact .inl b4
                | exact .inr ⟨_, b4⟩
            rcases h5 with h5 | ⟨i, h5⟩
            · rw [h5]; simp
            · rw [h5, List.getD]
              cases hg : W[i]? with
              | none => simp
              | some w => have := hcm w (List.mem_of_getElem? hg); simp; omega
          simp -implicitDefEqProofs [setAll, Ins.row, hshi, hf, go_sem, -List.set_cons_succ, -List.set_cons_zero]
          refine qcall_pure (fmtSpec_calls ⟨xo, xa, xb, xt⟩ hx hxt) hf rfl ?_
          by_cases hfm : (⟨xo, xa, xb, xt⟩ : Ins).fmt = s
          · simp -implicitDefEqProofs [hfm, zeroI, Ins.row, hf, go_sem, -List.set_cons_succ, -List.set_cons_zero]
            have hsne : s ≠ [] := fun h => by
              have h1 := hs0 h
              have h2 := hs1 h
              rw [hW] at h1
              simp at h1
              rcases hko with h3 | ⟨h3, h4⟩
              · subst h3
                have : (opShape ((0 : Nat) : Int)).length = 1 := by decide
                rw [this] at hlen
                omega
              · exact word_ne (op := (o : Int)) (by simp [opOk]; omega) (by rw [h4, h1])
            exact ⟨some ⟨xo, xa, xb, xt⟩, Pa.yes hfm hsne hx, rfl⟩
          · simp -implicitDefEqProofs [hfm, zeroI, Ins.row, hf, go_sem, -List.set_cons_succ, -List.set_cons_zero]
            refine ⟨none, Pa.no fun y hy h => ?_, rfl⟩
            have := hbt hb hy h (hfind y hy h)
            rw [this] at hfm
            exact hfm h
    · have hlen' : ¬ (W.length : Int) = ((opShape (o : Int)).length : Int) + 1 := by omega
      simp -implicitDefEqProofs [hwi, hsi, hshi, hshi1, hlen', hf, zeroI, Ins.row, go_sem, -List.set_cons_succ, -List.set_cons_zero]
      exact ⟨none, Pa.no fun y hy h => by have := wds_shape hy; rw [← hwd y hy h, hfind y hy h] at this; exact hlen this, rfl⟩
end Go.Proofs.YtbblefjbgbocoaaDoor
