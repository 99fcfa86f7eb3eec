/-
  Contracts of functions that the law reaches, and plain lemmas: several texts in one.
  Conditions: none.
-/
import Derived.Test.YtgfmlifkhpjplaaGreatDoorBundA
import Derived.Lib.AtoiAllCases
import Derived.Shelf.Strconv.Itoa3
import Derived.Test.YtgfmlifkhpjplaaGreatDoorAbsN
open Go Go.AM Go.Proofs
attribute [local go_sem] kw ew sw tw a_ b_ c_ A.ok A.val d_ e_ f_ g_ h_ i_ j_ k_ l_ m_ unA unD n_ AOp.total o_ p_ q_ r_ s_ t_ u_ v_ A.thaw C.thaw A.fits As.fits C.fits evs oks w_ A.pure C.pure A.re C.re x_ y_ cut A.cells C.rows? z_ A_ B_ C_ a0_ b0_ D_ Ob.re Cs.fits E_ F_ G_ H_ I_ J_ K_ L_ M_ N_ O_ C.toD P_ Q_ R_ S_ T_ Obs.fits U_ eqD V_ W_ X_ Y_ Z_
/-
  Variables and numbers of the reference.
  Conditions: none.
-/
open Go Go.AM Go.Proofs
namespace Go.Proofs.YtgfmlifkhpjplaaGreatDoor
open Go.ChangeShapes Go.WideShapes Go.ChangeAt Go.RowKit
set_option linter.unusedVariables false
set_option linter.unusedSimpArgs false
set_option maxRecDepth 100000
-- 79 loop.example/prologserver/spec.l1Var params 1 ntmps 5
def ac79 : Cd := .seq (.region [⟨(some 2),.alloc [(.d (.int .i64 0)),(.d (.int .i64 0)),(.d (.str [])),(.full [])],none⟩] [])
 (.seq (.region [⟨(some 3),.mv (.t 0),none⟩,
 ⟨(some 4),.build [(.d (.int .i64 0)),(.d (.int .i64 0)),(.d (.str [])),(.full [])] [(0,1,(.k (.c (.d (.int .i64 1))))),(1,1,(.t 3))],none⟩,
 ⟨none,.store 4 (.t 2) (.t 4),none⟩] [0,3,4])
 (.ret))
theorem ac79_ok : cFunc Tryz.prog [] [(0,[],[]),(1,[0,3,4],[])] Tryz.f79 = some (ac79,[.cell 2 (some 4)],5) := by kernel_rfl
-- 55 loop.example/prologserver/spec.l1Int params 1 ntmps 5
def ac55 : Cd := .seq (.region [⟨(some 2),.alloc [(.d (.int .i64 0)),(.d (.int .i64 0)),(.d (.str [])),(.full [])],none⟩] [])
 (.seq (.region [⟨(some 3),.mv (.t 0),none⟩,
 ⟨(some 4),.build [(.d (.int .i64 0)),(.d (.int .i64 0)),(.d (.str [])),(.full [])] [(0,1,(.k (.c (.d (.int .i64 2))))),(1,1,(.t 3))],none⟩,
 ⟨none,.store 4 (.t 2) (.t 4),none⟩] [0,3,4])
 (.ret))
theorem ac55_ok : cFunc Tryz.prog [] [(0,[],[]),(1,[0,3,4],[])] Tryz.f55 = some (ac55,[.cell 2 (some 4)],5) := by kernel_rfl
theorem var_calls (n : Int) (H : Heap) : ACalls Tryz.prog 79 [.c (.d (.int .i64 n))] H (fun r H' => H' = H ∧ r = .agg ((Tm.mk 1 n [] []).row.map .d)) := by
  refine acalls Tryz.func79 (by kernel_rfl) ac79_ok fun hf => ?_
  simp -implicitDefEqProofs [ac79, row_mk, hf, go_sem, -List.set_cons_succ, -List.set_cons_zero]
theorem int_calls (n : Int) (H : Heap) : ACalls Tryz.prog 55 [.c (.d (.int .i64 n))] H (fun r H' => H' = H ∧ r = .agg ((Tm.mk 2 n [] []).row.map .d)) := by
  refine acalls Tryz.func55 (by kernel_rfl) ac55_ok fun hf => ?_
  simp -implicitDefEqProofs [ac55, row_mk, hf, go_sem, -List.set_cons_succ, -List.set_cons_zero]
end Go.Proofs.YtgfmlifkhpjplaaGreatDoor

/-
  The codes of two readers of bytes.
  Conditions: none.
-/
open Go Go.AM Go.Proofs
namespace Go.Proofs.YtgfmlifkhpjplaaGreatDoor
-- 80 loop.example/prologserver/spec.l1Digit params 2 ntmps 25
def ac80 : Cd := .seq (.region [⟨(some 4),.mv (.k (.c (.d (.bool false)))),none⟩] [4])
 (.seq (.region [⟨(some 5),.mv (.t 1),none⟩,
 ⟨(some 6),.bin .geq (.t 5) (.k (.c (.d (.int .i64 0)))),none⟩,
 ⟨(some 7),.mv (.t 6),none⟩,
 ⟨(some 8),.mv (.t 1),some (7,true)⟩,
 ⟨(some 9),.mv (.t 0),some (7,true)⟩,
 ⟨(some 10),.len 0 (.t 9),some (7,true)⟩,
 ⟨(some 11),.bin .lss (.t 8) (.t 10),some (7,true)⟩,
 ⟨(some 12),.pick (.t 7) (.t 11) (.k (.c (.d (.bool false)))),none⟩,
 ⟨(some 13),.mv (.t 12),none⟩,
 ⟨(some 14),.mv (.t 0),some (13,true)⟩,
 ⟨(some 15),.mv (.t 1),some (13,true)⟩,
 ⟨(some 16),.index (.t 14) (.t 15),some (13,true)⟩,
 ⟨(some 17),.bin .geq (.t 16) (.k (.c (.d (.int .u8 48)))),some (13,true)⟩,
 ⟨(some 18),.pick (.t 13) (.t 17) (.k (.c (.d (.bool false)))),none⟩,
 ⟨(some 19),.mv (.t 18),none⟩,
 ⟨(some 20),.mv (.t 0),some (19,true)⟩,
 ⟨(some 21),.mv (.t 1),some (19,true)⟩,
 ⟨(some 22),.index (.t 20) (.t 21),some (19,true)⟩,
 ⟨(some 23),.bin .leq (.t 22) (.k (.c (.d (.int .u8 57)))),some (19,true)⟩,
 ⟨(some 24),.pick (.t 19) (.t 23) (.k (.c (.d (.bool false)))),none⟩,
 ⟨(some 4),.mv (.t 24),none⟩] [0,1,5,6,7,8,9,10,11,12,13,14,15,16,17,18,19,20,21,22,23,24])
 (.ret))
theorem ac80_ok : cFunc Tryz.prog [] [(0,[4],[]),(1,[0,1,5,6,7,8,9,10,11,12,13,14,15,16,17,18,19,20,21,22,23,24],[])] Tryz.f80 = some (ac80,[.tmp 4],25) := by kernel_rfl
-- 107 loop.example/prologserver/spec.l1Small params 2 ntmps 25
def ac107 : Cd := .seq (.region [⟨(some 4),.mv (.k (.c (.d (.bool false)))),none⟩] [4])
 (.seq (.region [⟨(some 5),.mv (.t 1),none⟩,
 ⟨(some 6),.bin .geq (.t 5) (.k (.c (.d (.int .i64 0)))),none⟩,
 ⟨(some 7),.mv (.t 6),none⟩,
 ⟨(some 8),.mv (.t 1),some (7,true)⟩,
 ⟨(some 9),.mv (.t 0),some (7,true)⟩,
 ⟨(some 10),.len 0 (.t 9),some (7,true)⟩,
 ⟨(some 11),.bin .lss (.t 8) (.t 10),some (7,true)⟩,
 ⟨(some 12),.pick (.t 7) (.t 11) (.k (.c (.d (.bool false)))),none⟩,
 ⟨(some 13),.mv (.t 12),none⟩,
 ⟨(some 14),.mv (.t 0),some (13,true)⟩,
 ⟨(some 15),.mv (.t 1),some (13,true)⟩,
 ⟨(some 16),.index (.t 14) (.t 15),some (13,true)⟩,
 ⟨(some 17),.bin .geq (.t 16) (.k (.c (.d (.int .u8 97)))),some (13,true)⟩,
 ⟨(some 18),.pick (.t 13) (.t 17) (.k (.c (.d (.bool false)))),none⟩,
 ⟨(some 19),.mv (.t 18),none⟩,
 ⟨(some 20),.mv (.t 0),some (19,true)⟩,
 ⟨(some 21),.mv (.t 1),some (19,true)⟩,
 ⟨(some 22),.index (.t 20) (.t 21),some (19,true)⟩,
 ⟨(some 23),.bin .leq (.t 22) (.k (.c (.d (.int .u8 122)))),some (19,true)⟩,
 ⟨(some 24),.pick (.t 19) (.t 23) (.k (.c (.d (.bool false)))),none⟩,
 ⟨(some 4),.mv (.t 24),none⟩] [0,1,5,6,7,8,9,10,11,12,13,14,15,16,17,18,19,20,21,22,23,24])
 (.ret))
theorem ac107_ok : cFunc Tryz.prog [] [(0,[4],[]),(1,[0,1,5,6,7,8,9,10,11,12,13,14,15,16,17,18,19,20,21,22,23,24],[])] Tryz.f107 = some (ac107,[.tmp 4],25) := by kernel_rfl
end Go.Proofs.YtgfmlifkhpjplaaGreatDoor

/-
  The reference's parser does what it is said to do.
  Conditions: none.
-/
open Go Go.AM Go.Proofs
namespace Go.Proofs.YtgfmlifkhpjplaaGreatDoor
open Go.ChangeShapes Go.WideShapes Go.ChangeAt Go.RowKit
set_option linter.unusedVariables false
set_option linter.unusedSimpArgs false
set_option maxRecDepth 100000
-- 77 loop.example/prologserver/spec.l1Sign params 3 ntmps 22
def ac77 : Cd := .seq (.region [⟨(some 6),.mv (.k (.c (.d (.bool false)))),none⟩] [6])
 (.seq (.region [⟨(some 7),.mv (.t 1),none⟩,
 ⟨(some 8),.bin .geq (.t 7) (.k (.c (.d (.int .i64 0)))),none⟩,
 ⟨(some 9),.mv (.t 8),none⟩,
 ⟨(some 10),.mv (.t 1),some (9,true)⟩,
 ⟨(some 11),.mv (.t 0),some (9,true)⟩,
 ⟨(some 12),.len 0 (.t 11),some (9,true)⟩,
 ⟨(some 13),.bin .lss (.t 10) (.t 12),some (9,true)⟩,
 ⟨(some 14),.pick (.t 9) (.t 13) (.k (.c (.d (.bool false)))),none⟩,
 ⟨(some 15),.mv (.t 14),none⟩,
 ⟨(some 16),.mv (.t 0),some (15,true)⟩,
 ⟨(some 17),.mv (.t 1),some (15,true)⟩,
 ⟨(some 18),.index (.t 16) (.t 17),some (15,true)⟩,
 ⟨(some 19),.mv (.t 2),some (15,true)⟩,
 ⟨(some 20),.bin .eql (.t 18) (.t 19),some (15,true)⟩,
 ⟨(some 21),.pick (.t 15) (.t 20) (.k (.c (.d (.bool false)))),none⟩,
 ⟨(some 6),.mv (.t 21),none⟩] [0,1,2,7,8,9,10,11,12,13,14,15,16,17,18,19,20,21])
 (.ret))
theorem ac77_ok : cFunc Tryz.prog [] [(0,[6],[]),(1,[0,1,2,7,8,9,10,11,12,13,14,15,16,17,18,19,20,21],[])] Tryz.f77 = some (ac77,[.tmp 6],22) := by kernel_rfl
-- 106 loop.example/prologserver/spec.l18Num params 1 ntmps 67
-- loop head live: [0,4,5,6]
def ac106 : Cd := .seq (.region [⟨(some 2),.mv (.k (.c (.d (.int .i64 0)))),none⟩,
 ⟨(some 3),.mv (.k (.c (.d (.bool false)))),none⟩] [2,3])
 (.seq (.region [⟨(some 7),.mv (.t 0),none⟩,
 ⟨(some 8),.len 0 (.t 7),none⟩,
 ⟨(some 9),.bin .gtr (.t 8) (.k (.c (.d (.int .i64 0)))),none⟩,
 ⟨(some 10),.mv (.t 9),none⟩,
 ⟨(some 11),.mv (.t 0),some (10,true)⟩,
 ⟨(some 12),.index (.t 11) (.k (.c (.d (.int .i64 0)))),some (10,true)⟩,
 ⟨(some 13),.bin .eql (.t 12) (.k (.c (.d (.int .u8 45)))),some (10,true)⟩,
 ⟨(some 14),.pick (.t 10) (.t 13) (.k (.c (.d (.bool false)))),none⟩,
 ⟨(some 4),.mv (.t 14),none⟩] [7,8,9,10,11,12,13,14])
 (.seq (.seq (.region [⟨(some 15),.mv (.t 4),none⟩] [])
 (.cond (.t 15)
 (.region [⟨(some 16),.mv (.t 0),none⟩,
 ⟨(some 17),.slice 0 (.t 16) (some (.k (.c (.d (.int .i64 1))))) none none,none⟩,
 ⟨(some 0),.mv (.t 17),none⟩] [15,16,17])
 (.skip)))
 (.seq (.seq (.region [⟨(some 18),.mv (.t 0),none⟩,
 ⟨(some 19),.len 0 (.t 18),none⟩,
 ⟨(some 20),.bin .eql (.t 19) (.k (.c (.d (.int .i64 0)))),none⟩,
 ⟨(some 21),.mv (.t 20),none⟩,
 ⟨(some 22),.mv (.t 0),some (21,false)⟩,
 ⟨(some 23),.len 0 (.t 22),some (21,false)⟩,
 ⟨(some 24),.bin .gtr (.t 23) (.k (.c (.d (.int .i64 17)))),some (21,false)⟩,
 ⟨(some 25),.pick (.t 21) (.k (.c (.d (.bool true)))) (.t 24),none⟩,
 ⟨(some 26),.mv (.t 25),none⟩,
 ⟨(some 27),.mv (.t 0),some (26,false)⟩,
 ⟨(some 28),.index (.t 27) (.k (.c (.d (.int .i64 0)))),some (26,false)⟩,
 ⟨(some 29),.bin .eql (.t 28) (.k (.c (.d (.int .u8 48)))),some (26,false)⟩,
 ⟨(some 30),.mv (.t 29),some (26,false)⟩,
 ⟨(some 31),.mv (.t 0),some (30,true)⟩,
 ⟨(some 32),.len 0 (.t 31),some (30,true)⟩,
 ⟨(some 33),.bin .gtr (.t 32) (.k (.c (.d (.int .i64 1)))),some (30,true)⟩,
 ⟨(some 34),.mv (.t 33),some (30,true)⟩,
 ⟨(some 35),.mv (.t 4),some (34,false)⟩,
 ⟨(some 36),.pick (.t 34) (.k (.c (.d (.bool true)))) (.t 35),some (30,true)⟩,
 ⟨(some 37),.pick (.t 30) (.t 36) (.k (.c (.d (.bool false)))),some (26,false)⟩,
 ⟨(some 38),.pick (.t 26) (.k (.c (.d (.bool true)))) (.t 37),none⟩] [15,18,19,20,21,22,23,24,25,26,27,28,29,30,31,32,33,34,35,36,37])
 (.cond (.t 38)
 (.seq (.region [⟨(some 2),.mv (.k (.c (.d (.int .i64 0)))),none⟩,
 ⟨(some 3),.mv (.k (.c (.d (.bool false)))),none⟩] [0,4,38])
 (.ret))
 (.skip)))
 (.seq (.region [⟨(some 5),.mv (.k (.c (.d (.int .i64 0)))),none⟩] [2,3,38])
 (.seq (.seq (.region [⟨(some 6),.mv (.k (.c (.d (.int .i64 0)))),none⟩] [])
 (.block 0 (.loop (.seq (.seq (.region [⟨(some 39),.mv (.t 6),none⟩,
 ⟨(some 40),.mv (.t 0),none⟩,
 ⟨(some 41),.len 0 (.t 40),none⟩,
 ⟨(some 42),.bin .lss (.t 39) (.t 41),none⟩] [39,40,41])
 (.cond (.t 42)
 (.skip)
 (.exit 0)))
 (.seq (.block 1 (.seq (.seq (.region [⟨(some 45),.mv (.t 0),none⟩,
 ⟨(some 46),.mv (.t 6),none⟩,
 ⟨(some 47),.index (.t 45) (.t 46),none⟩,
 ⟨(some 48),.bin .lss (.t 47) (.k (.c (.d (.int .u8 48)))),none⟩,
 ⟨(some 49),.mv (.t 48),none⟩,
 ⟨(some 50),.mv (.t 0),some (49,false)⟩,
 ⟨(some 51),.mv (.t 6),some (49,false)⟩,
 ⟨(some 52),.index (.t 50) (.t 51),some (49,false)⟩,
 ⟨(some 53),.bin .gtr (.t 52) (.k (.c (.d (.int .u8 57)))),some (49,false)⟩,
 ⟨(some 54),.pick (.t 49) (.k (.c (.d (.bool true)))) (.t 53),none⟩] [42,45,46,47,48,49,50,51,52,53])
 (.cond (.t 54)
 (.seq (.region [⟨(some 2),.mv (.k (.c (.d (.int .i64 0)))),none⟩,
 ⟨(some 3),.mv (.k (.c (.d (.bool false)))),none⟩] [0,4,5,6,54])
 (.ret))
 (.skip)))
 (.region [⟨(some 55),.mv (.t 5),none⟩,
 ⟨(some 56),.bin .mul (.t 55) (.k (.c (.d (.int .i64 10)))),none⟩,
 ⟨(some 57),.mv (.t 0),none⟩,
 ⟨(some 58),.mv (.t 6),none⟩,
 ⟨(some 59),.index (.t 57) (.t 58),none⟩,
 ⟨(some 60),.bin .sub (.t 59) (.k (.c (.d (.int .u8 48)))),none⟩,
 ⟨(some 61),.cvInt .i64 (.t 60),none⟩,
 ⟨(some 62),.bin .add (.t 56) (.t 61),none⟩,
 ⟨(some 5),.mv (.t 62),none⟩] [2,3,54,55,56,57,58,59,60,61,62])))
 (.region [⟨(some 43),.mv (.t 6),none⟩,
 ⟨(some 44),.bin .add (.t 43) (.k (.c (.d (.int .i64 1)))),none⟩,
 ⟨(some 6),.mv (.t 44),none⟩] [43,44]))))))
 (.seq (.seq (.region [⟨(some 63),.mv (.t 4),none⟩] [4])
 (.cond (.t 63)
 (.region [⟨(some 64),.mv (.t 5),none⟩,
 ⟨(some 65),.un .neg (.t 64),none⟩,
 ⟨(some 5),.mv (.t 65),none⟩] [63,64,65])
 (.skip)))
 (.seq (.region [⟨(some 66),.mv (.t 5),none⟩,
 ⟨(some 2),.mv (.t 66),none⟩,
 ⟨(some 3),.mv (.k (.c (.d (.bool true)))),none⟩] [5,63,66])
 (.ret))))))))
theorem ac106_ok : cFunc Tryz.prog [] [(0,[2,3],[]),(1,[7,8,9,10,11,12,13,14],[]),(2,[],[]),(3,[15,16,17],[]),(4,[15,18,19,20,21,22,23,24,25,26,27,28,29,30,31,32,33,34,35,36,37],[]),(5,[0,4,38],[]),(6,[2,3,38],[]),(7,[],[]),(8,[39,40,41],[]),(10,[42,45,46,47,48,49,50,51,52,53],[]),(11,[0,4,5,6,54],[]),(12,[2,3,54,55,56,57,58,59,60,61,62],[]),(9,[43,44],[]),(13,[4],[]),(14,[63,64,65],[]),(15,[5,63,66],[])] Tryz.f106 = some (ac106,[.tmp 2,.tmp 3],67) := by kernel_rfl
set_option maxHeartbeats 3200000 in
theorem sign_callsL (s : List UInt8) (hs : s.length ≤ 2000000) (i : Nat) (hi : i ≤ 2000000) (c : UInt8) (H : Heap) : ACalls Tryz.prog 77 [.c (.d (.str s)), .c (.d (.int .i64 i)), .c (.d (.int .u8 c.toNat))] H (fun r H' => H' = H ∧ r = .c (.d (.bool (sgn s i c)))) := by
  refine acalls Tryz.func77 (by kernel_rfl) ac77_ok fun hf => ?_
  have hli : inR .i64 (s.length : Int) := small_i64 (by omega) (by omega)
  by_cases hlt : i < s.length
  · have hsg : sgn s i c = (s[i] == c) := by simp [sgn, hlt]
    rw [hsg]
    have hlt2 : (i : Int) < s.length := by omega
    simp -implicitDefEqProofs [ac77, hli, hlt, go_sem, -List.set_cons_succ, -List.set_cons_zero]
    refine byte_nat hlt ?_
    simp -implicitDefEqProofs [go_sem, -List.set_cons_succ, -List.set_cons_zero]
    rw [Bool.eq_iff_iff]
    simp
    exact ⟨fun h => UInt8.toNat_inj.1 (by omega), fun h => by rw [h]⟩
  · have hsg : sgn s i c = false := by simp [sgn, hlt]
    have hlt2 : ¬ (i : Int) < s.length := by omega
    rw [hsg]
    simp -implicitDefEqProofs [ac77, hli, hlt, go_sem, -List.set_cons_succ, -List.set_cons_zero]
    refine byte_off 0 ?_
    simp -implicitDefEqProofs [go_sem, -List.set_cons_succ, -List.set_cons_zero]
set_option maxHeartbeats 3200000 in
theorem sign_calls (s : List UInt8) (hs : s.length ≤ 1000000) (i : Nat) (hi : i ≤ 2000000) (c : UInt8) (H : Heap) : ACalls Tryz.prog 77 [.c (.d (.str s)), .c (.d (.int .i64 i)), .c (.d (.int .u8 c.toNat))] H (fun r H' => H' = H ∧ r = .c (.d (.bool (sgn s i c)))) := sign_callsL s (by omega) i hi c H
set_option maxHeartbeats 3200000 in
theorem digit_calls (s : List UInt8) (hs : s.length ≤ 1000000) (i : Nat) (hi : i ≤ 2000000) (H : Heap) : ACalls Tryz.prog 80 [.c (.d (.str s)), .c (.d (.int .i64 i))] H (fun r H' => H' = H ∧ r = .c (.d (.bool (digAt s i)))) := by
  refine acalls Tryz.func80 (by kernel_rfl) ac80_ok fun hf => ?_
  have hli : inR .i64 (s.length : Int) := small_i64 (by omega) (by omega)
  by_cases hlt : i < s.length
  · have hsg : digAt s i = digB s[i] := by simp [digAt, hlt]
    rw [hsg]
    simp -implicitDefEqProofs [ac80, hli, hlt, go_sem, -List.set_cons_succ, -List.set_cons_zero]
    refine byte_nat hlt ?_
    by_cases h1 : (48 : Int) ≤ s[i].toNat
    · have h1' : 48 ≤ s[i].toNat := by omega
      simp -implicitDefEqProofs [h1, go_sem, -List.set_cons_succ, -List.set_cons_zero]
      refine byte_nat hlt ?_
      simp -implicitDefEqProofs [digB, h1', go_sem, -List.set_cons_succ, -List.set_cons_zero]
      omega
    · have h1' : ¬ 48 ≤ s[i].toNat := by omega
      simp -implicitDefEqProofs [h1, go_sem, -List.set_cons_succ, -List.set_cons_zero]
      refine byte_off 0 ?_
      simp -implicitDefEqProofs [digB, h1', go_sem, -List.set_cons_succ, -List.set_cons_zero]
  · have hsg : digAt s i = false := by simp [digAt, hlt]
    rw [hsg]
    simp -implicitDefEqProofs [ac80, hli, hlt, go_sem, -List.set_cons_succ, -List.set_cons_zero]
    refine byte_off 0 ?_
    simp -implicitDefEqProofs [go_sem, -List.set_cons_succ, -List.set_cons_zero]
    refine byte_off 0 ?_
    simp -implicitDefEqProofs [go_sem, -List.set_cons_succ, -List.set_cons_zero]
set_option maxHeartbeats 3200000 in
theorem small_calls (s : List UInt8) (hs : s.length ≤ 1000000) (i : Nat) (hi : i ≤ 2000000) (H : Heap) : ACalls Tryz.prog 107 [.c (.d (.str s)), .c (.d (.int .i64 i))] H (fun r H' => H' = H ∧ r = .c (.d (.bool (smaAt s i)))) := by
  refine acalls Tryz.func107 (by kernel_rfl) ac107_ok fun hf => ?_
  have hli : inR .i64 (s.length : Int) := small_i64 (by omega) (by omega)
  by_cases hlt : i < s.length
  · have hsg : smaAt s i = smaB s[i] := by simp [smaAt, hlt]
    rw [hsg]
    simp -implicitDefEqProofs [ac107, hli, hlt, go_sem, -List.set_cons_succ, -List.set_cons_zero]
    refine byte_nat hlt ?_
    by_cases h1 : (97 : Int) ≤ s[i].toNat
    · have h1' : 97 ≤ s[i].toNat := by omega
      simp -implicitDefEqProofs [h1, go_sem, -List.set_cons_succ, -List.set_cons_zero]
      refine byte_nat hlt ?_
      simp -implicitDefEqProofs [smaB, h1', go_sem, -List.set_cons_succ, -List.set_cons_zero]
      omega
    · have h1' : ¬ 97 ≤ s[i].toNat := by omega
      simp -implicitDefEqProofs [h1, go_sem, -List.set_cons_succ, -List.set_cons_zero]
      refine byte_off 0 ?_
      simp -implicitDefEqProofs [smaB, h1', go_sem, -List.set_cons_succ, -List.set_cons_zero]
  · have hsg : smaAt s i = false := by simp [smaAt, hlt]
    rw [hsg]
    simp -implicitDefEqProofs [ac107, hli, hlt, go_sem, -List.set_cons_succ, -List.set_cons_zero]
    refine byte_off 0 ?_
    simp -implicitDefEqProofs [go_sem, -List.set_cons_succ, -List.set_cons_zero]
    refine byte_off 0 ?_
    simp -implicitDefEqProofs [go_sem, -List.set_cons_succ, -List.set_cons_zero]
theorem numV_snoc (l : List UInt8) (b : UInt8) : numV (l ++ [b]) = numV l * 10 + (b.toNat - 48) := by simp [numV]
theorem numV_lt : ∀ (n : Nat) (l : List UInt8), l.length = n → l.all digB = true → numV l < 10 ^ n := by
  intro n
  induction n with
  | zero => intro l hl _; obtain rfl := List.eq_nil_of_length_eq_zero hl; simp [numV]
  | succ n ih =>
    intro l hl hd
    have hne : l ≠ [] := by intro h; subst h; simp at hl
    obtain ⟨m, b, rfl⟩ : ∃ m b, l = m ++ [b] := ⟨l.dropLast, l.getLast hne, (List.dropLast_concat_getLast hne).symm⟩
    simp at hl
    rw [List.all_append, Bool.and_eq_true] at hd
    have h1 := ih m hl hd.1
    have h2 := hd.2
    simp [digB] at h2
    rw [numV_snoc, Nat.pow_succ]
    omega
set_option maxHeartbeats 1600000 in
theorem num_calls (t : List UInt8) (hl : t.length ≤ 17) (hd : t.all digB = true) (H : Heap) : ACalls Tryz.prog 106 [.c (.d (.str t))] H
    (fun r H' => H' = H ∧ r = .tup [.c (.d (.int .i64 (if canB t then (numV t : Int) else 0))), .c (.d (.bool (canB t)))]) := by
  refine acalls Tryz.func106 (by kernel_rfl) ac106_ok fun hf => ?_
  have hli : inR .i64 (t.length : Int) := small_i64 (by omega) (by omega)
  cases t with
  | nil =>
    have h0 : inR .i64 (0 : Int) := small_i64 (by omega) (by omega)
    simp -implicitDefEqProofs [ac106, h0, go_sem, -List.set_cons_succ, -List.set_cons_zero]
    refine byte_off 0 ?_
    simp -implicitDefEqProofs [canB, h0, go_sem, -List.set_cons_succ, -List.set_cons_zero]
    refine byte_off 0 ?_
    simp -implicitDefEqProofs [canB, h0, go_sem, -List.set_cons_succ, -List.set_cons_zero]
  | cons b l =>
    have hb : digB b = true := by simp at hd; exact hd.1
    have hb2 : 48 ≤ b.toNat ∧ b.toNat ≤ 57 := by simpa [digB] using hb
    have hb45 : ((b.toNat : Int) == 45) = false := by simp; omega
    have hz : ((l.length : Int) + 1 == 0) = false := by simp; omega
    have h17 : ¬ (17 : Int) < (l.length : Int) + 1 := by simp at hl; omega
    simp only [List.length_cons, Int.natCast_add, Int.cast_ofNat_Int] at hli
    have hpos : (0 : Int) < (l.length : Int) + 1 := by omega
    obtain ⟨t, ht⟩ : ∃ t, t = b :: l := ⟨_, rfl⟩
    simp -implicitDefEqProofs [ac106, hli, hpos, go_sem, -List.set_cons_succ, -List.set_cons_zero]
    refine byte_int b (by omega) (by simp) ?_
    simp -implicitDefEqProofs [hb45, hz, h17, hli, go_sem, -List.set_cons_succ, -List.set_cons_zero]
    refine byte_int b (by omega) (by simp) ?_
    simp -implicitDefEqProofs [hb45, hz, h17, hli, go_sem, -List.set_cons_succ, -List.set_cons_zero]
    refine ⟨fun h1 h2 => ?_, fun h1 => ?_⟩
    · have hb48 : b = 48 := UInt8.toNat_inj.1 (by have : (48 : UInt8).toNat = 48 := rfl; omega)
      have hl0 : l ≠ [] := by intro h; subst h; simp at h2
      have : canB (b :: l) = false := by simp [canB, hb48, hl0]
      simp [this]
    · have hcan : canB (b :: l) = true := by
        have e1 : (b != 48) = true ∨ l = [] := by
          by_cases hb48 : b = 48
          · subst hb48
            have := h1 rfl
            right
            exact List.eq_nil_of_length_eq_zero (by omega)
          · left; simp [hb48]
        simp only [canB, Bool.and_eq_true, Bool.or_eq_true, decide_eq_true_eq, List.headD_cons]
        refine ⟨⟨⟨by simp, hl⟩, ?_⟩, hd⟩
        rcases e1 with e1 | e1
        · exact .inl e1
        · exact .inr (by simp [e1])
      rw [hcan]
      simp only [if_true]
      rw [← ht] at hl hd ⊢
      have htl : inR .i64 (t.length : Int) := small_i64 (by omega) (by omega)
      refine loop_set (σ := Nat) (fun i => [(6, .c (.d (.int .i64 i))), (5, .c (.d (.int .i64 (numV (t.take i)))))]) (fun _ => H) (fun _ => []) (fun i => i ≤ t.length) (fun i => t.length - i) 0 (by simp [setAll, numV]) (Nat.zero_le _) ?_
      intro i hi
      simp -implicitDefEqProofs [setAll, htl, go_sem, -List.set_cons_succ, -List.set_cons_zero]
      refine ⟨fun hlt => ?_, fun hge => ?_⟩
      · have hadd : inR .i64 ((i : Int) + 1) := small_i64 (by omega) (by omega)
        have hdi : digB t[i] = true := List.all_eq_true.1 hd _ (List.getElem_mem hlt)
        have hd2 : 48 ≤ t[i].toNat ∧ t[i].toNat ≤ 57 := by simpa [digB] using hdi
        have q1 : ¬ (t[i].toNat : Int) < 48 := by omega
        have q2 : ¬ (57 : Int) < t[i].toNat := by omega
        have hts : t.take (i + 1) = t.take i ++ [t[i]] := List.take_succ_eq_append_getElem hlt
        have hnv := numV_lt i (t.take i) (by simp; omega) (by
          rw [List.all_eq_true]
          intro x hx
          exact List.all_eq_true.1 hd _ (List.mem_of_mem_take hx))
        have hp : 10 ^ i ≤ 10 ^ 17 := Nat.pow_le_pow_right (by omega) (by omega)
        have hw : IntKind.i64.wrap ((t[i].toNat : Int) - 48) = (t[i].toNat : Int) - 48 := by rw [IntKind.wrap_i64]; omega
        have hr1 : inR .i64 ((numV (t.take i) : Int) * 10) := i64_def.2 (by omega)
        have hr2 : inR .i64 ((numV (t.take i) : Int) * 10 + ((t[i].toNat : Int) - 48)) := i64_def.2 (by omega)
        have hr3 : inR .u8 ((t[i].toNat : Int) - 48) := by simp [inR, IntKind.min, IntKind.max, IntKind.signed, IntKind.bits]; omega
        refine byte_nat hlt ?_
        simp -implicitDefEqProofs [q1, go_sem, -List.set_cons_succ, -List.set_cons_zero]
        refine byte_nat hlt ?_
        simp -implicitDefEqProofs [q1, q2, hr1, go_sem, -List.set_cons_succ, -List.set_cons_zero]
        refine byte_nat hlt ?_
        simp -implicitDefEqProofs [q1, q2, hr1, hr2, hr3, hw, hadd, go_sem, -List.set_cons_succ, -List.set_cons_zero]
        refine loop_back (i + 1) (by rw [hts, numV_snoc]; simp [setAll]; omega) hlt (by show t.length - (i + 1) < t.length - i; omega)
      · obtain rfl : i = t.length := by omega
        simp -implicitDefEqProofs [go_sem, -List.set_cons_succ, -List.set_cons_zero]
-- 81 loop.example/prologserver/spec.l1Number params 2 ntmps 60
-- loop head live: [0,1,4,6,7]
def ac81 : Cd := .seq (.region [⟨(some 4),.alloc [(.d (.int .i64 0)),(.d (.int .i64 0)),(.d (.str [])),(.full [])],none⟩,
 ⟨(some 5),.mv (.k (.c (.d (.int .i64 0)))),none⟩] [5])
 (.seq (.region [⟨(some 10),.mv (.t 1),none⟩,
 ⟨(some 6),.mv (.t 10),none⟩] [10])
 (.seq (.seq (.region [⟨(some 11),.mv (.t 0),none⟩,
 ⟨(some 12),.mv (.t 6),none⟩,
 ⟨(some 13),.qcall 77 [(.t 11),(.t 12),(.k (.c (.d (.int .u8 45))))],none⟩] [11,12])
 (.cond (.t 13)
 (.region [⟨(some 14),.mv (.t 6),none⟩,
 ⟨(some 15),.bin .add (.t 14) (.k (.c (.d (.int .i64 1)))),none⟩,
 ⟨(some 6),.mv (.t 15),none⟩] [13,14,15])
 (.skip)))
 (.seq (.region [⟨(some 16),.mv (.t 6),none⟩,
 ⟨(some 7),.mv (.t 16),none⟩] [13,16])
 (.seq (.block 0 (.loop (.seq (.seq (.region [⟨(some 17),.mv (.t 0),none⟩,
 ⟨(some 18),.mv (.t 6),none⟩,
 ⟨(some 19),.qcall 80 [(.t 17),(.t 18)],none⟩,
 ⟨(some 20),.mv (.t 19),none⟩,
 ⟨(some 21),.mv (.t 6),some (20,true)⟩,
 ⟨(some 22),.mv (.t 7),some (20,true)⟩,
 ⟨(some 23),.bin .add (.t 22) (.k (.c (.d (.int .i64 4)))),some (20,true)⟩,
 ⟨(some 24),.bin .lss (.t 21) (.t 23),some (20,true)⟩,
 ⟨(some 25),.pick (.t 20) (.t 24) (.k (.c (.d (.bool false)))),none⟩] [17,18,19,20,21,22,23,24])
 (.cond (.t 25)
 (.skip)
 (.exit 0)))
 (.block 1 (.region [⟨(some 26),.mv (.t 6),none⟩,
 ⟨(some 27),.bin .add (.t 26) (.k (.c (.d (.int .i64 1)))),none⟩,
 ⟨(some 6),.mv (.t 27),none⟩] [25,26,27])))))
 (.seq (.region [⟨(some 29),.mv (.t 0),none⟩,
 ⟨(some 30),.mv (.t 7),none⟩,
 ⟨(some 31),.mv (.t 6),none⟩,
 ⟨(some 32),.slice 0 (.t 29) (some (.t 30)) (some (.t 31)) none,none⟩,
 ⟨(some 33),.qcall 106 [(.t 32)],none⟩,
 ⟨(some 28),.mv (.t 33),none⟩,
 ⟨(some 34),.extract 0 (.t 28),none⟩,
 ⟨(some 35),.extract 1 (.t 28),none⟩,
 ⟨(some 8),.mv (.t 34),none⟩,
 ⟨(some 9),.mv (.t 35),none⟩] [0,28,29,30,31,32,33,34,35])
 (.seq (.seq (.region [⟨(some 36),.mv (.t 9),none⟩,
 ⟨(some 37),.un .not (.t 36),none⟩,
 ⟨(some 38),.mv (.t 37),none⟩,
 ⟨(some 39),.mv (.t 7),some (38,false)⟩,
 ⟨(some 40),.mv (.t 1),some (38,false)⟩,
 ⟨(some 41),.bin .gtr (.t 39) (.t 40),some (38,false)⟩,
 ⟨(some 42),.mv (.t 41),some (38,false)⟩,
 ⟨(some 43),.mv (.t 8),some (42,true)⟩,
 ⟨(some 44),.bin .eql (.t 43) (.k (.c (.d (.int .i64 0)))),some (42,true)⟩,
 ⟨(some 45),.pick (.t 42) (.t 44) (.k (.c (.d (.bool false)))),some (38,false)⟩,
 ⟨(some 46),.pick (.t 38) (.k (.c (.d (.bool true)))) (.t 45),none⟩,
 ⟨(some 47),.mv (.t 46),none⟩,
 ⟨(some 48),.mv (.t 8),some (47,false)⟩,
 ⟨(some 49),.bin .gtr (.t 48) (.k (.c (.d (.int .i64 999)))),some (47,false)⟩,
 ⟨(some 50),.pick (.t 47) (.k (.c (.d (.bool true)))) (.t 49),none⟩] [9,36,37,38,39,40,41,42,43,44,45,46,47,48,49])
 (.cond (.t 50)
 (.seq (.region [⟨(some 51),.build [(.d (.int .i64 0)),(.d (.int .i64 0)),(.d (.str [])),(.full [])] [],none⟩,
 ⟨none,.store 4 (.t 4) (.t 51),none⟩,
 ⟨(some 5),.mv (.k (.c (.d (.int .i64 (-1))))),none⟩] [1,6,7,8,50,51])
 (.ret))
 (.skip)))
 (.seq (.seq (.region [⟨(some 52),.mv (.t 7),none⟩,
 ⟨(some 53),.mv (.t 1),none⟩,
 ⟨(some 54),.bin .gtr (.t 52) (.t 53),none⟩] [1,5,7,50,52,53])
 (.cond (.t 54)
 (.region [⟨(some 55),.mv (.t 8),none⟩,
 ⟨(some 56),.un .neg (.t 55),none⟩,
 ⟨(some 8),.mv (.t 56),none⟩] [54,55,56])
 (.skip)))
 (.seq (.region [⟨(some 57),.mv (.t 8),none⟩,
 ⟨(some 58),.qcall 55 [(.t 57)],none⟩,
 ⟨(some 59),.mv (.t 6),none⟩,
 ⟨none,.store 4 (.t 4) (.t 58),none⟩,
 ⟨(some 5),.mv (.t 59),none⟩] [6,8,54,57,58,59])
 (.ret)))))))))
theorem ac81_ok : cFunc Tryz.prog [1000055,1000077,1000080,1000106] [(0,[5],[]),(1,[10],[]),(2,[11,12],[]),(3,[13,14,15],[]),(4,[13,16],[]),(5,[17,18,19,20,21,22,23,24],[]),(6,[25,26,27],[]),(7,[0,28,29,30,31,32,33,34,35],[]),(8,[9,36,37,38,39,40,41,42,43,44,45,46,47,48,49],[]),(9,[1,6,7,8,50,51],[]),(10,[1,5,7,50,52,53],[]),(11,[54,55,56],[]),(12,[6,8,54,57,58,59],[])] Tryz.f81 = some (ac81,[.cell 4 (some 4),.tmp 5],60) := by kernel_rfl
theorem cutS_succ {s : List UInt8} {i j : Nat} (hij : i ≤ j) (hj : j < s.length) : cutS s i (j + 1) = cutS s i j ++ [s[j]] := by
  unfold cutS
  rw [List.take_succ_eq_append_getElem hj, List.drop_append_of_le_length (by simp; omega)]
theorem cutS_same (s : List UInt8) (i : Nat) : cutS s i i = [] := by
  unfold cutS
  exact List.drop_of_length_le (by simp; omega)
/-- a run that stops -/
theorem runE_stop {p : List UInt8 → Nat → Bool} {s : List UInt8} : ∀ (n i m : Nat), m ≤ n → (∀ k, k < m → p s (i + k) = true) → (m = n ∨ p s (i + m) = false) → runE p s n i = i + m
  | 0, i, m, hm, _, _ => by
    have : m = 0 := by omega
    subst this; rfl
  | n + 1, i, 0, hm, _, h => by
    rcases h with h | h
    · omega
    · unfold runE; rw [if_neg (by simpa using h)]; rfl
  | n + 1, i, m + 1, hm, h1, h => by
    have h0 : p s i = true := h1 0 (by omega)
    unfold runE
    rw [if_pos h0, runE_stop n (i + 1) m (by omega) (fun k hk => by have := h1 (k + 1) (by omega); rwa [show i + 1 + k = i + (k + 1) by omega]) (by
      rcases h with h | h
      · left; omega
      · right; rwa [show i + 1 + m = i + (m + 1) by omega])]
    omega
theorem cut_digs {s : List UInt8} (p : Nat) : ∀ k : Nat, p + k ≤ s.length → (∀ m, m < k → digAt s (p + m) = true) → (cutS s p (p + k)).all digB = true
  | 0, _, _ => by rw [Nat.add_zero, cutS_same]; rfl
  | k + 1, h, hd => by
    rw [show p + (k + 1) = p + k + 1 by omega, cutS_succ (by omega) (by omega), List.all_append, cut_digs p k (by omega) fun m hm => hd m (by omega)]
    have h1 := hd k (by omega)
    have hlt : p + k < s.length := by omega
    simp [digAt, hlt] at h1
    simp [h1]
def numA : Option (Int × Nat) → A
  | some (n, j) => .tup [.agg ((Tm.mk 2 n [] []).row.map .d), .c (.d (.int .i64 j))]
  | none => .tup [.agg ((Tm.mk 0 0 [] []).row.map .d), .c (.d (.int .i64 (-1)))]
set_option maxHeartbeats 1600000 in
theorem number_calls (s : List UInt8) (hs : s.length ≤ 1000000) (i : Nat) (hi : i ≤ s.length) (H : Heap) : ACalls Tryz.prog 81 [.c (.d (.str s)), .c (.d (.int .i64 i))] H (fun r H' => H' = H ∧ r = numA (numR s i)) := by
  refine acalls Tryz.func81 (by kernel_rfl) ac81_ok fun hf => ?_
  have hi1 : inR .i64 ((i : Int) + 1) := small_i64 (by omega) (by omega)
  simp -implicitDefEqProofs [ac81, go_sem, -List.set_cons_succ, -List.set_cons_zero]
  refine qcall_pure (sign_calls s hs i (by omega) 45) hf rfl ?_
  cases hsg : sgn s i 45 with
  | true =>
    have hlt := sgn_lt hsg
    simp -implicitDefEqProofs [hi1, go_sem, -List.set_cons_succ, -List.set_cons_zero]
    refine loop_set (σ := Nat) (fun k => [(6, .c (.d (.int .i64 ((i + 1 + k : Nat) : Int))))]) (fun _ => H) (fun _ => [.cells [.d (.int .i64 0), .d (.int .i64 0), .d (.str []), .full []]]) (fun k => k ≤ 4 ∧ i + 1 + k ≤ s.length ∧ ∀ m, m < k → digAt s (i + 1 + m) = true) (fun k => 4 - k) 0 (by simp [setAll]) ⟨by omega, by omega, by simp⟩ ?_
    rintro k ⟨hk4, hkl, hkd⟩
    have hpk4 : inR .i64 (((i + 1 : Nat) : Int) + 4) := small_i64 (by omega) (by omega)
    have hpk4' : inR .i64 ((i : Int) + 1 + 4) := small_i64 (by omega) (by omega)
    have hpk : inR .i64 (((i + 1 : Nat) : Int) + (k : Int) + 1) := small_i64 (by omega) (by omega)
    have hpk' : inR .i64 ((i : Int) + 1 + (k : Int) + 1) := small_i64 (by omega) (by omega)
    simp -implicitDefEqProofs [setAll, go_sem, -List.set_cons_succ, -List.set_cons_zero]
    have cd := digit_calls s hs (i + 1 + k) (by omega)
    simp only [Int.natCast_add, Int.cast_ofNat_Int] at cd
    refine qcall_pure cd hf rfl ?_
    have stop : (k = 4 ∨ digAt s (i + 1 + k) = false) → runE digAt s 4 (i + 1) = i + 1 + k := fun h => runE_stop 4 (i + 1) k hk4 hkd h
    have fin : runE digAt s 4 (i + 1) = i + 1 + k → True := fun _ => trivial
    cases hdg : digAt s (i + 1 + k) with
    | true =>
      by_cases hk3 : k < 4
      · have c1 : (i : Int) + 1 + (k : Int) < (i : Int) + 1 + 4 := by omega
        simp -implicitDefEqProofs [hpk4, hpk4', c1, hpk, hpk', hk3, go_sem, -List.set_cons_succ, -List.set_cons_zero]
        have hlt := dig_lt _ hdg
        exact loop_back (k + 1) (by simp [setAll, Int.add_assoc]) ⟨by omega, by omega, fun m hm => by
          rcases Nat.lt_or_ge m k with h | h
          · exact hkd m h
          · obtain rfl : m = k := by omega
            exact hdg⟩ (by show 4 - (k + 1) < 4 - k; omega)
      · obtain rfl : k = 4 := by omega
        have he := stop (.inl rfl)
        simp -implicitDefEqProofs [hpk4, hpk4', go_sem, -List.set_cons_succ, -List.set_cons_zero]
        obtain ⟨T, hT⟩ : ∃ T, T = cutS s (i + 1) (i + 1 + 4) := ⟨_, rfl⟩
        have hTd : T.all digB = true := by rw [hT]; exact cut_digs (i + 1) 4 hkl hkd
        have hTl : T.length ≤ 17 := by rw [hT, cutS_len]; omega
        have hnat : ((i : Int) + 1 + 4).toNat = i + 1 + 4 := by omega
        have hnm := num_calls T hTl hTd
        have hVl := numV_lt T.length T rfl hTd
        have hTk : T.length ≤ 4 := by rw [hT, cutS_len]; omega
        have hp4 : 10 ^ T.length ≤ 10 ^ 4 := Nat.pow_le_pow_right (by omega) hTk
        have hR : numR s i = if canB T then if (true && decide (numV T = 0)) || decide (999 < numV T) then none else some (-(numV T : Int), i + 1 + 4) else none := by
          unfold numR
          simp only [hsg, if_true, if_false, Bool.false_eq_true, he, ← hT]
        rw [hR, hnat]
        have hT' : (s.take (i + 1 + 4)).drop (i + 1) = T := hT.symm
        rw [hT']
        refine ⟨by omega, qcall_pure hnm hf rfl ?_⟩
        have hii : (i : Int) < (i : Int) + 1 := by omega
        have hij : ¬ (i : Int) + 1 ≤ (i : Int) := by omega
        have i1 : inR .i64 (0 - (numV T : Int)) := small_i64 (by omega) (by omega)
        have i2 : inR .i64 (-(numV T : Int)) := small_i64 (by omega) (by omega)
        cases hc : canB T with
        | false => simp -implicitDefEqProofs [numA, row_mk, hf, hii, hij, go_sem, -List.set_cons_succ, -List.set_cons_zero]
        | true =>
          by_cases h0 : numV T = 0
          · simp -implicitDefEqProofs [h0, numA, row_mk, hf, hii, hij, go_sem, -List.set_cons_succ, -List.set_cons_zero]
          · by_cases h9 : 999 < numV T
            · have h9' : (999 : Int) < numV T := by omega
              have h0' : ((numV T : Int) == 0) = false := by simp; omega
              simp -implicitDefEqProofs [h0, h0', h9, h9', numA, row_mk, hf, hii, hij, go_sem, -List.set_cons_succ, -List.set_cons_zero]
            · have h9' : ¬ (999 : Int) < numV T := by omega
              have h0' : ((numV T : Int) == 0) = false := by simp; omega
              simp -implicitDefEqProofs [h0, h0', h9, h9', i1, i2, hf, hii, hij, go_sem, -List.set_cons_succ, -List.set_cons_zero]
              refine qcall_pure (int_calls (-(numV T : Int))) hf (by simp [A.re, re_d]) ?_
              simp -implicitDefEqProofs [numA, row_mk, hf, hii, hij, go_sem, -List.set_cons_succ, -List.set_cons_zero]
    | false =>
      have he := stop (.inr hdg)
      simp -implicitDefEqProofs [go_sem, -List.set_cons_succ, -List.set_cons_zero]
      obtain ⟨T, hT⟩ : ∃ T, T = cutS s (i + 1) (i + 1 + k) := ⟨_, rfl⟩
      have hTd : T.all digB = true := by rw [hT]; exact cut_digs (i + 1) k hkl hkd
      have hTl : T.length ≤ 17 := by rw [hT, cutS_len]; omega
      have hnat : ((i : Int) + 1 + (k : Int)).toNat = i + 1 + k := by omega
      have hnm := num_calls T hTl hTd
      have hVl := numV_lt T.length T rfl hTd
      have hTk : T.length ≤ 4 := by rw [hT, cutS_len]; omega
      have hp4 : 10 ^ T.length ≤ 10 ^ 4 := Nat.pow_le_pow_right (by omega) hTk
      have hR : numR s i = if canB T then if (true && decide (numV T = 0)) || decide (999 < numV T) then none else some (-(numV T : Int), i + 1 + k) else none := by
        unfold numR
        simp only [hsg, if_true, if_false, Bool.false_eq_true, he, ← hT]
      rw [hR, hnat]
      have hT' : (s.take (i + 1 + k)).drop (i + 1) = T := hT.symm
      rw [hT']
      refine ⟨by omega, qcall_pure hnm hf rfl ?_⟩
      have hii : (i : Int) < (i : Int) + 1 := by omega
      have hij : ¬ (i : Int) + 1 ≤ (i : Int) := by omega
      have i1 : inR .i64 (0 - (numV T : Int)) := small_i64 (by omega) (by omega)
      have i2 : inR .i64 (-(numV T : Int)) := small_i64 (by omega) (by omega)
      cases hc : canB T with
      | false => simp -implicitDefEqProofs [numA, row_mk, hf, hii, hij, go_sem, -List.set_cons_succ, -List.set_cons_zero]
      | true =>
        by_cases h0 : numV T = 0
        · simp -implicitDefEqProofs [h0, numA, row_mk, hf, hii, hij, go_sem, -List.set_cons_succ, -List.set_cons_zero]
        · by_cases h9 : 999 < numV T
          · have h9' : (999 : Int) < numV T := by omega
            have h0' : ((numV T : Int) == 0) = false := by simp; omega
            simp -implicitDefEqProofs [h0, h0', h9, h9', numA, row_mk, hf, hii, hij, go_sem, -List.set_cons_succ, -List.set_cons_zero]
          · have h9' : ¬ (999 : Int) < numV T := by omega
            have h0' : ((numV T : Int) == 0) = false := by simp; omega
            simp -implicitDefEqProofs [h0, h0', h9, h9', i1, i2, hf, hii, hij, go_sem, -List.set_cons_succ, -List.set_cons_zero]
            refine qcall_pure (int_calls (-(numV T : Int))) hf (by simp [A.re, re_d]) ?_
            simp -implicitDefEqProofs [numA, row_mk, hf, hii, hij, go_sem, -List.set_cons_succ, -List.set_cons_zero]
  | false =>
    simp -implicitDefEqProofs [hi1, go_sem, -List.set_cons_succ, -List.set_cons_zero]
    refine loop_set (σ := Nat) (fun k => [(6, .c (.d (.int .i64 ((i + k : Nat) : Int))))]) (fun _ => H) (fun _ => [.cells [.d (.int .i64 0), .d (.int .i64 0), .d (.str []), .full []]]) (fun k => k ≤ 4 ∧ i + k ≤ s.length ∧ ∀ m, m < k → digAt s (i + m) = true) (fun k => 4 - k) 0 (by simp [setAll]) ⟨by omega, by omega, by simp⟩ ?_
    rintro k ⟨hk4, hkl, hkd⟩
    have hpk4 : inR .i64 (((i : Nat) : Int) + 4) := small_i64 (by omega) (by omega)
    have hpk4' : inR .i64 ((i : Int) + 4) := small_i64 (by omega) (by omega)
    have hpk : inR .i64 (((i : Nat) : Int) + (k : Int) + 1) := small_i64 (by omega) (by omega)
    have hpk' : inR .i64 ((i : Int) + (k : Int) + 1) := small_i64 (by omega) (by omega)
    simp -implicitDefEqProofs [setAll, go_sem, -List.set_cons_succ, -List.set_cons_zero]
    have cd := digit_calls s hs (i + k) (by omega)
    simp only [Int.natCast_add, Int.cast_ofNat_Int] at cd
    refine qcall_pure cd hf rfl ?_
    have stop : (k = 4 ∨ digAt s (i + k) = false) → runE digAt s 4 (i) = i + k := fun h => runE_stop 4 (i) k hk4 hkd h
    have fin : runE digAt s 4 (i) = i + k → True := fun _ => trivial
    cases hdg : digAt s (i + k) with
    | true =>
      by_cases hk3 : k < 4
      · have c1 : (i : Int) + (k : Int) < (i : Int) + 4 := by omega
        simp -implicitDefEqProofs [hpk4, hpk4', c1, hpk, hpk', hk3, go_sem, -List.set_cons_succ, -List.set_cons_zero]
        have hlt := dig_lt _ hdg
        exact loop_back (k + 1) (by simp [setAll, Int.add_assoc]) ⟨by omega, by omega, fun m hm => by
          rcases Nat.lt_or_ge m k with h | h
          · exact hkd m h
          · obtain rfl : m = k := by omega
            exact hdg⟩ (by show 4 - (k + 1) < 4 - k; omega)
      · obtain rfl : k = 4 := by omega
        have he := stop (.inl rfl)
        simp -implicitDefEqProofs [hpk4, hpk4', go_sem, -List.set_cons_succ, -List.set_cons_zero]
        obtain ⟨T, hT⟩ : ∃ T, T = cutS s (i) (i + 4) := ⟨_, rfl⟩
        have hTd : T.all digB = true := by rw [hT]; exact cut_digs (i) 4 hkl hkd
        have hTl : T.length ≤ 17 := by rw [hT, cutS_len]; omega
        have hnat : ((i : Int) + 4).toNat = i + 4 := by omega
        have hnm := num_calls T hTl hTd
        have hVl := numV_lt T.length T rfl hTd
        have hTk : T.length ≤ 4 := by rw [hT, cutS_len]; omega
        have hp4 : 10 ^ T.length ≤ 10 ^ 4 := Nat.pow_le_pow_right (by omega) hTk
        have hR : numR s i = if canB T then if (false && decide (numV T = 0)) || decide (999 < numV T) then none else some ((numV T : Int), i + 4) else none := by
          unfold numR
          simp only [hsg, if_true, if_false, Bool.false_eq_true, he, ← hT]
        rw [hR, hnat]
        have hT' : (s.take (i + 4)).drop (i) = T := hT.symm
        rw [hT']
        refine ⟨by omega, qcall_pure hnm hf rfl ?_⟩
        have hii : (i : Int) < (i : Int) + 1 := by omega
        have hij : ¬ (i : Int) + 1 ≤ (i : Int) := by omega
        have i1 : inR .i64 (0 - (numV T : Int)) := small_i64 (by omega) (by omega)
        have i2 : inR .i64 (-(numV T : Int)) := small_i64 (by omega) (by omega)
        cases hc : canB T with
        | false => simp -implicitDefEqProofs [numA, row_mk, hf, hii, hij, go_sem, -List.set_cons_succ, -List.set_cons_zero]
        | true =>
          by_cases h0 : numV T = 0
          · simp -implicitDefEqProofs [h0, numA, row_mk, hf, hii, hij, go_sem, -List.set_cons_succ, -List.set_cons_zero]
            refine qcall_pure (int_calls 0) hf (by simp [A.re, re_d]) ?_
            simp -implicitDefEqProofs [numA, row_mk, h0, hf, hii, hij, go_sem, -List.set_cons_succ, -List.set_cons_zero]
          · by_cases h9 : 999 < numV T
            · have h9' : (999 : Int) < numV T := by omega
              have h0' : ((numV T : Int) == 0) = false := by simp; omega
              simp -implicitDefEqProofs [h0, h0', h9, h9', numA, row_mk, hf, hii, hij, go_sem, -List.set_cons_succ, -List.set_cons_zero]
            · have h9' : ¬ (999 : Int) < numV T := by omega
              have h0' : ((numV T : Int) == 0) = false := by simp; omega
              simp -implicitDefEqProofs [h0, h0', h9, h9', i1, i2, hf, hii, hij, go_sem, -List.set_cons_succ, -List.set_cons_zero]
              refine qcall_pure (int_calls ((numV T : Int))) hf (by simp [A.re, re_d]) ?_
              simp -implicitDefEqProofs [numA, row_mk, hf, hii, hij, go_sem, -List.set_cons_succ, -List.set_cons_zero]
    | false =>
      have he := stop (.inr hdg)
      simp -implicitDefEqProofs [go_sem, -List.set_cons_succ, -List.set_cons_zero]
      obtain ⟨T, hT⟩ : ∃ T, T = cutS s (i) (i + k) := ⟨_, rfl⟩
      have hTd : T.all digB = true := by rw [hT]; exact cut_digs (i) k hkl hkd
      have hTl : T.length ≤ 17 := by rw [hT, cutS_len]; omega
      have hnat : ((i : Int) + (k : Int)).toNat = i + k := by omega
      have hnm := num_calls T hTl hTd
      have hVl := numV_lt T.length T rfl hTd
      have hTk : T.length ≤ 4 := by rw [hT, cutS_len]; omega
      have hp4 : 10 ^ T.length ≤ 10 ^ 4 := Nat.pow_le_pow_right (by omega) hTk
      have hR : numR s i = if canB T then if (false && decide (numV T = 0)) || decide (999 < numV T) then none else some ((numV T : Int), i + k) else none := by
        unfold numR
        simp only [hsg, if_true, if_false, Bool.false_eq_true, he, ← hT]
      rw [hR, hnat]
      have hT' : (s.take (i + k)).drop (i) = T := hT.symm
      rw [hT']
      refine ⟨by omega, qcall_pure hnm hf rfl ?_⟩
      have hii : (i : Int) < (i : Int) + 1 := by omega
      have hij : ¬ (i : Int) + 1 ≤ (i : Int) := by omega
      have i1 : inR .i64 (0 - (numV T : Int)) := small_i64 (by omega) (by omega)
      have i2 : inR .i64 (-(numV T : Int)) := small_i64 (by omega) (by omega)
      cases hc : canB T with
      | false => simp -implicitDefEqProofs [numA, row_mk, hf, hii, hij, go_sem, -List.set_cons_succ, -List.set_cons_zero]
      | true =>
        by_cases h0 : numV T = 0
        · simp -implicitDefEqProofs [h0, numA, row_mk, hf, hii, hij, go_sem, -List.set_cons_succ, -List.set_cons_zero]
          refine qcall_pure (int_calls 0) hf (by simp [A.re, re_d]) ?_
          simp -implicitDefEqProofs [numA, row_mk, h0, hf, hii, hij, go_sem, -List.set_cons_succ, -List.set_cons_zero]
        · by_cases h9 : 999 < numV T
          · have h9' : (999 : Int) < numV T := by omega
            have h0' : ((numV T : Int) == 0) = false := by simp; omega
            simp -implicitDefEqProofs [h0, h0', h9, h9', numA, row_mk, hf, hii, hij, go_sem, -List.set_cons_succ, -List.set_cons_zero]
          · have h9' : ¬ (999 : Int) < numV T := by omega
            have h0' : ((numV T : Int) == 0) = false := by simp; omega
            simp -implicitDefEqProofs [h0, h0', h9, h9', i1, i2, hf, hii, hij, go_sem, -List.set_cons_succ, -List.set_cons_zero]
            refine qcall_pure (int_calls ((numV T : Int))) hf (by simp [A.re, re_d]) ?_
            simp -implicitDefEqProofs [numA, row_mk, hf, hii, hij, go_sem, -List.set_cons_succ, -List.set_cons_zero]
end Go.Proofs.YtgfmlifkhpjplaaGreatDoor

/-
  Numbers as the program reads them: the plain law.
  Conditions: none.
-/
open Go Go.AM Go.Proofs
namespace Go.Proofs.YtgfmlifkhpjplaaGreatDoor
set_option linter.unusedVariables false
set_option linter.unusedSimpArgs false
set_option maxRecDepth 100000
def ofDs (ds : List Nat) : List UInt8 := ds.map fun x => UInt8.ofNat (48 + x)
def canOk (l : List UInt8) : Bool := !canB l || dec3 (numV l) == l
theorem can1 : ((List.range 10).all fun x => canOk (ofDs [x])) = true := by kernel_rfl
theorem can2 : ((List.range 100).all fun x => canOk (ofDs [x / 10, x % 10])) = true := by kernel_rfl
theorem can3 : ((List.range 1000).all fun x => canOk (ofDs [x / 100, x / 10 % 10, x % 10])) = true := by kernel_rfl
theorem dig_of {b : UInt8} (h : digB b = true) : ∃ x, x < 10 ∧ b = UInt8.ofNat (48 + x) := by
  simp only [digB, Bool.and_eq_true, decide_eq_true_eq] at h
  refine ⟨b.toNat - 48, by omega, ?_⟩
  rw [show 48 + (b.toNat - 48) = b.toNat by omega]
  simp
theorem canon3 {l : List UInt8} (h : canB l = true) (h3 : l.length ≤ 3) : dec3 (numV l) = l := by
  have hd := can_digs h
  have key : canOk l = true → dec3 (numV l) = l := fun hk => by
    simp only [canOk, h, Bool.not_true, Bool.false_or, beq_iff_eq] at hk
    exact hk
  apply key
  match l, h3 with
  | [], _ => simp [canB] at h
  | [a], _ =>
    simp at hd
    obtain ⟨x, hx, rfl⟩ := dig_of hd
    exact List.all_eq_true.1 can1 x (by simp; omega)
  | [a, b], _ =>
    simp at hd
    obtain ⟨x, hx, rfl⟩ := dig_of hd.1
    obtain ⟨y, hy, rfl⟩ := dig_of hd.2
    have := List.all_eq_true.1 can2 (10 * x + y) (by simp; omega)
    rw [show (10 * x + y) / 10 = x by omega, show (10 * x + y) % 10 = y by omega] at this
    exact this
  | [a, b, c], _ =>
    simp at hd
    obtain ⟨x, hx, rfl⟩ := dig_of hd.1
    obtain ⟨y, hy, rfl⟩ := dig_of hd.2.1
    obtain ⟨z, hz, rfl⟩ := dig_of hd.2.2
    have := List.all_eq_true.1 can3 (100 * x + 10 * y + z) (by simp; omega)
    rw [show (100 * x + 10 * y + z) / 100 = x by omega, show (100 * x + 10 * y + z) / 10 % 10 = y by omega, show (100 * x + 10 * y + z) % 10 = z by omega] at this
    exact this
def atOk (n : Int) : Bool := match Lib.atoiAll (itoa3 n) with
  | .ok v => decide (v = n)
  | _ => false
theorem at_all : ((List.range 1000).all fun x => atOk x && atOk (-x)) = true := by kernel_rfl
theorem atoi_itoa3 {n : Int} (h0 : -999 ≤ n) (h1 : n ≤ 999) : Lib.atoiAll (itoa3 n) = .ok n := by
  have := List.all_eq_true.1 at_all n.natAbs (by simp; omega)
  rw [Bool.and_eq_true] at this
  have h : atOk n = true := by
    by_cases hn : 0 ≤ n
    · rw [show n = (n.natAbs : Int) by omega]; exact this.1
    · rw [show n = -(n.natAbs : Int) by omega]; exact this.2
  unfold atOk at h
  split at h
  · rename_i v hv
    rw [hv, of_decide_eq_true h]
  · cases h
theorem parse_digs : ∀ (l : List UInt8) (acc : Nat), l.all digB = true → endOk (Lib.parseUint10 acc l) = true
  | [], acc, _ => by simp [Lib.parseUint10, endOk]
  | c :: r, acc, h => by
    simp only [List.all_cons, Bool.and_eq_true] at h
    have hc := h.1
    simp only [digB, Bool.and_eq_true, decide_eq_true_eq] at hc
    simp only [Lib.parseUint10]
    rw [if_pos hc]
    split
    · rfl
    · split
      · rfl
      · exact parse_digs r _ h.2
theorem mag_digs {l : List UInt8} (h : l.all digB = true) (hne : l ≠ []) : endOk (Lib.parseMag l) = true := by
  unfold Lib.parseMag
  rw [if_neg hne]
  exact parse_digs l 0 h
/-- digits, with or without a sign -/
theorem atoi_digs {l : List UInt8} (h : l.all digB = true) (hne : l ≠ []) : endOk (Lib.atoiAll l) = true ∧ endOk (Lib.atoiAll (45 :: l)) = true := by
  have hm0 := mag_digs h hne
  constructor
  · cases l with
    | nil => exact absurd rfl hne
    | cons c r =>
      have hc : digB c = true := by simp at h; exact h.1
      simp only [digB, Bool.and_eq_true, decide_eq_true_eq] at hc
      rw [Lib.atoiAll_plain c r (by omega) (by omega)]
      cases hm : Lib.parseMag (c :: r) with
      | range => rfl
      | ok u => simp only [Lib.signless]; split <;> rfl
      | _ => rw [hm] at hm0; cases hm0
  · rw [Lib.atoiAll_minus]
    cases hm : Lib.parseMag l with
    | range => rfl
    | ok u => simp only [Lib.signed]; split <;> rfl
    | _ => rw [hm] at hm0; cases hm0
theorem take_while_split (p : UInt8 → Bool) : ∀ l : List UInt8, ∃ w r, l = w ++ r ∧ w.all p = true ∧ ∀ c r', r = c :: r' → p c = false
  | [] => ⟨[], [], rfl, rfl, by simp⟩
  | c :: l => by
    cases hc : p c with
    | true =>
      obtain ⟨w, r, h1, h2, h3⟩ := take_while_split p l
      exact ⟨c :: w, r, by rw [h1]; rfl, by simp [hc, h2], h3⟩
    | false => exact ⟨[], c :: l, rfl, rfl, fun d r' e => by cases e; exact hc⟩
/-- where a number stands -/
theorem num_split {s : List UInt8} {a : Nat} (h : digAt s a = true ∨ (sgn s a 45 = true ∧ digAt s (a + 1) = true)) :
    ∃ ds r, ds ≠ [] ∧ ds.all digB = true ∧ (∀ c r', r = c :: r' → digB c = false) ∧ (s.drop a = ds ++ r ∨ s.drop a = 45 :: ds ++ r) := by
  have get : ∀ i b, s[i]? = some b → s.drop i = b :: s.drop (i + 1) := fun i b hb => by
    obtain ⟨h1, h2⟩ := List.getElem?_eq_some_iff.1 hb
    rw [List.drop_eq_getElem_cons h1, h2]
  have dg : ∀ i, digAt s i = true → ∃ b, s[i]? = some b ∧ digB b = true := fun i hi => by
    unfold digAt at hi
    split at hi
    · rename_i b hb; exact ⟨b, hb, hi⟩
    · cases hi
  have main : ∀ i, digAt s i = true → ∃ ds r, ds ≠ [] ∧ ds.all digB = true ∧ (∀ c r', r = c :: r' → digB c = false) ∧ s.drop i = ds ++ r := fun i hi => by
    obtain ⟨b, hb, hd⟩ := dg i hi
    obtain ⟨w, r, h1, h2, h3⟩ := take_while_split digB (s.drop (i + 1))
    exact ⟨b :: w, r, by simp, by simp [hd, h2], h3, by rw [get i b hb, h1]; rfl⟩
  rcases h with h | ⟨h1, h2⟩
  · obtain ⟨ds, r, q1, q2, q3, q4⟩ := main a h
    exact ⟨ds, r, q1, q2, q3, .inl q4⟩
  · obtain ⟨ds, r, q1, q2, q3, q4⟩ := main (a + 1) h2
    have : s[a]? = some 45 := by
      unfold sgn at h1
      split at h1
      · rename_i b hb; simp at h1; rw [hb, h1]
      · cases h1
    exact ⟨ds, r, q1, q2, q3, .inr (by rw [get a 45 this, q4]; rfl)⟩
theorem four_big {l : List UInt8} (h : canB l = true) (h4 : l.length = 4) : 999 < numV l := by
  match l, h4 with
  | [a, b, c, d], _ =>
    have hd := can_digs h
    simp at hd
    simp [canB] at h
    have ha : a ≠ 48 := h.1
    have hd1 := hd.1
    simp only [digB, Bool.and_eq_true, decide_eq_true_eq] at hd1
    have : a.toNat ≠ 48 := fun e => ha (UInt8.toNat_inj.1 e)
    simp [numV]
    omega
/-- the digits that the reference looks at -/
theorem run4 {s : List UInt8} {i : Nat} {ds r : List UInt8} (hd : ds.all digB = true) (hr : ∀ c r', r = c :: r' → digB c = false) (h : s.drop i = ds ++ r) : runE digAt s 4 i = i + (ds.take 4).length ∧ cutS s i (i + (ds.take 4).length) = ds.take 4 := by
  have h2 : s.drop i = ds.take 4 ++ (ds.drop 4 ++ r) := by rw [← List.append_assoc, List.take_append_drop]; exact h
  refine ⟨?_, cut_dr h2⟩
  by_cases hl : ds.length ≤ 4
  · rw [List.take_of_length_le hl]
    exact run_dr digAt_def h hd hr hl
  · have h4 : (ds.take 4).length = 4 := by simp; omega
    rw [h4]
    refine runE_stop 4 i 4 (Nat.le_refl _) (fun k hk => ?_) (.inl rfl)
    have hk2 : k < ds.length := by omega
    have : s[i + k]? = some ds[k] := by
      rw [← List.getElem?_drop, h, List.getElem?_append_left hk2, List.getElem?_eq_getElem hk2]
    unfold digAt
    rw [this]
    exact List.all_eq_true.1 hd _ (List.getElem_mem hk2)
/-- the program's number against the reference's -/
theorem number_law {s : List UInt8} {a : Nat} (ha : a ≤ s.length) (h : digAt s a = true ∨ (sgn s a 45 = true ∧ digAt s (a + 1) = true)) :
    a + 1 ≤ runE digAt s s.length (a + 1) ∧ runE digAt s s.length (a + 1) ≤ s.length ∧ endOk (Lib.atoiAll (cutS s a (runE digAt s s.length (a + 1)))) = true ∧
    match numR s a with
    | some (n, j) => Lib.atoiAll (cutS s a (runE digAt s s.length (a + 1))) = .ok n ∧ Lib.itoa n = cutS s a (runE digAt s s.length (a + 1)) ∧ runE digAt s s.length (a + 1) = j ∧ -999 ≤ n ∧ n ≤ 999
    | none => ∀ n, Lib.itoa n = cutS s a (runE digAt s s.length (a + 1)) → ¬ (-999 ≤ n ∧ n ≤ 999) := by
  obtain ⟨ds, r, h1, h2, h3, h4⟩ := num_split h
  obtain ⟨D, hD, hdr, hrun, hDs⟩ : ∃ D, (D = ds ∨ D = 45 :: ds) ∧ s.drop a = D ++ r ∧ runE digAt s s.length (a + 1) = a + D.length ∧ endOk (Lib.atoiAll D) = true := by
    have hat := atoi_digs h2 h1
    rcases h4 with h4 | h4
    · refine ⟨ds, .inl rfl, h4, ?_, hat.1⟩
      have hlen := dr_len h4 ha
      cases hds : ds with
      | nil => exact absurd hds h1
      | cons c w =>
        rw [hds] at h4 h2
        have hd2 : s.drop (a + 1) = w ++ r := by
          have := dr_add (w := [c]) (r := w ++ r) (s := s) (i := a) (by simpa using h4)
          simpa using this
        have hlw : w.length ≤ s.length := by rw [hds] at hlen; simp at hlen; omega
        have hw : w.all digB = true := by simp at h2; exact List.all_eq_true.2 h2.2
        rw [run_dr digAt_def hd2 hw h3 hlw]
        simp; omega
    · refine ⟨45 :: ds, .inr rfl, h4, ?_, hat.2⟩
      have hlen := dr_len h4 ha
      have hd2 : s.drop (a + 1) = ds ++ r := by
        have := dr_add (w := [45]) (r := ds ++ r) (s := s) (i := a) (by simpa using h4)
        simpa using this
      rw [run_dr digAt_def hd2 h2 h3 (by simp at hlen; omega)]
      simp; omega
  have hlen := dr_len hdr ha
  have hpos : 1 ≤ D.length := by
    rcases hD with rfl | rfl
    · exact List.length_pos_iff.2 h1
    · simp
  rw [hrun, cut_dr hdr]
  refine ⟨by omega, by omega, hDs, ?_⟩
  cases hn : numR s a with
  | none =>
    intro n hi ⟨b0, b1⟩
    rw [← itoa3_eq b0 b1] at hi
    rw [← hi] at hdr
    rw [numR_dr b0 b1 hdr h3] at hn
    cases hn
  | some q =>
    obtain ⟨n, j⟩ := q
    have hok := numR_ok ha hn
    have key : D = itoa3 n ∧ j = a + D.length := by
      rcases hD with rfl | rfl
      · have hsg : sgn s a 45 = false := by
          cases hds : D with
          | nil => exact absurd hds h1
          | cons c w =>
            rw [hds] at hdr h2
            rw [sgn_dr (c := c) (r := w ++ r) (by simpa using hdr)]
            simp only [List.all_cons, Bool.and_eq_true] at h2
            have := h2.1
            cases hc : (c == 45) with
            | false => rfl
            | true => simp at hc; subst hc; simp [digB] at this
        obtain ⟨r1, r2⟩ := run4 h2 h3 hdr
        unfold numR at hn
        simp only [hsg, Bool.false_eq_true, if_false, r1, r2, Bool.false_and, Bool.false_or] at hn
        split at hn
        · rename_i hc
          split at hn
          · cases hn
          · rename_i hv
            simp at hv
            simp only [Option.some.injEq, Prod.mk.injEq] at hn
            have hl3 : (D.take 4).length ≤ 3 := by
              rcases Nat.lt_or_ge (D.take 4).length 4 with h | h
              · omega
              · have := four_big hc (by simp at h ⊢; omega); omega
            have hD4 : D.take 4 = D := List.take_of_length_le (by simp at hl3; omega)
            rw [hD4] at hc hl3 hn
            refine ⟨?_, hn.2.symm⟩
            rw [← hn.1]
            unfold itoa3
            rw [if_neg (by omega), Int.toNat_natCast, canon3 hc hl3]
        · cases hn
      · have hsg : sgn s a 45 = true := by rw [sgn_dr (c := 45) (r := ds ++ r) (by simpa using hdr)]; rfl
        have hd2 : s.drop (a + 1) = ds ++ r := by
          have := dr_add (w := [45]) (r := ds ++ r) (s := s) (i := a) (by simpa using hdr)
          simpa using this
        obtain ⟨r1, r2⟩ := run4 h2 h3 hd2
        unfold numR at hn
        simp only [hsg, if_true, r1, r2, Bool.true_and] at hn
        split at hn
        · rename_i hc
          split at hn
          · cases hn
          · rename_i hv
            simp at hv
            simp only [Option.some.injEq, Prod.mk.injEq] at hn
            have hl3 : (ds.take 4).length ≤ 3 := by
              rcases Nat.lt_or_ge (ds.take 4).length 4 with h | h
              · omega
              · have := four_big hc (by simp at h ⊢; omega); omega
            have hD4 : ds.take 4 = ds := List.take_of_length_le (by simp at hl3; omega)
            rw [hD4] at hc hl3 hn hv
            refine ⟨?_, by rw [← hn.2]; simp; omega⟩
            rw [← hn.1]
            unfold itoa3
            rw [if_pos (by omega), show (-(numV ds : Int)).natAbs = numV ds by omega, canon3 hc hl3]
        · cases hn
    obtain ⟨k1, k2⟩ := key
    refine ⟨?_, ?_, k2.symm, hok.2.2.1, hok.2.2.2⟩
    · rw [k1]; exact atoi_itoa3 hok.2.2.1 hok.2.2.2
    · rw [← itoa3_eq hok.2.2.1 hok.2.2.2, k1]
end Go.Proofs.YtgfmlifkhpjplaaGreatDoor

/-
  Numerals of the reference.
  Conditions: none.
-/
open Go Go.AM Go.Proofs
namespace Go.Proofs.YtgfmlifkhpjplaaGreatDoor
open Go.ChangeShapes Go.WideShapes Go.ChangeAt Go.RowKit
set_option linter.unusedVariables false
set_option linter.unusedSimpArgs false
set_option maxRecDepth 100000
-- 125 loop.example/prologserver/spec.l18Dec params 1 ntmps 31
-- loop head live: [0,3]
end Go.Proofs.YtgfmlifkhpjplaaGreatDoor

/-
  Terms as the reference writes them.
  Conditions: none.
-/
open Go Go.AM Go.Proofs
namespace Go.Proofs.YtgfmlifkhpjplaaGreatDoor
open Go.ChangeShapes Go.WideShapes Go.ChangeAt Go.RowKit
set_option linter.unusedVariables false
set_option linter.unusedSimpArgs false
set_option maxRecDepth 100000
-- 99 loop.example/prologserver/spec.l1Letter params 1 ntmps 8
theorem byte_off {s : List UInt8} {i : Int} (b : UInt8) {K : A → St → Prop} {st : St} (hk : K (.c (.d (.int .u8 b.toNat))) st) : ByteK false s i K st := ⟨b, fun h => (by cases h), hk⟩
end Go.Proofs.YtgfmlifkhpjplaaGreatDoor

/-
  Lists and terms as the reference writes them.
  Conditions: none.
-/
open Go Go.AM Go.Proofs
namespace Go.Proofs.YtgfmlifkhpjplaaGreatDoor
open Go.ChangeShapes Go.WideShapes Go.ChangeAt Go.RowKit
set_option linter.unusedVariables false
set_option linter.unusedSimpArgs false
set_option maxRecDepth 100000
/-- a term that the writers meet -/
structure Tm.ok (t : Tm) : Prop where
  fits : t.fits
  good : t.good
  size : t.size ≤ 300
theorem Tm.ok.len {t : Tm} (h : t.ok) : t.wr.length ≤ 6000 ∧ t.wrt.length ≤ 6001 ∧ t.wr ≠ [] := by
  have := wr_len t h.good
  have := h.size
  exact ⟨by omega, by omega, (wr_len t h.good).2⟩
theorem lv_range {s : List UInt8} (h : 0 < levelN s) : (levelN s = 1 ∨ levelN s = 2 ∨ levelN s = 3) ∧ (levelN s = 3 → leftMost s = 2) ∧ (levelN s ≠ 3 → leftMost s = levelN s) := by
  have h1 : levelN s = 1 ∨ levelN s = 2 ∨ levelN s = 3 := by
    unfold levelN at h ⊢
    split
    · simp
    · split
      · simp
      · split
        · simp
        · rename_i a b c; rw [if_neg a, if_neg b, if_neg c] at h; omega
  refine ⟨h1, fun h3 => ?_, fun h3 => ?_⟩
  · simp [leftMost, leftB, h3]
  · rcases h1 with h1 | h1 | h1
    · simp [leftMost, leftB, h1]
    · simp [leftMost, leftB, h1]
    · exact absurd h1 h3
end Go.Proofs.YtgfmlifkhpjplaaGreatDoor

/-
  Terms as the program writes them.
  Conditions: none.
-/
open Go Go.AM Go.Proofs
namespace Go.Proofs.YtgfmlifkhpjplaaGreatDoor
open Go.ChangeShapes Go.WideShapes Go.ChangeAt Go.RowKit
set_option linter.unusedVariables false
set_option linter.unusedSimpArgs false
set_option maxRecDepth 100000
-- 90 loop.example/prologserver/impl.letter params 1 ntmps 8
def ac87 : Cd := .seq (.region [⟨(some 2),.mv (.k (.c (.d (.bool false)))),none⟩] [2])
 (.seq (.region [⟨(some 3),.mv (.t 0),none⟩,
 ⟨(some 4),.bin .geq (.t 3) (.k (.c (.d (.int .u8 48)))),none⟩,
 ⟨(some 5),.mv (.t 4),none⟩,
 ⟨(some 6),.mv (.t 0),some (5,true)⟩,
 ⟨(some 7),.bin .leq (.t 6) (.k (.c (.d (.int .u8 57)))),some (5,true)⟩,
 ⟨(some 8),.pick (.t 5) (.t 7) (.k (.c (.d (.bool false)))),none⟩,
 ⟨(some 2),.mv (.t 8),none⟩] [0,3,4,5,6,7,8])
 (.ret))
theorem ac87_ok : cFunc Tryz.prog [] [(0,[2],[]),(1,[0,3,4,5,6,7,8],[])] Tryz.f87 = some (ac87,[.tmp 2],9) := by kernel_rfl
-- 60 loop.example/prologserver/impl.leftMost params 1 ntmps 14
def ac60 : Cd := .seq (.region [⟨(some 2),.mv (.k (.c (.d (.int .i64 0)))),none⟩] [2])
 (.seq (.region [⟨(some 6),.mv (.t 0),none⟩,
 ⟨(some 7),.qcall 58 [(.t 6)],none⟩,
 ⟨(some 5),.mv (.t 7),none⟩,
 ⟨(some 8),.extract 0 (.t 5),none⟩,
 ⟨(some 9),.extract 1 (.t 5),none⟩,
 ⟨(some 3),.mv (.t 8),none⟩,
 ⟨(some 4),.mv (.t 9),none⟩] [0,5,6,7,8,9])
 (.seq (.seq (.region [⟨(some 10),.mv (.t 4),none⟩] [4])
 (.cond (.t 10)
 (.seq (.region [⟨(some 11),.mv (.t 3),none⟩,
 ⟨(some 2),.mv (.t 11),none⟩] [3,10,11])
 (.ret))
 (.skip)))
 (.seq (.region [⟨(some 12),.mv (.t 3),none⟩,
 ⟨(some 13),.bin .sub (.t 12) (.k (.c (.d (.int .i64 1)))),none⟩,
 ⟨(some 2),.mv (.t 13),none⟩] [3,10,12,13])
 (.ret))))
theorem ac60_ok : cFunc Tryz.prog [1000058] [(0,[2],[]),(1,[0,5,6,7,8,9],[]),(2,[4],[]),(3,[3,10,11],[]),(4,[3,10,12,13],[])] Tryz.f60 = some (ac60,[.tmp 2],14) := by kernel_rfl
-- 61 loop.example/prologserver/impl.opText params 1 ntmps 9
def ac61 : Cd := .seq (.region [⟨(some 2),.mv (.k (.c (.d (.str [])))),none⟩] [2])
 (.seq (.seq (.region [⟨(some 3),.mv (.t 0),none⟩,
 ⟨(some 4),.qcall 89 [(.t 3)],none⟩] [3])
 (.cond (.t 4)
 (.seq (.region [⟨(some 5),.mv (.t 0),none⟩,
 ⟨(some 6),.bin .add (.k (.c (.d (.str [32])))) (.t 5),none⟩,
 ⟨(some 7),.bin .add (.t 6) (.k (.c (.d (.str [32])))),none⟩,
 ⟨(some 2),.mv (.t 7),none⟩] [0,4,5,6,7])
 (.ret))
 (.skip)))
 (.seq (.region [⟨(some 8),.mv (.t 0),none⟩,
 ⟨(some 2),.mv (.t 8),none⟩] [0,4,8])
 (.ret)))
theorem ac61_ok : cFunc Tryz.prog [1000089] [(0,[2],[]),(1,[3],[]),(2,[0,4,5,6,7],[]),(3,[0,4,8],[])] Tryz.f61 = some (ac61,[.tmp 2],9) := by kernel_rfl
-- 59 loop.example/prologserver/impl.writeOperand params 3 ntmps 74
theorem isDigit_calls (b : UInt8) (H : Heap) : ACalls Tryz.prog 87 [.c (.d (.int .u8 b.toNat))] H (fun r H' => H' = H ∧ r = .c (.d (.bool (decide (48 ≤ b.toNat ∧ b.toNat ≤ 57))))) := by
  refine acalls Tryz.func87 (by kernel_rfl) ac87_ok fun hf => ?_
  by_cases h1 : (48 : Int) ≤ b.toNat
  · have h1' : 48 ≤ b.toNat := by omega
    simp -implicitDefEqProofs [ac87, h1, h1', go_sem, -List.set_cons_succ, -List.set_cons_zero]
    omega
  · have h1' : ¬ 48 ≤ b.toNat := by omega
    simp -implicitDefEqProofs [ac87, h1, h1', go_sem, -List.set_cons_succ, -List.set_cons_zero]
theorem leftMost_calls (s : List UInt8) (H : Heap) : ACalls Tryz.prog 60 [.c (.d (.str s))] H (fun r H' => H' = H ∧ r = .c (.d (.int .i64 (leftMost s)))) := by
  refine acalls Tryz.func60 (by kernel_rfl) ac60_ok fun hf => ?_
  simp -implicitDefEqProofs [ac60, go_sem, -List.set_cons_succ, -List.set_cons_zero]
  refine qcall_pure (opLevel_calls s) hf rfl ?_
  have hr : 0 ≤ levelN s ∧ levelN s ≤ 3 := by
    by_cases h : 0 < levelN s
    · have := (lv_range h).1; omega
    · unfold levelN at h ⊢
      split
      · simp
      · split
        · simp
        · split <;> simp
  have hsub : inR .i64 (levelN s - 1) := small_i64 (by omega) (by omega)
  cases hb : leftB s <;> simp -implicitDefEqProofs [hb, leftMost, hsub, go_sem, -List.set_cons_succ, -List.set_cons_zero]
theorem opText_calls (s : List UInt8) (hs : s.length ≤ 1048576) (H : Heap) : ACalls Tryz.prog 61 [.c (.d (.str s))] H (fun r H' => H' = H ∧ r = .c (.d (.str (opSp s)))) := by
  refine acalls Tryz.func61 (by kernel_rfl) ac61_ok fun hf => ?_
  simp -implicitDefEqProofs [ac61, go_sem, -List.set_cons_succ, -List.set_cons_zero]
  refine qcall_pure (isLetters_calls s (by omega)) hf rfl ?_
  cases hb : lettersB s <;> simp -implicitDefEqProofs [hb, opSp, maxStr, go_sem, -List.set_cons_succ, -List.set_cons_zero]
  omega
end Go.Proofs.YtgfmlifkhpjplaaGreatDoor

/-
  The program's reader: small steps.
  Conditions: none.
-/
open Go Go.AM Go.Proofs
namespace Go.Proofs.YtgfmlifkhpjplaaGreatDoor
open Go.ChangeShapes Go.WideShapes Go.ChangeAt Go.RowKit
set_option linter.unusedVariables false
set_option linter.unusedSimpArgs false
set_option maxRecDepth 100000
-- 115 (*loop.example/prologserver/impl.reader).skip params 2 ntmps 21
def ac115 : Cd := .seq (.seq (.region [⟨(some 4),.mv (.t 0),none⟩,
 ⟨(some 5),.call false 111 [(.t 4)],none⟩,
 ⟨(some 6),.mv (.t 1),none⟩,
 ⟨(some 7),.bin .neq (.t 5) (.t 6),none⟩] [1,4,5,6])
 (.cond (.t 7)
 (.seq (.region [⟨(some 8),.mv (.t 0),none⟩,
 ⟨(some 9),.mv (.t 0),none⟩,
 ⟨(some 10),.nilCheck (.t 9),none⟩,
 ⟨(some 11),.fieldAddr 1 (.t 10),none⟩,
 ⟨(some 12),.load none (.t 11),none⟩,
 ⟨(some 13),.call false 110 [(.t 8),(.t 12)],none⟩] [0,7,8,9,10,11,12,13])
 (.ret))
 (.skip)))
 (.region [⟨(some 14),.mv (.t 0),none⟩,
 ⟨(some 15),.nilCheck (.t 14),none⟩,
 ⟨(some 16),.fieldAddr 1 (.t 15),none⟩,
 ⟨(some 17),.load none (.t 16),none⟩,
 ⟨(some 18),.bin .add (.t 17) (.k (.c (.d (.int .i64 1)))),none⟩,
 ⟨(some 19),.nilCheck (.t 14),none⟩,
 ⟨(some 20),.fieldAddr 1 (.t 19),none⟩,
 ⟨none,.store 1 (.t 20) (.t 18),none⟩] [0,7,14,15,16,17,18,19,20])
theorem ac115_ok : cFunc Tryz.prog [] [(0,[1,4,5,6],[]),(1,[0,7,8,9,10,11,12,13],[]),(2,[0,7,14,15,16,17,18,19,20],[])] Tryz.f115 = some (ac115,[],21) := by kernel_rfl
-- 113 (*loop.example/prologserver/impl.reader).isNumber params 1 ntmps 38
def ac113 : Cd := .seq (.region [⟨(some 2),.mv (.k (.c (.d (.bool false)))),none⟩] [2])
 (.seq (.region [⟨(some 4),.mv (.t 0),none⟩,
 ⟨(some 5),.call false 111 [(.t 4)],none⟩,
 ⟨(some 3),.mv (.t 5),none⟩] [4,5])
 (.seq (.region [⟨(some 6),.mv (.t 3),none⟩,
 ⟨(some 7),.qcall 87 [(.t 6)],none⟩,
 ⟨(some 8),.mv (.t 7),none⟩,
 ⟨(some 9),.mv (.t 3),some (8,false)⟩,
 ⟨(some 10),.bin .eql (.t 9) (.k (.c (.d (.int .u8 45)))),some (8,false)⟩,
 ⟨(some 11),.mv (.t 10),some (8,false)⟩,
 ⟨(some 12),.mv (.t 0),some (11,true)⟩,
 ⟨(some 13),.nilCheck (.t 12),some (11,true)⟩,
 ⟨(some 14),.fieldAddr 1 (.t 13),some (11,true)⟩,
 ⟨(some 17),.mv (.t 0),some (11,true)⟩,
 ⟨(some 18),.nilCheck (.t 17),some (11,true)⟩,
 ⟨(some 19),.fieldAddr 0 (.t 18),some (11,true)⟩,
 ⟨(some 15),.load none (.t 14),some (11,true)⟩,
 ⟨(some 16),.bin .add (.t 15) (.k (.c (.d (.int .i64 1)))),some (11,true)⟩,
 ⟨(some 20),.load none (.t 19),some (11,true)⟩,
 ⟨(some 21),.len 0 (.t 20),some (11,true)⟩,
 ⟨(some 22),.bin .lss (.t 16) (.t 21),some (11,true)⟩,
 ⟨(some 23),.pick (.t 11) (.t 22) (.k (.c (.d (.bool false)))),some (8,false)⟩,
 ⟨(some 24),.mv (.t 23),some (8,false)⟩,
 ⟨(some 25),.mv (.t 0),some (24,true)⟩,
 ⟨(some 26),.nilCheck (.t 25),some (24,true)⟩,
 ⟨(some 27),.fieldAddr 0 (.t 26),some (24,true)⟩,
 ⟨(some 29),.mv (.t 0),some (24,true)⟩,
 ⟨(some 30),.nilCheck (.t 29),some (24,true)⟩,
 ⟨(some 31),.fieldAddr 1 (.t 30),some (24,true)⟩,
 ⟨(some 28),.load none (.t 27),some (24,true)⟩,
 ⟨(some 32),.load none (.t 31),some (24,true)⟩,
 ⟨(some 33),.bin .add (.t 32) (.k (.c (.d (.int .i64 1)))),some (24,true)⟩,
 ⟨(some 34),.index (.t 28) (.t 33),some (24,true)⟩,
 ⟨(some 35),.qcall 87 [(.t 34)],some (24,true)⟩,
 ⟨(some 36),.pick (.t 24) (.t 35) (.k (.c (.d (.bool false)))),some (8,false)⟩,
 ⟨(some 37),.pick (.t 8) (.k (.c (.d (.bool true)))) (.t 36),none⟩,
 ⟨(some 2),.mv (.t 37),none⟩] [0,3,6,7,8,9,10,11,12,13,14,15,16,17,18,19,20,21,22,23,24,25,26,27,28,29,30,31,32,33,34,35,36,37])
 (.ret)))
theorem ac113_ok : cFunc Tryz.prog [1000087] [(0,[2],[]),(1,[4,5],[]),(2,[0,3,6,7,8,9,10,11,12,13,14,15,16,17,18,19,20,21,22,23,24,25,26,27,28,29,30,31,32,33,34,35,36,37],[0,1,2,3,4,5,6,7,8,11,12,13,9,10,14,15,16,17,18,19,20,21,23,24,25,22,26,27,28,29,30,31,32])] Tryz.f113 = some (ac113,[.tmp 2],38) := by kernel_rfl
-- 116 strings.HasPrefix params 2 ntmps 8
def ac116 : Cd := .seq (.region [⟨(some 4),.mv (.k (.c (.d (.bool false)))),none⟩] [4])
 (.seq (.region [⟨(some 5),.mv (.t 0),none⟩,
 ⟨(some 6),.mv (.t 1),none⟩,
 ⟨(some 7),.qcall 131 [(.t 5),(.t 6)],none⟩,
 ⟨(some 4),.mv (.t 7),none⟩] [0,1,5,6,7])
 (.ret))
theorem ac116_ok : cFunc Tryz.prog [1000131] [(0,[4],[]),(1,[0,1,5,6,7],[])] Tryz.f116 = some (ac116,[.tmp 4],8) := by kernel_rfl
-- 131 internal/stringslite.HasPrefix params 2 ntmps 18
def ac131 : Cd := .seq (.region [⟨(some 4),.mv (.k (.c (.d (.bool false)))),none⟩] [4])
 (.seq (.region [⟨(some 5),.mv (.t 0),none⟩,
 ⟨(some 6),.len 0 (.t 5),none⟩,
 ⟨(some 7),.mv (.t 1),none⟩,
 ⟨(some 8),.len 0 (.t 7),none⟩,
 ⟨(some 9),.bin .geq (.t 6) (.t 8),none⟩,
 ⟨(some 10),.mv (.t 9),none⟩,
 ⟨(some 11),.mv (.t 0),some (10,true)⟩,
 ⟨(some 12),.mv (.t 1),some (10,true)⟩,
 ⟨(some 13),.len 0 (.t 12),some (10,true)⟩,
 ⟨(some 14),.slice 0 (.t 11) none (some (.t 13)) none,some (10,true)⟩,
 ⟨(some 15),.mv (.t 1),some (10,true)⟩,
 ⟨(some 16),.bin .eql (.t 14) (.t 15),some (10,true)⟩,
 ⟨(some 17),.pick (.t 10) (.t 16) (.k (.c (.d (.bool false)))),none⟩,
 ⟨(some 4),.mv (.t 17),none⟩] [0,1,5,6,7,8,9,10,11,12,13,14,15,16,17])
 (.ret))
theorem ac131_ok : cFunc Tryz.prog [] [(0,[4],[]),(1,[0,1,5,6,7,8,9,10,11,12,13,14,15,16,17],[])] Tryz.f131 = some (ac131,[.tmp 4],18) := by kernel_rfl
theorem skip_mv (s : List UInt8) (hs : s.length ≤ 1000000) (a : Nat) (b : Int) (ha : a ≤ 1000000) (c : UInt8) : Mv 115 [.c (.d (.int .u8 c.toNat))] s a b (.tup []) (if nxt s a b = c then a + 1 else a) (if nxt s a b = c then b else if b < 0 then (a : Int) else b) := fun H i hp h2 hi => by
  refine acalls Tryz.func115 (by kernel_rfl) ac115_ok fun hf => ?_
  rw [ro_len] at hf
  have hf1 := fun a' b' => ro_fits (s' := s) (a' := a') (b' := b') hf
  have ha1 : inR .i64 ((a : Int) + 1) := small_i64 (by omega) (by omega)
  simp -implicitDefEqProofs [ac115, ro_len, go_sem, -List.set_cons_succ, -List.set_cons_zero]
  refine call_mv (next_mv s hs a b ha) hp h2 hi (by simp [Ob.re, C.re]) rfl hf ?_
  by_cases h : nxt s a b = c
  · simp -implicitDefEqProofs [h, ro_get hi, ro_len, ro_up, ha1, Ref.re, hf1, go_sem, -List.set_cons_succ, -List.set_cons_zero]
  · have h' : ¬ (((nxt s a b).toNat : Int) = c.toNat) := fun e => h (UInt8.toNat_inj.1 (by omega))
    have h'' : ((nxt s a b).toNat : Int) != c.toNat := by simpa using h'
    simp -implicitDefEqProofs [h, h', ro_get hi, ro_len, ro_set, Ref.re, hf1, go_sem, -List.set_cons_succ, -List.set_cons_zero]
    refine call_mv (stop_mv s a b a) hp h2 hi (by simp [Ob.re, C.re]) (zeroA_re _) hf ?_
    simp -implicitDefEqProofs [go_sem, -List.set_cons_succ, -List.set_cons_zero]
theorem nxt_dig (s : List UInt8) (a : Nat) : decide (48 ≤ (nxt s a (-1)).toNat ∧ (nxt s a (-1)).toNat ≤ 57) = digAt s a := by
  unfold nxt digAt digB
  rw [if_neg (by decide)]
  cases s[a]? with
  | none => rfl
  | some b => simp
theorem nxt_sgn (s : List UInt8) (a : Nat) (c : UInt8) (h0 : c ≠ 0) : (nxt s a (-1) == c) = sgn s a c := by
  unfold nxt sgn
  rw [if_neg (by decide)]
  cases s[a]? with
  | none => simp; exact fun h => h0 h.symm
  | some b => rfl
theorem nxt_eq (s : List UInt8) (a : Nat) (c : UInt8) (h0 : c ≠ 0) : (((nxt s a (-1)).toNat : Int) == (c.toNat : Int)) = sgn s a c := by
  rw [← nxt_sgn s a c h0, Bool.eq_iff_iff]
  simp
  exact ⟨fun h => UInt8.toNat_inj.1 (by omega), fun h => by rw [h]⟩
theorem isNumber_mv (s : List UInt8) (hs : s.length ≤ 1000000) (a : Nat) (ha : a ≤ 1000000) : Mv 113 [] s a (-1) (.c (.d (.bool (digAt s a || sgn s a 45 && digAt s (a + 1))))) a (-1) := fun H i hp h2 hi => by
  refine acalls Tryz.func113 (by kernel_rfl) ac113_ok fun hf => ?_
  rw [ro_len] at hf
  have hf1 := fun a' b' => ro_fits (s' := s) (a' := a') (b' := b') hf
  have ha1 : inR .i64 ((a : Int) + 1) := small_i64 (by omega) (by omega)
  have hli : inR .i64 (s.length : Int) := small_i64 (by omega) (by omega)
  simp -implicitDefEqProofs [ac113, ro_len, go_sem, -List.set_cons_succ, -List.set_cons_zero]
  refine call_mv (next_mv s hs a (-1) ha) hp h2 hi (by simp [Ob.re, C.re]) rfl hf ?_
  simp -implicitDefEqProofs [ro_len, go_sem, -List.set_cons_succ, -List.set_cons_zero]
  have e45 := nxt_eq s a 45 (by decide)
  have e45' : (((nxt s a (-1)).toNat : Int) == 45) = sgn s a 45 := e45
  have hfr : Obs.fits (ro H i s a (-1)).length 0 (ro H i s a (-1)) := by rw [ro_len]; exact hf
  refine qcall_pure (isDigit_calls (nxt s a (-1))) hfr rfl ?_
  rw [nxt_dig]
  cases hd : digAt s a with
  | true =>
    by_cases hlt2 : (a : Int) + 1 < (s.length : Int) <;> cases h45 : sgn s a 45
    all_goals
      rw [h45] at e45'
      simp -implicitDefEqProofs [ro_get hi, ro_len, ro_set, e45', hli, ha1, hlt2, Ref.re, go_sem, -List.set_cons_succ, -List.set_cons_zero]
      refine byte_off 0 ?_
      simp -implicitDefEqProofs [go_sem, -List.set_cons_succ, -List.set_cons_zero]
  | false =>
    cases h45 : sgn s a 45 with
    | false =>
      rw [h45] at e45'
      simp -implicitDefEqProofs [ro_get hi, ro_len, ro_set, e45', hli, ha1, Ref.re, go_sem, -List.set_cons_succ, -List.set_cons_zero]
      refine byte_off 0 ?_
      simp -implicitDefEqProofs [go_sem, -List.set_cons_succ, -List.set_cons_zero]
    | true =>
      rw [h45] at e45'
      by_cases hlt : a + 1 < s.length
      · have hlt2 : (a : Int) + 1 < s.length := by omega
        have e1 : (a : Int) + 1 = ((a + 1 : Nat) : Int) := by omega
        have hdd : decide (48 ≤ s[a + 1].toNat ∧ s[a + 1].toNat ≤ 57) = digAt s (a + 1) := by
          unfold digAt digB
          rw [List.getElem?_eq_getElem hlt]
          simp
        simp -implicitDefEqProofs [ro_get hi, ro_len, ro_set, e45', hli, ha1, hlt2, Ref.re, go_sem, -List.set_cons_succ, -List.set_cons_zero]
        rw [e1]
        refine byte_nat hlt ?_
        simp -implicitDefEqProofs [go_sem, -List.set_cons_succ, -List.set_cons_zero]
        refine qcall_pure (isDigit_calls s[a + 1]) hfr rfl ?_
        rw [hdd]
        simp -implicitDefEqProofs [go_sem, -List.set_cons_succ, -List.set_cons_zero]
      · have hlt2 : ¬ (a : Int) + 1 < s.length := by omega
        have hdd : digAt s (a + 1) = false := dig_end (by simp; omega)
        simp -implicitDefEqProofs [ro_get hi, ro_len, ro_set, e45', hli, ha1, hlt2, hdd, Ref.re, go_sem, -List.set_cons_succ, -List.set_cons_zero]
        refine byte_off 0 ?_
        simp -implicitDefEqProofs [go_sem, -List.set_cons_succ, -List.set_cons_zero]
theorem hasPrefix0_calls (t x : List UInt8) (ht : t.length ≤ 1000000) (hx : x.length ≤ 1000000) (H : Heap) : ACalls Tryz.prog 131 [.c (.d (.str t)), .c (.d (.str x))] H (fun r H' => H' = H ∧ r = .c (.d (.bool (t.take x.length == x)))) := by
  refine acalls Tryz.func131 (by kernel_rfl) ac131_ok fun hf => ?_
  have h1 : inR .i64 (t.length : Int) := small_i64 (by omega) (by omega)
  have h2 : inR .i64 (x.length : Int) := small_i64 (by omega) (by omega)
  by_cases h : x.length ≤ t.length
  · have h' : (x.length : Int) ≤ t.length := by omega
    simp -implicitDefEqProofs [ac131, h1, h2, h, h', go_sem, -List.set_cons_succ, -List.set_cons_zero]
  · have h' : ¬ (x.length : Int) ≤ t.length := by omega
    have h3 : (t.take x.length == x) = false := by
      simp only [beq_eq_false_iff_ne]
      intro e
      have := congrArg List.length e
      simp at this
      omega
    simp -implicitDefEqProofs [ac131, h1, h2, h, h', h3, go_sem, -List.set_cons_succ, -List.set_cons_zero]
theorem hasPrefix_calls (t x : List UInt8) (ht : t.length ≤ 1000000) (hx : x.length ≤ 1000000) (H : Heap) : ACalls Tryz.prog 116 [.c (.d (.str t)), .c (.d (.str x))] H (fun r H' => H' = H ∧ r = .c (.d (.bool (t.take x.length == x)))) := by
  refine acalls Tryz.func116 (by kernel_rfl) ac116_ok fun hf => ?_
  simp -implicitDefEqProofs [ac116, go_sem, -List.set_cons_succ, -List.set_cons_zero]
  refine qcall_pure (hasPrefix0_calls t x ht hx) hf rfl ?_
  simp -implicitDefEqProofs [go_sem, -List.set_cons_succ, -List.set_cons_zero]
end Go.Proofs.YtgfmlifkhpjplaaGreatDoor

/-
  The program's reader: numbers.
  Conditions: none.
-/
open Go Go.AM Go.Proofs
namespace Go.Proofs.YtgfmlifkhpjplaaGreatDoor
open Go.ChangeShapes Go.WideShapes Go.ChangeAt Go.RowKit
set_option linter.unusedVariables false
set_option linter.unusedSimpArgs false
set_option maxRecDepth 100000
-- 114 (*loop.example/prologserver/impl.reader).number params 1 ntmps 61
-- loop head live: [0,2,3]
def ac114 : Cd := .seq (.region [⟨(some 2),.alloc [(.d (.int .i64 0)),(.d (.int .i64 0)),(.d (.str [])),(.full [])],none⟩] [])
 (.seq (.region [⟨(some 7),.mv (.t 0),none⟩,
 ⟨(some 8),.nilCheck (.t 7),none⟩,
 ⟨(some 9),.fieldAddr 1 (.t 8),none⟩,
 ⟨(some 10),.load none (.t 9),none⟩,
 ⟨(some 3),.mv (.t 10),none⟩] [7,8,9,10])
 (.seq (.region [⟨(some 11),.mv (.t 0),none⟩,
 ⟨(some 12),.nilCheck (.t 11),none⟩,
 ⟨(some 13),.fieldAddr 1 (.t 12),none⟩,
 ⟨(some 14),.load none (.t 13),none⟩,
 ⟨(some 15),.bin .add (.t 14) (.k (.c (.d (.int .i64 1)))),none⟩,
 ⟨(some 16),.nilCheck (.t 11),none⟩,
 ⟨(some 17),.fieldAddr 1 (.t 16),none⟩,
 ⟨none,.store 1 (.t 17) (.t 15),none⟩] [11,12,13,14,15,16,17])
 (.seq (.block 0 (.loop (.seq (.seq (.region [⟨(some 18),.mv (.t 0),none⟩,
 ⟨(some 19),.call false 111 [(.t 18)],none⟩,
 ⟨(some 20),.qcall 87 [(.t 19)],none⟩] [18,19])
 (.cond (.t 20)
 (.skip)
 (.exit 0)))
 (.block 1 (.region [⟨(some 21),.mv (.t 0),none⟩,
 ⟨(some 22),.nilCheck (.t 21),none⟩,
 ⟨(some 23),.fieldAddr 1 (.t 22),none⟩,
 ⟨(some 24),.load none (.t 23),none⟩,
 ⟨(some 25),.bin .add (.t 24) (.k (.c (.d (.int .i64 1)))),none⟩,
 ⟨(some 26),.nilCheck (.t 21),none⟩,
 ⟨(some 27),.fieldAddr 1 (.t 26),none⟩,
 ⟨none,.store 1 (.t 27) (.t 25),none⟩] [20,21,22,23,24,25,26,27])))))
 (.seq (.region [⟨(some 28),.mv (.t 0),none⟩,
 ⟨(some 29),.nilCheck (.t 28),none⟩,
 ⟨(some 30),.fieldAddr 0 (.t 29),none⟩,
 ⟨(some 32),.mv (.t 3),none⟩,
 ⟨(some 33),.mv (.t 0),none⟩,
 ⟨(some 34),.nilCheck (.t 33),none⟩,
 ⟨(some 35),.fieldAddr 1 (.t 34),none⟩,
 ⟨(some 31),.load none (.t 30),none⟩,
 ⟨(some 36),.load none (.t 35),none⟩,
 ⟨(some 37),.slice 0 (.t 31) (some (.t 32)) (some (.t 36)) none,none⟩,
 ⟨(some 4),.mv (.t 37),none⟩] [28,29,30,31,32,33,34,35,36,37])
 (.seq (.region [⟨(some 39),.mv (.t 4),none⟩,
 ⟨(some 40),.call false 129 [(.t 39)],none⟩,
 ⟨(some 38),.mv (.t 40),none⟩,
 ⟨(some 41),.extract 0 (.t 38),none⟩,
 ⟨(some 42),.extract 1 (.t 38),none⟩,
 ⟨(some 5),.mv (.t 41),none⟩,
 ⟨(some 6),.mv (.t 42),none⟩] [38,39,40,41,42])
 (.seq (.seq (.region [⟨(some 43),.mv (.t 6),none⟩,
 ⟨(some 44),.errNil true (.t 43),none⟩,
 ⟨(some 45),.mv (.t 44),none⟩,
 ⟨(some 46),.mv (.t 5),some (45,false)⟩,
 ⟨(some 47),.qcall 91 [(.t 46)],some (45,false)⟩,
 ⟨(some 48),.mv (.t 4),some (45,false)⟩,
 ⟨(some 49),.bin .neq (.t 47) (.t 48),some (45,false)⟩,
 ⟨(some 50),.pick (.t 45) (.k (.c (.d (.bool true)))) (.t 49),none⟩,
 ⟨(some 51),.mv (.t 50),none⟩,
 ⟨(some 52),.mv (.t 5),some (51,false)⟩,
 ⟨(some 53),.qcall 71 [(.t 52),(.k (.c (.d (.int .i64 (-999))))),(.k (.c (.d (.int .i64 999))))],some (51,false)⟩,
 ⟨(some 54),.un .not (.t 53),some (51,false)⟩,
 ⟨(some 55),.pick (.t 51) (.k (.c (.d (.bool true)))) (.t 54),none⟩] [4,6,43,44,45,46,47,48,49,50,51,52,53,54])
 (.cond (.t 55)
 (.seq (.region [⟨(some 56),.mv (.t 0),none⟩,
 ⟨(some 57),.mv (.t 3),none⟩,
 ⟨(some 58),.call false 110 [(.t 56),(.t 57)],none⟩,
 ⟨none,.store 4 (.t 2) (.t 58),none⟩] [0,3,5,55,56,57,58])
 (.ret))
 (.skip)))
 (.seq (.region [⟨(some 59),.mv (.t 5),none⟩,
 ⟨(some 60),.qcall 130 [(.t 59)],none⟩,
 ⟨none,.store 4 (.t 2) (.t 60),none⟩] [0,3,5,55,59,60])
 (.ret))))))))
theorem ac114_ok : cFunc Tryz.prog [1000071,1000087,1000091,1000130] [(0,[],[]),(1,[7,8,9,10],[]),(2,[11,12,13,14,15,16,17],[]),(3,[18,19],[]),(4,[20,21,22,23,24,25,26,27],[]),(5,[28,29,30,31,32,33,34,35,36,37],[0,1,2,4,5,6,7,3,8,9,10]),(6,[38,39,40,41,42],[]),(7,[4,6,43,44,45,46,47,48,49,50,51,52,53,54],[]),(8,[0,3,5,55,56,57,58],[]),(9,[0,3,5,55,59,60],[])] Tryz.f114 = some (ac114,[.cell 2 (some 4)],61) := by kernel_rfl
-- 130 loop.example/prologserver/impl.number params 1 ntmps 5
def ac130 : Cd := .seq (.region [⟨(some 2),.alloc [(.d (.int .i64 0)),(.d (.int .i64 0)),(.d (.str [])),(.full [])],none⟩] [])
 (.seq (.region [⟨(some 3),.mv (.t 0),none⟩,
 ⟨(some 4),.build [(.d (.int .i64 0)),(.d (.int .i64 0)),(.d (.str [])),(.full [])] [(0,1,(.k (.c (.d (.int .i64 2))))),(1,1,(.t 3))],none⟩,
 ⟨none,.store 4 (.t 2) (.t 4),none⟩] [0,3,4])
 (.ret))
theorem ac130_ok : cFunc Tryz.prog [] [(0,[],[]),(1,[0,3,4],[])] Tryz.f130 = some (ac130,[.cell 2 (some 4)],5) := by kernel_rfl
theorem numberC_calls (n : Int) (hn : inR .i64 n) (H : Heap) : ACalls Tryz.prog 130 [.c (.d (.int .i64 n))] H (fun r H' => H' = H ∧ r = .agg ((Tm.mk 2 n [] []).row.map .d)) := by
  refine acalls Tryz.func130 (by kernel_rfl) ac130_ok fun hf => ?_
  simp -implicitDefEqProofs [ac130, row_mk, hn, hf, go_sem, -List.set_cons_succ, -List.set_cons_zero]
/-- a call that leaves all objects as they were, with one of several results -/
theorem call_rel {P : Program} {f : FuncId} {xs : List A} {sl : List A} {ext loc H₂ : Heap} {R : A → Prop} {K : A → St → Prop} (hc : ACalls P f xs H₂ (fun r' H' => H' = H₂ ∧ R r')) (hf : Obs.fits ext.length 0 ext) (hH : H₂ = ext ++ loc.map (Ob.re ext.length))
    (hk : ∀ r, R r → A.re ext.length r = r ∧ K r ⟨sl, ext, loc⟩) : ACalls P f xs H₂ (CallK K ⟨sl, ext, loc⟩) := by
  subst hH
  exact hc.mono fun r' H' ⟨h1, h2⟩ => ⟨ext, loc, r', h1, rfl, Nat.le_refl _, hf, (hk r' h2).1.symm, (hk r' h2).2⟩
/-- what number gives -/
def numV2 (s : List UInt8) (a : Nat) : A := match numR s a with
  | some (n, _) => .agg ((Tm.mk 2 n [] []).row.map .d)
  | none => zeroA
def numB (s : List UInt8) (a : Nat) : Int := match numR s a with
  | some _ => -1
  | none => a
set_option maxHeartbeats 1600000 in
theorem number_mv (s : List UInt8) (hs : s.length ≤ 1000000) (a : Nat) (ha : a ≤ s.length) (h : digAt s a = true ∨ (sgn s a 45 = true ∧ digAt s (a + 1) = true)) : Mv 114 [] s a (-1) (numV2 s a) (runE digAt s s.length (a + 1)) (numB s a) := fun H i hp h2 hi => by
  obtain ⟨l1, l2, l3, l4⟩ := number_law ha h
  refine acalls Tryz.func114 (by kernel_rfl) ac114_ok fun hf => ?_
  rw [ro_len] at hf
  have hf1 := fun a' b' => ro_fits (s' := s) (a' := a') (b' := b') hf
  have hfr : ∀ a' b', Obs.fits (ro H i s a' b').length 0 (ro H i s a' b') := fun a' b' => by rw [ro_len]; exact hf1 a' b'
  have ha1 : inR .i64 ((a : Int) + 1) := small_i64 (by omega) (by omega)
  have hli : inR .i64 (s.length : Int) := small_i64 (by omega) (by omega)
  simp -implicitDefEqProofs [ac114, ro_get hi, ro_len, ro_up, ha1, Ref.re, hf1, go_sem, -List.set_cons_succ, -List.set_cons_zero]
  refine loop_set (σ := Nat) (fun k => []) (fun k => ro H i s k (-1)) (fun _ => [.cells [.d (.int .i64 0), .d (.int .i64 0), .d (.str []), .full []]])
    (fun k => a + 1 ≤ k ∧ k ≤ s.length ∧ ∀ m, a + 1 + m < k → digAt s (a + 1 + m) = true) (fun k => s.length - k) (a + 1) (by simp [setAll]) ⟨Nat.le_refl _, by omega, fun m hm => by omega⟩ ?_
  rintro k ⟨hk1, hk2, hk3⟩
  have hki : inR .i64 ((k : Int) + 1) := small_i64 (by omega) (by omega)
  simp -implicitDefEqProofs [setAll, ro_len, go_sem, -List.set_cons_succ, -List.set_cons_zero]
  refine call_mv (next_mv s hs k (-1) (by omega)) hp h2 hi (by simp [Ob.re, C.re]) rfl (hf1 _ _) ?_
  simp -implicitDefEqProofs [ro_len, go_sem, -List.set_cons_succ, -List.set_cons_zero]
  refine qcall_pure (isDigit_calls (nxt s k (-1))) (hfr _ _) rfl ?_
  rw [nxt_dig]
  cases hd : digAt s k with
  | true =>
    have hlt := dig_lt _ hd
    simp -implicitDefEqProofs [ro_get hi, ro_len, ro_up, hki, Ref.re, hf1, go_sem, -List.set_cons_succ, -List.set_cons_zero]
    exact loop_back (k + 1) (by simp [setAll]) ⟨by omega, by omega, fun m hm => by
      rcases Nat.lt_or_ge (a + 1 + m) k with h | h
      · exact hk3 m h
      · rw [show a + 1 + m = k by omega]; exact hd⟩ (by show s.length - (k + 1) < s.length - k; omega)
  | false =>
    have he : runE digAt s s.length (a + 1) = k := by
      rw [runE_stop s.length (a + 1) (k - (a + 1)) (by omega) (fun m hm => hk3 m (by omega)) (.inr (by rw [show a + 1 + (k - (a + 1)) = k by omega]; exact hd))]
      omega
    rw [he] at l3 l4 ⊢
    have hcut : (s.take k).drop a = cutS s a k := rfl
    simp -implicitDefEqProofs [ro_get hi, ro_len, ro_up, hki, Ref.re, hf1, hcut, go_sem, -List.set_cons_succ, -List.set_cons_zero]
    obtain ⟨o, o2, g1, g2, hT, hE⟩ := id hp
    have hi0 : (0 : Nat) ≠ i := by omega
    have hi1 : (1 : Nat) ≠ i := by omega
    have hcl : (cutS s a k).length ≤ 1000000 := by rw [cutS_len]; omega
    refine ⟨⟨by omega, hk2⟩, ?_⟩
    refine call_rel (atoi_call hE _ (by omega) l3 _ (by rw [List.getElem?_append_left (by rw [ro_len]; omega), ro_other hi1]; exact g2)) (hfr _ _) (by simp [Ob.re, C.re]) ?_
    rintro r ⟨n, e, hn, rfl, hr⟩
    refine ⟨by simp [A.re, A.res, C.re], ?_⟩
    have hg0 : (ro H i s k (-1))[0]? = some (.tab 0 o) := by rw [ro_other hi0]; exact g1
    have fail : numR s a = none → numV2 s a = zeroA ∧ numB s a = a := fun h => by simp [numV2, numB, h]
    rcases hr with ⟨rfl, hok⟩ | ⟨p, q, rfl, hrg⟩
    · simp -implicitDefEqProofs [go_sem, -List.set_cons_succ, -List.set_cons_zero]
      refine qcall_tab (fun H' hH' => itoa_call hT n hn H' hH') (hfr _ _) hg0 rfl ?_
      by_cases heq : Lib.itoa n = cutS s a k
      · simp -implicitDefEqProofs [heq, go_sem, -List.set_cons_succ, -List.set_cons_zero]
        refine qcall_pure (within_calls n (-999) 999) (hfr _ _) rfl ?_
        cases hn4 : numR s a with
        | some x =>
          obtain ⟨m, j⟩ := x
          rw [hn4] at l4
          obtain ⟨q1, q2, q3, q4, q5⟩ := l4
          have hm : n = m := by rw [q1] at hok; cases hok; rfl
          subst hm
          simp -implicitDefEqProofs [q4, q5, hn, go_sem, -List.set_cons_succ, -List.set_cons_zero]
          refine qcall_pure (numberC_calls n hn) (hfr _ _) (by simp [A.re, re_d]) ?_
          simp -implicitDefEqProofs [numV2, numB, hn4, row_mk, hfr, go_sem, -List.set_cons_succ, -List.set_cons_zero]
        | none =>
          rw [hn4] at l4
          have hno := l4 n heq
          have hw : (decide (-999 ≤ n) && decide (n ≤ 999)) = false := by
            rw [Bool.and_eq_false_iff, decide_eq_false_iff_not, decide_eq_false_iff_not]; omega
          rw [hw]
          obtain ⟨e1, e2⟩ := fail hn4
          simp -implicitDefEqProofs [go_sem, -List.set_cons_succ, -List.set_cons_zero]
          refine call_mv (stop_mv s k (-1) a) hp h2 hi (by simp [Ob.re, C.re]) (zeroA_re _) (hf1 _ _) ?_
          simp -implicitDefEqProofs [e1, e2, zeroA, row_mk, hfr, go_sem, -List.set_cons_succ, -List.set_cons_zero]
      · have hn4 : numR s a = none := by
          cases hn4 : numR s a with
          | none => rfl
          | some x =>
            rw [hn4] at l4
            obtain ⟨q1, q2, _⟩ := l4
            rw [q1] at hok
            cases hok
            exact absurd q2 heq
        obtain ⟨e1, e2⟩ := fail hn4
        have heq2 : (Lib.itoa n != cutS s a k) = true := by simpa using heq
        simp -implicitDefEqProofs [heq, heq2, go_sem, -List.set_cons_succ, -List.set_cons_zero]
        refine call_mv (stop_mv s k (-1) a) hp h2 hi (by simp [Ob.re, C.re]) (zeroA_re _) (hf1 _ _) ?_
        simp -implicitDefEqProofs [e1, e2, zeroA, row_mk, hfr, go_sem, -List.set_cons_succ, -List.set_cons_zero]
    · have hn4 : numR s a = none := by
        cases hn4 : numR s a with
        | none => rfl
        | some x =>
          rw [hn4] at l4
          obtain ⟨q1, _⟩ := l4
          rw [q1] at hrg
          cases hrg
      obtain ⟨e1, e2⟩ := fail hn4
      simp -implicitDefEqProofs [go_sem, -List.set_cons_succ, -List.set_cons_zero]
      refine call_mv (stop_mv s k (-1) a) hp h2 hi (by simp [Ob.re, C.re]) (zeroA_re _) (hf1 _ _) ?_
      simp -implicitDefEqProofs [e1, e2, zeroA, row_mk, hfr, go_sem, -List.set_cons_succ, -List.set_cons_zero]
end Go.Proofs.YtgfmlifkhpjplaaGreatDoor

/-
  The program's reader: names.
  Conditions: none.
-/
open Go Go.AM Go.Proofs
namespace Go.Proofs.YtgfmlifkhpjplaaGreatDoor
open Go.ChangeShapes Go.WideShapes Go.ChangeAt Go.RowKit
set_option linter.unusedVariables false
set_option linter.unusedSimpArgs false
set_option maxRecDepth 100000
-- 119 (*loop.example/prologserver/impl.reader).name params 1 ntmps 77
-- loop head live: [0,3,4]
-- loop head live: [0,3,4,44,45,46]
def ac119 : Cd := .seq (.region [⟨(some 2),.mv (.k (.c (.d (.str [])))),none⟩] [2])
 (.seq (.region [⟨(some 7),.mv (.t 0),none⟩,
 ⟨(some 8),.nilCheck (.t 7),none⟩,
 ⟨(some 9),.fieldAddr 0 (.t 8),none⟩,
 ⟨(some 11),.mv (.t 0),none⟩,
 ⟨(some 12),.nilCheck (.t 11),none⟩,
 ⟨(some 13),.fieldAddr 1 (.t 12),none⟩,
 ⟨(some 10),.load none (.t 9),none⟩,
 ⟨(some 14),.load none (.t 13),none⟩,
 ⟨(some 15),.slice 0 (.t 10) (some (.t 14)) none none,none⟩,
 ⟨(some 3),.mv (.t 15),none⟩] [7,8,9,10,11,12,13,14,15])
 (.seq (.region [⟨(some 4),.mv (.k (.c (.d (.int .i64 0)))),none⟩] [])
 (.seq (.block 0 (.loop (.seq (.seq (.region [⟨(some 16),.mv (.t 4),none⟩,
 ⟨(some 17),.mv (.t 3),none⟩,
 ⟨(some 18),.len 0 (.t 17),none⟩,
 ⟨(some 19),.bin .lss (.t 16) (.t 18),none⟩,
 ⟨(some 20),.mv (.t 19),none⟩,
 ⟨(some 21),.mv (.t 3),some (20,true)⟩,
 ⟨(some 22),.mv (.t 4),some (20,true)⟩,
 ⟨(some 23),.index (.t 21) (.t 22),some (20,true)⟩,
 ⟨(some 24),.bin .geq (.t 23) (.k (.c (.d (.int .u8 97)))),some (20,true)⟩,
 ⟨(some 25),.pick (.t 20) (.t 24) (.k (.c (.d (.bool false)))),none⟩,
 ⟨(some 26),.mv (.t 25),none⟩,
 ⟨(some 27),.mv (.t 3),some (26,true)⟩,
 ⟨(some 28),.mv (.t 4),some (26,true)⟩,
 ⟨(some 29),.index (.t 27) (.t 28),some (26,true)⟩,
 ⟨(some 30),.bin .leq (.t 29) (.k (.c (.d (.int .u8 122)))),some (26,true)⟩,
 ⟨(some 31),.pick (.t 26) (.t 30) (.k (.c (.d (.bool false)))),none⟩] [16,17,18,19,20,21,22,23,24,25,26,27,28,29,30])
 (.cond (.t 31)
 (.skip)
 (.exit 0)))
 (.block 1 (.region [⟨(some 32),.mv (.t 4),none⟩,
 ⟨(some 33),.bin .add (.t 32) (.k (.c (.d (.int .i64 1)))),none⟩,
 ⟨(some 4),.mv (.t 33),none⟩] [31,32,33])))))
 (.seq (.seq (.region [⟨(some 34),.mv (.t 4),none⟩,
 ⟨(some 35),.bin .gtr (.t 34) (.k (.c (.d (.int .i64 6)))),none⟩] [34])
 (.cond (.t 35)
 (.seq (.region [⟨(some 36),.mv (.t 0),none⟩,
 ⟨(some 37),.mv (.t 0),none⟩,
 ⟨(some 38),.nilCheck (.t 37),none⟩,
 ⟨(some 39),.fieldAddr 1 (.t 38),none⟩,
 ⟨(some 40),.load none (.t 39),none⟩,
 ⟨(some 41),.call false 110 [(.t 36),(.t 40)],none⟩] [0,3,4,35,36,37,38,39,40,41])
 (.seq (.region [⟨(some 2),.mv (.k (.c (.d (.str [])))),none⟩] [])
 (.ret)))
 (.skip)))
 (.seq (.seq (.region [⟨(some 42),.mv (.t 4),none⟩,
 ⟨(some 43),.bin .eql (.t 42) (.k (.c (.d (.int .i64 0)))),none⟩] [2,35,42])
 (.cond (.t 43)
 (.seq (.region [⟨(some 44),.qcall 103 [],none⟩,
 ⟨(some 45),.len 1 (.t 44),none⟩,
 ⟨(some 46),.mv (.k (.c (.d (.int .i64 0)))),none⟩] [43])
 (.block 2 (.loop (.seq (.region [⟨(some 47),.bin .lss (.t 46) (.t 45),none⟩] [])
 (.seq (.cond (.t 47)
 (.skip)
 (.exit 2))
 (.seq (.block 3 (.seq (.region [⟨(some 48),.indexAddr 1 (.t 44) (.t 46),none⟩,
 ⟨(some 49),.load none (.t 48),none⟩,
 ⟨(some 6),.mv (.t 49),none⟩] [47,48,49])
 (.seq (.region [⟨(some 50),.mv (.t 3),none⟩,
 ⟨(some 51),.mv (.t 6),none⟩,
 ⟨(some 52),.qcall 116 [(.t 50),(.t 51)],none⟩] [50,51])
 (.cond (.t 52)
 (.region [⟨(some 53),.mv (.t 4),none⟩,
 ⟨(some 54),.mv (.t 6),none⟩,
 ⟨(some 55),.len 0 (.t 54),none⟩,
 ⟨(some 56),.imax (.t 53) (.t 55),none⟩,
 ⟨(some 4),.mv (.t 56),none⟩] [6,52,53,54,55,56])
 (.skip)))))
 (.region [⟨(some 57),.bin .add (.t 46) (.k (.c (.d (.int .i64 1)))),none⟩,
 ⟨(some 46),.mv (.t 57),none⟩] [6,52,57])))))))
 (.skip)))
 (.seq (.seq (.region [⟨(some 58),.mv (.t 4),none⟩,
 ⟨(some 59),.bin .eql (.t 58) (.k (.c (.d (.int .i64 0)))),none⟩] [43,58])
 (.cond (.t 59)
 (.seq (.region [⟨(some 60),.mv (.t 0),none⟩,
 ⟨(some 61),.mv (.t 0),none⟩,
 ⟨(some 62),.nilCheck (.t 61),none⟩,
 ⟨(some 63),.fieldAddr 1 (.t 62),none⟩,
 ⟨(some 64),.load none (.t 63),none⟩,
 ⟨(some 65),.call false 110 [(.t 60),(.t 64)],none⟩] [0,3,4,59,60,61,62,63,64,65])
 (.seq (.region [⟨(some 2),.mv (.k (.c (.d (.str [])))),none⟩] [])
 (.ret)))
 (.skip)))
 (.seq (.region [⟨(some 66),.mv (.t 0),none⟩,
 ⟨(some 67),.nilCheck (.t 66),none⟩,
 ⟨(some 68),.fieldAddr 1 (.t 67),none⟩,
 ⟨(some 69),.load none (.t 68),none⟩,
 ⟨(some 70),.mv (.t 4),none⟩,
 ⟨(some 71),.bin .add (.t 69) (.t 70),none⟩,
 ⟨(some 72),.nilCheck (.t 66),none⟩,
 ⟨(some 73),.fieldAddr 1 (.t 72),none⟩,
 ⟨none,.store 1 (.t 73) (.t 71),none⟩] [0,2,59,66,67,68,69,70,71,72,73])
 (.seq (.region [⟨(some 74),.mv (.t 3),none⟩,
 ⟨(some 75),.mv (.t 4),none⟩,
 ⟨(some 76),.slice 0 (.t 74) none (some (.t 75)) none,none⟩,
 ⟨(some 2),.mv (.t 76),none⟩] [3,4,74,75,76])
 (.ret)))))))))
theorem ac119_ok : cFunc Tryz.prog [1000103,1000116] [(0,[2],[]),(1,[7,8,9,10,11,12,13,14,15],[0,1,2,4,5,6,3,7,8,9]),(2,[],[]),(3,[16,17,18,19,20,21,22,23,24,25,26,27,28,29,30],[]),(4,[31,32,33],[]),(5,[34],[]),(6,[0,3,4,35,36,37,38,39,40,41],[]),(7,[],[]),(8,[2,35,42],[]),(9,[43],[]),(10,[],[]),(11,[47,48,49],[]),(12,[50,51],[]),(13,[6,52,53,54,55,56],[]),(14,[6,52,57],[]),(15,[43,58],[]),(16,[0,3,4,59,60,61,62,63,64,65],[]),(17,[],[]),(18,[0,2,59,66,67,68,69,70,71,72,73],[]),(19,[3,4,74,75,76],[])] Tryz.f119 = some (ac119,[.tmp 2],77) := by kernel_rfl
/-- the greatest length of a beginning out of a list -/
def maxP (t : List UInt8) : List (List UInt8) → Nat → Nat
  | [], n => n
  | x :: l, n => maxP t l (if t.take x.length == x then (if n < x.length then x.length else n) else n)
theorem cut_drop (s : List UInt8) (a n : Nat) : cutS s a (a + n) = (s.drop a).take n := by
  rw [cutS, List.drop_take, Nat.add_sub_cancel_left]
theorem maxP_best {s : List UInt8} {a : Nat} (ha : a ≤ s.length) : ∀ (l : List (List UInt8)) (b : List UInt8), maxP (s.drop a) l b.length = (bestS s a l b).length
  | [], b => rfl
  | x :: l, b => by
    unfold maxP bestS
    rw [cut_drop]
    by_cases h : ((s.drop a).take x.length == x) = true
    · have hl : a + x.length ≤ s.length := by
        have := congrArg List.length (beq_iff_eq.1 h)
        simp at this
        omega
      rw [if_pos h]
      by_cases hb : b.length < x.length
      · simp only [hl, h, hb, decide_true, Bool.and_self, if_true]
        exact maxP_best ha l x
      · simp only [hl, h, hb, decide_true, decide_false, Bool.and_false, Bool.false_eq_true, if_false]
        exact maxP_best ha l b
    · rw [if_neg h]
      have h' : ((s.drop a).take x.length == x) = false := by simpa using h
      simp only [h', Bool.and_false, Bool.false_and, Bool.false_eq_true, if_false]
      exact maxP_best ha l b
def nameV (s : List UInt8) (a : Nat) : A := match nameR s a with
  | some (n, _) => .c (.d (.str n))
  | none => .c (.d (.str []))
def nameJ (s : List UInt8) (a : Nat) : Nat := match nameR s a with
  | some (_, j) => j
  | none => a
def nameF (s : List UInt8) (a : Nat) : Int := match nameR s a with
  | some _ => -1
  | none => a
set_option maxHeartbeats 1600000 in
theorem name_mv (s : List UInt8) (hs : s.length ≤ 1000000) (a : Nat) (ha : a ≤ s.length) : Mv 119 [] s a (-1) (nameV s a) (nameJ s a) (nameF s a) := fun H i hp h2 hi => by
  refine acalls Tryz.func119 (by kernel_rfl) ac119_ok fun hf => ?_
  rw [ro_len] at hf
  have hf1 := fun a' b' => ro_fits (s' := s) (a' := a') (b' := b') hf
  have hfr : ∀ a' b', Obs.fits (ro H i s a' b').length 0 (ro H i s a' b') := fun a' b' => by rw [ro_len]; exact hf1 a' b'
  obtain ⟨t, ht⟩ : ∃ t, t = s.drop a := ⟨_, rfl⟩
  have htl : t.length = s.length - a := by rw [ht]; simp
  have hli : inR .i64 (t.length : Int) := small_i64 (by omega) (by omega)
  have hst : s.take s.length = s := List.take_length
  simp -implicitDefEqProofs [ac119, ro_get hi, ro_len, Ref.re, hf1, ← ht, go_sem, -List.set_cons_succ, -List.set_cons_zero]
  refine ⟨by omega, ?_⟩
  refine loop_set (σ := Nat) (fun k => [(4, .c (.d (.int .i64 k)))]) (fun k => ro H i s a (-1)) (fun _ => [])
    (fun k => k ≤ t.length ∧ ∀ m, m < k → smaAt s (a + m) = true) (fun k => t.length - k) 0 (by simp [setAll]) ⟨Nat.zero_le _, fun m hm => by omega⟩ ?_
  rintro k ⟨hk2, hk3⟩
  have hki : inR .i64 ((k : Int) + 1) := small_i64 (by omega) (by omega)
  simp -implicitDefEqProofs [setAll, ro_len, hli, go_sem, -List.set_cons_succ, -List.set_cons_zero]
  refine (fun (more : smaAt s (a + k) = true → (?more : Prop)) (stop : smaAt s (a + k) = false → (?stop : Prop)) => ?main) ?rest1 ?rest2
  case main =>
    by_cases hlt : k < t.length
    · have hsm : smaAt s (a + k) = smaB t[k] := by
        have : s[a + k]? = some t[k] := by rw [← List.getElem?_drop, ← ht, List.getElem?_eq_getElem hlt]
        unfold smaAt
        rw [this]
      simp -implicitDefEqProofs [hlt, go_sem, -List.set_cons_succ, -List.set_cons_zero]
      refine byte_nat hlt ?_
      by_cases h1 : (97 : Int) ≤ t[k].toNat
      · simp -implicitDefEqProofs [h1, go_sem, -List.set_cons_succ, -List.set_cons_zero]
        refine byte_nat hlt ?_
        by_cases h3 : (t[k].toNat : Int) ≤ 122
        · simp -implicitDefEqProofs [h3, hki, go_sem, -List.set_cons_succ, -List.set_cons_zero]
          exact more (by rw [hsm]; simp [smaB]; omega)
        · simp -implicitDefEqProofs [h3, hki, go_sem, -List.set_cons_succ, -List.set_cons_zero]
          exact stop (by rw [hsm]; simp [smaB]; omega)
      · simp -implicitDefEqProofs [h1, go_sem, -List.set_cons_succ, -List.set_cons_zero]
        refine byte_off 0 ?_
        simp -implicitDefEqProofs [go_sem, -List.set_cons_succ, -List.set_cons_zero]
        exact stop (by rw [hsm]; simp [smaB]; omega)
    · simp -implicitDefEqProofs [hlt, go_sem, -List.set_cons_succ, -List.set_cons_zero]
      refine byte_off 0 ?_
      simp -implicitDefEqProofs [go_sem, -List.set_cons_succ, -List.set_cons_zero]
      refine byte_off 0 ?_
      simp -implicitDefEqProofs [go_sem, -List.set_cons_succ, -List.set_cons_zero]
      exact stop (sma_end (by simp; omega))
  case rest1 =>
    intro hsm
    have hlt := sma_lt _ hsm
    exact loop_back (k + 1) (by simp [setAll]) ⟨by omega, fun m hm => by
      rcases Nat.lt_or_ge m k with h | h
      · exact hk3 m h
      · rw [show m = k by omega]; exact hsm⟩ (by show t.length - (k + 1) < t.length - k; omega)
  case rest2 =>
    intro hsm
    have he : runE smaAt s s.length a = a + k := runE_stop s.length a k (by omega) hk3 (.inr hsm)
    have hii : inR .i64 ((a : Int) + (k : Int)) := small_i64 (by omega) (by omega)
    refine ⟨fun h6 => ?_, fun h6 => ⟨fun h0 => ?_, fun h0 => ⟨fun h => absurd h h0, fun _ => ?_⟩⟩⟩
    · have hn : nameR s a = none := by unfold nameR; rw [he, if_pos (by omega)]
      simp -implicitDefEqProofs [ro_get hi, ro_len, go_sem, -List.set_cons_succ, -List.set_cons_zero]
      refine call_mv (stop_mv s a (-1) a) hp h2 hi (by simp [Ob.re, C.re]) (zeroA_re _) (hf1 _ _) ?_
      simp -implicitDefEqProofs [nameV, nameJ, nameF, hn, go_sem, -List.set_cons_succ, -List.set_cons_zero]
    · subst h0
      refine qcall_pure symbols_calls (hfr _ _) rfl ?_
      have hsl : signs.length = 15 := rfl
      have hs15 : inR .i64 (15 : Int) := small_i64 (by omega) (by omega)
      have hs0 : inR .i64 (0 : Int) := small_i64 (by omega) (by omega)
      simp -implicitDefEqProofs [hsl, hs15, go_sem, -List.set_cons_succ, -List.set_cons_zero]
      obtain ⟨G, hG⟩ : ∃ G, G = bestS s a signs [] := ⟨_, rfl⟩
      have hG2 : maxP t signs 0 = G.length := by rw [hG, ht]; exact maxP_best ha signs []
      have hG3 : G.length ≤ t.length := by
        obtain ⟨⟨y, hy⟩, _⟩ := best_max ha signs [] ⟨s.drop a, by simp⟩
        rw [← hG, ← ht] at hy
        rw [← hy]; simp
      refine loop_set (σ := Nat × Nat) (fun x => [(46, .c (.d (.int .i64 x.1))), (4, .c (.d (.int .i64 x.2)))]) (fun _ => ro H i s a (-1)) (fun _ => []) (fun x => x.1 ≤ 15 ∧ maxP t (signs.drop x.1) x.2 = G.length ∧ x.2 ≤ 3) (fun x => 15 - x.1) (0, 0) (by simp [setAll]) ⟨by omega, hG2, by simp⟩ ?_
      rintro ⟨j, b⟩ ⟨hj, h1, h3⟩
      simp only at hj h1 h3
      simp -implicitDefEqProofs [setAll, hsl, hs15, ro_len, go_sem, -List.set_cons_succ, -List.set_cons_zero]
      refine ⟨fun hlt => ?_, fun hge => ?_⟩
      · have hlt' : j < signs.length := by rw [hsl]; omega
        have hd : signs.drop j = signs[j] :: signs.drop (j + 1) := List.drop_eq_getElem_cons hlt'
        rw [hd, maxP] at h1
        have h4 : signs[j].length ≤ 3 := by
          have : ∀ n ∈ signs, n.length ≤ 3 := by decide
          exact this _ (List.getElem_mem hlt')
        have hrow : (signs.map strRow)[j]? = some [.str signs[j]] := by simp [hlt', strRow]
        obtain ⟨w, hw⟩ : ∃ w, w = signs[j] := ⟨_, rfl⟩
        rw [← hw] at h1 h4 hrow
        have hwl : inR .i64 (w.length : Int) := small_i64 (by omega) (by omega)
        have hadd : inR .i64 ((j : Int) + 1) := small_i64 (by omega) (by omega)
        refine row_nat _ hrow rfl ?_
        simp -implicitDefEqProofs [ro_len, go_sem, -List.set_cons_succ, -List.set_cons_zero]
        refine qcall_pure (hasPrefix_calls t w (by omega) (by omega)) (hfr _ _) rfl ?_
        cases hq : (t.take w.length == w) with
        | true =>
          rw [hq] at h1
          simp only [if_true] at h1
          simp -implicitDefEqProofs [hwl, hadd, ro_len, go_sem, -List.set_cons_succ, -List.set_cons_zero]
          by_cases hbw : b < w.length
          · rw [if_pos hbw] at h1
            refine loop_back (j + 1, w.length) (by simp [setAll, hbw]) ⟨by omega, h1, h4⟩ (by show 15 - (j + 1) < 15 - j; omega)
          · rw [if_neg hbw] at h1
            refine loop_back (j + 1, b) (by simp [setAll, hbw]) ⟨by omega, h1, h3⟩ (by show 15 - (j + 1) < 15 - j; omega)
        | false =>
          rw [hq] at h1
          simp only [Bool.false_eq_true, if_false] at h1
          simp -implicitDefEqProofs [hadd, ro_len, go_sem, -List.set_cons_succ, -List.set_cons_zero]
          exact loop_back (j + 1, b) (by simp [setAll]) ⟨by omega, h1, h3⟩ (by show 15 - (j + 1) < 15 - j; omega)
      · obtain rfl : j = 15 := by omega
        have h15 : signs.drop 15 = [] := rfl
        rw [h15, maxP] at h1
        subst h1
        have hgi : inR .i64 ((a : Int) + (G.length : Int)) := small_i64 (by omega) (by omega)
        by_cases hG0 : G = []
        · have hn : nameR s a = none := by unfold nameR; rw [he, if_neg (by omega), if_neg (by omega), ← hG, if_pos hG0]
          simp -implicitDefEqProofs [hG0, ro_get hi, ro_len, go_sem, -List.set_cons_succ, -List.set_cons_zero]
          refine call_mv (stop_mv s a (-1) a) hp h2 hi (by simp [Ob.re, C.re]) (zeroA_re _) (hf1 _ _) ?_
          simp -implicitDefEqProofs [nameV, nameJ, nameF, hn, go_sem, -List.set_cons_succ, -List.set_cons_zero]
        · have hn : nameR s a = some (G, a + G.length) := by unfold nameR; rw [he, if_neg (by omega), if_neg (by omega), ← hG, if_neg hG0]
          have htk : t.take G.length = G := by
            obtain ⟨⟨y, hy⟩, _⟩ := best_max ha signs [] ⟨s.drop a, by simp⟩
            rw [← hG, ← ht] at hy
            rw [← hy, List.take_left]
          simp -implicitDefEqProofs [hG0, ro_get hi, ro_len, hgi, hf1, htk, ro_set1, Ref.re, nameV, nameJ, nameF, hn, go_sem, -List.set_cons_succ, -List.set_cons_zero]
          exact hG3
    · have hn : nameR s a = some (t.take k, a + k) := by
        unfold nameR
        rw [he, if_neg (by omega), if_pos (by omega), cut_drop, ← ht]
      simp -implicitDefEqProofs [ro_get hi, ro_len, hii, hf1, ro_set1, Ref.re, nameV, nameJ, nameF, hn, go_sem, -List.set_cons_succ, -List.set_cons_zero]
      exact hk2
end Go.Proofs.YtgfmlifkhpjplaaGreatDoor

/-
  Operators as the program reads them: the plain law.
  Conditions: none.
-/
open Go Go.AM Go.Proofs
namespace Go.Proofs.YtgfmlifkhpjplaaGreatDoor
set_option linter.unusedVariables false
set_option linter.unusedSimpArgs false
set_option maxRecDepth 100000
def opL : List (List UInt8) := signs ++ [[105, 115], [109, 111, 100]]
def opOk (t x : List UInt8) : Bool := decide (0 < levelN x) && (t.take (opSp x).length == opSp x)
/-- the longest operator that stands there -/
def opBest (t : List UInt8) : List (List UInt8) → List UInt8 → List UInt8
  | [], b => b
  | x :: l, b => opBest t l (if (opOk t x && decide (b.length < x.length)) = true then x else b)
theorem opBest_spec (t : List UInt8) : ∀ (l : List (List UInt8)) (b : List UInt8), (opBest t l b = b ∨ (opBest t l b ∈ l ∧ opOk t (opBest t l b) = true)) ∧ b.length ≤ (opBest t l b).length ∧ ∀ x ∈ l, opOk t x = true → x.length ≤ (opBest t l b).length
  | [], b => ⟨.inl rfl, Nat.le_refl _, by simp⟩
  | x :: l, b => by
    unfold opBest
    by_cases h : (opOk t x && decide (b.length < x.length)) = true
    · rw [if_pos h]
      obtain ⟨h1, h2, h3⟩ := opBest_spec t l x
      simp only [Bool.and_eq_true, decide_eq_true_eq] at h
      refine ⟨.inr ?_, by omega, fun y hy hok => ?_⟩
      · rcases h1 with h1 | ⟨h1, h4⟩
        · rw [h1]; exact ⟨by simp, h.1⟩
        · exact ⟨by simp [h1], h4⟩
      · rcases List.mem_cons.1 hy with rfl | hy
        · exact h2
        · exact h3 y hy hok
    · rw [if_neg h]
      obtain ⟨h1, h2, h3⟩ := opBest_spec t l b
      simp only [Bool.and_eq_true, decide_eq_true_eq, not_and] at h
      refine ⟨?_, h2, fun y hy hok => ?_⟩
      · rcases h1 with h1 | ⟨h1, h4⟩
        · exact .inl h1
        · exact .inr ⟨by simp [h1], h4⟩
      · rcases List.mem_cons.1 hy with rfl | hy
        · have := h hok; omega
        · exact h3 y hy hok
theorem opOk_iff {t x : List UInt8} : opOk t x = true ↔ 0 < levelN x ∧ opSp x <+: t := by
  unfold opOk
  rw [Bool.and_eq_true, decide_eq_true_eq, beq_iff_eq, List.prefix_iff_eq_take]
  exact ⟨fun h => ⟨h.1, h.2.symm⟩, fun h => ⟨h.1, h.2.symm⟩⟩
theorem sign_facts : ∀ x ∈ signs, (opSp x == x && !wordB x && (match x with | [] => false | c :: _ => !(c == 32) && !smaB c)) = true := by decide
theorem sign_ops : ∀ x ∈ signs, ∀ y ∈ signs, (!(decide (0 < levelN x)) || !(y.take x.length == x) || decide (0 < levelN y)) = true := by decide
theorem ops_cases {n : List UInt8} (h : 1 ≤ levelN n) : n ∈ signs ∨ n = [105, 115] ∨ n = [109, 111, 100] := by
  have hm := level_ops h
  have : ∀ n ∈ allOps, n ∈ signs ∨ n = [105, 115] ∨ n = [109, 111, 100] := by decide
  exact this n hm
section
variable {s : List UInt8} {a : Nat} (ha : a ≤ s.length)
include ha
theorem word_op {x : List UInt8} (hx : x = [105, 115] ∨ x = [109, 111, 100]) (h : 32 :: x ++ [32] <+: s.drop a) : opR s a = some (x, a + (x.length + 2)) := by
  obtain ⟨y, hy⟩ := h
  have hl : lettersB x = true := by rcases hx with rfl | rfl <;> decide
  have hw : wordB x = true := by rcases hx with rfl | rfl <;> decide
  have hlv : ¬ levelN x = 0 := by rcases hx with rfl | rfl <;> decide
  have hd : s.drop a = 32 :: (x ++ 32 :: y) := by rw [← hy]; simp
  have h32 : sgn s a 32 = true := by rw [sgn_dr hd]; rfl
  have hd1 : s.drop (a + 1) = x ++ 32 :: y := by
    have := dr_add (w := [32]) (r := x ++ 32 :: y) (s := s) (i := a) (by simpa using hd)
    simpa using this
  have hlen := dr_len (w := [32]) (r := x ++ 32 :: y) (s := s) (i := a) (by simpa using hd) ha
  simp at hlen
  have hn : nameR s (a + 1) = some (x, a + 1 + x.length) := nameR_letters (by omega) hd1 hl fun c r' e => by cases e; decide
  have hd2 : s.drop (a + 1 + x.length) = 32 :: y := dr_add hd1
  have h322 : sgn s (a + 1 + x.length) 32 = true := by rw [sgn_dr hd2]; rfl
  unfold opR
  rw [h32]
  simp only [if_true]
  rw [if_neg (by omega), hn]
  simp only
  rw [if_neg hlv, hw, h322]
  simp
  omega
theorem sign_op {x : List UInt8} (hx : x ∈ signs) (hlv : 0 < levelN x) (h : x <+: s.drop a) : ∃ n, n ∈ signs ∧ x.length ≤ n.length ∧ opR s a = some (n, a + n.length) ∧ n <+: s.drop a := by
  have hf := sign_facts x hx
  obtain ⟨y, hy⟩ := id h
  obtain ⟨c, w, hxc⟩ : ∃ c w, x = c :: w := by
    cases x with
    | nil => simp at hf
    | cons c w => exact ⟨c, w, rfl⟩
  rw [hxc] at hf hy
  simp at hf
  have hd : s.drop a = c :: (w ++ y) := by rw [← hy]; rfl
  have h32 : sgn s a 32 = false := by
    rw [sgn_dr hd]
    simpa using hf.2.1
  have hsm : smaAt s a = false := by rw [sma_dr hd]; exact hf.2.2
  have hlen : a < s.length := by
    rcases Nat.lt_or_ge a s.length with h | h
    · exact h
    · rw [List.drop_eq_nil_of_le h] at hd; cases hd
  have hrun : runE smaAt s s.length a = a := by
    cases s.length with
    | zero => rfl
    | succ n => unfold runE; rw [hsm]; rfl
  obtain ⟨b1, _, b3, b4⟩ := best_max ha signs [] ⟨s.drop a, by simp⟩
  have hle := b3 x hx h
  have hne : bestS s a signs [] ≠ [] := by
    intro e
    rw [e, hxc] at hle
    simp at hle
  have hm : bestS s a signs [] ∈ signs := by
    rcases b4 with b4 | b4
    · exact absurd b4 hne
    · exact b4
  have hn : nameR s a = some (bestS s a signs [], a + (bestS s a signs []).length) := by
    unfold nameR
    rw [hrun, if_neg (by omega), if_neg (by omega), if_neg hne]
  generalize bestS s a signs [] = z at b1 hle hne hm hn
  have hpre : x <+: z := List.prefix_of_prefix_length_le h b1 hle
  have hz := sign_ops x hx z hm
  rw [List.prefix_iff_eq_take.1 hpre] at hlv
  have hz2 : 0 < levelN z := by
    simp only [Bool.or_eq_true, Bool.not_eq_true', decide_eq_false_iff_not, decide_eq_true_eq] at hz
    rcases hz with (hz | hz) | hz
    · rw [← List.prefix_iff_eq_take.1 hpre] at hlv; exact absurd hlv hz
    · rw [← List.prefix_iff_eq_take.1 hpre] at hz; simp at hz
    · exact hz
  have hwz : wordB z = false := by
    have := sign_facts z hm
    simp at this
    exact this.1.2
  refine ⟨z, hm, hle, ?_, b1⟩
  unfold opR
  rw [h32]
  simp only [Bool.false_eq_true, if_false]
  rw [if_neg (by omega), hn]
  simp only
  rw [if_neg (by omega), hwz]
  simp
theorem opR_cand {n : List UInt8} {j : Nat} (h : opR s a = some (n, j)) : n ∈ opL ∧ opOk (s.drop a) n = true ∧ j = a + (opSp n).length := by
  have hor := h
  unfold opR at h
  cases h32 : sgn s a 32 with
  | true =>
    rw [h32] at h
    simp only [if_true] at h
    split at h
    · cases h
    · rename_i hlt
      cases hn : nameR s (a + 1) with
      | none => rw [hn] at h; cases h
      | some q =>
        obtain ⟨m, k⟩ := q
        rw [hn] at h
        simp only at h
        split at h
        · cases h
        · rename_i hlv
          split at h
          · cases h
          · rename_i hw
            simp only [Option.some.injEq, Prod.mk.injEq] at h
            simp at hw
            obtain ⟨hw1, hw2⟩ := hw
            have hk := hw2 hw1
            obtain ⟨rfl, rfl⟩ := h
            have hmx : m = [105, 115] ∨ m = [109, 111, 100] := by simpa [wordB] using hw1
            have hd : s.drop a = 32 :: s.drop (a + 1) := by
              have h0 := sgn_lt h32
              have : s[a]? = some 32 := by
                unfold sgn at h32
                split at h32
                · rename_i b hb; simp at h32; rw [hb, h32]
                · cases h32
              obtain ⟨g1, g2⟩ := List.getElem?_eq_some_iff.1 this
              rw [List.drop_eq_getElem_cons g1, g2]
            -- the name is a run of letters
            have hpre : m <+: s.drop (a + 1) ∧ k = a + 1 + m.length := by
              unfold nameR at hn
              obtain ⟨q1, _, q3⟩ := runE_le (sma_lt (s := s)) s.length (a + 1)
              have q3 := q3 (by omega)
              split at hn
              · cases hn
              · split at hn
                · simp only [Option.some.injEq, Prod.mk.injEq] at hn
                  obtain ⟨rfl, rfl⟩ := hn
                  refine ⟨?_, by rw [cutS_len]; omega⟩
                  rw [cutS, List.drop_take]
                  exact List.take_prefix _ _
                · split at hn
                  · cases hn
                  · simp only [Option.some.injEq, Prod.mk.injEq] at hn
                    obtain ⟨rfl, rfl⟩ := hn
                    exact ⟨(best_max (s := s) (i := a + 1) (by omega) signs [] ⟨_, by simp; rfl⟩).1, rfl⟩
            obtain ⟨⟨y, hy⟩, hke⟩ := hpre
            have hdk : s.drop k = y := by rw [hke]; exact dr_add hy.symm
            have hk32 : ∃ y', y = 32 :: y' := by
              have : s[k]? = some 32 := by
                unfold sgn at hk
                split at hk
                · rename_i b hb; simp at hk; rw [hb, hk]
                · cases hk
              obtain ⟨g1, g2⟩ := List.getElem?_eq_some_iff.1 this
              exact ⟨s.drop (k + 1), by rw [← hdk, List.drop_eq_getElem_cons g1, g2]⟩
            obtain ⟨y', rfl⟩ := hk32
            have hsp : opSp m = 32 :: m ++ [32] := by rcases hmx with rfl | rfl <;> decide
            refine ⟨by rcases hmx with rfl | rfl <;> decide, opOk_iff.2 ⟨by rcases hmx with rfl | rfl <;> decide, ?_⟩, ?_⟩
            · rw [hsp, hd, ← hy]
              exact ⟨y', by simp⟩
            · rw [hw1, hsp]
              simp
              omega
  | false =>
    rw [h32] at h
    simp only [Bool.false_eq_true, if_false] at h
    split at h
    · cases h
    · rename_i hlt
      cases hn : nameR s a with
      | none => rw [hn] at h; cases h
      | some q =>
        obtain ⟨m, k⟩ := q
        rw [hn] at h
        simp only at h
        split at h
        · cases h
        · rename_i hlv
          split at h
          · cases h
          · rename_i hw
            simp only [Option.some.injEq, Prod.mk.injEq] at h
            simp at hw
            have hw1 : wordB m = false := hw.1
            rw [hw1] at h
            simp only [Bool.false_eq_true, if_false] at h
            obtain ⟨rfl, rfl⟩ := h
            have hlv1 := (opR_level hor).1
            have hms : m ∈ signs := by
              rcases ops_cases hlv1 with h | rfl | rfl
              · exact h
              · cases hw1
              · cases hw1
            have hf := sign_facts m hms
            have hsp : opSp m = m := by simp at hf; exact hf.1.1
            have hpre : m <+: s.drop a ∧ k = a + m.length := by
              unfold nameR at hn
              obtain ⟨q1, _, q3⟩ := runE_le (sma_lt (s := s)) s.length a
              have q3 := q3 ha
              split at hn
              · cases hn
              · split at hn
                · simp only [Option.some.injEq, Prod.mk.injEq] at hn
                  obtain ⟨rfl, rfl⟩ := hn
                  refine ⟨?_, by rw [cutS_len]; omega⟩
                  rw [cutS, List.drop_take]
                  exact List.take_prefix _ _
                · split at hn
                  · cases hn
                  · simp only [Option.some.injEq, Prod.mk.injEq] at hn
                    obtain ⟨rfl, rfl⟩ := hn
                    exact ⟨(best_max (s := s) (i := a) ha signs [] ⟨_, by simp; rfl⟩).1, rfl⟩
            refine ⟨List.mem_append_left _ hms, opOk_iff.2 ⟨by omega, by rw [hsp]; exact hpre.1⟩, by rw [hsp]; exact hpre.2⟩
theorem op_law : match opR s a with
    | none => opBest (s.drop a) opL [] = []
    | some (n, j) => opBest (s.drop a) opL [] = n ∧ j = a + (opSp n).length := by
  obtain ⟨h1, _, h3⟩ := opBest_spec (s.drop a) opL []
  have cand : ∀ x ∈ opL, opOk (s.drop a) x = true → ∃ n j, opR s a = some (n, j) ∧ x.length ≤ n.length ∧ (x.length = n.length → x = n) := fun x hx hok => by
    obtain ⟨hlv, hpre⟩ := opOk_iff.1 hok
    have word : ∀ x, (x = [105, 115] ∨ x = [109, 111, 100]) → opSp x <+: s.drop a → ∃ n j, opR s a = some (n, j) ∧ x.length ≤ n.length ∧ (x.length = n.length → x = n) := fun x hx hpre => by
      have hsp : opSp x = 32 :: x ++ [32] := by rcases hx with rfl | rfl <;> decide
      rw [hsp] at hpre
      exact ⟨x, _, word_op ha hx hpre, Nat.le_refl _, fun _ => rfl⟩
    rcases List.mem_append.1 hx with hx | hx
    · have hsp : opSp x = x := by have := sign_facts x hx; simp at this; exact this.1.1
      rw [hsp] at hpre
      obtain ⟨n, q1, q2, q3, q4⟩ := sign_op ha hx hlv hpre
      refine ⟨n, _, q3, q2, fun e => ?_⟩
      have := List.prefix_of_prefix_length_le hpre q4 q2
      exact this.eq_of_length e
    · simp at hx
      exact word x hx hpre
  cases ho : opR s a with
  | none =>
    rcases h1 with h1 | ⟨h1, h4⟩
    · exact h1
    · obtain ⟨n, j, q, _⟩ := cand _ h1 h4
      rw [ho] at q; cases q
  | some q =>
    obtain ⟨n, j⟩ := q
    obtain ⟨c1, c2, c3⟩ := opR_cand ha ho
    have hle := h3 n c1 c2
    have hpos : 0 < n.length := by
      obtain ⟨hlv, _⟩ := opOk_iff.1 c2
      rcases Nat.eq_zero_or_pos n.length with h | h
      · rw [List.length_eq_zero_iff] at h; subst h; exact absurd hlv (by decide)
      · exact h
    refine ⟨?_, c3⟩
    rcases h1 with h1 | ⟨h1, h4⟩
    · rw [h1] at hle; simp at hle; subst hle; simp at hpos
    · obtain ⟨n', j', q1, q2, q3⟩ := cand _ h1 h4
      rw [ho] at q1
      cases q1
      exact q3 (by omega)
end
end Go.Proofs.YtgfmlifkhpjplaaGreatDoor

/-
  The program's reader: operators.
  Conditions: none.
-/
open Go Go.AM Go.Proofs
namespace Go.Proofs.YtgfmlifkhpjplaaGreatDoor
open Go.ChangeShapes Go.WideShapes Go.ChangeAt Go.RowKit
set_option linter.unusedVariables false
set_option linter.unusedSimpArgs false
set_option maxRecDepth 100000
namespace Full
-- 103 loop.example/prologserver/impl.symbols params 0 ntmps 2
def ac103 : Cd := .seq (.region [⟨(some 0),.mv (.k (.c (.full []))),none⟩] [0])
 (.seq (.region [⟨(some 1),.buildSlice 1 15 [(.str [])] [(0,(.k (.c (.d (.str [43]))))),(1,(.k (.c (.d (.str [45]))))),(2,(.k (.c (.d (.str [42]))))),(3,(.k (.c (.d (.str [47,47]))))),(4,(.k (.c (.d (.str [61]))))),(5,(.k (.c (.d (.str [92,61]))))),(6,(.k (.c (.d (.str [61,61]))))),(7,(.k (.c (.d (.str [60]))))),(8,(.k (.c (.d (.str [62]))))),(9,(.k (.c (.d (.str [61,60]))))),(10,(.k (.c (.d (.str [62,61]))))),(11,(.k (.c (.d (.str [61,58,61]))))),(12,(.k (.c (.d (.str [46]))))),(13,(.k (.c (.d (.str [91,93]))))),(14,(.k (.c (.d (.str [33])))))],none⟩,
 ⟨(some 0),.mv (.t 1),none⟩] [1])
 (.ret))
theorem ac103_ok : cFunc Tryz.prog [] [(0,[0],[]),(1,[1],[])] Tryz.f103 = some (ac103,[.tmp 0],2) := by kernel_rfl
end Full
-- 86 (*loop.example/prologserver/impl.reader).operator params 1 ntmps 46
-- loop head live: [0,3,14,15,16]
def ac86 : Cd := .seq (.region [⟨(some 2),.mv (.k (.c (.d (.str [])))),none⟩] [2])
 (.seq (.region [⟨(some 3),.mv (.k (.c (.d (.str [])))),none⟩] [])
 (.seq (.seq (.region [⟨(some 6),.mv (.t 0),none⟩,
 ⟨(some 7),.nilCheck (.t 6),none⟩,
 ⟨(some 8),.fieldAddr 2 (.t 7),none⟩,
 ⟨(some 9),.load none (.t 8),none⟩,
 ⟨(some 10),.bin .geq (.t 9) (.k (.c (.d (.int .i64 0)))),none⟩] [6,7,8,9])
 (.cond (.t 10)
 (.seq (.region [⟨(some 11),.mv (.t 3),none⟩,
 ⟨(some 2),.mv (.t 11),none⟩] [0,3,10,11])
 (.ret))
 (.skip)))
 (.seq (.seq (.region [⟨(some 12),.qcall 103 [],none⟩,
 ⟨(some 13),.buildSlice 1 2 [(.str [])] [(0,(.k (.c (.d (.str [105,115]))))),(1,(.k (.c (.d (.str [109,111,100])))))],none⟩,
 ⟨(some 14),.append false 1 (.t 12) (.t 13),none⟩,
 ⟨(some 15),.len 1 (.t 14),none⟩,
 ⟨(some 16),.mv (.k (.c (.d (.int .i64 0)))),none⟩] [2,10,12,13])
 (.block 0 (.loop (.seq (.region [⟨(some 17),.bin .lss (.t 16) (.t 15),none⟩] [])
 (.seq (.cond (.t 17)
 (.skip)
 (.exit 0))
 (.seq (.block 1 (.seq (.region [⟨(some 18),.indexAddr 1 (.t 14) (.t 16),none⟩,
 ⟨(some 19),.load none (.t 18),none⟩,
 ⟨(some 5),.mv (.t 19),none⟩] [17,18,19])
 (.seq (.region [⟨(some 20),.mv (.t 5),none⟩,
 ⟨(some 21),.qcall 57 [(.t 20)],none⟩,
 ⟨(some 22),.mv (.t 21),none⟩,
 ⟨(some 23),.mv (.t 0),some (22,true)⟩,
 ⟨(some 24),.nilCheck (.t 23),some (22,true)⟩,
 ⟨(some 25),.fieldAddr 0 (.t 24),some (22,true)⟩,
 ⟨(some 27),.mv (.t 0),some (22,true)⟩,
 ⟨(some 28),.nilCheck (.t 27),some (22,true)⟩,
 ⟨(some 29),.fieldAddr 1 (.t 28),some (22,true)⟩,
 ⟨(some 32),.mv (.t 5),some (22,true)⟩,
 ⟨(some 26),.load none (.t 25),some (22,true)⟩,
 ⟨(some 30),.load none (.t 29),some (22,true)⟩,
 ⟨(some 31),.slice 0 (.t 26) (some (.t 30)) none none,some (22,true)⟩,
 ⟨(some 33),.qcall 61 [(.t 32)],some (22,true)⟩,
 ⟨(some 34),.qcall 116 [(.t 31),(.t 33)],some (22,true)⟩,
 ⟨(some 35),.pick (.t 22) (.t 34) (.k (.c (.d (.bool false)))),none⟩,
 ⟨(some 36),.mv (.t 35),none⟩,
 ⟨(some 37),.mv (.t 5),some (36,true)⟩,
 ⟨(some 38),.len 0 (.t 37),some (36,true)⟩,
 ⟨(some 39),.mv (.t 3),some (36,true)⟩,
 ⟨(some 40),.len 0 (.t 39),some (36,true)⟩,
 ⟨(some 41),.bin .gtr (.t 38) (.t 40),some (36,true)⟩,
 ⟨(some 42),.pick (.t 36) (.t 41) (.k (.c (.d (.bool false)))),none⟩] [20,21,22,23,24,25,26,27,28,29,30,31,32,33,34,35,36,37,38,39,40,41])
 (.cond (.t 42)
 (.region [⟨(some 43),.mv (.t 5),none⟩,
 ⟨(some 3),.mv (.t 43),none⟩] [5,42,43])
 (.skip)))))
 (.region [⟨(some 44),.bin .add (.t 16) (.k (.c (.d (.int .i64 1)))),none⟩,
 ⟨(some 16),.mv (.t 44),none⟩] [5,42,44])))))))
 (.seq (.region [⟨(some 45),.mv (.t 3),none⟩,
 ⟨(some 2),.mv (.t 45),none⟩] [3,45])
 (.ret)))))
theorem ac86_ok : cFunc Tryz.prog [1000057,1000061,1000103,1000116] [(0,[2],[]),(1,[],[]),(2,[6,7,8,9],[]),(3,[0,3,10,11],[]),(4,[2,10,12,13],[]),(5,[],[]),(6,[17,18,19],[]),(7,[20,21,22,23,24,25,26,27,28,29,30,31,32,33,34,35,36,37,38,39,40,41],[0,1,2,3,4,5,7,8,9,12,6,10,11,13,14,15,16,17,18,19,20,21,22]),(8,[5,42,43],[]),(9,[5,42,44],[]),(10,[3,45],[])] Tryz.f86 = some (ac86,[.tmp 2],46) := by kernel_rfl
theorem symbols_full (H : Heap) : ACalls Tryz.prog 103 [] H (fun r H' => H' = H ∧ r = .c (.full (signs.map strRow))) := by
  refine acallsK Tryz.func103 (by kernel_rfl) Full.ac103_ok fun hf => ?_
  simp -implicitDefEqProofs [Full.ac103, hf, go_sem, -List.set_cons_succ, -List.set_cons_zero]
  refine finK_ret _ ⟨trivial, trivial⟩ rfl ?_
  exact ⟨by simp, rfl⟩
def opV (s : List UInt8) (a : Nat) : List UInt8 := match opR s a with
  | some (n, _) => n
  | none => []
theorem operator_bad (s : List UInt8) (a : Nat) (b : Int) (hb : 0 ≤ b) : Mv 86 [] s a b (.c (.d (.str []))) a b := fun H i hp h2 hi => by
  refine acalls Tryz.func86 (by kernel_rfl) ac86_ok fun hf => ?_
  simp -implicitDefEqProofs [ac86, ro_get hi, hb, Ref.re, go_sem, -List.set_cons_succ, -List.set_cons_zero]
set_option maxHeartbeats 1600000 in
theorem operator_mv (s : List UInt8) (hs : s.length ≤ 1000000) (a : Nat) (ha : a ≤ s.length) : Mv 86 [] s a (-1) (.c (.d (.str (opV s a)))) a (-1) := fun H i hp h2 hi => by
  refine acalls Tryz.func86 (by kernel_rfl) ac86_ok fun hf => ?_
  rw [ro_len] at hf
  have hf1 := fun a' b' => ro_fits (s' := s) (a' := a') (b' := b') hf
  have hfr : ∀ a' b', Obs.fits (ro H i s a' b').length 0 (ro H i s a' b') := fun a' b' => by rw [ro_len]; exact hf1 a' b'
  obtain ⟨t, ht⟩ : ∃ t, t = s.drop a := ⟨_, rfl⟩
  have htl : t.length = s.length - a := by rw [ht]; simp
  have hst : s.take s.length = s := List.take_length
  have hV : opBest t opL [] = opV s a := by
    have := op_law ha
    rw [ht]
    unfold opV
    cases ho : opR s a with
    | none => rw [ho] at this; exact this
    | some q => obtain ⟨n, j⟩ := q; rw [ho] at this; exact this.1
  simp -implicitDefEqProofs [ac86, ro_get hi, ro_len, Ref.re, hf1, ← ht, go_sem, -List.set_cons_succ, -List.set_cons_zero]
  refine qcall_pure symbols_full (hfr _ _) (by simp [A.re, C.re]) ?_
  have hrows : signs.map strRow ++ [[.str [105, 115]], [.str [109, 111, 100]]] = opL.map strRow := rfl
  simp -implicitDefEqProofs [ro_len, go_sem, -List.set_cons_succ, -List.set_cons_zero]
  have hl15 : signs.length = 15 := rfl
  have hi17 : inR .i64 ((signs.length : Int) + 2) := small_i64 (by omega) (by omega)
  have hlo : opL.length = 17 := rfl
  refine ⟨allLen_map fun _ => rfl, by unfold maxApp; omega, hi17, ?_⟩
  have hpos : posF (signs.map strRow) [[.str [105, 115]], [.str [109, 111, 100]]] = signs.length + 2 := rfl
  simp only [hrows]
  refine loop_set (σ := Nat × List UInt8) (fun x => [(16, .c (.d (.int .i64 x.1))), (3, .c (.d (.str x.2)))]) (fun _ => ro H i s a (-1)) (fun _ => [.grow (signs.length + 2) 1]) (fun x => x.1 ≤ 17 ∧ opBest t (opL.drop x.1) x.2 = opV s a ∧ x.2.length ≤ 3) (fun x => 17 - x.1) (0, []) (by simp [setAll, hpos]) ⟨by omega, hV, by simp⟩ ?_
  rintro ⟨j, b⟩ ⟨hj, h1, h3⟩
  simp only at hj h1 h3
  have hadd : inR .i64 ((j : Int) + 1) := small_i64 (by omega) (by omega)
  simp -implicitDefEqProofs [setAll, hl15, ro_len, go_sem, -List.set_cons_succ, -List.set_cons_zero]
  refine ⟨fun hlt => ?_, fun hge => ?_⟩
  · have hlt' : j < opL.length := by rw [hlo]; omega
    have hd : opL.drop j = opL[j] :: opL.drop (j + 1) := List.drop_eq_getElem_cons hlt'
    rw [hd, opBest] at h1
    have h4 : opL[j].length ≤ 3 ∧ (opSp opL[j]).length ≤ 5 := by
      have : ∀ n ∈ opL, n.length ≤ 3 ∧ (opSp n).length ≤ 5 := by decide
      exact this _ (List.getElem_mem hlt')
    have hrow : (opL.map strRow)[j]? = some [.str opL[j]] := by simp [hlt', strRow]
    obtain ⟨w, hw⟩ : ∃ w, w = opL[j] := ⟨_, rfl⟩
    rw [← hw] at h1 h4 hrow
    have hwl : inR .i64 (w.length : Int) := small_i64 (by omega) (by omega)
    have hbl : inR .i64 (b.length : Int) := small_i64 (by omega) (by omega)
    refine row_nat _ hrow rfl ?_
    simp -implicitDefEqProofs [ro_len, go_sem, -List.set_cons_succ, -List.set_cons_zero]
    refine qcall_pure (isOp_calls w) (hfr _ _) rfl ?_
    have hok : opOk t w = (decide (0 < levelN w) && (t.take (opSp w).length == opSp w)) := rfl
    rw [hok] at h1
    cases hlv : decide (0 < levelN w) with
    | true =>
      rw [hlv] at h1
      simp -implicitDefEqProofs [ro_get hi, ro_len, ← ht, go_sem, -List.set_cons_succ, -List.set_cons_zero]
      refine ⟨ha, qcall_pure (opText_calls w (by omega)) (hfr _ _) rfl ?_⟩
      simp -implicitDefEqProofs [ro_len, go_sem, -List.set_cons_succ, -List.set_cons_zero]
      refine qcall_pure (hasPrefix_calls t (opSp w) (by omega) (by omega)) (hfr _ _) rfl ?_
      simp only [Bool.true_and] at h1
      cases hq : (t.take (opSp w).length == opSp w) with
      | true =>
        rw [hq] at h1
        simp only [Bool.true_and, decide_eq_true_eq] at h1
        by_cases hbw : b.length < w.length
        · have hbw' : (b.length : Int) < (w.length : Int) := by omega
          rw [if_pos hbw] at h1
          simp -implicitDefEqProofs [hwl, hbl, hbw, hbw', hadd, ro_len, go_sem, -List.set_cons_succ, -List.set_cons_zero]
          exact loop_back (j + 1, w) (by simp [setAll, hpos, hl15]) ⟨by omega, h1, h4.1⟩ (by show 17 - (j + 1) < 17 - j; omega)
        · have hbw' : ¬ (b.length : Int) < (w.length : Int) := by omega
          rw [if_neg hbw] at h1
          simp -implicitDefEqProofs [hwl, hbl, hbw, hbw', hadd, ro_len, go_sem, -List.set_cons_succ, -List.set_cons_zero]
          exact loop_back (j + 1, b) (by simp [setAll, hpos, hl15]) ⟨by omega, h1, h3⟩ (by show 17 - (j + 1) < 17 - j; omega)
      | false =>
        rw [hq] at h1
        simp only [Bool.false_and, Bool.false_eq_true, if_false] at h1
        simp -implicitDefEqProofs [hwl, hbl, hadd, ro_len, go_sem, -List.set_cons_succ, -List.set_cons_zero]
        exact loop_back (j + 1, b) (by simp [setAll, hpos, hl15]) ⟨by omega, h1, h3⟩ (by show 17 - (j + 1) < 17 - j; omega)
    | false =>
      rw [hlv] at h1
      simp only [Bool.false_and, Bool.false_eq_true, if_false] at h1
      simp -implicitDefEqProofs [ro_get hi, ro_len, ← ht, hadd, go_sem, -List.set_cons_succ, -List.set_cons_zero]
      exact loop_back (j + 1, b) (by simp [setAll, hpos, hl15]) ⟨by omega, h1, h3⟩ (by show 17 - (j + 1) < 17 - j; omega)
  · obtain rfl : j = 17 := by omega
    have h17 : opL.drop 17 = [] := rfl
    rw [h17, opBest] at h1
    subst h1
    simp -implicitDefEqProofs [ro_len, go_sem, -List.set_cons_succ, -List.set_cons_zero]
end Go.Proofs.YtgfmlifkhpjplaaGreatDoor

/-
  The program's reader: what its functions do, and terms with operators.
  Conditions: none.
-/
open Go Go.AM Go.Proofs
namespace Go.Proofs.YtgfmlifkhpjplaaGreatDoor
open Go.ChangeShapes Go.WideShapes Go.ChangeAt Go.RowKit
set_option linter.unusedVariables false
set_option linter.unusedSimpArgs false
set_option maxRecDepth 100000
-- 51 (*loop.example/prologserver/impl.reader).term params 3 ntmps 58
-- loop head live: [0,1,2,6,7,8]
def ac51 : Cd := .seq (.region [⟨(some 6),.alloc [(.d (.int .i64 0)),(.d (.int .i64 0)),(.d (.str [])),(.full [])],none⟩] [])
 (.seq (.region [⟨(some 13),.mv (.t 0),none⟩,
 ⟨(some 14),.mv (.t 2),none⟩,
 ⟨(some 15),.call false 85 [(.t 13),(.t 14)],none⟩,
 ⟨(some 7),.alloc [(.d (.int .i64 0)),(.d (.int .i64 0)),(.d (.str [])),(.full [])],none⟩,
 ⟨none,.store 4 (.t 7) (.t 15),none⟩] [13,14,15])
 (.seq (.region [⟨(some 8),.mv (.k (.c (.d (.int .i64 0)))),none⟩] [])
 (.block 0 (.loop (.block 1 (.seq (.region [⟨(some 16),.mv (.t 0),none⟩,
 ⟨(some 17),.call false 86 [(.t 16)],none⟩,
 ⟨(some 9),.mv (.t 17),none⟩] [16,17])
 (.seq (.region [⟨(some 19),.mv (.t 9),none⟩,
 ⟨(some 20),.qcall 58 [(.t 19)],none⟩,
 ⟨(some 18),.mv (.t 20),none⟩,
 ⟨(some 21),.extract 0 (.t 18),none⟩,
 ⟨(some 22),.extract 1 (.t 18),none⟩,
 ⟨(some 10),.mv (.t 21),none⟩,
 ⟨(some 11),.mv (.t 22),none⟩] [11,18,19,20,21,22])
 (.seq (.seq (.region [⟨(some 23),.mv (.t 9),none⟩,
 ⟨(some 24),.bin .eql (.t 23) (.k (.c (.d (.str [])))),none⟩,
 ⟨(some 25),.mv (.t 24),none⟩,
 ⟨(some 26),.mv (.t 10),some (25,false)⟩,
 ⟨(some 27),.mv (.t 1),some (25,false)⟩,
 ⟨(some 28),.bin .gtr (.t 26) (.t 27),some (25,false)⟩,
 ⟨(some 29),.pick (.t 25) (.k (.c (.d (.bool true)))) (.t 28),none⟩,
 ⟨(some 30),.mv (.t 29),none⟩,
 ⟨(some 31),.mv (.t 8),some (30,false)⟩,
 ⟨(some 32),.mv (.t 9),some (30,false)⟩,
 ⟨(some 33),.qcall 60 [(.t 32)],some (30,false)⟩,
 ⟨(some 34),.bin .gtr (.t 31) (.t 33),some (30,false)⟩,
 ⟨(some 35),.pick (.t 30) (.k (.c (.d (.bool true)))) (.t 34),none⟩] [8,23,24,25,26,27,28,29,30,31,32,33,34])
 (.cond (.t 35)
 (.seq (.region [⟨(some 36),.load (some 4) (.t 7),none⟩,
 ⟨none,.store 4 (.t 6) (.t 36),none⟩] [0,1,2,7,9,10,35,36])
 (.ret))
 (.skip)))
 (.seq (.region [⟨(some 37),.mv (.t 0),none⟩,
 ⟨(some 38),.nilCheck (.t 37),none⟩,
 ⟨(some 39),.fieldAddr 1 (.t 38),none⟩,
 ⟨(some 41),.mv (.t 9),none⟩,
 ⟨(some 40),.load none (.t 39),none⟩,
 ⟨(some 42),.qcall 61 [(.t 41)],none⟩,
 ⟨(some 43),.len 0 (.t 42),none⟩,
 ⟨(some 44),.bin .add (.t 40) (.t 43),none⟩,
 ⟨(some 45),.nilCheck (.t 37),none⟩,
 ⟨(some 46),.fieldAddr 1 (.t 45),none⟩,
 ⟨none,.store 1 (.t 46) (.t 44),none⟩] [35,37,38,39,40,41,42,43,44,45,46])
 (.seq (.region [⟨(some 47),.mv (.t 0),none⟩,
 ⟨(some 48),.mv (.t 10),none⟩,
 ⟨(some 49),.bin .sub (.t 48) (.k (.c (.d (.int .i64 1)))),none⟩,
 ⟨(some 50),.mv (.t 2),none⟩,
 ⟨(some 51),.call false 51 [(.t 47),(.t 49),(.t 50)],none⟩,
 ⟨(some 12),.alloc [(.d (.int .i64 0)),(.d (.int .i64 0)),(.d (.str [])),(.full [])],none⟩,
 ⟨none,.store 4 (.t 12) (.t 51),none⟩] [47,48,49,50,51])
 (.region [⟨(some 52),.mv (.t 9),none⟩,
 ⟨(some 53),.load (some 4) (.t 7),none⟩,
 ⟨(some 54),.load (some 4) (.t 12),none⟩,
 ⟨(some 55),.buildSlice 4 2 [(.int .i64 0),(.int .i64 0),(.str []),(.sl [])] [(0,(.t 53)),(1,(.t 54))],none⟩,
 ⟨(some 56),.build [(.d (.int .i64 0)),(.d (.int .i64 0)),(.d (.str [])),(.full [])] [(0,1,(.k (.c (.d (.int .i64 3))))),(2,1,(.t 52)),(3,1,(.t 55))],none⟩,
 ⟨(some 57),.mv (.t 10),none⟩,
 ⟨none,.store 4 (.t 7) (.t 56),none⟩,
 ⟨(some 8),.mv (.t 57),none⟩] [9,10,12,52,53,54,55,56,57])))))))))))
theorem ac51_ok : cFunc Tryz.prog [1000058,1000060,1000061] [(0,[],[]),(1,[13,14,15],[]),(2,[],[]),(3,[16,17],[]),(4,[11,18,19,20,21,22],[]),(5,[8,23,24,25,26,27,28,29,30,31,32,33,34],[]),(6,[0,1,2,7,9,10,35,36],[]),(7,[35,37,38,39,40,41,42,43,44,45,46],[0,1,2,4,3,5,6,7,8,9,10]),(8,[47,48,49,50,51],[]),(9,[9,10,12,52,53,54,55,56,57],[])] Tryz.f51 = some (ac51,[.cell 6 (some 4)],58) := by kernel_rfl
-- 120 (*loop.example/prologserver/impl.reader).part params 2 ntmps 15
def ac120 : Cd := .seq (.region [⟨(some 4),.alloc [(.d (.int .i64 0)),(.d (.int .i64 0)),(.d (.str [])),(.full [])],none⟩] [])
 (.seq (.seq (.region [⟨(some 5),.mv (.t 0),none⟩,
 ⟨(some 6),.nilCheck (.t 5),none⟩,
 ⟨(some 7),.fieldAddr 3 (.t 6),none⟩,
 ⟨(some 8),.load none (.t 7),none⟩] [5,6,7])
 (.cond (.t 8)
 (.seq (.region [⟨(some 9),.mv (.t 0),none⟩,
 ⟨(some 10),.mv (.t 1),none⟩,
 ⟨(some 11),.call false 51 [(.t 9),(.k (.c (.d (.int .i64 3)))),(.t 10)],none⟩,
 ⟨none,.store 4 (.t 4) (.t 11),none⟩] [0,1,8,9,10,11])
 (.ret))
 (.skip)))
 (.seq (.region [⟨(some 12),.mv (.t 0),none⟩,
 ⟨(some 13),.mv (.t 1),none⟩,
 ⟨(some 14),.call false 85 [(.t 12),(.t 13)],none⟩,
 ⟨none,.store 4 (.t 4) (.t 14),none⟩] [0,1,8,12,13,14])
 (.ret)))
theorem ac120_ok : cFunc Tryz.prog [] [(0,[],[]),(1,[5,6,7],[]),(2,[0,1,8,9,10,11],[]),(3,[0,1,8,12,13,14],[])] Tryz.f120 = some (ac120,[.cell 4 (some 4)],15) := by kernel_rfl
theorem drop_row (t : Tm) : List.drop 4 (t.row.map C.d) = [] := List.drop_of_length_le (by simp [row_len])
section
variable {s : List UInt8} (hs : s.length ≤ 1000000) {f : Nat}
include hs
end
end Go.Proofs.YtgfmlifkhpjplaaGreatDoor

/-
  The program's reader: lists.
  Conditions: none.
-/
open Go Go.AM Go.Proofs
namespace Go.Proofs.YtgfmlifkhpjplaaGreatDoor
open Go.ChangeShapes Go.WideShapes Go.ChangeAt Go.RowKit
set_option linter.unusedVariables false
set_option linter.unusedSimpArgs false
set_option maxRecDepth 100000
-- 117 (*loop.example/prologserver/impl.reader).list params 2 ntmps 52
-- loop head live: [0,1,4,5,6]
def ac117 : Cd := .seq (.region [⟨(some 4),.alloc [(.d (.int .i64 0)),(.d (.int .i64 0)),(.d (.str [])),(.full [])],none⟩] [])
 (.seq (.region [⟨(some 5),.mv (.k (.c (.full []))),none⟩] [])
 (.seq (.seq (.region [⟨(some 6),.mv (.k (.c (.d (.bool true)))),none⟩] [])
 (.block 0 (.loop (.seq (.seq (.region [⟨(some 8),.mv (.t 6),none⟩] [6])
 (.cond (.t 8)
 (.skip)
 (.exit 0)))
 (.block 1 (.seq (.region [⟨(some 9),.mv (.t 5),none⟩,
 ⟨(some 10),.mv (.t 0),none⟩,
 ⟨(some 11),.mv (.t 1),none⟩,
 ⟨(some 12),.bin .add (.t 11) (.k (.c (.d (.int .i64 1)))),none⟩,
 ⟨(some 13),.mv (.t 5),none⟩,
 ⟨(some 14),.len 1 (.t 13),none⟩,
 ⟨(some 15),.bin .add (.t 12) (.t 14),none⟩,
 ⟨(some 16),.call false 120 [(.t 10),(.t 15)],none⟩,
 ⟨(some 17),.buildSlice 4 1 [(.int .i64 0),(.int .i64 0),(.str []),(.sl [])] [(0,(.t 16))],none⟩,
 ⟨(some 18),.append false 4 (.t 9) (.t 17),none⟩,
 ⟨(some 5),.mv (.t 18),none⟩] [8,9,10,11,12,13,14,15,16,17,18])
 (.seq (.region [⟨(some 19),.mv (.t 0),none⟩,
 ⟨(some 20),.call false 111 [(.t 19)],none⟩,
 ⟨(some 21),.bin .eql (.t 20) (.k (.c (.d (.int .u8 44)))),none⟩,
 ⟨(some 6),.mv (.t 21),none⟩] [19,20,21])
 (.seq (.region [⟨(some 22),.mv (.t 6),none⟩] [])
 (.cond (.t 22)
 (.region [⟨(some 23),.mv (.t 0),none⟩,
 ⟨(some 24),.nilCheck (.t 23),none⟩,
 ⟨(some 25),.fieldAddr 1 (.t 24),none⟩,
 ⟨(some 26),.load none (.t 25),none⟩,
 ⟨(some 27),.bin .add (.t 26) (.k (.c (.d (.int .i64 1)))),none⟩,
 ⟨(some 28),.nilCheck (.t 23),none⟩,
 ⟨(some 29),.fieldAddr 1 (.t 28),none⟩,
 ⟨none,.store 1 (.t 29) (.t 27),none⟩] [22,23,24,25,26,27,28,29])
 (.skip))))))))))
 (.seq (.region [⟨(some 30),.qcall 118 [(.k (.c (.d (.str [91,93]))))],none⟩,
 ⟨(some 7),.alloc [(.d (.int .i64 0)),(.d (.int .i64 0)),(.d (.str [])),(.full [])],none⟩,
 ⟨none,.store 4 (.t 7) (.t 30),none⟩] [30])
 (.seq (.seq (.region [⟨(some 31),.mv (.t 0),none⟩,
 ⟨(some 32),.call false 111 [(.t 31)],none⟩,
 ⟨(some 33),.bin .eql (.t 32) (.k (.c (.d (.int .u8 124)))),none⟩] [31,32])
 (.cond (.t 33)
 (.seq (.region [⟨(some 34),.mv (.t 0),none⟩,
 ⟨(some 35),.nilCheck (.t 34),none⟩,
 ⟨(some 36),.fieldAddr 1 (.t 35),none⟩,
 ⟨(some 37),.load none (.t 36),none⟩,
 ⟨(some 38),.bin .add (.t 37) (.k (.c (.d (.int .i64 1)))),none⟩,
 ⟨(some 39),.nilCheck (.t 34),none⟩,
 ⟨(some 40),.fieldAddr 1 (.t 39),none⟩,
 ⟨none,.store 1 (.t 40) (.t 38),none⟩] [33,34,35,36,37,38,39,40])
 (.region [⟨(some 41),.mv (.t 0),none⟩,
 ⟨(some 42),.mv (.t 1),none⟩,
 ⟨(some 43),.mv (.t 5),none⟩,
 ⟨(some 44),.len 1 (.t 43),none⟩,
 ⟨(some 45),.bin .add (.t 42) (.t 44),none⟩,
 ⟨(some 46),.call false 120 [(.t 41),(.t 45)],none⟩,
 ⟨none,.store 4 (.t 7) (.t 46),none⟩] [1,41,42,43,44,45,46]))
 (.skip)))
 (.seq (.region [⟨(some 47),.mv (.t 0),none⟩,
 ⟨(some 48),.call false 115 [(.t 47),(.k (.c (.d (.int .u8 93))))],none⟩] [0,1,33,47,48])
 (.seq (.region [⟨(some 49),.mv (.t 5),none⟩,
 ⟨(some 50),.load (some 4) (.t 7),none⟩,
 ⟨(some 51),.qcall 132 [(.t 49),(.t 50)],none⟩,
 ⟨none,.store 4 (.t 4) (.t 51),none⟩] [5,7,49,50,51])
 (.ret)))))))
theorem ac117_ok : cFunc Tryz.prog [1000118,1000132] [(0,[],[]),(1,[],[]),(2,[],[]),(3,[6],[]),(4,[8,9,10,11,12,13,14,15,16,17,18],[]),(5,[19,20,21],[]),(6,[],[]),(7,[22,23,24,25,26,27,28,29],[]),(8,[30],[]),(9,[31,32],[]),(10,[33,34,35,36,37,38,39,40],[]),(11,[1,41,42,43,44,45,46],[]),(12,[0,1,33,47,48],[]),(13,[5,7,49,50,51],[])] Tryz.f117 = some (ac117,[.cell 4 (some 4)],52) := by kernel_rfl
-- 118 loop.example/prologserver/impl.atom params 1 ntmps 5
def ac118 : Cd := .seq (.region [⟨(some 2),.alloc [(.d (.int .i64 0)),(.d (.int .i64 0)),(.d (.str [])),(.full [])],none⟩] [])
 (.seq (.region [⟨(some 3),.mv (.t 0),none⟩,
 ⟨(some 4),.build [(.d (.int .i64 0)),(.d (.int .i64 0)),(.d (.str [])),(.full [])] [(0,1,(.k (.c (.d (.int .i64 3))))),(2,1,(.t 3))],none⟩,
 ⟨none,.store 4 (.t 2) (.t 4),none⟩] [0,3,4])
 (.ret))
theorem ac118_ok : cFunc Tryz.prog [] [(0,[],[]),(1,[0,3,4],[])] Tryz.f118 = some (ac118,[.cell 2 (some 4)],5) := by kernel_rfl
theorem nxt_bad (s : List UInt8) (a : Nat) (e : Nat) : nxt s a e = 0 := by unfold nxt; rw [if_pos (by omega)]
def Rs.app2 (out : List Tm) : Rs → Rs
  | .ok us k => .ok (out ++ us) k
  | .bad e => .bad e
section
variable {s : List UInt8} (hs : s.length ≤ 1000000) {f : Nat}
include hs
/-- what stands behind a list's elements -/
def listK (s : List UInt8) (f d : Nat) (ts : List Tm) (j : Nat) : Option Rs :=
  if sgn s j 124 then thn (rp s f (.term 3 (d + ts.length) (j + 1))) fun us k => if sgn s k 93 then some (.ok [chainT ts (Rs.tm us)] (k + 1)) else some (.bad k)
  else if sgn s j 93 then some (.ok [chainT ts nilT] (j + 1)) else some (.bad j)
end
end Go.Proofs.YtgfmlifkhpjplaaGreatDoor

/-
  The program's reader: terms without operators.
  Conditions: none.
-/
open Go Go.AM Go.Proofs
namespace Go.Proofs.YtgfmlifkhpjplaaGreatDoor
open Go.ChangeShapes Go.WideShapes Go.ChangeAt Go.RowKit
set_option linter.unusedVariables false
set_option linter.unusedSimpArgs false
set_option maxRecDepth 100000
namespace Full
-- 85 (*loop.example/prologserver/impl.reader).primary params 2 ntmps 134
-- loop head live: [0,1,4,7,8]
def ac85 : Cd := .seq (.region [⟨(some 4),.alloc [(.d (.int .i64 0)),(.d (.int .i64 0)),(.d (.str [])),(.full [])],none⟩] [])
 (.seq (.seq (.region [⟨(some 9),.mv (.t 0),none⟩,
 ⟨(some 10),.nilCheck (.t 9),none⟩,
 ⟨(some 11),.fieldAddr 2 (.t 10),none⟩,
 ⟨(some 12),.load none (.t 11),none⟩,
 ⟨(some 13),.bin .geq (.t 12) (.k (.c (.d (.int .i64 0)))),none⟩] [9,10,11,12])
 (.cond (.t 13)
 (.seq (.region [⟨(some 14),.build [(.d (.int .i64 0)),(.d (.int .i64 0)),(.d (.str [])),(.full [])] [],none⟩,
 ⟨none,.store 4 (.t 4) (.t 14),none⟩] [0,1,13,14])
 (.ret))
 (.skip)))
 (.seq (.seq (.region [⟨(some 15),.mv (.t 1),none⟩,
 ⟨(some 16),.bin .gtr (.t 15) (.k (.c (.d (.int .i64 30)))),none⟩] [13,15])
 (.cond (.t 16)
 (.seq (.region [⟨(some 17),.mv (.t 0),none⟩,
 ⟨(some 18),.mv (.t 0),none⟩,
 ⟨(some 19),.nilCheck (.t 18),none⟩,
 ⟨(some 20),.fieldAddr 1 (.t 19),none⟩,
 ⟨(some 21),.load none (.t 20),none⟩,
 ⟨(some 22),.call false 110 [(.t 17),(.t 21)],none⟩,
 ⟨none,.store 4 (.t 4) (.t 22),none⟩] [0,1,16,17,18,19,20,21,22])
 (.ret))
 (.skip)))
 (.seq (.region [⟨(some 23),.mv (.t 0),none⟩,
 ⟨(some 24),.call false 111 [(.t 23)],none⟩,
 ⟨(some 5),.mv (.t 24),none⟩] [16,23,24])
 (.seq (.block 0 (.seq (.region [⟨(some 26),.mv (.t 5),none⟩,
 ⟨(some 27),.bin .eql (.t 26) (.k (.c (.d (.int .u8 0)))),none⟩,
 ⟨(some 25),.mv (.t 27),none⟩] [26,27])
 (.cond (.t 25)
 (.seq (.region [⟨(some 28),.mv (.t 0),none⟩,
 ⟨(some 29),.mv (.t 0),none⟩,
 ⟨(some 30),.nilCheck (.t 29),none⟩,
 ⟨(some 31),.fieldAddr 1 (.t 30),none⟩,
 ⟨(some 32),.load none (.t 31),none⟩,
 ⟨(some 33),.call false 110 [(.t 28),(.t 32)],none⟩,
 ⟨none,.store 4 (.t 4) (.t 33),none⟩] [0,1,5,25,28,29,30,31,32,33])
 (.ret))
 (.seq (.region [⟨(some 35),.mv (.t 5),none⟩,
 ⟨(some 36),.bin .geq (.t 35) (.k (.c (.d (.int .u8 65)))),none⟩,
 ⟨(some 37),.mv (.t 36),none⟩,
 ⟨(some 38),.mv (.t 5),some (37,true)⟩,
 ⟨(some 39),.bin .leq (.t 38) (.k (.c (.d (.int .u8 90)))),some (37,true)⟩,
 ⟨(some 40),.pick (.t 37) (.t 39) (.k (.c (.d (.bool false)))),none⟩,
 ⟨(some 34),.mv (.t 40),none⟩] [25,35,36,37,38,39,40])
 (.cond (.t 34)
 (.seq (.region [⟨(some 41),.mv (.t 0),none⟩,
 ⟨(some 42),.nilCheck (.t 41),none⟩,
 ⟨(some 43),.fieldAddr 1 (.t 42),none⟩,
 ⟨(some 44),.load none (.t 43),none⟩,
 ⟨(some 45),.bin .add (.t 44) (.k (.c (.d (.int .i64 1)))),none⟩,
 ⟨(some 46),.nilCheck (.t 41),none⟩,
 ⟨(some 47),.fieldAddr 1 (.t 46),none⟩,
 ⟨none,.store 1 (.t 47) (.t 45),none⟩] [0,1,34,41,42,43,44,45,46,47])
 (.seq (.region [⟨(some 48),.mv (.t 5),none⟩,
 ⟨(some 49),.bin .sub (.t 48) (.k (.c (.d (.int .u8 65)))),none⟩,
 ⟨(some 50),.cvInt .i64 (.t 49),none⟩,
 ⟨(some 51),.qcall 112 [(.t 50)],none⟩,
 ⟨none,.store 4 (.t 4) (.t 51),none⟩] [5,48,49,50,51])
 (.ret)))
 (.seq (.region [⟨(some 53),.mv (.t 0),none⟩,
 ⟨(some 54),.call false 113 [(.t 53)],none⟩,
 ⟨(some 52),.mv (.t 54),none⟩] [34,53,54])
 (.cond (.t 52)
 (.seq (.region [⟨(some 55),.mv (.t 0),none⟩,
 ⟨(some 56),.call false 114 [(.t 55)],none⟩,
 ⟨none,.store 4 (.t 4) (.t 56),none⟩] [0,1,5,52,55,56])
 (.ret))
 (.seq (.region [⟨(some 58),.mv (.t 5),none⟩,
 ⟨(some 59),.bin .eql (.t 58) (.k (.c (.d (.int .u8 40)))),none⟩,
 ⟨(some 60),.mv (.t 59),none⟩,
 ⟨(some 61),.mv (.t 0),some (60,true)⟩,
 ⟨(some 62),.nilCheck (.t 61),some (60,true)⟩,
 ⟨(some 63),.fieldAddr 3 (.t 62),some (60,true)⟩,
 ⟨(some 64),.load none (.t 63),some (60,true)⟩,
 ⟨(some 65),.pick (.t 60) (.t 64) (.k (.c (.d (.bool false)))),none⟩,
 ⟨(some 57),.mv (.t 65),none⟩] [52,58,59,60,61,62,63,64,65])
 (.cond (.t 57)
 (.seq (.region [⟨(some 66),.mv (.t 0),none⟩,
 ⟨(some 67),.nilCheck (.t 66),none⟩,
 ⟨(some 68),.fieldAddr 1 (.t 67),none⟩,
 ⟨(some 69),.load none (.t 68),none⟩,
 ⟨(some 70),.bin .add (.t 69) (.k (.c (.d (.int .i64 1)))),none⟩,
 ⟨(some 71),.nilCheck (.t 66),none⟩,
 ⟨(some 72),.fieldAddr 1 (.t 71),none⟩,
 ⟨none,.store 1 (.t 72) (.t 70),none⟩] [5,57,66,67,68,69,70,71,72])
 (.seq (.region [⟨(some 73),.mv (.t 0),none⟩,
 ⟨(some 74),.mv (.t 1),none⟩,
 ⟨(some 75),.call false 51 [(.t 73),(.k (.c (.d (.int .i64 3)))),(.t 74)],none⟩,
 ⟨(some 6),.alloc [(.d (.int .i64 0)),(.d (.int .i64 0)),(.d (.str [])),(.full [])],none⟩,
 ⟨none,.store 4 (.t 6) (.t 75),none⟩] [1,73,74,75])
 (.seq (.region [⟨(some 76),.mv (.t 0),none⟩,
 ⟨(some 77),.call false 115 [(.t 76),(.k (.c (.d (.int .u8 41))))],none⟩] [0,76,77])
 (.seq (.region [⟨(some 78),.load (some 4) (.t 6),none⟩,
 ⟨none,.store 4 (.t 4) (.t 78),none⟩] [6,78])
 (.ret)))))
 (.seq (.region [⟨(some 80),.mv (.t 5),none⟩,
 ⟨(some 81),.bin .eql (.t 80) (.k (.c (.d (.int .u8 91)))),none⟩,
 ⟨(some 82),.mv (.t 81),none⟩,
 ⟨(some 83),.mv (.t 0),some (82,true)⟩,
 ⟨(some 84),.nilCheck (.t 83),some (82,true)⟩,
 ⟨(some 85),.fieldAddr 0 (.t 84),some (82,true)⟩,
 ⟨(some 87),.mv (.t 0),some (82,true)⟩,
 ⟨(some 88),.nilCheck (.t 87),some (82,true)⟩,
 ⟨(some 89),.fieldAddr 1 (.t 88),some (82,true)⟩,
 ⟨(some 86),.load none (.t 85),some (82,true)⟩,
 ⟨(some 90),.load none (.t 89),some (82,true)⟩,
 ⟨(some 91),.slice 0 (.t 86) (some (.t 90)) none none,some (82,true)⟩,
 ⟨(some 92),.qcall 116 [(.t 91),(.k (.c (.d (.str [91,93]))))],some (82,true)⟩,
 ⟨(some 93),.un .not (.t 92),some (82,true)⟩,
 ⟨(some 94),.pick (.t 82) (.t 93) (.k (.c (.d (.bool false)))),none⟩,
 ⟨(some 79),.mv (.t 94),none⟩] [5,57,80,81,82,83,84,85,86,87,88,89,90,91,92,93,94])
 (.cond (.t 79)
 (.seq (.region [⟨(some 95),.mv (.t 0),none⟩,
 ⟨(some 96),.nilCheck (.t 95),none⟩,
 ⟨(some 97),.fieldAddr 1 (.t 96),none⟩,
 ⟨(some 98),.load none (.t 97),none⟩,
 ⟨(some 99),.bin .add (.t 98) (.k (.c (.d (.int .i64 1)))),none⟩,
 ⟨(some 100),.nilCheck (.t 95),none⟩,
 ⟨(some 101),.fieldAddr 1 (.t 100),none⟩,
 ⟨none,.store 1 (.t 101) (.t 99),none⟩] [79,95,96,97,98,99,100,101])
 (.seq (.region [⟨(some 102),.mv (.t 0),none⟩,
 ⟨(some 103),.mv (.t 1),none⟩,
 ⟨(some 104),.call false 117 [(.t 102),(.t 103)],none⟩,
 ⟨none,.store 4 (.t 4) (.t 104),none⟩] [0,1,102,103,104])
 (.ret)))
 (.skip))))))))))))
 (.seq (.region [⟨(some 105),.mv (.t 0),none⟩,
 ⟨(some 106),.call false 119 [(.t 105)],none⟩,
 ⟨(some 107),.call false 118 [(.t 106)],none⟩,
 ⟨(some 7),.alloc [(.d (.int .i64 0)),(.d (.int .i64 0)),(.d (.str [])),(.full [])],none⟩,
 ⟨none,.store 4 (.t 7) (.t 107),none⟩] [79,105,106,107])
 (.seq (.seq (.region [⟨(some 108),.mv (.t 0),none⟩,
 ⟨(some 109),.call false 111 [(.t 108)],none⟩,
 ⟨(some 110),.bin .eql (.t 109) (.k (.c (.d (.int .u8 40)))),none⟩] [108,109])
 (.cond (.t 110)
 (.seq (.seq (.region [⟨(some 8),.mv (.k (.c (.d (.bool true)))),none⟩] [110])
 (.block 1 (.loop (.seq (.seq (.region [⟨(some 111),.mv (.t 8),none⟩] [8])
 (.cond (.t 111)
 (.skip)
 (.exit 1)))
 (.seq (.block 2 (.seq (.region [⟨(some 115),.mv (.t 0),none⟩,
 ⟨(some 116),.nilCheck (.t 115),none⟩,
 ⟨(some 117),.fieldAddr 1 (.t 116),none⟩,
 ⟨(some 118),.load none (.t 117),none⟩,
 ⟨(some 119),.bin .add (.t 118) (.k (.c (.d (.int .i64 1)))),none⟩,
 ⟨(some 120),.nilCheck (.t 115),none⟩,
 ⟨(some 121),.fieldAddr 1 (.t 120),none⟩,
 ⟨none,.store 1 (.t 121) (.t 119),none⟩] [111,115,116,117,118,119,120,121])
 (.region [⟨(some 122),.fieldAddr 3 (.t 7),none⟩,
 ⟨(some 124),.mv (.t 0),none⟩,
 ⟨(some 125),.mv (.t 1),none⟩,
 ⟨(some 126),.bin .add (.t 125) (.k (.c (.d (.int .i64 1)))),none⟩,
 ⟨(some 123),.loadL false none (.t 122),none⟩,
 ⟨(some 127),.callL false false 120 [(.t 124),(.t 126)],none⟩,
 ⟨(some 128),.buildSlice 4 1 [(.int .i64 0),(.int .i64 0),(.str []),(.sl [])] [(0,(.t 127))],none⟩,
 ⟨(some 129),.append false 4 (.t 123) (.t 128),none⟩,
 ⟨(some 130),.fieldAddr 3 (.t 7),none⟩,
 ⟨none,.store 1 (.t 130) (.t 129),none⟩] [122,123,124,125,126,127,128,129,130])))
 (.region [⟨(some 112),.mv (.t 0),none⟩,
 ⟨(some 113),.call false 111 [(.t 112)],none⟩,
 ⟨(some 114),.bin .eql (.t 113) (.k (.c (.d (.int .u8 44)))),none⟩,
 ⟨(some 8),.mv (.t 114),none⟩] [112,113,114]))))))
 (.region [⟨(some 131),.mv (.t 0),none⟩,
 ⟨(some 132),.call false 115 [(.t 131),(.k (.c (.d (.int .u8 41))))],none⟩] [0,131,132]))
 (.skip)))
 (.seq (.region [⟨(some 133),.load (some 4) (.t 7),none⟩,
 ⟨none,.store 4 (.t 4) (.t 133),none⟩] [0,1,7,110,133])
 (.ret))))))))
theorem ac85_ok : cFunc Tryz.prog [1000112,1000116,5000122,6000120] [(0,[],[]),(1,[9,10,11,12],[]),(2,[0,1,13,14],[]),(3,[13,15],[]),(4,[0,1,16,17,18,19,20,21,22],[]),(5,[16,23,24],[]),(6,[26,27],[]),(7,[0,1,5,25,28,29,30,31,32,33],[]),(8,[25,35,36,37,38,39,40],[]),(9,[0,1,34,41,42,43,44,45,46,47],[]),(10,[5,48,49,50,51],[]),(11,[34,53,54],[]),(12,[0,1,5,52,55,56],[]),(13,[52,58,59,60,61,62,63,64,65],[]),(14,[5,57,66,67,68,69,70,71,72],[]),(15,[1,73,74,75],[]),(16,[0,76,77],[]),(17,[6,78],[]),(18,[5,57,80,81,82,83,84,85,86,87,88,89,90,91,92,93,94],[0,1,2,3,4,5,7,8,9,6,10,11,12,13,14,15]),(19,[79,95,96,97,98,99,100,101],[]),(20,[0,1,102,103,104],[]),(21,[79,105,106,107],[]),(22,[108,109],[]),(23,[110],[]),(24,[8],[]),(26,[111,115,116,117,118,119,120,121],[]),(27,[122,123,124,125,126,127,128,129,130],[0,2,3,4,1,5,6,7,8,9]),(25,[112,113,114],[]),(28,[0,131,132],[]),(29,[0,1,7,110,133],[])] Tryz.f85 = some (ac85,[.cell 4 (some 4)],134) := by kernel_rfl
end Full
-- 112 loop.example/prologserver/impl.variable params 1 ntmps 5
def ac112 : Cd := .seq (.region [⟨(some 2),.alloc [(.d (.int .i64 0)),(.d (.int .i64 0)),(.d (.str [])),(.full [])],none⟩] [])
 (.seq (.region [⟨(some 3),.mv (.t 0),none⟩,
 ⟨(some 4),.build [(.d (.int .i64 0)),(.d (.int .i64 0)),(.d (.str [])),(.full [])] [(0,1,(.k (.c (.d (.int .i64 1))))),(1,1,(.t 3))],none⟩,
 ⟨none,.store 4 (.t 2) (.t 4),none⟩] [0,3,4])
 (.ret))
theorem ac112_ok : cFunc Tryz.prog [] [(0,[],[]),(1,[0,3,4],[])] Tryz.f112 = some (ac112,[.cell 2 (some 4)],5) := by kernel_rfl
theorem variableR_calls (n : Int) (H : Heap) : ACalls Tryz.prog 112 [.c (.d (.int .i64 n))] H (fun r H' => H' = H ∧ r = .agg ((Tm.mk 1 n [] []).row.map .d)) := by
  refine acalls Tryz.func112 (by kernel_rfl) ac112_ok fun hf => ?_
  simp -implicitDefEqProofs [ac112, row_mk, hf, go_sem, -List.set_cons_succ, -List.set_cons_zero]
/-- an atom: nothing stands behind its arguments -/
theorem atom_full (name : List UInt8) (H : Heap) : ACalls Tryz.prog 118 [.c (.d (.str name))] H (fun r H' => H' = H ++ [.cells [.d (.int .i64 3), .d (.int .i64 0), .d (.str name), .full []]] ∧ r = .agg [.d (.int .i64 3), .d (.int .i64 0), .d (.str name), .full []]) := by
  refine acallsK Tryz.func118 (by kernel_rfl) ac118_ok fun hf => ?_
  simp -implicitDefEqProofs [ac118, hf, go_sem, -List.set_cons_succ, -List.set_cons_zero]
  refine finK_ret _ ⟨trivial, trivial⟩ rfl ?_
  simp [Ob.re, C.re, A.re]
/-- a call that leaves one object more, which looks at no other -/
theorem call_newR {P : Program} {f : FuncId} {xs : List A} {sl : List A} {ext loc H₂ : Heap} {o : Ob} {r : A} {K : A → St → Prop} (hc : ∀ H, ACalls P f xs H (fun r' H' => H' = H ++ [o] ∧ r' = r)) (ho : Ob.re ext.length o = o) (hr : A.re ext.length r = r)
    (hf : Obs.fits ext.length 0 ext) (hH : H₂ = ext ++ loc.map (Ob.re ext.length)) (hk : K r ⟨sl, ext, loc ++ [o]⟩) : ACalls P f xs H₂ (CallK K ⟨sl, ext, loc⟩) := by
  subst hH
  exact (hc _).mono fun r' H' ⟨h1, h2⟩ => ⟨ext, loc ++ [o], r, by rw [h1, List.append_assoc, List.map_append]; simp [ho], rfl, by simp, hf, by rw [h2]; exact hr.symm, hk⟩
/-- a byte that begins nothing -/
theorem name_zero {s : List UInt8} {a : Nat} (ha : a ≤ s.length) (h : s[a]? = some 0) : nameR s a = none := by
  obtain ⟨h1, h2⟩ := List.getElem?_eq_some_iff.1 h
  have hd : s.drop a = 0 :: s.drop (a + 1) := by rw [List.drop_eq_getElem_cons h1, h2]
  refine nameR_none ha (fun c r' e => by rw [hd] at e; cases e; decide) fun x hx hp => ?_
  rw [hd] at hp
  have : ∀ x ∈ signs, (match x with | [] => false | c :: _ => c != 0) = true := by decide
  have := this x hx
  obtain ⟨y, hy⟩ := hp
  cases x with
  | nil => simp at this
  | cons c w => simp at this hy; exact this hy.1
section
variable {s : List UInt8} (hs : s.length ≤ 1000000) {f : Nat}
include hs
end
end Go.Proofs.YtgfmlifkhpjplaaGreatDoor

/-
  Terms: how many there are.
  Conditions: none.
-/
open Go Go.AM Go.Proofs
namespace Go.Proofs.YtgfmlifkhpjplaaGreatDoor
open Go.ChangeShapes Go.WideShapes Go.ChangeAt Go.RowKit
set_option linter.unusedVariables false
set_option linter.unusedSimpArgs false
set_option maxRecDepth 100000
mutual
/-- the terms below a term -/
def Tm.sub : Tm → Nat
  | .mk _ _ _ l => Tm.cnt l
def Tm.cnt : List Tm → Nat
  | [] => 0
  | t :: l => 1 + t.sub + Tm.cnt l
end
theorem sub_mk (k n : Int) (s : List UInt8) (l : List Tm) : (Tm.mk k n s l).sub = Tm.cnt l := by rw [Tm.sub]
theorem cnt_nil : Tm.cnt [] = 0 := by rw [Tm.cnt]
theorem cnt_cons (t : Tm) (l : List Tm) : Tm.cnt (t :: l) = 1 + t.sub + Tm.cnt l := by rw [Tm.cnt]
theorem cnt_append (l r : List Tm) : Tm.cnt (l ++ r) = Tm.cnt l + Tm.cnt r := by
  induction l with
  | nil => simp [Tm.cnt]
  | cons t l ih => rw [List.cons_append, cnt_cons, cnt_cons, ih]; omega
theorem cnt_take_succ (l : List Tm) {i : Nat} (h : i < l.length) : Tm.cnt (l.take (i + 1)) = Tm.cnt (l.take i) + 1 + l[i].sub := by
  rw [List.take_succ_eq_append_getElem h, cnt_append, cnt_cons, cnt_nil]; omega
theorem cnt_take_le (l : List Tm) (i : Nat) : Tm.cnt (l.take i) ≤ Tm.cnt l := by
  have := cnt_append (l.take i) (l.drop i)
  rw [List.take_append_drop] at this
  omega
theorem cnt_take_sub (l : List Tm) {i : Nat} (h : i < l.length) : Tm.cnt (l.take i) + 1 + l[i].sub ≤ Tm.cnt l := by
  rw [← cnt_take_succ l h]; exact cnt_take_le l _
/-- what is left, where enough is -/
def LeftW (m : Int) (p : Prop) (w : Nat) (r : A) : Prop := ∃ q : Int, r = .c (.d (.int .i64 q)) ∧ -1 ≤ q ∧ q ≤ m ∧ (0 ≤ q → p ∧ q + w ≤ m)
theorem LeftW.re {n : Nat} {m : Int} {p : Prop} {w : Nat} {r : A} (h : LeftW m p w r) : A.re n r = r := by
  obtain ⟨q, rfl, _⟩ := h
  rfl
theorem LeftW.left {m : Int} {p : Prop} {w : Nat} {r : A} (h : LeftW m p w r) : Left m p r := by
  obtain ⟨q, h1, h2, h3, h4⟩ := h
  exact ⟨q, h1, h2, h3, fun h => (h4 h).1⟩
end Go.Proofs.YtgfmlifkhpjplaaGreatDoor

/-
  Rows that are marked one after the other.
  Conditions: none.
-/
open Go Go.AM Go.Proofs
namespace Go.Proofs.YtgfmlifkhpjplaaGreatDoor
set_option linter.unusedVariables false
set_option linter.unusedSimpArgs false
/-- the first i rows are new ones -/
def mixed {α : Type} (f : Nat → α) (rows : List α) (i : Nat) : List α := (List.range i).map f ++ rows.drop i
theorem mixed_zero {α : Type} (f : Nat → α) (rows : List α) : mixed f rows 0 = rows := by simp [mixed]
theorem mixed_len {α : Type} (f : Nat → α) (rows : List α) {i : Nat} (h : i ≤ rows.length) : (mixed f rows i).length = rows.length := by simp [mixed]; omega
theorem mixed_get {α : Type} (f : Nat → α) (rows : List α) {i : Nat} (h : i < rows.length) : (mixed f rows i)[i]? = some rows[i] := by
  rw [mixed, List.getElem?_append_right (by simp)]
  simp [h]
theorem mixed_set {α : Type} (f : Nat → α) (rows : List α) {i : Nat} (h : i < rows.length) : (mixed f rows i).set i (f i) = mixed f rows (i + 1) := by
  rw [mixed, mixed, List.set_append_right _ _ (by simp), List.drop_eq_getElem_cons h, List.range_succ]
  simp only [List.length_map, List.length_range, Nat.sub_self, List.set_cons_zero, List.map_append, List.map_cons, List.map_nil, List.append_assoc, List.cons_append, List.nil_append]
theorem mixed_get' {α : Type} (f : Nat → α) (rows : List α) {i j : Nat} (h : i ≤ rows.length) : (mixed f rows i)[j]? = if j < i then some (f j) else rows[j]? := by
  rw [mixed]
  by_cases hj : j < i
  · rw [List.getElem?_append_left (by simpa using hj), if_pos hj]; simp [hj]
  · rw [List.getElem?_append_right (by simp; omega), if_neg hj, List.getElem?_drop]
    congr 1
    simp; omega
end Go.Proofs.YtgfmlifkhpjplaaGreatDoor

/-
  The law's text for a mark.
  Conditions: none.
-/
open Go Go.AM Go.Proofs
namespace Go.Proofs.YtgfmlifkhpjplaaGreatDoor
open Go.ChangeShapes Go.WideShapes Go.ChangeAt Go.RowKit
set_option linter.unusedVariables false
set_option linter.unusedSimpArgs false
set_option maxRecDepth 100000
-- 52 loop.example/prologserver/laws.markText params 1 ntmps 20
-- loop head live: [0,3]
def ac52 : Cd := .seq (.region [⟨(some 2),.mv (.k (.c (.d (.str [])))),none⟩] [2])
 (.seq (.seq (.region [⟨(some 4),.mv (.t 0),none⟩,
 ⟨(some 5),.bin .leq (.t 4) (.k (.c (.d (.int .i64 0)))),none⟩] [4])
 (.cond (.t 5)
 (.seq (.region [⟨(some 2),.mv (.k (.c (.d (.str [109,48])))),none⟩] [0,5])
 (.ret))
 (.skip)))
 (.seq (.region [⟨(some 3),.mv (.k (.c (.d (.str [])))),none⟩] [2,5])
 (.seq (.block 0 (.loop (.seq (.seq (.region [⟨(some 6),.mv (.t 0),none⟩,
 ⟨(some 7),.bin .gtr (.t 6) (.k (.c (.d (.int .i64 0)))),none⟩] [6])
 (.cond (.t 7)
 (.skip)
 (.exit 0)))
 (.block 1 (.seq (.region [⟨(some 8),.mv (.t 0),none⟩,
 ⟨(some 9),.bin .rem (.t 8) (.k (.c (.d (.int .i64 10)))),none⟩,
 ⟨(some 10),.bin .add (.k (.c (.d (.int .i64 48)))) (.t 9),none⟩,
 ⟨(some 11),.cvInt .u8 (.t 10),none⟩,
 ⟨(some 12),.buildSlice 1 1 [(.int .u8 0)] [(0,(.t 11))],none⟩,
 ⟨(some 13),.cvB2S (.t 12),none⟩,
 ⟨(some 14),.mv (.t 3),none⟩,
 ⟨(some 15),.bin .add (.t 13) (.t 14),none⟩,
 ⟨(some 3),.mv (.t 15),none⟩] [7,8,9,10,11,12,13,14,15])
 (.region [⟨(some 16),.mv (.t 0),none⟩,
 ⟨(some 17),.bin .quo (.t 16) (.k (.c (.d (.int .i64 10)))),none⟩,
 ⟨(some 0),.mv (.t 17),none⟩] [16,17]))))))
 (.seq (.region [⟨(some 18),.mv (.t 3),none⟩,
 ⟨(some 19),.bin .add (.k (.c (.d (.str [109])))) (.t 18),none⟩,
 ⟨(some 2),.mv (.t 19),none⟩] [3,18,19])
 (.ret)))))
theorem ac52_ok : cFunc Tryz.prog [] [(0,[2],[]),(1,[4],[]),(2,[0,5],[]),(3,[2,5],[]),(4,[6],[]),(5,[7,8,9,10,11,12,13,14,15],[]),(6,[16,17],[]),(7,[3,18,19],[])] Tryz.f52 = some (ac52,[.tmp 2],20) := by kernel_rfl
def digs (k : Nat) (out : List UInt8) : List UInt8 := if h : k = 0 then out else digs (k / 10) (UInt8.ofNat (48 + k % 10) :: out)
termination_by k
decreasing_by omega
theorem digs_go {k : Nat} {out : List UInt8} (h : 0 < k) : digs k out = digs (k / 10) (UInt8.ofNat (48 + k % 10) :: out) := by rw [digs, dif_neg (by omega)]
theorem digs_zero (out : List UInt8) : digs 0 out = out := by rw [digs, dif_pos rfl]
def mText (k : Int) : List UInt8 := if k ≤ 0 then [109, 48] else 109 :: digs k.toNat []
theorem markText_calls (k : Int) (hk : k ≤ 1000000000000000) (H : Heap) : ACalls Tryz.prog 52 [.c (.d (.int .i64 k))] H (fun r H' => H' = H ∧ r = .c (.d (.str (mText k)))) := by
  refine acalls Tryz.func52 (by kernel_rfl) ac52_ok fun hf => ?_
  simp -implicitDefEqProofs [ac52, go_sem, -List.set_cons_succ, -List.set_cons_zero]
  refine ⟨fun h => by simp [mText, h], fun h => ?_⟩
  refine loop_set (σ := Nat × List UInt8) (fun x => [(0, .c (.d (.int .i64 x.1))), (3, .c (.d (.str x.2)))]) (fun _ => H) (fun _ => []) (fun x => x.1 + x.2.length ≤ k.toNat ∧ digs x.1 x.2 = digs k.toNat []) (fun x => x.1) (k.toNat, []) (by simp [setAll]; omega) ⟨by simp, rfl⟩ ?_
  rintro ⟨n, out⟩ ⟨h1, h2⟩
  simp only at h1 h2
  have hn : (n : Int) ≤ 1000000000000000 := by omega
  have hm : ((n : Int).tmod 10) = ((n % 10 : Nat) : Int) := by rw [Int.tmod_eq_emod_of_nonneg (by omega)]; omega
  have hd : ((n : Int).tdiv 10) = ((n / 10 : Nat) : Int) := by rw [Int.tdiv_eq_ediv_of_nonneg (by omega)]; omega
  have hr : inR .i64 (((n % 10 : Nat) : Int)) := small_i64 (by omega) (by omega)
  have hr2 : inR .i64 (48 + ((n % 10 : Nat) : Int)) := small_i64 (by omega) (by omega)
  have hq : inR .i64 ((n / 10 : Nat) : Int) := small_i64 (by omega) (by omega)
  have hw : IntKind.u8.wrap (48 + ((n % 10 : Nat) : Int)) = ((UInt8.ofNat (48 + n % 10)).toNat : Int) := by
    rw [UInt8.toNat_ofNat']
    simp [IntKind.wrap, IntKind.signed, IntKind.bits]
  have hb : [[D.int IntKind.u8 (IntKind.u8.wrap (48 + ((n % 10 : Nat) : Int)))]] = bytesRows [UInt8.ofNat (48 + n % 10)] := by rw [hw]; rfl
  simp only [Int.natCast_emod, Int.natCast_ediv, Int.cast_ofNat_Int] at hr hr2 hq hb
  simp -implicitDefEqProofs [setAll, hm, hd, hr, hr2, hq, go_sem, -List.set_cons_succ, -List.set_cons_zero]
  refine ⟨fun hlt => ?_, fun h0 => ⟨by unfold maxStr; omega, ?_⟩⟩
  · rw [hb]
    refine b2s_of ?_
    have hgo := digs_go (out := out) hlt
    simp -implicitDefEqProofs [hm, hd, hr, hr2, hq, go_sem, -List.set_cons_succ, -List.set_cons_zero]
    refine ⟨by unfold maxStr; omega, ?_⟩
    refine loop_back (n / 10, UInt8.ofNat (48 + n % 10) :: out) (by simp [setAll]) ⟨?_, by rw [← hgo]; exact h2⟩ (by show n / 10 < n; omega)
    simp
    omega
  · subst h0
    rw [digs_zero] at h2
    rw [mText, if_neg (by omega), h2]
end Go.Proofs.YtgfmlifkhpjplaaGreatDoor

/-
  Terms are marked, and looked at again.
  Conditions: none.
-/
open Go Go.AM Go.Proofs
namespace Go.Proofs.YtgfmlifkhpjplaaGreatDoor
open Go.ChangeShapes Go.WideShapes Go.ChangeAt Go.RowKit
set_option linter.unusedVariables false
set_option linter.unusedSimpArgs false
set_option maxRecDepth 100000
mutual
/-- a term that bears marks -/
def mTm (k : Int) : Tm → Tm
  | .mk _ _ _ l => .mk k (k + 1) (mText (k + 2)) (mTms (k + 3) l)
def mTms (k : Int) : List Tm → List Tm
  | [] => []
  | t :: l => mTm k t :: mTms (k + 3 + 3 * t.sub) l
end
theorem mTms_nil (k : Int) : mTms k [] = [] := by rw [mTms]
theorem mTms_cons (k : Int) (t : Tm) (l : List Tm) : mTms k (t :: l) = mTm k t :: mTms (k + 3 + 3 * t.sub) l := by rw [mTms]
theorem mTms_len : ∀ (k : Int) (l : List Tm), (mTms k l).length = l.length
  | k, [] => by rw [mTms]
  | k, t :: l => by rw [mTms_cons, List.length_cons, mTms_len, List.length_cons]
theorem mTms_get : ∀ (k : Int) (l : List Tm) (i : Nat) (h : i < l.length), (mTms k l)[i]? = some (mTm (k + 3 * Tm.cnt (l.take i)) l[i])
  | k, t :: l, 0, h => by rw [mTms_cons]; simp [Tm.cnt]
  | k, t :: l, i + 1, h => by
    rw [mTms_cons, List.getElem?_cons_succ, mTms_get _ l i (by simpa using h)]
    simp only [List.take_succ_cons, cnt_cons, List.getElem_cons_succ]
    congr 2
    simp only [Int.natCast_add]
    omega
theorem mTm_row (k : Int) (t : Tm) : (mTm k t).row = [.int .i64 k, .int .i64 (k + 1), .str (mText (k + 2)), .sl ((mTms (k + 3) t.kids).map Tm.row)] := by
  obtain ⟨a, n, s, l⟩ := t
  rw [mTm, row_mk]
  rfl
/-- a term's cells, its kids cut off -/
def srow (t : Tm) (v : Value) : List D := [.int .i64 t.k, .int .i64 t.n, .str t.s, .v v]
def ktree (t : Tm) (v : Value) : Ob := .tree v (t.kids.map Tm.row)
theorem strip_terms : ∀ (l : List Tm) (vs : List Value), vs.length = l.length → Strip (l.map Tm.row).flatten (List.zipWith srow l vs).flatten (List.zipWith ktree l vs)
  | [], [], _ => ⟨rfl, rfl⟩
  | [], _ :: _, h => by simp at h
  | _ :: _, [], h => by simp at h
  | t :: l, v :: vs, h => by
    simp only [List.map_cons, List.flatten_cons, List.zipWith_cons_cons, row_eq, srow, List.cons_append, List.nil_append]
    exact ⟨_, rfl, _, rfl, _, rfl, _, _, _, rfl, rfl, strip_terms l vs (by simpa using h)⟩
theorem strip_inv : ∀ (l : List Tm) (c : List D) (t : Heap), Strip (l.map Tm.row).flatten c t → ∃ vs : List Value, vs.length = l.length ∧ c = (List.zipWith srow l vs).flatten ∧ t = List.zipWith ktree l vs
  | [], c, t, ⟨h1, h2⟩ => ⟨[], rfl, h1, h2⟩
  | x :: l, c, t, h => by
    simp only [List.map_cons, List.flatten_cons, row_eq, List.cons_append, List.nil_append] at h
    obtain ⟨c1, rfl, c2, rfl, c3, rfl, v, c4, t4, rfl, rfl, h5⟩ := h
    obtain ⟨vs, h6, rfl, rfl⟩ := strip_inv l c4 t4 h5
    exact ⟨v :: vs, by simp [h6], rfl, rfl⟩
theorem zip_lens {l : List Tm} {vs : List Value} (h : vs.length = l.length) : (List.zipWith srow l vs).map List.length = (l.map Tm.row).map List.length := by
  refine List.ext_getElem? fun i => ?_
  rcases Nat.lt_or_ge i l.length with hi | hi
  · simp [List.getElem?_zipWith, hi, h, row_len, srow]
  · rw [List.getElem?_eq_none (by simp [h]; omega), List.getElem?_eq_none (by simp; omega)]
theorem term_rows (l : List Tm) : ∀ r ∈ l.map Tm.row, r.length = 4 := fun r hr => by obtain ⟨t, _, rfl⟩ := List.mem_map.1 hr; exact row_len t
theorem fits_trees {n : Nat} : ∀ {l : Heap}, l.all Ob.isTreeB = true → Obs.fits n 0 l
  | [], _ => trivial
  | o :: l, h => by
    simp only [List.all_cons, Bool.and_eq_true] at h
    refine ⟨?_, fits_trees h.2⟩
    cases o <;> first | trivial | cases h.1
theorem all_mixed {f : Nat → Ob} {l : Heap} {i : Nat} (hf : ∀ j, (f j).isTreeB = true) (hl : l.all Ob.isTreeB = true) : (mixed f l i).all Ob.isTreeB = true := by
  rw [List.all_eq_true] at hl ⊢
  intro o ho
  rcases List.mem_append.1 ho with h | h
  · obtain ⟨j, _, rfl⟩ := List.mem_map.1 h; exact hf j
  · exact hl o (List.mem_of_mem_drop h)
theorem zip_trees (l : List Tm) (vs : List Value) : (List.zipWith ktree l vs).all Ob.isTreeB = true := by
  induction l generalizing vs with
  | nil => rfl
  | cons t l ih =>
    cases vs with
    | nil => rfl
    | cons v vs => simp only [List.zipWith_cons_cons, List.all_cons, ih, Bool.and_true]; rfl
-- 32 loop.example/prologserver/laws.markTermS params 2 ntmps 42
-- loop head live: [0,1,5]
def ac32 : Cd := .seq (.region [⟨(some 4),.mv (.k (.c (.d (.int .i64 0)))),none⟩] [4])
 (.seq (.seq (.region [⟨(some 5),.mv (.k (.c (.d (.int .i64 0)))),none⟩] [])
 (.block 0 (.loop (.seq (.seq (.region [⟨(some 6),.mv (.t 5),none⟩,
 ⟨(some 7),.mv (.t 0),none⟩,
 ⟨(some 8),.len 1 (.t 7),none⟩,
 ⟨(some 9),.bin .lss (.t 6) (.t 8),none⟩] [6,7,8])
 (.cond (.t 9)
 (.skip)
 (.exit 0)))
 (.seq (.block 1 (.seq (.region [⟨(some 12),.mv (.t 0),none⟩,
 ⟨(some 13),.mv (.t 5),none⟩,
 ⟨(some 14),.mv (.t 1),none⟩,
 ⟨(some 15),.indexAddr 4 (.t 12) (.t 13),none⟩,
 ⟨(some 16),.fieldAddr 0 (.t 15),none⟩,
 ⟨none,.store 1 (.t 16) (.t 14),none⟩] [9,12,13,14,15,16])
 (.seq (.region [⟨(some 17),.mv (.t 1),none⟩,
 ⟨(some 18),.bin .add (.t 17) (.k (.c (.d (.int .i64 1)))),none⟩,
 ⟨(some 1),.mv (.t 18),none⟩] [17,18])
 (.seq (.region [⟨(some 19),.mv (.t 0),none⟩,
 ⟨(some 20),.mv (.t 5),none⟩,
 ⟨(some 21),.mv (.t 1),none⟩,
 ⟨(some 22),.indexAddr 4 (.t 19) (.t 20),none⟩,
 ⟨(some 23),.fieldAddr 1 (.t 22),none⟩,
 ⟨none,.store 1 (.t 23) (.t 21),none⟩] [19,20,21,22,23])
 (.seq (.region [⟨(some 24),.mv (.t 1),none⟩,
 ⟨(some 25),.bin .add (.t 24) (.k (.c (.d (.int .i64 1)))),none⟩,
 ⟨(some 1),.mv (.t 25),none⟩] [24,25])
 (.seq (.region [⟨(some 26),.mv (.t 0),none⟩,
 ⟨(some 27),.mv (.t 5),none⟩,
 ⟨(some 28),.mv (.t 1),none⟩,
 ⟨(some 29),.qcall 52 [(.t 28)],none⟩,
 ⟨(some 30),.indexAddr 4 (.t 26) (.t 27),none⟩,
 ⟨(some 31),.fieldAddr 2 (.t 30),none⟩,
 ⟨none,.store 1 (.t 31) (.t 29),none⟩] [26,27,28,29,30,31])
 (.seq (.region [⟨(some 32),.mv (.t 1),none⟩,
 ⟨(some 33),.bin .add (.t 32) (.k (.c (.d (.int .i64 1)))),none⟩,
 ⟨(some 1),.mv (.t 33),none⟩] [32,33])
 (.region [⟨(some 34),.mv (.t 0),none⟩,
 ⟨(some 35),.mv (.t 5),none⟩,
 ⟨(some 36),.indexAddr 4 (.t 34) (.t 35),none⟩,
 ⟨(some 37),.fieldAddr 3 (.t 36),none⟩,
 ⟨(some 38),.load none (.t 37),none⟩,
 ⟨(some 39),.mv (.t 1),none⟩,
 ⟨(some 40),.call false 32 [(.t 38),(.t 39)],none⟩,
 ⟨(some 1),.mv (.t 40),none⟩] [34,35,36,37,38,39,40]))))))))
 (.region [⟨(some 10),.mv (.t 5),none⟩,
 ⟨(some 11),.bin .add (.t 10) (.k (.c (.d (.int .i64 1)))),none⟩,
 ⟨(some 5),.mv (.t 11),none⟩] [10,11]))))))
 (.seq (.region [⟨(some 41),.mv (.t 1),none⟩,
 ⟨(some 4),.mv (.t 41),none⟩] [1,41])
 (.ret)))
theorem ac32_ok : cFunc Tryz.prog [1000052] [(0,[4],[]),(1,[],[]),(2,[6,7,8],[]),(4,[9,12,13,14,15,16],[]),(5,[17,18],[]),(6,[19,20,21,22,23],[]),(7,[24,25],[]),(8,[26,27,28,29,30,31],[]),(9,[32,33],[]),(10,[34,35,36,37,38,39,40],[]),(3,[10,11],[]),(11,[1,41],[])] Tryz.f32 = some (ac32,[.tmp 4],42) := by kernel_rfl
-- 33 loop.example/prologserver/laws.heldTermS params 2 ntmps 50
-- loop head live: [0,1,5]
def ac33 : Cd := .seq (.region [⟨(some 4),.mv (.k (.c (.d (.int .i64 0)))),none⟩] [4])
 (.seq (.seq (.region [⟨(some 5),.mv (.k (.c (.d (.int .i64 0)))),none⟩] [])
 (.block 0 (.loop (.seq (.seq (.region [⟨(some 6),.mv (.t 5),none⟩,
 ⟨(some 7),.mv (.t 0),none⟩,
 ⟨(some 8),.len 1 (.t 7),none⟩,
 ⟨(some 9),.bin .lss (.t 6) (.t 8),none⟩] [6,7,8])
 (.cond (.t 9)
 (.skip)
 (.exit 0)))
 (.seq (.block 1 (.seq (.seq (.region [⟨(some 12),.mv (.t 0),none⟩,
 ⟨(some 13),.mv (.t 5),none⟩,
 ⟨(some 14),.indexAddr 4 (.t 12) (.t 13),none⟩,
 ⟨(some 15),.fieldAddr 0 (.t 14),none⟩,
 ⟨(some 16),.load none (.t 15),none⟩,
 ⟨(some 17),.mv (.t 1),none⟩,
 ⟨(some 18),.bin .neq (.t 16) (.t 17),none⟩] [9,12,13,14,15,16,17])
 (.cond (.t 18)
 (.seq (.region [⟨(some 4),.mv (.k (.c (.d (.int .i64 (-1))))),none⟩] [0,1,5,18])
 (.ret))
 (.skip)))
 (.seq (.region [⟨(some 19),.mv (.t 1),none⟩,
 ⟨(some 20),.bin .add (.t 19) (.k (.c (.d (.int .i64 1)))),none⟩,
 ⟨(some 1),.mv (.t 20),none⟩] [4,18,19,20])
 (.seq (.seq (.region [⟨(some 21),.mv (.t 0),none⟩,
 ⟨(some 22),.mv (.t 5),none⟩,
 ⟨(some 23),.indexAddr 4 (.t 21) (.t 22),none⟩,
 ⟨(some 24),.fieldAddr 1 (.t 23),none⟩,
 ⟨(some 25),.load none (.t 24),none⟩,
 ⟨(some 26),.mv (.t 1),none⟩,
 ⟨(some 27),.bin .neq (.t 25) (.t 26),none⟩] [21,22,23,24,25,26])
 (.cond (.t 27)
 (.seq (.region [⟨(some 4),.mv (.k (.c (.d (.int .i64 (-1))))),none⟩] [0,1,5,27])
 (.ret))
 (.skip)))
 (.seq (.region [⟨(some 28),.mv (.t 1),none⟩,
 ⟨(some 29),.bin .add (.t 28) (.k (.c (.d (.int .i64 1)))),none⟩,
 ⟨(some 1),.mv (.t 29),none⟩] [4,27,28,29])
 (.seq (.seq (.region [⟨(some 30),.mv (.t 0),none⟩,
 ⟨(some 31),.mv (.t 5),none⟩,
 ⟨(some 32),.indexAddr 4 (.t 30) (.t 31),none⟩,
 ⟨(some 33),.fieldAddr 2 (.t 32),none⟩,
 ⟨(some 35),.mv (.t 1),none⟩,
 ⟨(some 34),.load none (.t 33),none⟩,
 ⟨(some 36),.qcall 52 [(.t 35)],none⟩,
 ⟨(some 37),.bin .neq (.t 34) (.t 36),none⟩] [30,31,32,33,34,35,36])
 (.cond (.t 37)
 (.seq (.region [⟨(some 4),.mv (.k (.c (.d (.int .i64 (-1))))),none⟩] [0,1,5,37])
 (.ret))
 (.skip)))
 (.seq (.region [⟨(some 38),.mv (.t 1),none⟩,
 ⟨(some 39),.bin .add (.t 38) (.k (.c (.d (.int .i64 1)))),none⟩,
 ⟨(some 1),.mv (.t 39),none⟩] [4,37,38,39])
 (.seq (.region [⟨(some 40),.mv (.t 0),none⟩,
 ⟨(some 41),.mv (.t 5),none⟩,
 ⟨(some 42),.indexAddr 4 (.t 40) (.t 41),none⟩,
 ⟨(some 43),.fieldAddr 3 (.t 42),none⟩,
 ⟨(some 44),.load none (.t 43),none⟩,
 ⟨(some 45),.mv (.t 1),none⟩,
 ⟨(some 46),.call false 33 [(.t 44),(.t 45)],none⟩,
 ⟨(some 1),.mv (.t 46),none⟩] [40,41,42,43,44,45,46])
 (.seq (.region [⟨(some 47),.mv (.t 1),none⟩,
 ⟨(some 48),.bin .lss (.t 47) (.k (.c (.d (.int .i64 0)))),none⟩] [47])
 (.cond (.t 48)
 (.seq (.region [⟨(some 4),.mv (.k (.c (.d (.int .i64 (-1))))),none⟩] [0,1,5,48])
 (.ret))
 (.skip)))))))))))
 (.region [⟨(some 10),.mv (.t 5),none⟩,
 ⟨(some 11),.bin .add (.t 10) (.k (.c (.d (.int .i64 1)))),none⟩,
 ⟨(some 5),.mv (.t 11),none⟩] [4,10,11,48]))))))
 (.seq (.region [⟨(some 49),.mv (.t 1),none⟩,
 ⟨(some 4),.mv (.t 49),none⟩] [1,49])
 (.ret)))
theorem ac33_ok : cFunc Tryz.prog [1000052] [(0,[4],[]),(1,[],[]),(2,[6,7,8],[]),(4,[9,12,13,14,15,16,17],[]),(5,[0,1,5,18],[]),(6,[4,18,19,20],[]),(7,[21,22,23,24,25,26],[]),(8,[0,1,5,27],[]),(9,[4,27,28,29],[]),(10,[30,31,32,33,34,35,36],[0,1,2,3,5,4,6,7]),(11,[0,1,5,37],[]),(12,[4,37,38,39],[]),(13,[40,41,42,43,44,45,46],[]),(14,[47],[]),(15,[0,1,5,48],[]),(3,[4,10,11,48],[]),(16,[1,49],[])] Tryz.f33 = some (ac33,[.tmp 4],50) := by kernel_rfl
/-- a term's kids are marked -/
def MarkT (t : Tm) : Prop := ∀ (k : Int), 0 ≤ k → k + 3 * t.sub ≤ 500000000000000 → ∀ kv, ACalls Tryz.prog 32 [.c (.d (.v kv)), .c (.d (.int .i64 k))] [.tree kv (t.kids.map Tm.row)]
    (fun r H' => H' = [.tree kv ((mTms k t.kids).map Tm.row)] ∧ r = .c (.d (.int .i64 (k + 3 * t.sub))))
theorem markTermS_of (l : List Tm) (hl : l.length ≤ 1048576) (h : ∀ t ∈ l, MarkT t) (k : Int) (h0 : 0 ≤ k) (h1 : k + 3 * Tm.cnt l ≤ 500000000000000) (kv : Value) :
    ACalls Tryz.prog 32 [.c (.d (.v kv)), .c (.d (.int .i64 k))] [.tree kv (l.map Tm.row)]
    (fun r H' => H' = [.tree kv ((mTms k l).map Tm.row)] ∧ r = .c (.d (.int .i64 (k + 3 * Tm.cnt l)))) := by
  refine (acalls_tree (f := 32) (pre := []) (post := [.c (.d (.int .i64 k))]) (rows := l.map Tm.row) (Q := fun r rows' => r = .c (.d (.int .i64 (k + 3 * Tm.cnt l))) ∧ rows' = (mTms k l).map Tm.row) 4 (term_rows l) rfl rfl (fun he => ?_) (fun hne srows trs hst hlens => ?_) kv).mono fun r H' ⟨rows', h1, _, h2, h3⟩ => ⟨by rw [h1, h3], h2⟩
  · obtain rfl : l = [] := by simpa using he
    have hk0 : inR .i64 k := small_i64 (by simp [cnt_nil] at h1; omega) (by simp [cnt_nil] at h1; omega)
    have hz0 : inR .i64 0 := small_i64 (by omega) (by omega)
    refine acalls Tryz.func32 (by kernel_rfl) ac32_ok fun hf => ?_
    simp -implicitDefEqProofs [ac32, go_sem, -List.set_cons_succ, -List.set_cons_zero]
    refine loop_set (σ := Unit) (fun _ => [(5, .c (.d (.int .i64 0)))]) (fun _ => []) (fun _ => []) (fun _ => True) (fun _ => 0) () rfl trivial ?_
    intro _ _
    simp -implicitDefEqProofs [setAll, hz0, mTms_nil, cnt_nil, A.portT, A.portB, C.portB, D.leaf, go_sem, -List.set_cons_succ, -List.set_cons_zero]
  · obtain ⟨vs, hvl, hc, ht⟩ := strip_inv l _ _ hst
    obtain rfl := flatten_uniq hc (by rw [hlens, zip_lens hvl])
    subst ht
    obtain ⟨kk, hkk⟩ : ∃ kk : Nat → Int, ∀ j, kk j = k + 3 * (Tm.cnt (l.take j) : Int) := ⟨_, fun _ => rfl⟩
    have hvs : ∀ j (hj : j < l.length), vs[j]? = some (vs.getD j undef) := fun j hj => by simp [hvl, hj]
    obtain ⟨fr, hfr⟩ : ∃ fr : Nat → List D, ∀ j, fr j = srow (mTm (kk j) (l.getD j default)) (vs.getD j undef) := ⟨_, fun _ => rfl⟩
    obtain ⟨ft, hft⟩ : ∃ ft : Nat → Ob, ∀ j, ft j = ktree (mTm (kk j) (l.getD j default)) (vs.getD j undef) := ⟨_, fun _ => rfl⟩
    have hzl : (List.zipWith srow l vs).length = l.length := by simp [hvl]
    have hzt : (List.zipWith ktree l vs).length = l.length := by simp [hvl]
    refine acalls Tryz.func32 (by kernel_rfl) ac32_ok fun hf => ?_
    have hli : inR .i64 (l.length : Int) := small_i64 (by omega) (by omega)
    simp -implicitDefEqProofs [ac32, hli, go_sem, -List.set_cons_succ, -List.set_cons_zero]
    refine loop_set (σ := Nat) (fun i => [(5, .c (.d (.int .i64 i))), (1, .c (.d (.int .i64 (kk i))))]) (fun i => .rows (mixed fr (List.zipWith srow l vs) i) :: mixed ft (List.zipWith ktree l vs) i) (fun _ => []) (fun i => i ≤ l.length) (fun i => l.length - i) 0 (by simp [setAll, mixed_zero, hkk, cnt_nil]) (Nat.zero_le _) ?_
    intro i hi
    simp -implicitDefEqProofs [setAll, hli, go_sem, -List.set_cons_succ, -List.set_cons_zero]
    refine ⟨fun hlt => ⟨hlt, ?_⟩, fun hge => ?_⟩
    · have hs := cnt_take_sub l hlt
      have hki := hkk i
      have hlz : i < (List.zipWith srow l vs).length := by omega
      have hlt' : i < (List.zipWith ktree l vs).length := by omega
      have hlm : i < (mixed fr (List.zipWith srow l vs) i).length := by rw [mixed_len _ _ (by omega)]; exact hlz
      have hgs : ∀ r, ((mixed fr (List.zipWith srow l vs) i).set i r)[i]? = some r := fun r => List.getElem?_set_self hlm
      have hget : (mixed fr (List.zipWith srow l vs) i)[i]? = some [.int .i64 l[i].k, .int .i64 l[i].n, .str l[i].s, .v vs[i]] := by rw [mixed_get _ _ hlz]; simp [srow]
      have hgt : (mixed ft (List.zipWith ktree l vs) i)[i]? = some (.tree vs[i] (l[i].kids.map Tm.row)) := by rw [mixed_get _ _ hlt']; simp [ktree]
      have i0 : inR .i64 (kk i) := small_i64 (by omega) (by omega)
      have i1 : inR .i64 (kk i + 1) := small_i64 (by omega) (by omega)
      have i2 : inR .i64 (kk i + 1 + 1) := small_i64 (by omega) (by omega)
      have i3 : inR .i64 (kk i + 1 + 1 + 1) := small_i64 (by omega) (by omega)
      have hadd : inR .i64 ((i : Int) + 1) := small_i64 (by omega) (by omega)
      have hfx : ∀ rs, Obs.fits ((Ob.rows rs :: mixed ft (List.zipWith ktree l vs) i).length) 0 (Ob.rows rs :: mixed ft (List.zipWith ktree l vs) i) := fun rs => ⟨trivial, fits_trees (all_mixed (fun j => by rw [hft]; rfl) (zip_trees l vs))⟩
      simp -implicitDefEqProofs [hget, hgs, i0, i1, i2, i3, hadd, go_sem, -List.set_cons_succ, -List.set_cons_zero]
      refine ⟨hfx _, hlt, hfx _, qcall_pure (markText_calls _ (by omega)) (hfx _) rfl ?_⟩
      simp -implicitDefEqProofs [hget, hgs, hlt, i0, i1, i2, i3, hadd, go_sem, -List.set_cons_succ, -List.set_cons_zero]
      refine ⟨hfx _, call_ext (J := [i + 1]) (h l[i] (List.getElem_mem hlt) (kk i + 1 + 1 + 1) (by omega) (by omega) vs[i]) (fun r H' ⟨h1, h2⟩ => by subst h1; subst h2; exact ⟨⟨rfl, rfl⟩, rfl⟩) (by simp) (.cons (.c .d) (.cons (.c .d) .nil)) (by simp) (by simp [hgt]) rfl (hfx _) ?_⟩
      rintro _ _ ⟨rfl, rfl⟩
      simp -implicitDefEqProofs [putAll, hadd, go_sem, -List.set_cons_succ, -List.set_cons_zero]
      have hk1 : kk (i + 1) = kk i + 1 + 1 + 1 + 3 * (l[i].sub : Int) := by
        have := cnt_take_succ l hlt
        rw [hkk, hkk]; omega
      have hv : vs.getD i undef = vs[i] := by simp [hvl, hlt]
      have e1 := mixed_set fr (List.zipWith srow l vs) hlz
      have e2 := mixed_set ft (List.zipWith ktree l vs) hlt'
      have e3 : l.getD i default = l[i] := by simp [hlt]
      rw [hfr, e3, hv] at e1
      rw [hft, e3, hv] at e2
      have r1 : srow (mTm (kk i) l[i]) vs[i] = [.int .i64 (kk i), .int .i64 (kk i + 1), .str (mText (kk i + 1 + 1)), .v vs[i]] := by
        have := mTm_row (kk i) l[i]
        rw [row_eq] at this
        simp only [List.cons.injEq, D.int.injEq, D.str.injEq, D.sl.injEq, and_true, true_and] at this
        rw [srow, this.1, this.2.1, this.2.2.1, show kk i + 1 + 1 = kk i + 2 by omega]
      have r2 : ktree (mTm (kk i) l[i]) vs[i] = .tree vs[i] ((mTms (kk i + 1 + 1 + 1) l[i].kids).map Tm.row) := by
        have := mTm_row (kk i) l[i]
        rw [row_eq] at this
        simp only [List.cons.injEq, D.int.injEq, D.str.injEq, D.sl.injEq, and_true, true_and] at this
        rw [ktree, this.2.2.2, show kk i + 1 + 1 + 1 = kk i + 3 by omega]
      rw [r1] at e1
      rw [r2] at e2
      refine loop_back (i + 1) ?_ hlt (by show l.length - (i + 1) < l.length - i; omega)
      simp [setAll, hk1, ← e1, ← e2]
    · obtain rfl : i = l.length := by omega
      have e1 : mixed fr (List.zipWith srow l vs) l.length = List.zipWith srow (mTms k l) vs := by
        refine List.ext_getElem? fun j => ?_
        rw [mixed_get' _ _ (by omega)]
        by_cases hj : j < l.length
        · rw [if_pos hj, hfr, List.getElem?_zipWith, mTms_get k l j hj, hvs j hj, hkk]; simp [hj]
        · rw [if_neg hj, List.getElem?_eq_none (by omega), List.getElem?_eq_none (by simp [mTms_len]; omega)]
      have e2 : mixed ft (List.zipWith ktree l vs) l.length = List.zipWith ktree (mTms k l) vs := by
        refine List.ext_getElem? fun j => ?_
        rw [mixed_get' _ _ (by omega)]
        by_cases hj : j < l.length
        · rw [if_pos hj, hft, List.getElem?_zipWith, mTms_get k l j hj, hvs j hj, hkk]; simp [hj]
        · rw [if_neg hj, List.getElem?_eq_none (by omega), List.getElem?_eq_none (by simp [mTms_len]; omega)]
      have hml := mTms_len k l
      exact ⟨_, _, _, strip_terms (mTms k l) vs (by omega), by simp [hml], term_rows _, zip_lens (by omega), by simp [hml], ⟨e1, e2⟩, rfl, by rw [hkk, List.take_length], rfl⟩
theorem markT_calls : ∀ t : Tm, t.fits → MarkT t := by
  refine Tm.ind fun k n s l ih hfits a h0 h1 kv => ?_
  obtain ⟨_, _, _, hl, hkids⟩ := hfits
  rw [sub_mk] at h1 ⊢
  exact markTermS_of l hl (fun t ht => ih t ht (hkids t ht)) a h0 h1 kv
/-- marked kids are looked at -/
def HeldT (t : Tm) : Prop := ∀ (k : Int), 0 ≤ k → k + 3 * t.sub ≤ 500000000000000 → ∀ H, ACalls Tryz.prog 33 [.c (.d (.sl ((mTms k t.kids).map Tm.row))), .c (.d (.int .i64 k))] H
    (fun r H' => H' = H ∧ r = .c (.d (.int .i64 (k + 3 * t.sub))))
theorem heldTermS_of (l : List Tm) (hl : l.length ≤ 1048576) (h : ∀ t ∈ l, HeldT t) (k : Int) (h0 : 0 ≤ k) (h1 : k + 3 * Tm.cnt l ≤ 500000000000000) (H : Heap) :
    ACalls Tryz.prog 33 [.c (.d (.sl ((mTms k l).map Tm.row))), .c (.d (.int .i64 k))] H
    (fun r H' => H' = H ∧ r = .c (.d (.int .i64 (k + 3 * Tm.cnt l)))) := by
  refine acalls Tryz.func33 (by kernel_rfl) ac33_ok fun hf => ?_
  have hli : inR .i64 (l.length : Int) := small_i64 (by omega) (by omega)
  obtain ⟨kk, hkk⟩ : ∃ kk : Nat → Int, ∀ j, kk j = k + 3 * (Tm.cnt (l.take j) : Int) := ⟨_, fun _ => rfl⟩
  simp -implicitDefEqProofs [ac33, hli, mTms_len, go_sem, -List.set_cons_succ, -List.set_cons_zero]
  refine loop_set (σ := Nat) (fun i => [(5, .c (.d (.int .i64 i))), (1, .c (.d (.int .i64 (kk i))))]) (fun i => H) (fun _ => []) (fun i => i ≤ l.length) (fun i => l.length - i) 0 (by simp [setAll, hkk, cnt_nil]) (Nat.zero_le _) ?_
  intro i hi
  simp -implicitDefEqProofs [setAll, hli, mTms_len, go_sem, -List.set_cons_succ, -List.set_cons_zero]
  refine ⟨fun hlt => ?_, fun hge => ?_⟩
  · have hs := cnt_take_sub l hlt
    have hki := hkk i
    have hk1 : kk (i + 1) = kk i + 1 + 1 + 1 + 3 * (l[i].sub : Int) := by
      have := cnt_take_succ l hlt
      rw [hkk, hkk]; omega
    have i0 : inR .i64 (kk i) := small_i64 (by omega) (by omega)
    have i1 : inR .i64 (kk i + 1) := small_i64 (by omega) (by omega)
    have i2 : inR .i64 (kk i + 1 + 1) := small_i64 (by omega) (by omega)
    have i3 : inR .i64 (kk i + 1 + 1 + 1) := small_i64 (by omega) (by omega)
    have hadd : inR .i64 ((i : Int) + 1) := small_i64 (by omega) (by omega)
    have hrow : ((mTms k l).map Tm.row)[i]? = some [.int .i64 (kk i), .int .i64 (kk i + 1), .str (mText (kk i + 1 + 1)), .sl ((mTms (kk i + 1 + 1 + 1) l[i].kids).map Tm.row)] := by
      rw [List.getElem?_map, mTms_get k l i hlt, ← hkk, Option.map_some, mTm_row, show kk i + 1 + 1 + 1 = kk i + 3 by omega, show kk i + 1 + 1 = kk i + 2 by omega]
    have hp : ¬ (kk i + 1 + 1 + 1 + 3 * (l[i].sub : Int) < 0) := by omega
    refine row_nat _ hrow rfl ?_
    simp -implicitDefEqProofs [i0, i1, i2, i3, hadd, go_sem, -List.set_cons_succ, -List.set_cons_zero]
    refine row_nat _ hrow rfl ?_
    simp -implicitDefEqProofs [i0, i1, i2, i3, hadd, go_sem, -List.set_cons_succ, -List.set_cons_zero]
    refine row_nat _ hrow rfl ?_
    simp -implicitDefEqProofs [i0, i1, i2, i3, hadd, go_sem, -List.set_cons_succ, -List.set_cons_zero]
    refine qcall_pure (markText_calls _ (by omega)) hf rfl ?_
    simp -implicitDefEqProofs [i0, i1, i2, i3, hadd, go_sem, -List.set_cons_succ, -List.set_cons_zero]
    refine row_nat _ hrow rfl ?_
    simp -implicitDefEqProofs [i0, i1, i2, i3, hadd, go_sem, -List.set_cons_succ, -List.set_cons_zero]
    refine call_same (h l[i] (List.getElem_mem hlt) (kk i + 1 + 1 + 1) (by omega) (by omega) _) (by simp [Ob.re, C.re]) rfl hf ?_
    simp -implicitDefEqProofs [hp, hadd, go_sem, -List.set_cons_succ, -List.set_cons_zero]
    exact loop_back (i + 1) (by simp [setAll, hk1]) hlt (by show l.length - (i + 1) < l.length - i; omega)
  · obtain rfl : i = l.length := by omega
    rw [hkk, List.take_length]
theorem heldT_calls : ∀ t : Tm, t.fits → HeldT t := by
  refine Tm.ind fun k n s l ih hfits a h0 h1 H => ?_
  obtain ⟨_, _, _, hl, hkids⟩ := hfits
  rw [sub_mk] at h1 ⊢
  exact heldTermS_of l hl (fun t ht => ih t ht (hkids t ht)) a h0 h1 H
end Go.Proofs.YtgfmlifkhpjplaaGreatDoor

/-
  Copies of terms that stand in arrays of their own.
  Conditions: none.
-/
open Go Go.AM Go.Proofs
namespace Go.Proofs.YtgfmlifkhpjplaaGreatDoor
open Go.ChangeShapes Go.WideShapes Go.ChangeAt Go.RowKit
set_option linter.unusedVariables false
set_option linter.unusedSimpArgs false
set_option maxRecDepth 100000
namespace Own
end Own
/-- what is handed out: rows in an array of their own -/
def HandsRows (rows : List (List D)) (r : A) (H : Heap) : Prop := ∃ v : Value, r = .c (.d (.v v)) ∧ H = [.tree v rows]
theorem HandsRows.handed {rows : List (List D)} {r : A} {H : Heap} (h : HandsRows rows r H) : Handed r H := by
  obtain ⟨v, rfl, rfl⟩ := h
  exact ⟨rfl, rfl⟩
/-- .. a term -/
def HandsTm (t : Tm) (r : A) (H : Heap) : Prop := ∃ v : Value, r = .agg [.d (.int .i64 t.k), .d (.int .i64 t.n), .d (.str t.s), .d (.v v)] ∧ H = [.tree v (t.kids.map Tm.row)]
theorem HandsTm.handed {t : Tm} {r : A} {H : Heap} (h : HandsTm t r H) : Handed r H := by
  obtain ⟨v, rfl, rfl⟩ := h
  exact ⟨rfl, rfl⟩
end Go.Proofs.YtgfmlifkhpjplaaGreatDoor

/-
  Lists made of terms that stand in arrays of their own: each pair is a new array, and all of them make one tree.
  Conditions: none.
-/
open Go Go.AM Go.Proofs
namespace Go.Proofs.YtgfmlifkhpjplaaGreatDoor
open Go.ChangeShapes Go.WideShapes Go.ChangeAt Go.RowKit
set_option linter.unusedVariables false
set_option linter.unusedSimpArgs false
set_option maxRecDepth 100000
namespace Own
-- 138 loop.example/prologserver/impl.pair params 2 ntmps 9
def ac138 : Cd := .seq (.region [⟨(some 2),.box (.t 0),none⟩,
 ⟨(some 3),.box (.t 1),none⟩,
 ⟨(some 4),.alloc [(.d (.int .i64 0)),(.d (.int .i64 0)),(.d (.str [])),(.full [])],none⟩] [0,1])
 (.seq (.region [⟨(some 5),.load (some 4) (.t 2),none⟩,
 ⟨(some 6),.load (some 4) (.t 3),none⟩,
 ⟨(some 7),.buildSliceF 4 2 [(.int .i64 0),(.int .i64 0),(.str []),(.sl [])] [(0,(.t 5)),(1,(.t 6))],none⟩,
 ⟨(some 8),.build [(.d (.int .i64 0)),(.d (.int .i64 0)),(.d (.str [])),(.full [])] [(0,1,(.k (.c (.d (.int .i64 3))))),(2,1,(.k (.c (.d (.str [46]))))),(3,1,(.t 7))],none⟩,
 ⟨none,.store 4 (.t 4) (.t 8),none⟩] [2,3,5,6,7,8])
 (.ret))
theorem ac138_ok : cFunc Tryz.prog [13000005] [(0,[0,1],[]),(1,[2,3,5,6,7,8],[])] Tryz.f138 = some (ac138,[.cell 4 (some 4)],9) := by kernel_rfl
-- 132 loop.example/prologserver/impl.chain params 2 ntmps 20
-- loop head live: [0,3,4,5]
def ac132 : Cd := .seq (.region [⟨(some 3),.box (.t 1),none⟩,
 ⟨(some 4),.alloc [(.d (.int .i64 0)),(.d (.int .i64 0)),(.d (.str [])),(.full [])],none⟩] [1])
 (.seq (.seq (.region [⟨(some 6),.mv (.t 0),none⟩,
 ⟨(some 7),.len 1 (.t 6),none⟩,
 ⟨(some 8),.bin .sub (.t 7) (.k (.c (.d (.int .i64 1)))),none⟩,
 ⟨(some 5),.mv (.t 8),none⟩] [6,7,8])
 (.block 0 (.loop (.seq (.seq (.region [⟨(some 9),.mv (.t 5),none⟩,
 ⟨(some 10),.bin .geq (.t 9) (.k (.c (.d (.int .i64 0)))),none⟩] [9])
 (.cond (.t 10)
 (.skip)
 (.exit 0)))
 (.seq (.block 1 (.region [⟨(some 13),.mv (.t 0),none⟩,
 ⟨(some 14),.mv (.t 5),none⟩,
 ⟨(some 15),.indexAddr 4 (.t 13) (.t 14),none⟩,
 ⟨(some 16),.load (some 4) (.t 15),none⟩,
 ⟨(some 17),.load (some 4) (.t 3),none⟩,
 ⟨(some 18),.call false 138 [(.t 16),(.t 17)],none⟩,
 ⟨none,.store 4 (.t 3) (.t 18),none⟩] [10,13,14,15,16,17,18]))
 (.region [⟨(some 11),.mv (.t 5),none⟩,
 ⟨(some 12),.bin .sub (.t 11) (.k (.c (.d (.int .i64 1)))),none⟩,
 ⟨(some 5),.mv (.t 12),none⟩] [11,12]))))))
 (.seq (.region [⟨(some 19),.load (some 4) (.t 3),none⟩,
 ⟨none,.store 4 (.t 4) (.t 19),none⟩] [3,19])
 (.ret)))
theorem ac132_ok : cFunc Tryz.prog [] [(0,[1],[]),(1,[6,7,8],[]),(2,[9],[]),(4,[10,13,14,15,16,17,18],[0,1,2,3,4,5,6]),(3,[11,12],[]),(5,[3,19],[])] Tryz.f132 = some (ac132,[.cell 4 (some 4)],20) := by kernel_rfl
end Own
/-- a row of data that bear no memory -/
def leafR (r : List D) : Prop := r.length = 4 ∧ ∀ x ∈ r, x.leaf = true
theorem leafR_srow (t : Tm) (v : Value) : leafR (srow t v) := ⟨rfl, by simp [srow, D.leaf]⟩
def pairRow (y : Value) : List D := [.int .i64 3, .int .i64 0, .str [46], .v y]
theorem leafR_pair (y : Value) : leafR (pairRow y) := ⟨rfl, by simp [pairRow, D.leaf]⟩
theorem leafR4 {r : List D} (h : leafR r) : ∃ a b c d, r = [a, b, c, d] ∧ a.leaf = true ∧ b.leaf = true ∧ c.leaf = true ∧ d.leaf = true := by
  obtain ⟨h1, h2⟩ := h
  match r, h1 with
  | [a, b, c, d], _ => exact ⟨a, b, c, d, rfl, h2 a (by simp), h2 b (by simp), h2 c (by simp), h2 d (by simp)⟩
def PairH (a b : List D) (r : A) (H : Heap) : Prop := ∃ y : Value, r = .agg ((pairRow y).map .d) ∧ H = [.tree y [a, b]]
theorem PairH.handed {a b : List D} {r : A} {H : Heap} (h : PairH a b r H) : Handed r H := by
  obtain ⟨y, rfl, rfl⟩ := h
  exact ⟨rfl, rfl⟩
theorem pairOwn_calls (a b : List D) (ha : leafR a) (hb : leafR b) : ACalls Tryz.prog 138 [.agg (a.map .d), .agg (b.map .d)] [] (PairH a b) := by
  obtain ⟨a0, a1, a2, a3, rfl, i0, i1, i2, i3⟩ := leafR4 ha
  obtain ⟨b0, b1, b2, b3, rfl, j0, j1, j2, j3⟩ := leafR4 hb
  refine acallsG Tryz.func138 (by kernel_rfl) Own.ac138_ok fun hf => ?_
  simp -implicitDefEqProofs [Own.ac138, go_sem, -List.set_cons_succ, -List.set_cons_zero]
  refine finG_ret _ ⟨trivial, trivial⟩ ⟨rfl, fun i o o' h => by simp at h⟩ rfl fun kv => ?_
  refine ⟨_, _, _, [], [], .one (.agg (.cons (.leaf rfl) (.cons (.leaf rfl) (.cons (.leaf rfl) (.cons (.leafs (i := 3) rfl ?_) .nil))))), rfl, rfl, by simp, ⟨_, rfl, rfl⟩⟩
  simp [i0, i1, i2, i3, j0, j1, j2, j3]
/-- the pairs of a list: the rows, the tail's row, the arrays of the pairs, the row of the whole -/
inductive ChF : List (List D) → List D → Heap → List D → Prop
  | nil (u : List D) : ChF [] u [] u
  | cons {l : List (List D)} {u v r : List D} {F : Heap} (y : Value) : ChF l u F v → ChF (r :: l) u (F ++ [.tree y [r, v]]) (pairRow y)
theorem ChF.leaf {l : List (List D)} {u v : List D} {F : Heap} (h : ChF l u F v) (hu : leafR u) : leafR v ∧ F.all Ob.isTreeB = true := by
  induction h with
  | nil => exact ⟨hu, rfl⟩
  | cons y h ih => exact ⟨leafR_pair y, by rw [List.all_append, (ih hu).2]; rfl⟩
def ChainH (l : List (List D)) (u : List D) (r : A) (H : Heap) : Prop := ∃ v, ChF l u H v ∧ leafR v ∧ r = .agg (v.map .d)
theorem port_row {v : List D} (h : leafR v) : A.portB (.agg (v.map .d)) = true := by
  obtain ⟨a, b, c, d, rfl, i0, i1, i2, i3⟩ := leafR4 h
  simp [A.portB, C.portB, i0, i1, i2, i3]
theorem ChainH.handed {l : List (List D)} {u : List D} (hu : leafR u) {r : A} {H : Heap} (h : ChainH l u r H) : Handed r H := by
  obtain ⟨v, h1, h2, rfl⟩ := h
  exact ⟨by have := port_row h2; simpa [A.portT] using this, (h1.leaf hu).2⟩
theorem fz_agg {H : Heap} {J : List Nat} (r : List D) : FzA H J (.agg (r.map .d)) (.agg (r.map .d)) := .agg (fzCs_id r)
theorem trees_get (F : Heap) (l1 : Heap) : (List.range F.length).map (fun j => (l1 ++ F)[l1.length + j]?) = F.map some := by
  refine List.ext_getElem? fun i => ?_
  rw [List.getElem?_map, List.getElem?_map]
  by_cases hi : i < F.length
  · rw [List.getElem?_range hi, List.getElem?_eq_getElem hi]; simp [hi]
  · rw [List.getElem?_eq_none (by simp; omega), List.getElem?_eq_none (by omega)]; rfl
set_option maxHeartbeats 1600000 in
theorem chainOwn_calls (l : List (List D)) (hl : l.length ≤ 1048576) (hr : ∀ r ∈ l, leafR r) (u : List D) (hu : leafR u) : ACalls Tryz.prog 132 [.c (.d (.sl l)), .agg (u.map .d)] [] (ChainH l u) := by
  refine acallsG Tryz.func132 (by kernel_rfl) Own.ac132_ok fun hf => ?_
  have hli : inR .i64 (l.length : Int) := small_i64 (by omega) (by omega)
  have hli1 : inR .i64 ((l.length : Int) - 1) := small_i64 (by omega) (by omega)
  simp -implicitDefEqProofs [Own.ac132, hli, hli1, go_sem, -List.set_cons_succ, -List.set_cons_zero]
  refine loop_set (σ := Nat × List D × Heap) (fun x => [(5, .c (.d (.int .i64 ((x.1 : Int) - 1))))]) (fun _ => []) (fun x => [.cells (x.2.1.map .d), .cells [.d (.int .i64 0), .d (.int .i64 0), .d (.str []), .full []]] ++ x.2.2) (fun x => x.1 ≤ l.length ∧ ChF (l.drop x.1) u x.2.2 x.2.1) (fun x => x.1) (l.length, u, []) (by simp [setAll]) ⟨Nat.le_refl _, by simpa using ChF.nil u⟩ ?_
  rintro ⟨k, v, F⟩ ⟨hk, hch⟩
  simp only at hk hch
  obtain ⟨hv, hF⟩ := hch.leaf hu
  obtain ⟨v0, v1, v2, v3, rfl, i0, i1, i2, i3⟩ := leafR4 hv
  simp -implicitDefEqProofs [setAll, go_sem, -List.set_cons_succ, -List.set_cons_zero]
  refine ⟨fun hge => ?_, fun hlt => ?_⟩
  · obtain ⟨k, rfl⟩ : ∃ m, k = m + 1 := ⟨k - 1, by omega⟩
    have hlt : k < l.length := by omega
    have e1 : ((k + 1 : Nat) : Int) - 1 = (k : Int) := by omega
    have hli2 : inR .i64 ((k : Int) - 1) := small_i64 (by omega) (by omega)
    have hrk := hr l[k] (List.getElem_mem hlt)
    obtain ⟨r0, r1, r2, r3, hek, m0, m1, m2, m3⟩ := leafR4 hrk
    simp -implicitDefEqProofs [go_sem, -List.set_cons_succ, -List.set_cons_zero]
    refine row_int [r0, r1, r2, r3] (by omega) (by rw [← hek]; simp) rfl ?_
    simp -implicitDefEqProofs [go_sem, -List.set_cons_succ, -List.set_cons_zero]
    refine call_none (pairOwn_calls [r0, r1, r2, r3] [v0, v1, v2, v3] (hek ▸ hrk) hv) (fun r H' h => h.handed) (by simp [Ob.re, C.re, trees_re hF]) (.cons (fz_agg [r0, r1, r2, r3]) (.cons (fz_agg [v0, v1, v2, v3]) .nil)) hf ?_
    rintro _ _ ⟨y, rfl, rfl⟩
    simp -implicitDefEqProofs [pairRow, e1, hli2, go_sem, -List.set_cons_succ, -List.set_cons_zero]
    refine loop_back (k, pairRow y, F ++ [.tree y [[r0, r1, r2, r3], [v0, v1, v2, v3]]]) (by simp [setAll, pairRow]) ⟨by show k ≤ l.length; omega, ?_⟩ (by show k < k + 1; omega)
    show ChF (l.drop k) u _ _
    rw [List.drop_eq_getElem_cons hlt, hek]
    exact .cons y hch
  · obtain rfl : k = 0 := by omega
    have hg := trees_get F [.cells [.d v0, .d v1, .d v2, .d v3], .cells [.d v0, .d v1, .d v2, .d v3]]
    simp -implicitDefEqProofs [go_sem, -List.set_cons_succ, -List.set_cons_zero]
    refine finG_ret _ ⟨trivial, trivial⟩ ⟨rfl, fun i o o' h => by simp at h⟩ rfl fun kv => ?_
    refine ⟨_, [], [], F, (List.range F.length).map (fun j => 2 + j), .one (.agg (.cons (.leaf i0) (.cons (.leaf i1) (.cons (.leaf i2) (.cons (.leaf i3) .nil))))), ?_, hF, ?_, ⟨_, by simpa using hch, hv, rfl⟩⟩
    · rw [List.map_map]; exact hg
    · rw [List.append_nil]
      exact List.Pairwise.map _ (fun a b h e => h (by omega)) List.nodup_range
/-! ## one tree -/
theorem strip_two (t u : Tm) (x y : Value) : Strip ([t.row, u.row] : List (List D)).flatten ([srow t x, srow u y] : List (List D)).flatten [ktree t x, ktree u y] := by
  have := strip_terms [t, u] [x, y] rfl
  simpa using this
/-- the pairs and the elements make one tree -/
theorem chain_regroup (t : Tm) (x : Value) : ∀ (ts : List Tm) (vs : List Value), vs.length = ts.length → ∀ (F : Heap) (v : List D), ChF (List.zipWith srow ts vs) (srow t x) F v →
    ∃ y, v = srow (chainT ts t) y ∧ Regroup (List.zipWith ktree ts vs ++ (ktree t x :: F)) [ktree (chainT ts t) y]
  | [], vs, hl, F, v, h => by
    obtain rfl : vs = [] := by simpa using hl
    cases h
    exact ⟨x, rfl, .refl rfl⟩
  | a :: ts, [], hl, _, _, _ => by simp at hl
  | a :: ts, b :: vs, hl, F, v, h => by
    simp only [List.zipWith_cons_cons] at h
    cases h with
    | @cons _ _ w _ F' y h =>
      obtain ⟨z, rfl, hg⟩ := chain_regroup t x ts vs (by simpa using hl) F' w h
      refine ⟨y, by rw [chainT]; rfl, ?_⟩
      have h1 : Regroup ([ktree a b] ++ (List.zipWith ktree ts vs ++ (ktree t x :: F')) ++ [.tree y [srow a b, srow (chainT ts t) z]]) ([ktree a b] ++ [ktree (chainT ts t) z] ++ [.tree y [srow a b, srow (chainT ts t) z]]) := by
        have hall : (List.zipWith ktree ts vs ++ (ktree t x :: F')).all Ob.isTreeB = true := by
          rw [List.all_append, List.all_cons, (h.leaf (leafR_srow t x)).2]
          have : (List.zipWith ktree ts vs).all Ob.isTreeB = true := by
            rw [List.all_eq_true]
            intro o ho
            obtain ⟨i, hi⟩ := List.mem_iff_getElem?.1 ho
            rw [List.getElem?_zipWith] at hi
            split at hi
            · cases hi; rfl
            · cases hi
          rw [this]; rfl
        refine Regroup.app ?_ rfl (Regroup.app rfl hall (.refl rfl) hg) (.refl rfl)
        rw [List.all_append, hall]; rfl
      have h2 : Regroup ([ktree a b, ktree (chainT ts t) z] ++ [.tree y [srow a b, srow (chainT ts t) z]]) [.tree y [a.row, (chainT ts t).row]] :=
        Regroup.join (by
          intro d hd
          rcases List.mem_flatten.1 hd with ⟨r, hr, hd⟩
          simp at hr
          rcases hr with rfl | rfl
          · exact (leafR_srow _ _).2 d hd
          · exact (leafR_srow _ _).2 d hd) (strip_two _ _ _ _) (by simp [row_len, srow])
      have h3 := h1.trans h2
      have e : List.zipWith ktree (a :: ts) (b :: vs) ++ (ktree t x :: (F' ++ [.tree y [srow a b, srow (chainT ts t) z]])) = [ktree a b] ++ (List.zipWith ktree ts vs ++ (ktree t x :: F')) ++ [.tree y [srow a b, srow (chainT ts t) z]] := by simp
      rw [e]
      have e2 : ktree (chainT (a :: ts) t) y = .tree y [a.row, (chainT ts t).row] := by rw [chainT]; rfl
      rw [e2]
      exact h3
end Go.Proofs.YtgfmlifkhpjplaaGreatDoor

/-
  The program's reader hands out terms that stand in arrays of their own: what is said of its functions, and terms with operators.
  Conditions: none.
-/
open Go Go.AM Go.Proofs
namespace Go.Proofs.YtgfmlifkhpjplaaGreatDoor
open Go.ChangeShapes Go.WideShapes Go.ChangeAt Go.RowKit
set_option linter.unusedVariables false
set_option linter.unusedSimpArgs false
set_option maxRecDepth 100000
namespace Own
-- 51 (*loop.example/prologserver/impl.reader).term params 3 ntmps 58
-- loop head live: [0,1,2,6,7,8]
def ac51 : Cd := .seq (.region [⟨(some 6),.alloc [(.d (.int .i64 0)),(.d (.int .i64 0)),(.d (.str [])),(.full [])],none⟩] [])
 (.seq (.region [⟨(some 13),.mv (.t 0),none⟩,
 ⟨(some 14),.mv (.t 2),none⟩,
 ⟨(some 15),.call false 85 [(.t 13),(.t 14)],none⟩,
 ⟨(some 7),.alloc [(.d (.int .i64 0)),(.d (.int .i64 0)),(.d (.str [])),(.full [])],none⟩,
 ⟨none,.store 4 (.t 7) (.t 15),none⟩] [13,14,15])
 (.seq (.region [⟨(some 8),.mv (.k (.c (.d (.int .i64 0)))),none⟩] [])
 (.block 0 (.loop (.block 1 (.seq (.weak (.region [⟨(some 16),.mv (.t 0),none⟩,
 ⟨(some 17),.call false 86 [(.t 16)],none⟩,
 ⟨(some 9),.mv (.t 17),none⟩] [16,17]))
 (.seq (.region [⟨(some 19),.mv (.t 9),none⟩,
 ⟨(some 20),.qcall 58 [(.t 19)],none⟩,
 ⟨(some 18),.mv (.t 20),none⟩,
 ⟨(some 21),.extract 0 (.t 18),none⟩,
 ⟨(some 22),.extract 1 (.t 18),none⟩,
 ⟨(some 10),.mv (.t 21),none⟩,
 ⟨(some 11),.mv (.t 22),none⟩] [11,18,19,20,21,22])
 (.seq (.seq (.region [⟨(some 23),.mv (.t 9),none⟩,
 ⟨(some 24),.bin .eql (.t 23) (.k (.c (.d (.str [])))),none⟩,
 ⟨(some 25),.mv (.t 24),none⟩,
 ⟨(some 26),.mv (.t 10),some (25,false)⟩,
 ⟨(some 27),.mv (.t 1),some (25,false)⟩,
 ⟨(some 28),.bin .gtr (.t 26) (.t 27),some (25,false)⟩,
 ⟨(some 29),.pick (.t 25) (.k (.c (.d (.bool true)))) (.t 28),none⟩,
 ⟨(some 30),.mv (.t 29),none⟩,
 ⟨(some 31),.mv (.t 8),some (30,false)⟩,
 ⟨(some 32),.mv (.t 9),some (30,false)⟩,
 ⟨(some 33),.qcall 60 [(.t 32)],some (30,false)⟩,
 ⟨(some 34),.bin .gtr (.t 31) (.t 33),some (30,false)⟩,
 ⟨(some 35),.pick (.t 30) (.k (.c (.d (.bool true)))) (.t 34),none⟩] [8,23,24,25,26,27,28,29,30,31,32,33,34])
 (.cond (.t 35)
 (.seq (.region [⟨(some 36),.load (some 4) (.t 7),none⟩,
 ⟨none,.store 4 (.t 6) (.t 36),none⟩] [0,1,2,7,9,10,35,36])
 (.ret))
 (.skip)))
 (.seq (.region [⟨(some 37),.mv (.t 0),none⟩,
 ⟨(some 38),.nilCheck (.t 37),none⟩,
 ⟨(some 39),.fieldAddr 1 (.t 38),none⟩,
 ⟨(some 41),.mv (.t 9),none⟩,
 ⟨(some 40),.load none (.t 39),none⟩,
 ⟨(some 42),.qcall 61 [(.t 41)],none⟩,
 ⟨(some 43),.len 0 (.t 42),none⟩,
 ⟨(some 44),.bin .add (.t 40) (.t 43),none⟩,
 ⟨(some 45),.nilCheck (.t 37),none⟩,
 ⟨(some 46),.fieldAddr 1 (.t 45),none⟩,
 ⟨none,.store 1 (.t 46) (.t 44),none⟩] [35,37,38,39,40,41,42,43,44,45,46])
 (.seq (.region [⟨(some 47),.mv (.t 0),none⟩,
 ⟨(some 48),.mv (.t 10),none⟩,
 ⟨(some 49),.bin .sub (.t 48) (.k (.c (.d (.int .i64 1)))),none⟩,
 ⟨(some 50),.mv (.t 2),none⟩,
 ⟨(some 51),.call false 51 [(.t 47),(.t 49),(.t 50)],none⟩,
 ⟨(some 12),.alloc [(.d (.int .i64 0)),(.d (.int .i64 0)),(.d (.str [])),(.full [])],none⟩,
 ⟨none,.store 4 (.t 12) (.t 51),none⟩] [47,48,49,50,51])
 (.region [⟨(some 52),.mv (.t 9),none⟩,
 ⟨(some 53),.load (some 4) (.t 7),none⟩,
 ⟨(some 54),.load (some 4) (.t 12),none⟩,
 ⟨(some 55),.buildSliceF 4 2 [(.int .i64 0),(.int .i64 0),(.str []),(.sl [])] [(0,(.t 53)),(1,(.t 54))],none⟩,
 ⟨(some 56),.build [(.d (.int .i64 0)),(.d (.int .i64 0)),(.d (.str [])),(.full [])] [(0,1,(.k (.c (.d (.int .i64 3))))),(2,1,(.t 52)),(3,1,(.t 55))],none⟩,
 ⟨(some 57),.mv (.t 10),none⟩,
 ⟨none,.store 4 (.t 7) (.t 56),none⟩,
 ⟨(some 8),.mv (.t 57),none⟩] [9,10,12,52,53,54,55,56,57])))))))))))
theorem ac51_ok : cFunc Tryz.prog [1000058,1000060,1000061,13000053,4000003] [(0,[],[]),(1,[13,14,15],[]),(2,[],[]),(3,[16,17],[]),(4,[11,18,19,20,21,22],[]),(5,[8,23,24,25,26,27,28,29,30,31,32,33,34],[]),(6,[0,1,2,7,9,10,35,36],[]),(7,[35,37,38,39,40,41,42,43,44,45,46],[0,1,2,4,3,5,6,7,8,9,10]),(8,[47,48,49,50,51],[]),(9,[9,10,12,52,53,54,55,56,57],[])] Tryz.f51 = some (ac51,[.cell 6 (some 4)],58) := by kernel_rfl
-- 120 (*loop.example/prologserver/impl.reader).part params 2 ntmps 15
def ac120 : Cd := .seq (.region [⟨(some 4),.alloc [(.d (.int .i64 0)),(.d (.int .i64 0)),(.d (.str [])),(.full [])],none⟩] [])
 (.seq (.seq (.region [⟨(some 5),.mv (.t 0),none⟩,
 ⟨(some 6),.nilCheck (.t 5),none⟩,
 ⟨(some 7),.fieldAddr 3 (.t 6),none⟩,
 ⟨(some 8),.load none (.t 7),none⟩] [5,6,7])
 (.cond (.t 8)
 (.seq (.region [⟨(some 9),.mv (.t 0),none⟩,
 ⟨(some 10),.mv (.t 1),none⟩,
 ⟨(some 11),.call false 51 [(.t 9),(.k (.c (.d (.int .i64 3)))),(.t 10)],none⟩,
 ⟨none,.store 4 (.t 4) (.t 11),none⟩] [0,1,8,9,10,11])
 (.ret))
 (.skip)))
 (.seq (.region [⟨(some 12),.mv (.t 0),none⟩,
 ⟨(some 13),.mv (.t 1),none⟩,
 ⟨(some 14),.call false 85 [(.t 12),(.t 13)],none⟩,
 ⟨none,.store 4 (.t 4) (.t 14),none⟩] [0,1,8,12,13,14])
 (.ret)))
theorem ac120_ok : cFunc Tryz.prog [] [(0,[],[]),(1,[5,6,7],[]),(2,[0,1,8,9,10,11],[]),(3,[0,1,8,12,13,14],[])] Tryz.f120 = some (ac120,[.cell 4 (some 4)],15) := by kernel_rfl
end Own
/-- what a reader's function gives for a result, and where it stops -/
def RPo (s : List UInt8) (r : Rs) (t : Tm) (a : Nat) (b : Int) : Prop := t.fits ∧ match r with
  | .ok ts k => t = Rs.tm ts ∧ a = k ∧ b = -1
  | .bad e => a ≤ s.length ∧ b = e
def RQo (H : Heap) (i : Nat) (s : List UInt8) (r : Rs) (v : A) (H' : Heap) : Prop := ∃ t x a b, RPo s r t a b ∧ v = .agg ((srow t x).map .d) ∧ H' = ro H i s a b ++ [ktree t x]
def Rdo (f : FuncId) (xs : List A) (s : List UInt8) (a : Nat) (r : Rs) : Prop := ∀ (H : Heap) (i : Nat), Hp H → H.all Ob.tellB = true → 2 ≤ i → i < H.length → ACalls Tryz.prog f (.c (.ptr (.e i) 0) :: xs) (ro H i s a (-1)) (RQo H i s r)
theorem ro_tell {H : Heap} (h : H.all Ob.tellB = true) (i : Nat) (s : List UInt8) (a : Nat) (b : Int) : (ro H i s a b).all Ob.tellB = true := by
  rw [List.all_eq_true] at h ⊢
  intro o ho
  rcases List.mem_or_eq_of_mem_set ho with ho | rfl
  · exact h o ho
  · rfl
theorem ro_goes {H : Heap} (h : H.all Ob.tellB = true) (i : Nat) (s : List UInt8) (a a' : Nat) (b b' : Int) (hi : i < H.length) : Goes (ro H i s a b) (ro H i s a' b') := by
  have e : ro H i s a' b' = (ro H i s a b).set i (rdO s a' b') := by simp [ro]
  rw [e]
  refine Goes.set (tells_free (ro_tell h i s a b)) i fun o ho => ?_
  rw [ro_get hi] at ho
  cases ho
  rfl
theorem port_srow (t : Tm) (x : Value) : A.portB (.agg ((srow t x).map .d)) = true := port_row (leafR_srow t x)
theorem call_rdo {f : FuncId} {xs : List A} {s : List UInt8} {a : Nat} {r : Rs} (hd : Rdo f xs s a r) (hxs : xs.all A.portB = true) {H : Heap} {i : Nat} {sl : List A} {loc H₂ : Heap} {K : A → St → Prop} (hp : Hp H) (ht : H.all Ob.tellB = true) (h2 : 2 ≤ i) (hi : i < H.length)
    (hH : H₂ = ro H i s a (-1) ++ loc.map (Ob.re H.length)) (hf : Obs.fits H.length 0 (ro H i s a (-1))) (hk : ∀ t x a' b', RPo s r t a' b' → K (.agg ((srow t x).map .d)) ⟨sl, ro H i s a' b', loc ++ [ktree t x]⟩) :
    ACalls Tryz.prog f (.c (.ptr (.e i) 0) :: xs) H₂ (CallK K ⟨sl, ro H i s a (-1), loc⟩) := by
  refine call_head (by rw [ro_len]; exact hi) hxs (ro_tell ht i s a _) (by rw [ro_len]; exact hf) (hd H i hp ht h2 hi) (fun r' H' ⟨t, x, a', b', h1, h3, h4⟩ => ⟨?_, _, _, h4, ro_goes ht i s a a' _ b' hi, rfl⟩) (by rw [ro_len]; exact hH) (fun r' E L ⟨t, x, a', b', h1, h3, h4⟩ hg hl => ?_)
  · rw [h3]; have := port_srow t x; simpa [A.portT] using this
  · obtain ⟨rfl, rfl⟩ := List.append_inj h4 (by rw [hg.1, ro_len, ro_len])
    rw [h3]
    exact ⟨hk t x a' b' h1, by rw [ro_len]; exact ro_fits hf⟩
/-- a term that is told by its tree is handed out -/
theorem fin_tok {H : Heap} {rs : List Rv} {Q : A → Heap → Prop} {st : St} {t : Tm} {x : Value} (j : Nat) (hok : r_ st rs) (hg : Goes H st.ext) (hr : resRaw st rs = some (.agg ((srow t x).map .d))) (hj : st.loc[j]? = some (ktree t x))
    (hq : Q (.agg ((srow t x).map .d)) (st.ext ++ [ktree t x])) : FinG H rs Q .ret st :=
  finG_ret _ hok hg hr fun kv => ⟨_, [], [], [ktree t x], [j], .one (.agg (.cons (.leaf rfl) (.cons (.leaf rfl) (.cons (.leaf rfl) (.cons (.leaf rfl) .nil))))), by simp [hj], rfl, by simp, hq⟩
/-- .. and one without arguments -/
theorem fin_nil {H : Heap} {rs : List Rv} {Q : A → Heap → Prop} {st : St} {t : Tm} (hk : t.kids = []) (hok : r_ st rs) (hg : Goes H st.ext) (hr : resRaw st rs = some (.agg (t.row.map .d)))
    (hq : ∀ x, Q (.agg ((srow t x).map .d)) (st.ext ++ [ktree t x])) : FinG H rs Q .ret st := by
  obtain ⟨k, n, s, l⟩ := t
  obtain rfl : l = [] := hk
  exact finG_ret _ hok hg hr fun kv => ⟨_, _, _, [], [], .one (.agg (.cons (.leaf rfl) (.cons (.leaf rfl) (.cons (.leaf rfl) (.cons .nil .nil))))), rfl, rfl, by simp, hq _⟩
/-- the reader's functions at so many steps -/
structure Pro (s : List UInt8) (f : Nat) : Prop where
  term : ∀ (l d a : Nat) (r : Rs), a ≤ s.length → l ≤ 3 → d ≤ 2000000 → rp s f (.term l d a) = some r → Rdo 51 [.c (.d (.int .i64 l)), .c (.d (.int .i64 d))] s a r
  prime : ∀ (d a : Nat) (r : Rs), a ≤ s.length → d ≤ 2000000 → rp s f (.prime d a) = some r → Rdo 85 [.c (.d (.int .i64 d))] s a r
theorem rqo_ok {H : Heap} {i : Nat} {s : List UInt8} {t : Tm} {k : Nat} {x : Value} (ht : t.fits) : RQo H i s (.ok [t] k) (.agg ((srow t x).map .d)) (ro H i s k (-1) ++ [ktree t x]) := ⟨t, x, k, -1, ⟨ht, rfl, rfl, rfl⟩, rfl, rfl⟩
theorem rqo_bad {H : Heap} {i : Nat} {s : List UInt8} {t : Tm} {a e : Nat} {x : Value} (ht : t.fits) (ha : a ≤ s.length) : RQo H i s (.bad e) (.agg ((srow t x).map .d)) (ro H i s a e ++ [ktree t x]) := ⟨t, x, a, e, ⟨ht, ha, rfl⟩, rfl, rfl⟩
section
variable {s : List UInt8} (hs : s.length ≤ 1000000) {f : Nat}
include hs
omit hs in
theorem partO_of (h : Pro s f) (d a : Nat) (r : Rs) (ha : a ≤ s.length) (hd : d ≤ 2000000) (hr : rp s f (.term 3 d a) = some r) : Rdo 120 [.c (.d (.int .i64 d))] s a r := fun H i hp htl h2 hi => by
  refine acallsG Tryz.func120 (by kernel_rfl) Own.ac120_ok fun hf => ?_
  rw [ro_len] at hf
  have hf1 := fun a' b' => ro_fits (s' := s) (a' := a') (b' := b') hf
  have hfr : ∀ a' b', Obs.fits (ro H i s a' b').length 0 (ro H i s a' b') := fun a' b' => by rw [ro_len]; exact hf1 a' b'
  have c1 := h.term 3 d a r ha (by omega) hd hr
  simp -implicitDefEqProofs [Own.ac120, ro_get hi, ro_len, Ref.re, go_sem, -List.set_cons_succ, -List.set_cons_zero]
  refine call_rdo c1 (by simp [A.portB, C.portB, D.leaf]) hp htl h2 hi (by simp [Ob.re, C.re]) hf ?_
  rintro t x a' b' hm
  simp -implicitDefEqProofs [srow, ro_len, hfr, go_sem, -List.set_cons_succ, -List.set_cons_zero]
  exact ⟨hf1 _ _, fin_tok 1 ⟨trivial, trivial⟩ (ro_goes htl i s a a' _ b' hi) rfl rfl ⟨t, x, a', b', hm, rfl, rfl⟩⟩
omit hs in
theorem strip_srow (t u : Tm) (x y : Value) : Strip ([t.row, u.row] : List (List D)).flatten ([srow t x, srow u y] : List (List D)).flatten [ktree t x, ktree u y] := strip_two t u x y
/-- what a cell says of its term's array -/
def Cv (t : Tm) (c : C) (l2 : Heap) : Prop := ∀ v, ∃ I, OutC (l2.map Ob.lf) v (c.down 2) (.d (.v v)) [ktree t v] I ∧ I.Nodup ∧ ∀ j ∈ I, ∃ o, l2[j]? = some o ∧ o.isRT = true
omit hs in
theorem cv_tok (t : Tm) (x : Value) : Cv t (.d (.v x)) [ktree t x] := fun v => ⟨[0], .tree rfl, by simp, fun j hj => by
  rw [List.mem_singleton.1 hj]; exact ⟨_, rfl, rfl⟩⟩
omit hs in
theorem cv_two (n : List UInt8) (t u : Tm) (x y : Value) (cs : List C) : Cv (.mk 3 0 n [t, u]) (.fsl (.l 5) 2 4) [ktree t x, ktree u y, .cells cs, .rows [srow t x, srow u y]] := fun v => by
  refine ⟨[3, 0, 1], .fsl (i := 3) (rows := [srow t x, srow u y]) (trs := [ktree t x, ktree u y]) (js := [0, 1]) rfl (strip_srow t u x y) (by simp [Tm.kids, row_len, srow]) (fun m hm => ?_), by simp, fun j hj => ?_⟩
  · match m, hm with
    | 0, _ => exact ⟨0, rfl, rfl⟩
    | 1, _ => exact ⟨1, rfl, rfl⟩
  · simp at hj
    rcases hj with rfl | rfl | rfl
    · exact ⟨_, rfl, rfl⟩
    · exact ⟨_, rfl, rfl⟩
    · exact ⟨_, rfl, rfl⟩
omit hs in
theorem slR_of_get {ks : List Nat} : ∀ {l r : List A}, l.length = r.length → (∀ (i : Nat) a b, l[i]? = some a → r[i]? = some b → A.le a (b.ren ks)) → SlR ks l r
  | [], [], _, _ => trivial
  | [], _ :: _, h, _ => by simp at h
  | _ :: _, [], h, _ => by simp at h
  | a :: l, b :: r, h, hg => ⟨hg 0 a b rfl rfl, slR_of_get (by simpa using h) fun i a b h1 h2 => hg (i + 1) a b (by simpa using h1) (by simpa using h2)⟩
omit hs in
theorem ren_low {n : Nat} {ks : List Nat} (h0 : ks[0]? = some 0) : (∀ r : Ref, r.lo n 1 → r.ren ks = r) := fun r hr => by
  cases r with
  | e b => rfl
  | l i =>
    have : i = 0 := by have : i < 1 := hr; omega
    subst this
    simp [Ref.ren, List.getD, h0]
omit hs in
theorem cren_low {n : Nat} {ks : List Nat} (h0 : ks[0]? = some 0) {c : C} (h : c.lo n 1) : c.ren ks = c := by
  have hr := ren_low (n := n) h0
  cases c <;> simp only [C.ren, C.lo] at h ⊢ <;> first | rfl | (rw [hr _ h]) | skip
  rename_i f caps
  congr 1
  conv => rhs; rw [← List.map_id caps]
  exact List.map_congr_left fun x hx => by rw [hr _ (h x hx)]; rfl
omit hs in
theorem csren_low {n : Nat} {ks : List Nat} (h0 : ks[0]? = some 0) : ∀ {cs : List C}, Cs.lo n 1 cs → cs.map (C.ren ks) = cs
  | [], _ => rfl
  | c :: l, h => by rw [List.map_cons, cren_low h0 h.1, csren_low h0 h.2]
omit hs in
mutual
theorem aren_low {n : Nat} {ks : List Nat} (h0 : ks[0]? = some 0) : ∀ {a : A}, a.lo n 1 → a.ren ks = a
  | .u, _ => rfl
  | .c x, h => by rw [A.ren, cren_low h0 h]
  | .agg cs, h => by rw [A.ren, csren_low h0 h]
  | .tup vs, h => by rw [A.ren, asren_low h0 h]
  | .gd g x, h => by
    have := aren_low h0 (a := x) h
    simp only [A.ren, this]
theorem asren_low {n : Nat} {ks : List Nat} (h0 : ks[0]? = some 0) : ∀ {l : List A}, As.lo n 1 l → A.rens ks l = l
  | [], _ => rfl
  | a :: l, h => by rw [A.rens, aren_low h0 h.1, asren_low h0 h.2]
end
omit hs in
theorem aslo_up {n m m' : Nat} (h : m ≤ m') : ∀ {c : C}, c.lo n m → c.lo n m' := fun {c} hc => by
  have hr : ∀ r : Ref, r.lo n m → r.lo n m' := fun r hr => by
    cases r with
    | e b => exact hr
    | l i => have : i < m := hr; show i < m'; omega
  cases c <;> first | exact hr _ hc | trivial | exact fun x hx => hr _ (hc x hx)
omit hs in
theorem cslo_up {n m m' : Nat} (h : m ≤ m') : ∀ {cs : List C}, Cs.lo n m cs → Cs.lo n m' cs
  | [], _ => trivial
  | c :: l, hc => ⟨aslo_up h hc.1, cslo_up h hc.2⟩
omit hs in
mutual
theorem alo_up {n m m' : Nat} (h : m ≤ m') : ∀ {a : A}, a.lo n m → a.lo n m'
  | .u, _ => trivial
  | .c x, hc => aslo_up h hc
  | .agg cs, hc => cslo_up h hc
  | .tup vs, hc => alos_up h hc
  | .gd g x, hc => alo_up h (a := x) hc
theorem alos_up {n m m' : Nat} (h : m ≤ m') : ∀ {l : List A}, As.lo n m l → As.lo n m' l
  | [], _ => trivial
  | a :: l, hc => ⟨alo_up h hc.1, alos_up h hc.2⟩
end
omit hs in
/-- a tree is put behind the cells -/
theorem le_swap {sl : List A} {ext : Heap} {c1 c2 : List C} {v : Value} {d : List (List D)} (p : Nat) (hp : sl[p]? = some (.c (.ptr (.l 2) 0))) (hlo : As.lo ext.length 1 (sl.set p .u)) (h1 : Cs.lo ext.length 1 c1) (h2 : Cs.lo ext.length 1 c2) :
    St.le ⟨sl, ext, [.cells c1, .tree v d, .cells c2]⟩ ⟨sl.set p (.c (.ptr (.l 1) 0)), ext, [.cells c1, .cells c2, .tree v d]⟩ := by
  have hplt := (List.getElem?_eq_some_iff.1 hp).1
  refine St.le_keep [0, 2, 1] (by decide) (by simp) rfl (slR_of_get (by simp) fun i a b ha hb => ?_) ?_ (fun j o ho => ?_) ⟨cslo_up (by simp) h1, cslo_up (by simp) h2, trivial, trivial⟩
  · by_cases hip : i = p
    · subst hip
      rw [hp] at ha
      rw [List.getElem?_set_self hplt] at hb
      cases ha; cases hb
      exact .refl _
    · rw [List.getElem?_set_ne (by omega)] at hb
      rw [ha] at hb; cases hb
      have : (sl.set p .u)[i]? = some a := by rw [List.getElem?_set_ne (by omega)]; exact ha
      rw [aren_low (n := ext.length) rfl (As_lo_get hlo this)]
      exact .refl _
  · have : ∀ (l : List A) (p : Nat), As.lo ext.length 3 (l.set p .u) → As.lo ext.length 3 (l.set p (.c (.ptr (.l 1) 0))) := by
      intro l
      induction l with
      | nil => intro p h; exact h
      | cons a l ih =>
        intro p h
        cases p with
        | zero => exact ⟨show (1 : Nat) < 3 by decide, h.2⟩
        | succ p => exact ⟨h.1, ih p h.2⟩
    exact this sl p (alos_up (by decide) hlo)
  · match j with
    | 0 => simp at ho; subst ho; exact ⟨_, rfl, by rw [Ob.ren, csren_low (n := ext.length) rfl h1]; exact .refl _⟩
    | 1 => simp at ho; subst ho; exact ⟨_, rfl, by rw [Ob.ren, csren_low (n := ext.length) rfl h2]; exact .refl _⟩
    | 2 => simp at ho; subst ho; exact ⟨_, rfl, .refl _⟩
    | j + 3 => simp at ho
omit hs in
/-- the cell's array becomes a tree -/
theorem weak_cv {P : Program} {F : Ex → St → Prop} {fs : List Fr} {cd : Cd} {sl : List A} {ext : Heap} {z : Ob} {t : Tm} {c : C} {l2 : Heap} (hcv : Cv t c l2) (hsl : As.lo ext.length 2 sl) (hz : Ob.lo ext.length 2 z)
    (h' : ∀ v, aw P cd (kq P F fs) ⟨sl, ext, [z, .cells [.d (.int .i64 t.k), .d (.int .i64 t.n), .d (.str t.s), .d (.v v)], ktree t v]⟩) : aw P (.weak cd) (kq P F fs) ⟨sl, ext, z :: .cells [.d (.int .i64 t.k), .d (.int .i64 t.n), .d (.str t.s), c] :: l2⟩ :=
  weak_to (fun st' => ∃ v, st' = ⟨sl, ext, [z, .cells [.d (.int .i64 t.k), .d (.int .i64 t.n), .d (.str t.s), .d (.v v)], ktree t v]⟩)
    (St.leTo_cell (l1 := [z, .cells [.d (.int .i64 t.k), .d (.int .i64 t.n), .d (.str t.s), c]]) (l2 := l2) 1 3 _ c rfl rfl hsl ⟨hz, ⟨trivial, trivial, trivial, trivial, trivial⟩, trivial⟩ fun v => by
      obtain ⟨I, h1, h2, h3⟩ := hcv v
      exact ⟨.d (.v v), [ktree t v], I, [], [], h1, rfl, rfl, by simpa using h2, h3, v, rfl⟩)
    fun st' ⟨v, hv⟩ => by rw [hv]; exact h' v
set_option maxHeartbeats 3200000 in
theorem termO_of (h : ∀ g, g ≤ f → Pro s g) (l d a : Nat) (r : Rs) (ha : a ≤ s.length) (hl : l ≤ 3) (hd : d ≤ 2000000) (hr : rp s (f + 1) (.term l d a) = some r) : Rdo 51 [.c (.d (.int .i64 l)), .c (.d (.int .i64 d))] s a r := fun H i hp htl h2 hi => by
  refine acallsG Tryz.func51 (by kernel_rfl) Own.ac51_ok fun hf => ?_
  rw [ro_len] at hf
  have hf1 := fun a' b' => ro_fits (s' := s) (a' := a') (b' := b') hf
  have hfr : ∀ a' b', Obs.fits (ro H i s a' b').length 0 (ro H i s a' b') := fun a' b' => by rw [ro_len]; exact hf1 a' b'
  have hg0 := fun a' b' => ro_goes htl i s a a' (-1) b' hi
  have hr : thn (rp s f (.prime d a)) (fun ts j => rp s f (.loop (Rs.tm ts) 0 l d j)) = some r := hr
  obtain ⟨w, hw⟩ : ∃ w, rp s f (.prime d a) = some w := by
    rcases thn_some hr with ⟨e, h1, _⟩ | ⟨ts, j, h1, _⟩
    · exact ⟨_, h1⟩
    · exact ⟨_, h1⟩
  have c1 := (h f (Nat.le_refl _)).prime d a w ha hd hw
  have p1 := rp_post hs (j := .prime d a) ha hw
  simp -implicitDefEqProofs [Own.ac51, ro_get hi, ro_len, Ref.re, go_sem, -List.set_cons_succ, -List.set_cons_zero]
  refine call_rdo c1 (by simp [A.portB, C.portB, D.leaf]) hp htl h2 hi (by simp [Ob.re, C.re]) hf ?_
  rintro t x a' b' ⟨ht, hm⟩
  simp -implicitDefEqProofs [srow, ro_len, hf1, hfr, go_sem, -List.set_cons_succ, -List.set_cons_zero]
  refine loop_enter (le_swap 7 rfl (by simp [Sl.le, A.le_refl_iff, A.le_u_iff, As.lo, A.lo, C.lo, Ref.lo, Cs.lo, Obs.lo, Ob.lo, setAll, and_true, true_and, List.length_nil, List.length_cons, hi, ro_len]) (by simp [Sl.le, A.le_refl_iff, A.le_u_iff, As.lo, A.lo, C.lo, Ref.lo, Cs.lo, Obs.lo, Ob.lo, setAll, and_true, true_and, List.length_nil, List.length_cons]) (by simp [Sl.le, A.le_refl_iff, A.le_u_iff, As.lo, A.lo, C.lo, Ref.lo, Cs.lo, Obs.lo, Ob.lo, setAll, and_true, true_and, List.length_nil, List.length_cons])) ?_
  simp -implicitDefEqProofs [go_sem, -List.set_cons_succ, -List.set_cons_zero]
  refine loop_set (σ := Tm × C × Heap × Nat × Nat × Int × Nat) (fun x => [(8, .c (.d (.int .i64 x.2.2.2.1)))]) (fun x => ro H i s x.2.2.2.2.1 x.2.2.2.2.2.1)
    (fun x => [.cells [.d (.int .i64 0), .d (.int .i64 0), .d (.str []), .full []], .cells [.d (.int .i64 x.1.k), .d (.int .i64 x.1.n), .d (.str x.1.s), x.2.1]] ++ x.2.2.1)
    (fun x => x.1.fits ∧ Cv x.1 x.2.1 x.2.2.1 ∧ x.2.2.2.1 ≤ 3 ∧ x.2.2.2.2.1 ≤ s.length ∧ ((x.2.2.2.2.2.1 = -1 ∧ x.2.2.2.2.2.2 ≤ f ∧ rp s x.2.2.2.2.2.2 (.loop x.1 x.2.2.2.1 l d x.2.2.2.2.1) = some r) ∨ ∃ e : Nat, x.2.2.2.2.2.1 = e ∧ r = .bad e))
    (fun x => if x.2.2.2.2.2.1 < 0 then x.2.2.2.2.2.2 + 1 else 0) (t, .d (.v x), [ktree t x], 0, a', b', f) (by simp [setAll, ktree]) ?_ ?_
  · refine ⟨ht, cv_tok t x, Nat.zero_le _, ?_⟩
    rw [hw] at hr
    cases w with
    | bad e =>
      obtain ⟨g1, g2⟩ := hm
      cases hr
      exact ⟨g1, .inr ⟨e, g2, rfl⟩⟩
    | ok ts k =>
      obtain ⟨g1, g2, g3⟩ := hm
      obtain ⟨q1, q2, q3⟩ := p1
      rw [thn_ok, ← g1, ← g2] at hr
      exact ⟨by show a' ≤ s.length; omega, .inl ⟨g3, Nat.le_refl _, hr⟩⟩
  · rintro ⟨t, c, l2, m, p, b, g⟩ ⟨htf, hcv, hm3, hpl, hst⟩
    simp only at htf hcv hm3 hpl hst
    simp -implicitDefEqProofs [setAll, ro_len, go_sem, -List.set_cons_succ, -List.set_cons_zero]
    refine weak_cv hcv (by simp [Sl.le, A.le_refl_iff, A.le_u_iff, As.lo, A.lo, C.lo, Ref.lo, Cs.lo, Obs.lo, Ob.lo, setAll, and_true, true_and, List.length_nil, List.length_cons, hi, ro_len]) (by simp [Sl.le, A.le_refl_iff, A.le_u_iff, As.lo, A.lo, C.lo, Ref.lo, Cs.lo, Obs.lo, Ob.lo, setAll, and_true, true_and, List.length_nil, List.length_cons]) fun v => ?_
    simp -implicitDefEqProofs [ro_len, go_sem, -List.set_cons_succ, -List.set_cons_zero]
    rcases hst with ⟨rfl, hg, hq⟩ | ⟨e, rfl, rfl⟩
    · cases g with
      | zero => cases hq
      | succ g =>
        have hq : pstep s (rp s g) (.loop t m l d p) = some r := hq
        simp only [pstep] at hq
        refine call_mv (operator_mv s hs p hpl) hp h2 hi (by simp [Ob.re, C.re, ktree]) rfl (hf1 _ _) ?_
        have hol := op_law hpl
        cases ho : opR s p with
        | none =>
          rw [ho] at hq
          cases hq
          have hv : opV s p = [] := by simp [opV, ho]
          rw [hv]
          simp -implicitDefEqProofs [ro_len, go_sem, -List.set_cons_succ, -List.set_cons_zero]
          refine qcall_pure (opLevel_calls []) (hfr _ _) rfl ?_
          simp -implicitDefEqProofs [hfr, hf1, go_sem, -List.set_cons_succ, -List.set_cons_zero]
          exact fin_tok 2 ⟨trivial, trivial⟩ (hg0 _ _) rfl rfl (rqo_ok htf)
        | some x =>
          obtain ⟨n, j⟩ := x
          rw [ho] at hq hol
          obtain ⟨o1, o2, o3⟩ := opR_ok hpl ho
          have hlv := opR_level ho
          have hj := hol.2
          have hv : opV s p = n := by simp [opV, ho]
          rw [hv]
          have hne : n ≠ [] := fun e => by rw [e] at hlv; exact absurd hlv.1 (by decide)
          have hne2 : (n == []) = false := by simp [hne]
          simp only at hq
          simp -implicitDefEqProofs [ro_len, hne, hne2, go_sem, -List.set_cons_succ, -List.set_cons_zero]
          refine qcall_pure (opLevel_calls n) (hfr _ _) rfl ?_
          simp -implicitDefEqProofs [ro_len, hne, hne2, go_sem, -List.set_cons_succ, -List.set_cons_zero]
          have hsp : (opSp n).length ≤ 1000 := by
            unfold opSp
            split
            · simp; omega
            · omega
          have hspi : inR .i64 ((opSp n).length : Int) := small_i64 (by omega) (by omega)
          have hpi : inR .i64 ((p : Int) + ((opSp n).length : Int)) := small_i64 (by omega) (by omega)
          refine ⟨fun h1 => ⟨h1, ?_⟩, fun h1 => ?_⟩
          · refine qcall_pure (leftMost_calls n) (hfr _ _) rfl ?_
            by_cases hlm : leftMost n < (m : Int)
            · rw [if_pos (.inr hlm)] at hq
              cases hq
              have h1' : ¬ (l : Int) < levelN n := by omega
              simp -implicitDefEqProofs [ro_len, hne, hne2, h1', hlm, hfr, hf1, go_sem, -List.set_cons_succ, -List.set_cons_zero]
              exact fin_tok 2 ⟨trivial, trivial⟩ (hg0 _ _) rfl rfl (rqo_ok htf)
            · have h1' : ¬ (l : Int) < levelN n := by omega
              rw [if_neg (by omega)] at hq
              simp -implicitDefEqProofs [ro_len, ro_get hi, hne, hne2, h1', hlm, hfr, go_sem, -List.set_cons_succ, -List.set_cons_zero]
              refine qcall_pure (opText_calls n (by omega)) (hfr _ _) rfl ?_
              simp -implicitDefEqProofs [ro_len, ro_get hi, ro_set1, hspi, hpi, Ref.re, hf1, hfr, go_sem, -List.set_cons_succ, -List.set_cons_zero]
              refine ⟨small_i64 (by omega) (by omega), ?_⟩
              obtain ⟨w2, hw2⟩ : ∃ w2, rp s g (.term (levelN n - 1).toNat d j) = some w2 := by
                rcases thn_some hq with ⟨e, q1, _⟩ | ⟨ts, j, q1, _⟩
                · exact ⟨_, q1⟩
                · exact ⟨_, q1⟩
              have c2 := (h g (by omega)).term (levelN n - 1).toNat d j w2 o2 (by omega) hd hw2
              have p2 := rp_post hs (j := .term (levelN n - 1).toNat d j) ⟨o2, by omega⟩ hw2
              have e1 : ((levelN n - 1).toNat : Int) = levelN n - 1 := by omega
              have e2 : ((levelN n).toNat : Int) = levelN n := by omega
              rw [e1, hj] at c2
              rw [hw2] at hq
              refine call_rdo c2 (by simp [A.portB, C.portB, D.leaf]) hp htl h2 hi (by simp [Ob.re, C.re, ktree]) (hf1 _ _) ?_
              rintro u y a3 b3 ⟨hu, hm2⟩
              have hst : (Tm.mk 3 0 n [t, u]).fits := fits_st o3 (by simp) (by simp [htf, hu])
              simp -implicitDefEqProofs [srow, ro_len, hfr, hf1, go_sem, -List.set_cons_succ, -List.set_cons_zero]
              refine loop_back (.mk 3 0 n [t, u], .fsl (.l 5) 2 4, [ktree t v, ktree u y, .cells [.d (.int .i64 u.k), .d (.int .i64 u.n), .d (.str u.s), .d (.v y)], .rows [srow t v, srow u y]], (levelN n).toNat, a3, b3, g) (by simp [setAll, srow, e2, Tm.k, Tm.n, Tm.s]) ⟨hst, cv_two n t u v y _, by show (levelN n).toNat ≤ 3; omega, ?_⟩ ?_
              · cases w2 with
                | bad e =>
                  obtain ⟨g1, g2⟩ := hm2
                  cases hq
                  exact ⟨g1, .inr ⟨e, g2, rfl⟩⟩
                | ok us k =>
                  obtain ⟨g1, g2, g3⟩ := hm2
                  obtain ⟨q1, q2, q3⟩ := p2
                  rw [thn_ok, ← g1, ← g2] at hq
                  exact ⟨by show a3 ≤ s.length; omega, .inl ⟨g3, by show g ≤ f; omega, hq⟩⟩
              · show (if b3 < 0 then g + 1 else 0) < (if (-1 : Int) < 0 then g + 1 + 1 else 0)
                rw [if_pos (by decide : (-1 : Int) < 0)]
                split <;> omega
          · rw [if_pos (.inl h1)] at hq
            cases hq
            simp -implicitDefEqProofs [ro_len, h1, hfr, hf1, go_sem, -List.set_cons_succ, -List.set_cons_zero]
            exact fin_tok 2 ⟨trivial, trivial⟩ (hg0 _ _) rfl rfl (rqo_ok htf)
    · refine call_mv (operator_bad s p e (by omega)) hp h2 hi (by simp [Ob.re, C.re, ktree]) rfl (hf1 _ _) ?_
      simp -implicitDefEqProofs [ro_len, go_sem, -List.set_cons_succ, -List.set_cons_zero]
      refine qcall_pure (opLevel_calls []) (hfr _ _) rfl ?_
      simp -implicitDefEqProofs [hfr, hf1, go_sem, -List.set_cons_succ, -List.set_cons_zero]
      exact fin_tok 2 ⟨trivial, trivial⟩ (hg0 _ _) rfl rfl (rqo_bad htf hpl)
end
end Go.Proofs.YtgfmlifkhpjplaaGreatDoor
