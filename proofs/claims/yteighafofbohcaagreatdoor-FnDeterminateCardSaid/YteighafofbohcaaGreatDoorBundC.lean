/-
  Contracts of functions that the law reaches, and plain lemmas: several texts in one.
  Conditions: none.
-/
import Derived.Test.YteighafofbohcaaGreatDoorBundB
import Derived.Test.YteighafofbohcaaGreatDoorBundA
import Derived.Test.YteighafofbohcaaGreatDoorAbsN
open Go Go.AM Go.Proofs
attribute [local go_sem] kw ew sw tw a_ b_ c_ A.ok A.val d_ e_ f_ g_ h_ i_ j_ k_ l_ m_ unA unD n_ AOp.total o_ p_ q_ r_ s_ t_ u_ v_ A.thaw C.thaw A.fits As.fits C.fits evs oks w_ A.pure C.pure A.re C.re x_ y_ cut A.cells C.rows? z_ A_ B_ C_ a0_ b0_ D_ Ob.re Cs.fits E_ F_ G_ H_ I_ J_ K_ L_ M_ N_ O_ C.toD P_ Q_ R_ S_ T_ Obs.fits U_ eqD V_ W_ X_ Y_ Z_
/-
  Terms as the reference writes them.
  Conditions: none.
-/
open Go Go.AM Go.Proofs
namespace Go.Proofs.YteighafofbohcaaGreatDoor
open Go.ChangeShapes Go.WideShapes Go.ChangeAt Go.RowKit
set_option linter.unusedVariables false
set_option linter.unusedSimpArgs false
set_option maxRecDepth 100000
-- 159 loop.example/prologserver/spec.l1Letter params 1 ntmps 8
def ac159 : Cd := .seq (.region [⟨(some 2),.mv (.k (.c (.d (.str [])))),none⟩] [2])
 (.seq (.region [⟨(some 3),.mv (.t 0),none⟩,
 ⟨(some 4),.cvInt .u8 (.t 3),none⟩,
 ⟨(some 5),.bin .add (.k (.c (.d (.int .u8 65)))) (.t 4),none⟩,
 ⟨(some 6),.buildSlice 1 1 [(.int .u8 0)] [(0,(.t 5))],none⟩,
 ⟨(some 7),.cvB2S (.t 6),none⟩,
 ⟨(some 2),.mv (.t 7),none⟩] [0,3,4,5,6,7])
 (.ret))
theorem ac159_ok : cFunc Tryz.prog [] [(0,[2],[]),(1,[0,3,4,5,6,7],[])] Tryz.f159 = some (ac159,[.tmp 2],8) := by kernel_rfl
-- 154 loop.example/prologserver/spec.l1Text params 1 ntmps 51
-- loop head live: [1,3,4]
def ac154 : Cd := .seq (.region [⟨(some 1),.box (.t 0),none⟩,
 ⟨(some 2),.mv (.k (.c (.d (.str [])))),none⟩] [0,2])
 (.seq (.seq (.region [⟨(some 5),.fieldAddr 0 (.t 1),none⟩,
 ⟨(some 6),.load none (.t 5),none⟩] [5])
 (.block 0 (.seq (.region [⟨(some 8),.bin .eql (.t 6) (.k (.c (.d (.int .i64 1)))),none⟩,
 ⟨(some 7),.mv (.t 8),none⟩] [8])
 (.cond (.t 7)
 (.seq (.region [⟨(some 9),.fieldAddr 1 (.t 1),none⟩,
 ⟨(some 10),.load none (.t 9),none⟩,
 ⟨(some 11),.qcall 159 [(.t 10)],none⟩,
 ⟨(some 2),.mv (.t 11),none⟩] [1,6,7,9,10,11])
 (.ret))
 (.seq (.region [⟨(some 13),.bin .eql (.t 6) (.k (.c (.d (.int .i64 2)))),none⟩,
 ⟨(some 12),.mv (.t 13),none⟩] [6,7,13])
 (.cond (.t 12)
 (.seq (.region [⟨(some 14),.fieldAddr 1 (.t 1),none⟩,
 ⟨(some 15),.load none (.t 14),none⟩,
 ⟨(some 16),.qcall 72 [(.t 15)],none⟩,
 ⟨(some 2),.mv (.t 16),none⟩] [1,12,14,15,16])
 (.ret))
 (.skip)))))))
 (.seq (.seq (.region [⟨(some 17),.load (some 4) (.t 1),none⟩,
 ⟨(some 18),.qcall 147 [(.t 17)],none⟩] [2,12,17])
 (.cond (.t 18)
 (.seq (.region [⟨(some 19),.load (some 4) (.t 1),none⟩,
 ⟨(some 20),.qcall 160 [(.t 19)],none⟩,
 ⟨(some 2),.mv (.t 20),none⟩] [1,18,19,20])
 (.ret))
 (.skip)))
 (.seq (.region [⟨(some 21),.fieldAddr 2 (.t 1),none⟩,
 ⟨(some 22),.load none (.t 21),none⟩,
 ⟨(some 3),.mv (.t 22),none⟩] [2,18,21,22])
 (.seq (.seq (.region [⟨(some 4),.mv (.k (.c (.d (.int .i64 0)))),none⟩] [])
 (.block 1 (.loop (.seq (.seq (.region [⟨(some 23),.mv (.t 4),none⟩,
 ⟨(some 24),.fieldAddr 3 (.t 1),none⟩,
 ⟨(some 25),.load none (.t 24),none⟩,
 ⟨(some 26),.len 1 (.t 25),none⟩,
 ⟨(some 27),.bin .lss (.t 23) (.t 26),none⟩] [23,24,25,26])
 (.cond (.t 27)
 (.skip)
 (.exit 1)))
 (.seq (.block 2 (.seq (.seq (.region [⟨(some 30),.mv (.t 4),none⟩,
 ⟨(some 31),.bin .eql (.t 30) (.k (.c (.d (.int .i64 0)))),none⟩] [27,30])
 (.cond (.t 31)
 (.region [⟨(some 32),.mv (.t 3),none⟩,
 ⟨(some 33),.bin .add (.t 32) (.k (.c (.d (.str [40])))),none⟩,
 ⟨(some 3),.mv (.t 33),none⟩] [31,32,33])
 (.region [⟨(some 34),.mv (.t 3),none⟩,
 ⟨(some 35),.bin .add (.t 34) (.k (.c (.d (.str [44])))),none⟩,
 ⟨(some 3),.mv (.t 35),none⟩] [31,34,35])))
 (.region [⟨(some 36),.mv (.t 3),none⟩,
 ⟨(some 37),.fieldAddr 3 (.t 1),none⟩,
 ⟨(some 38),.load none (.t 37),none⟩,
 ⟨(some 39),.mv (.t 4),none⟩,
 ⟨(some 40),.indexAddr 4 (.t 38) (.t 39),none⟩,
 ⟨(some 41),.load (some 4) (.t 40),none⟩,
 ⟨(some 42),.qcall 154 [(.t 41)],none⟩,
 ⟨(some 43),.bin .add (.t 36) (.t 42),none⟩,
 ⟨(some 3),.mv (.t 43),none⟩] [36,37,38,39,40,41,42,43])))
 (.region [⟨(some 28),.mv (.t 4),none⟩,
 ⟨(some 29),.bin .add (.t 28) (.k (.c (.d (.int .i64 1)))),none⟩,
 ⟨(some 4),.mv (.t 29),none⟩] [28,29]))))))
 (.seq (.seq (.region [⟨(some 44),.fieldAddr 3 (.t 1),none⟩,
 ⟨(some 45),.load none (.t 44),none⟩,
 ⟨(some 46),.len 1 (.t 45),none⟩,
 ⟨(some 47),.bin .gtr (.t 46) (.k (.c (.d (.int .i64 0)))),none⟩] [1,44,45,46])
 (.cond (.t 47)
 (.region [⟨(some 48),.mv (.t 3),none⟩,
 ⟨(some 49),.bin .add (.t 48) (.k (.c (.d (.str [41])))),none⟩,
 ⟨(some 3),.mv (.t 49),none⟩] [47,48,49])
 (.skip)))
 (.seq (.region [⟨(some 50),.mv (.t 3),none⟩,
 ⟨(some 2),.mv (.t 50),none⟩] [3,47,50])
 (.ret)))))))
theorem ac154_ok : cFunc Tryz.prog [1000072,1000147,1000154,1000159,1000160] [(0,[0,2],[]),(1,[5],[]),(2,[8],[]),(3,[1,6,7,9,10,11],[]),(4,[6,7,13],[]),(5,[1,12,14,15,16],[]),(6,[2,12,17],[]),(7,[1,18,19,20],[]),(8,[2,18,21,22],[]),(9,[],[]),(10,[23,24,25,26],[]),(12,[27,30],[]),(13,[31,32,33],[]),(14,[31,34,35],[]),(15,[36,37,38,39,40,41,42,43],[]),(11,[28,29],[]),(16,[1,44,45,46],[]),(17,[47,48,49],[]),(18,[3,47,50],[])] Tryz.f154 = some (ac154,[.tmp 2],51) := by kernel_rfl
-- 149 loop.example/prologserver/spec.l2Infix params 1 ntmps 18
def ac149 : Cd := .seq (.region [⟨(some 1),.box (.t 0),none⟩,
 ⟨(some 2),.mv (.k (.c (.d (.bool false)))),none⟩] [0,2])
 (.seq (.region [⟨(some 3),.fieldAddr 0 (.t 1),none⟩,
 ⟨(some 4),.load none (.t 3),none⟩,
 ⟨(some 5),.bin .eql (.t 4) (.k (.c (.d (.int .i64 3)))),none⟩,
 ⟨(some 6),.mv (.t 5),none⟩,
 ⟨(some 7),.fieldAddr 3 (.t 1),some (6,true)⟩,
 ⟨(some 8),.load none (.t 7),some (6,true)⟩,
 ⟨(some 9),.len 1 (.t 8),some (6,true)⟩,
 ⟨(some 10),.bin .eql (.t 9) (.k (.c (.d (.int .i64 2)))),some (6,true)⟩,
 ⟨(some 11),.pick (.t 6) (.t 10) (.k (.c (.d (.bool false)))),none⟩,
 ⟨(some 12),.mv (.t 11),none⟩,
 ⟨(some 13),.fieldAddr 2 (.t 1),some (12,true)⟩,
 ⟨(some 14),.load none (.t 13),some (12,true)⟩,
 ⟨(some 15),.qcall 67 [(.t 14)],some (12,true)⟩,
 ⟨(some 16),.bin .gtr (.t 15) (.k (.c (.d (.int .i64 0)))),some (12,true)⟩,
 ⟨(some 17),.pick (.t 12) (.t 16) (.k (.c (.d (.bool false)))),none⟩,
 ⟨(some 2),.mv (.t 17),none⟩] [1,3,4,5,6,7,8,9,10,11,12,13,14,15,16,17])
 (.ret))
theorem ac149_ok : cFunc Tryz.prog [1000067] [(0,[0,2],[]),(1,[1,3,4,5,6,7,8,9,10,11,12,13,14,15,16,17],[])] Tryz.f149 = some (ac149,[.tmp 2],18) := by kernel_rfl
-- 151 loop.example/prologserver/spec.l2Spaced params 1 ntmps 13
def ac151 : Cd := .seq (.region [⟨(some 2),.mv (.k (.c (.d (.str [])))),none⟩] [2])
 (.seq (.seq (.region [⟨(some 3),.mv (.t 0),none⟩,
 ⟨(some 4),.bin .eql (.t 3) (.k (.c (.d (.str [105,115])))),none⟩,
 ⟨(some 5),.mv (.t 4),none⟩,
 ⟨(some 6),.mv (.t 0),some (5,false)⟩,
 ⟨(some 7),.bin .eql (.t 6) (.k (.c (.d (.str [109,111,100])))),some (5,false)⟩,
 ⟨(some 8),.pick (.t 5) (.k (.c (.d (.bool true)))) (.t 7),none⟩] [3,4,5,6,7])
 (.cond (.t 8)
 (.seq (.region [⟨(some 9),.mv (.t 0),none⟩,
 ⟨(some 10),.bin .add (.k (.c (.d (.str [32])))) (.t 9),none⟩,
 ⟨(some 11),.bin .add (.t 10) (.k (.c (.d (.str [32])))),none⟩,
 ⟨(some 2),.mv (.t 11),none⟩] [0,8,9,10,11])
 (.ret))
 (.skip)))
 (.seq (.region [⟨(some 12),.mv (.t 0),none⟩,
 ⟨(some 2),.mv (.t 12),none⟩] [0,8,12])
 (.ret)))
theorem ac151_ok : cFunc Tryz.prog [] [(0,[2],[]),(1,[3,4,5,6,7],[]),(2,[0,8,9,10,11],[]),(3,[0,8,12],[])] Tryz.f151 = some (ac151,[.tmp 2],13) := by kernel_rfl
-- 157 loop.example/prologserver/spec.l2Bracket params 2 ntmps 20
def ac157 : Cd := .seq (.region [⟨(some 2),.box (.t 0),none⟩,
 ⟨(some 4),.mv (.k (.c (.d (.str [])))),none⟩] [0,4])
 (.seq (.seq (.region [⟨(some 5),.load (some 4) (.t 2),none⟩,
 ⟨(some 6),.qcall 149 [(.t 5)],none⟩,
 ⟨(some 7),.mv (.t 6),none⟩,
 ⟨(some 8),.fieldAddr 2 (.t 2),some (7,true)⟩,
 ⟨(some 9),.load none (.t 8),some (7,true)⟩,
 ⟨(some 10),.qcall 67 [(.t 9)],some (7,true)⟩,
 ⟨(some 11),.mv (.t 1),some (7,true)⟩,
 ⟨(some 12),.bin .gtr (.t 10) (.t 11),some (7,true)⟩,
 ⟨(some 13),.pick (.t 7) (.t 12) (.k (.c (.d (.bool false)))),none⟩] [1,5,6,7,8,9,10,11,12])
 (.cond (.t 13)
 (.seq (.region [⟨(some 14),.load (some 4) (.t 2),none⟩,
 ⟨(some 15),.qcall 141 [(.t 14)],none⟩,
 ⟨(some 16),.bin .add (.k (.c (.d (.str [40])))) (.t 15),none⟩,
 ⟨(some 17),.bin .add (.t 16) (.k (.c (.d (.str [41])))),none⟩,
 ⟨(some 4),.mv (.t 17),none⟩] [2,13,14,15,16,17])
 (.ret))
 (.skip)))
 (.seq (.region [⟨(some 18),.load (some 4) (.t 2),none⟩,
 ⟨(some 19),.qcall 141 [(.t 18)],none⟩,
 ⟨(some 4),.mv (.t 19),none⟩] [2,13,18,19])
 (.ret)))
theorem ac157_ok : cFunc Tryz.prog [1000067,1000141,1000149] [(0,[0,4],[]),(1,[1,5,6,7,8,9,10,11,12],[]),(2,[2,13,14,15,16,17],[]),(3,[2,13,18,19],[])] Tryz.f157 = some (ac157,[.tmp 4],20) := by kernel_rfl
-- 153 loop.example/prologserver/spec.l2Args params 1 ntmps 23
-- loop head live: [0,3,4]
def ac153 : Cd := .seq (.region [⟨(some 2),.mv (.k (.c (.d (.str [])))),none⟩] [2])
 (.seq (.region [⟨(some 3),.mv (.k (.c (.d (.str [])))),none⟩] [])
 (.seq (.seq (.region [⟨(some 4),.mv (.k (.c (.d (.int .i64 0)))),none⟩] [])
 (.block 0 (.loop (.seq (.seq (.region [⟨(some 5),.mv (.t 4),none⟩,
 ⟨(some 6),.mv (.t 0),none⟩,
 ⟨(some 7),.len 1 (.t 6),none⟩,
 ⟨(some 8),.bin .lss (.t 5) (.t 7),none⟩] [5,6,7])
 (.cond (.t 8)
 (.skip)
 (.exit 0)))
 (.seq (.block 1 (.seq (.seq (.region [⟨(some 11),.mv (.t 4),none⟩,
 ⟨(some 12),.bin .gtr (.t 11) (.k (.c (.d (.int .i64 0)))),none⟩] [8,11])
 (.cond (.t 12)
 (.region [⟨(some 13),.mv (.t 3),none⟩,
 ⟨(some 14),.bin .add (.t 13) (.k (.c (.d (.str [44])))),none⟩,
 ⟨(some 3),.mv (.t 14),none⟩] [12,13,14])
 (.skip)))
 (.region [⟨(some 15),.mv (.t 3),none⟩,
 ⟨(some 16),.mv (.t 0),none⟩,
 ⟨(some 17),.mv (.t 4),none⟩,
 ⟨(some 18),.indexAddr 4 (.t 16) (.t 17),none⟩,
 ⟨(some 19),.load (some 4) (.t 18),none⟩,
 ⟨(some 20),.qcall 141 [(.t 19)],none⟩,
 ⟨(some 21),.bin .add (.t 15) (.t 20),none⟩,
 ⟨(some 3),.mv (.t 21),none⟩] [12,15,16,17,18,19,20,21])))
 (.region [⟨(some 9),.mv (.t 4),none⟩,
 ⟨(some 10),.bin .add (.t 9) (.k (.c (.d (.int .i64 1)))),none⟩,
 ⟨(some 4),.mv (.t 10),none⟩] [9,10]))))))
 (.seq (.region [⟨(some 22),.mv (.t 3),none⟩,
 ⟨(some 2),.mv (.t 22),none⟩] [3,22])
 (.ret))))
theorem ac153_ok : cFunc Tryz.prog [1000141] [(0,[2],[]),(1,[],[]),(2,[],[]),(3,[5,6,7],[]),(5,[8,11],[]),(6,[12,13,14],[]),(7,[12,15,16,17,18,19,20,21],[]),(4,[9,10],[]),(8,[3,22],[])] Tryz.f153 = some (ac153,[.tmp 2],23) := by kernel_rfl
-- 148 loop.example/prologserver/spec.l2List params 1 ntmps 32
-- loop head live: [1,3]
def ac148 : Cd := .seq (.region [⟨(some 1),.box (.t 0),none⟩,
 ⟨(some 2),.mv (.k (.c (.d (.str [])))),none⟩] [0,2])
 (.seq (.region [⟨(some 4),.buildSlice 4 0 [(.int .i64 0),(.int .i64 0),(.str []),(.sl [])] [],none⟩,
 ⟨(some 3),.mv (.t 4),none⟩] [4])
 (.seq (.block 0 (.loop (.seq (.seq (.region [⟨(some 5),.load (some 4) (.t 1),none⟩,
 ⟨(some 6),.qcall 147 [(.t 5)],none⟩] [5])
 (.cond (.t 6)
 (.skip)
 (.exit 0)))
 (.block 1 (.seq (.region [⟨(some 7),.mv (.t 3),none⟩,
 ⟨(some 8),.fieldAddr 3 (.t 1),none⟩,
 ⟨(some 9),.load none (.t 8),none⟩,
 ⟨(some 10),.indexAddr 4 (.t 9) (.k (.c (.d (.int .i64 0)))),none⟩,
 ⟨(some 11),.load (some 4) (.t 10),none⟩,
 ⟨(some 12),.buildSlice 4 1 [(.int .i64 0),(.int .i64 0),(.str []),(.sl [])] [(0,(.t 11))],none⟩,
 ⟨(some 13),.append false 4 (.t 7) (.t 12),none⟩,
 ⟨(some 3),.mv (.t 13),none⟩] [6,7,8,9,10,11,12,13])
 (.region [⟨(some 14),.fieldAddr 3 (.t 1),none⟩,
 ⟨(some 15),.load none (.t 14),none⟩,
 ⟨(some 16),.indexAddr 4 (.t 15) (.k (.c (.d (.int .i64 1)))),none⟩,
 ⟨(some 17),.load (some 4) (.t 16),none⟩,
 ⟨none,.store 4 (.t 1) (.t 17),none⟩] [14,15,16,17]))))))
 (.seq (.seq (.region [⟨(some 18),.load (some 4) (.t 1),none⟩,
 ⟨(some 19),.qcall 155 [(.t 18)],none⟩] [18])
 (.cond (.t 19)
 (.seq (.region [⟨(some 20),.mv (.t 3),none⟩,
 ⟨(some 21),.qcall 153 [(.t 20)],none⟩,
 ⟨(some 22),.bin .add (.k (.c (.d (.str [91])))) (.t 21),none⟩,
 ⟨(some 23),.bin .add (.t 22) (.k (.c (.d (.str [93])))),none⟩,
 ⟨(some 2),.mv (.t 23),none⟩] [1,3,19,20,21,22,23])
 (.ret))
 (.skip)))
 (.seq (.region [⟨(some 24),.mv (.t 3),none⟩,
 ⟨(some 25),.qcall 153 [(.t 24)],none⟩,
 ⟨(some 26),.bin .add (.k (.c (.d (.str [91])))) (.t 25),none⟩,
 ⟨(some 27),.bin .add (.t 26) (.k (.c (.d (.str [124])))),none⟩,
 ⟨(some 28),.load (some 4) (.t 1),none⟩,
 ⟨(some 29),.qcall 141 [(.t 28)],none⟩,
 ⟨(some 30),.bin .add (.t 27) (.t 29),none⟩,
 ⟨(some 31),.bin .add (.t 30) (.k (.c (.d (.str [93])))),none⟩,
 ⟨(some 2),.mv (.t 31),none⟩] [1,3,19,24,25,26,27,28,29,30,31])
 (.ret)))))
theorem ac148_ok : cFunc Tryz.prog [1000141,1000147,1000153,1000155] [(0,[0,2],[]),(1,[4],[]),(2,[5],[]),(3,[6,7,8,9,10,11,12,13],[]),(4,[14,15,16,17],[]),(5,[18],[]),(6,[1,3,19,20,21,22,23],[]),(7,[1,3,19,24,25,26,27,28,29,30,31],[0,1,2,3,4,5,6,7,8])] Tryz.f148 = some (ac148,[.tmp 2],32) := by kernel_rfl
-- 156 loop.example/prologserver/spec.l2Sole params 1 ntmps 18
def ac156 : Cd := .seq (.region [⟨(some 1),.box (.t 0),none⟩,
 ⟨(some 2),.mv (.k (.c (.d (.bool false)))),none⟩] [0,2])
 (.seq (.region [⟨(some 3),.fieldAddr 0 (.t 1),none⟩,
 ⟨(some 4),.load none (.t 3),none⟩,
 ⟨(some 5),.bin .eql (.t 4) (.k (.c (.d (.int .i64 3)))),none⟩,
 ⟨(some 6),.mv (.t 5),none⟩,
 ⟨(some 7),.fieldAddr 3 (.t 1),some (6,true)⟩,
 ⟨(some 8),.load none (.t 7),some (6,true)⟩,
 ⟨(some 9),.len 1 (.t 8),some (6,true)⟩,
 ⟨(some 10),.bin .eql (.t 9) (.k (.c (.d (.int .i64 0)))),some (6,true)⟩,
 ⟨(some 11),.pick (.t 6) (.t 10) (.k (.c (.d (.bool false)))),none⟩,
 ⟨(some 12),.mv (.t 11),none⟩,
 ⟨(some 13),.fieldAddr 2 (.t 1),some (12,true)⟩,
 ⟨(some 14),.load none (.t 13),some (12,true)⟩,
 ⟨(some 15),.qcall 67 [(.t 14)],some (12,true)⟩,
 ⟨(some 16),.bin .gtr (.t 15) (.k (.c (.d (.int .i64 0)))),some (12,true)⟩,
 ⟨(some 17),.pick (.t 12) (.t 16) (.k (.c (.d (.bool false)))),none⟩,
 ⟨(some 2),.mv (.t 17),none⟩] [1,3,4,5,6,7,8,9,10,11,12,13,14,15,16,17])
 (.ret))
theorem ac156_ok : cFunc Tryz.prog [1000067] [(0,[0,2],[]),(1,[1,3,4,5,6,7,8,9,10,11,12,13,14,15,16,17],[])] Tryz.f156 = some (ac156,[.tmp 2],18) := by kernel_rfl
-- 158 loop.example/prologserver/spec.l2Plain params 1 ntmps 29
def ac158 : Cd := .seq (.region [⟨(some 2),.mv (.k (.c (.d (.bool false)))),none⟩] [2])
 (.seq (.region [⟨(some 3),.mv (.t 0),none⟩,
 ⟨(some 4),.qcall 146 [(.t 3),(.k (.c (.d (.int .i64 0))))],none⟩,
 ⟨(some 5),.mv (.t 4),none⟩,
 ⟨(some 6),.mv (.t 0),some (5,false)⟩,
 ⟨(some 7),.qcall 137 [(.t 6),(.k (.c (.d (.int .i64 0))))],some (5,false)⟩,
 ⟨(some 8),.pick (.t 5) (.k (.c (.d (.bool true)))) (.t 7),none⟩,
 ⟨(some 9),.mv (.t 8),none⟩,
 ⟨(some 10),.mv (.t 0),some (9,false)⟩,
 ⟨(some 11),.index (.t 10) (.k (.c (.d (.int .i64 0)))),some (9,false)⟩,
 ⟨(some 12),.bin .geq (.t 11) (.k (.c (.d (.int .u8 65)))),some (9,false)⟩,
 ⟨(some 13),.mv (.t 12),some (9,false)⟩,
 ⟨(some 14),.mv (.t 0),some (13,true)⟩,
 ⟨(some 15),.index (.t 14) (.k (.c (.d (.int .i64 0)))),some (13,true)⟩,
 ⟨(some 16),.bin .leq (.t 15) (.k (.c (.d (.int .u8 90)))),some (13,true)⟩,
 ⟨(some 17),.pick (.t 13) (.t 16) (.k (.c (.d (.bool false)))),some (9,false)⟩,
 ⟨(some 18),.pick (.t 9) (.k (.c (.d (.bool true)))) (.t 17),none⟩,
 ⟨(some 19),.mv (.t 18),none⟩,
 ⟨(some 20),.mv (.t 0),some (19,false)⟩,
 ⟨(some 21),.index (.t 20) (.k (.c (.d (.int .i64 0)))),some (19,false)⟩,
 ⟨(some 22),.bin .eql (.t 21) (.k (.c (.d (.int .u8 91)))),some (19,false)⟩,
 ⟨(some 23),.pick (.t 19) (.k (.c (.d (.bool true)))) (.t 22),none⟩,
 ⟨(some 24),.mv (.t 23),none⟩,
 ⟨(some 25),.mv (.t 0),some (24,false)⟩,
 ⟨(some 26),.index (.t 25) (.k (.c (.d (.int .i64 0)))),some (24,false)⟩,
 ⟨(some 27),.bin .eql (.t 26) (.k (.c (.d (.int .u8 40)))),some (24,false)⟩,
 ⟨(some 28),.pick (.t 24) (.k (.c (.d (.bool true)))) (.t 27),none⟩,
 ⟨(some 2),.mv (.t 28),none⟩] [0,3,4,5,6,7,8,9,10,11,12,13,14,15,16,17,18,19,20,21,22,23,24,25,26,27,28])
 (.ret))
theorem ac158_ok : cFunc Tryz.prog [1000137,1000146] [(0,[2],[]),(1,[0,3,4,5,6,7,8,9,10,11,12,13,14,15,16,17,18,19,20,21,22,23,24,25,26,27,28],[])] Tryz.f158 = some (ac158,[.tmp 2],29) := by kernel_rfl
-- 150 loop.example/prologserver/spec.l2Left params 2 ntmps 14
def ac150 : Cd := .seq (.region [⟨(some 2),.box (.t 0),none⟩,
 ⟨(some 4),.mv (.k (.c (.d (.str [])))),none⟩] [0,4])
 (.seq (.seq (.region [⟨(some 5),.load (some 4) (.t 2),none⟩,
 ⟨(some 6),.qcall 156 [(.t 5)],none⟩] [5])
 (.cond (.t 6)
 (.seq (.region [⟨(some 7),.load (some 4) (.t 2),none⟩,
 ⟨(some 8),.qcall 141 [(.t 7)],none⟩,
 ⟨(some 9),.bin .add (.k (.c (.d (.str [40])))) (.t 8),none⟩,
 ⟨(some 10),.bin .add (.t 9) (.k (.c (.d (.str [41])))),none⟩,
 ⟨(some 4),.mv (.t 10),none⟩] [1,2,6,7,8,9,10])
 (.ret))
 (.skip)))
 (.seq (.region [⟨(some 11),.load (some 4) (.t 2),none⟩,
 ⟨(some 12),.mv (.t 1),none⟩,
 ⟨(some 13),.qcall 157 [(.t 11),(.t 12)],none⟩,
 ⟨(some 4),.mv (.t 13),none⟩] [1,2,6,11,12,13])
 (.ret)))
theorem ac150_ok : cFunc Tryz.prog [1000141,1000156,1000157] [(0,[0,4],[]),(1,[5],[]),(2,[1,2,6,7,8,9,10],[]),(3,[1,2,6,11,12,13],[])] Tryz.f150 = some (ac150,[.tmp 4],14) := by kernel_rfl
-- 152 loop.example/prologserver/spec.l2Right params 2 ntmps 20
def ac152 : Cd := .seq (.region [⟨(some 2),.box (.t 0),none⟩,
 ⟨(some 4),.mv (.k (.c (.d (.str [])))),none⟩] [0,4])
 (.seq (.region [⟨(some 6),.load (some 4) (.t 2),none⟩,
 ⟨(some 7),.mv (.t 1),none⟩,
 ⟨(some 8),.qcall 157 [(.t 6),(.t 7)],none⟩,
 ⟨(some 5),.mv (.t 8),none⟩] [1,6,7,8])
 (.seq (.seq (.region [⟨(some 9),.load (some 4) (.t 2),none⟩,
 ⟨(some 10),.qcall 156 [(.t 9)],none⟩,
 ⟨(some 11),.mv (.t 10),none⟩,
 ⟨(some 12),.mv (.t 5),some (11,false)⟩,
 ⟨(some 13),.qcall 158 [(.t 12)],some (11,false)⟩,
 ⟨(some 14),.un .not (.t 13),some (11,false)⟩,
 ⟨(some 15),.pick (.t 11) (.k (.c (.d (.bool true)))) (.t 14),none⟩] [2,9,10,11,12,13,14])
 (.cond (.t 15)
 (.seq (.region [⟨(some 16),.mv (.t 5),none⟩,
 ⟨(some 17),.bin .add (.k (.c (.d (.str [40])))) (.t 16),none⟩,
 ⟨(some 18),.bin .add (.t 17) (.k (.c (.d (.str [41])))),none⟩,
 ⟨(some 4),.mv (.t 18),none⟩] [5,15,16,17,18])
 (.ret))
 (.skip)))
 (.seq (.region [⟨(some 19),.mv (.t 5),none⟩,
 ⟨(some 4),.mv (.t 19),none⟩] [5,15,19])
 (.ret))))
theorem ac152_ok : cFunc Tryz.prog [1000156,1000157,1000158] [(0,[0,4],[]),(1,[1,6,7,8],[]),(2,[2,9,10,11,12,13,14],[]),(3,[5,15,16,17,18],[]),(4,[5,15,19],[])] Tryz.f152 = some (ac152,[.tmp 4],20) := by kernel_rfl
-- 141 loop.example/prologserver/spec.l2Text params 1 ntmps 57
def ac141 : Cd := .seq (.region [⟨(some 1),.box (.t 0),none⟩,
 ⟨(some 2),.mv (.k (.c (.d (.str [])))),none⟩] [0,2])
 (.seq (.block 0 (.seq (.region [⟨(some 6),.load (some 4) (.t 1),none⟩,
 ⟨(some 7),.qcall 147 [(.t 6)],none⟩,
 ⟨(some 5),.mv (.t 7),none⟩] [6,7])
 (.cond (.t 5)
 (.seq (.region [⟨(some 8),.load (some 4) (.t 1),none⟩,
 ⟨(some 9),.qcall 148 [(.t 8)],none⟩,
 ⟨(some 2),.mv (.t 9),none⟩] [1,5,8,9])
 (.ret))
 (.seq (.region [⟨(some 11),.load (some 4) (.t 1),none⟩,
 ⟨(some 12),.qcall 149 [(.t 11)],none⟩,
 ⟨(some 10),.mv (.t 12),none⟩] [5,11,12])
 (.cond (.t 10)
 (.seq (.region [⟨(some 13),.fieldAddr 2 (.t 1),none⟩,
 ⟨(some 14),.load none (.t 13),none⟩,
 ⟨(some 15),.qcall 67 [(.t 14)],none⟩,
 ⟨(some 3),.mv (.t 15),none⟩] [10,13,14,15])
 (.seq (.region [⟨(some 16),.mv (.t 3),none⟩,
 ⟨(some 4),.mv (.t 16),none⟩] [16])
 (.seq (.seq (.region [⟨(some 17),.mv (.t 3),none⟩,
 ⟨(some 18),.bin .eql (.t 17) (.k (.c (.d (.int .i64 3)))),none⟩] [17])
 (.cond (.t 18)
 (.region [⟨(some 4),.mv (.k (.c (.d (.int .i64 2)))),none⟩] [18])
 (.skip)))
 (.seq (.region [⟨(some 19),.fieldAddr 3 (.t 1),none⟩,
 ⟨(some 23),.mv (.t 4),none⟩,
 ⟨(some 25),.fieldAddr 2 (.t 1),none⟩,
 ⟨(some 29),.fieldAddr 3 (.t 1),none⟩,
 ⟨(some 33),.mv (.t 3),none⟩,
 ⟨(some 34),.bin .sub (.t 33) (.k (.c (.d (.int .i64 1)))),none⟩,
 ⟨(some 20),.load none (.t 19),none⟩,
 ⟨(some 21),.indexAddr 4 (.t 20) (.k (.c (.d (.int .i64 0)))),none⟩,
 ⟨(some 22),.load (some 4) (.t 21),none⟩,
 ⟨(some 24),.qcall 150 [(.t 22),(.t 23)],none⟩,
 ⟨(some 26),.load none (.t 25),none⟩,
 ⟨(some 27),.qcall 151 [(.t 26)],none⟩,
 ⟨(some 28),.bin .add (.t 24) (.t 27),none⟩,
 ⟨(some 30),.load none (.t 29),none⟩,
 ⟨(some 31),.indexAddr 4 (.t 30) (.k (.c (.d (.int .i64 1)))),none⟩,
 ⟨(some 32),.load (some 4) (.t 31),none⟩,
 ⟨(some 35),.qcall 152 [(.t 32),(.t 34)],none⟩,
 ⟨(some 36),.bin .add (.t 28) (.t 35),none⟩,
 ⟨(some 2),.mv (.t 36),none⟩] [1,3,4,18,19,20,21,22,23,24,25,26,27,28,29,30,31,32,33,34,35,36])
 (.ret)))))
 (.seq (.region [⟨(some 38),.fieldAddr 0 (.t 1),none⟩,
 ⟨(some 39),.load none (.t 38),none⟩,
 ⟨(some 40),.bin .eql (.t 39) (.k (.c (.d (.int .i64 3)))),none⟩,
 ⟨(some 41),.mv (.t 40),none⟩,
 ⟨(some 42),.fieldAddr 3 (.t 1),some (41,true)⟩,
 ⟨(some 43),.load none (.t 42),some (41,true)⟩,
 ⟨(some 44),.len 1 (.t 43),some (41,true)⟩,
 ⟨(some 45),.bin .gtr (.t 44) (.k (.c (.d (.int .i64 0)))),some (41,true)⟩,
 ⟨(some 46),.pick (.t 41) (.t 45) (.k (.c (.d (.bool false)))),none⟩,
 ⟨(some 37),.mv (.t 46),none⟩] [10,38,39,40,41,42,43,44,45,46])
 (.cond (.t 37)
 (.seq (.region [⟨(some 47),.fieldAddr 2 (.t 1),none⟩,
 ⟨(some 50),.fieldAddr 3 (.t 1),none⟩,
 ⟨(some 48),.load none (.t 47),none⟩,
 ⟨(some 49),.bin .add (.t 48) (.k (.c (.d (.str [40])))),none⟩,
 ⟨(some 51),.load none (.t 50),none⟩,
 ⟨(some 52),.qcall 153 [(.t 51)],none⟩,
 ⟨(some 53),.bin .add (.t 49) (.t 52),none⟩,
 ⟨(some 54),.bin .add (.t 53) (.k (.c (.d (.str [41])))),none⟩,
 ⟨(some 2),.mv (.t 54),none⟩] [1,37,47,48,49,50,51,52,53,54])
 (.ret))
 (.skip))))))))
 (.seq (.region [⟨(some 55),.load (some 4) (.t 1),none⟩,
 ⟨(some 56),.qcall 154 [(.t 55)],none⟩,
 ⟨(some 2),.mv (.t 56),none⟩] [1,37,55,56])
 (.ret)))
theorem ac141_ok : cFunc Tryz.prog [1000067,1000147,1000148,1000149,1000150,1000151,1000152,1000153,1000154] [(0,[0,2],[]),(1,[6,7],[]),(2,[1,5,8,9],[]),(3,[5,11,12],[]),(4,[10,13,14,15],[]),(5,[16],[]),(6,[17],[]),(7,[18],[]),(8,[1,3,4,18,19,20,21,22,23,24,25,26,27,28,29,30,31,32,33,34,35,36],[0,4,6,10,14,15,1,2,3,5,7,8,9,11,12,13,16,17,18]),(9,[10,38,39,40,41,42,43,44,45,46],[]),(10,[1,37,47,48,49,50,51,52,53,54],[0,3,1,2,4,5,6,7,8]),(11,[1,37,55,56],[])] Tryz.f141 = some (ac141,[.tmp 2],57) := by kernel_rfl
theorem u8_nat {m : Nat} (h : m < 256) : ((UInt8.ofNat m).toNat : Int) = m := by simp; omega
theorem b2s_byte {m : Nat} {K : A → St → Prop} {st : St} (h : m < 256) (hk : K (.c (.d (.str [UInt8.ofNat m]))) st) : B2SK true [[.int .u8 (m : Int)]] K st :=
  ⟨[UInt8.ofNat m], fun _ => by simp only [bytesRows, List.map_cons, List.map_nil, u8_nat h], hk⟩
theorem letter_calls (n : Nat) (h : n ≤ 25) (H : Heap) : ACalls Tryz.prog 159 [.c (.d (.int .i64 n))] H (fun r H' => H' = H ∧ r = .c (.d (.str [UInt8.ofNat (65 + n)]))) := by
  refine acalls Tryz.func159 (by kernel_rfl) ac159_ok fun hf => ?_
  have hw : IntKind.wrap .u8 (n : Int) = n := by simp [IntKind.wrap, IntKind.bits, IntKind.signed]; omega
  have hi : inR .u8 (65 + (n : Int)) := by simp [inR, IntKind.min, IntKind.max, IntKind.signed, IntKind.bits]; omega
  simp -implicitDefEqProofs [ac159, hw, hi, go_sem, -List.set_cons_succ, -List.set_cons_zero]
  have e : 65 + (n : Int) = ((65 + n : Nat) : Int) := by omega
  simp only [e]
  refine b2s_byte (by omega) ?_
  simp -implicitDefEqProofs [go_sem, -List.set_cons_succ, -List.set_cons_zero]
def infixB (t : Tm) : Bool := (decide (t.k = 3) && decide ((t.kids.length : Int) = 2)) && decide (0 < levelN t.s)
def soleB (t : Tm) : Bool := (decide (t.k = 3) && decide ((t.kids.length : Int) = 0)) && decide (0 < levelN t.s)
theorem infix_calls (t : Tm) (ht : t.fits) (H : Heap) : ACalls Tryz.prog 149 [.agg (t.row.map .d)] H (fun r H' => H' = H ∧ r = .c (.d (.bool (infixB t)))) := by
  obtain ⟨k, n, s, l⟩ := t
  obtain ⟨_, _, hs, hl, _⟩ := ht
  refine acalls Tryz.func149 (by kernel_rfl) ac149_ok fun hf => ?_
  have hli : inR .i64 (l.length : Int) := small_i64 (by omega) (by omega)
  by_cases hk : k = 3
  · by_cases h2 : l.length = 2
    · match l, h2 with
      | [a, b], _ =>
        have h22 : inR .i64 2 := small_i64 (by omega) (by omega)
        simp -implicitDefEqProofs [ac149, row_mk, hk, h22, go_sem, -List.set_cons_succ, -List.set_cons_zero]
        refine qcall_pure (level_calls s) hf rfl ?_
        simp -implicitDefEqProofs [infixB, Tm.k, Tm.kids, Tm.s, go_sem, -List.set_cons_succ, -List.set_cons_zero]
        exact decide_eq_decide.2 Iff.rfl
    · have h3 : ((l.length : Int) == 2) = false := by simpa using fun h => h2 (by omega)
      have h4 : ¬ (l.length : Int) = 2 := fun h => h2 (by omega)
      simp -implicitDefEqProofs [ac149, row_mk, hk, hli, h3, h4, infixB, Tm.k, Tm.kids, Tm.s, go_sem, -List.set_cons_succ, -List.set_cons_zero]
  · simp -implicitDefEqProofs [ac149, row_mk, hk, hli, infixB, Tm.k, Tm.kids, Tm.s, go_sem, -List.set_cons_succ, -List.set_cons_zero]
theorem sole_calls (t : Tm) (ht : t.fits) (H : Heap) : ACalls Tryz.prog 156 [.agg (t.row.map .d)] H (fun r H' => H' = H ∧ r = .c (.d (.bool (soleB t)))) := by
  obtain ⟨k, n, s, l⟩ := t
  obtain ⟨_, _, hs, hl, _⟩ := ht
  refine acalls Tryz.func156 (by kernel_rfl) ac156_ok fun hf => ?_
  have hli : inR .i64 (l.length : Int) := small_i64 (by omega) (by omega)
  by_cases hk : k = 3
  · cases l with
    | nil =>
      have h00 : inR .i64 0 := small_i64 (by omega) (by omega)
      simp -implicitDefEqProofs [ac156, row_mk, hk, h00, go_sem, -List.set_cons_succ, -List.set_cons_zero]
      refine qcall_pure (level_calls s) hf rfl ?_
      simp -implicitDefEqProofs [soleB, Tm.k, Tm.kids, Tm.s, go_sem, -List.set_cons_succ, -List.set_cons_zero]
      exact decide_eq_decide.2 Iff.rfl
    | cons a l =>
      have h3 : (((l.length : Int) + 1) == 0) = false := by simp; omega
      have h4 : ¬ (l.length : Int) + 1 = 0 := by omega
      have hl2 : inR .i64 ((l.length : Int) + 1) := by simpa using hli
      simp -implicitDefEqProofs [ac156, row_mk, hk, hl2, h3, h4, soleB, Tm.k, Tm.kids, Tm.s, go_sem, -List.set_cons_succ, -List.set_cons_zero]
  · simp -implicitDefEqProofs [ac156, row_mk, hk, hli, soleB, Tm.k, Tm.kids, Tm.s, go_sem, -List.set_cons_succ, -List.set_cons_zero]
theorem spaced_calls (s : List UInt8) (hl : 0 < levelN s) (H : Heap) : ACalls Tryz.prog 151 [.c (.d (.str s))] H (fun r H' => H' = H ∧ r = .c (.d (.str (opSp s)))) := by
  have hm : s ∈ [[61], [92, 61], [61, 61], [60], [62], [61, 60], [62, 61], [61, 58, 61], [105, 115], [43], [45], [42], [47, 47], [109, 111, 100]] := by
    unfold levelN at hl
    split at hl
    · rename_i h; simp [ops3] at h; rcases h with rfl | rfl | rfl | rfl | rfl | rfl | rfl | rfl | rfl <;> simp
    · split at hl
      · rename_i h; simp at h; rcases h with rfl | rfl <;> simp
      · split at hl
        · rename_i h; simp at h; rcases h with rfl | rfl | rfl <;> simp
        · omega
  refine acalls Tryz.func151 (by kernel_rfl) ac151_ok fun hf => ?_
  simp at hm
  rcases hm with rfl | rfl | rfl | rfl | rfl | rfl | rfl | rfl | rfl | rfl | rfl | rfl | rfl | rfl <;> simp -implicitDefEqProofs [ac151, opSp, lettersB, lowB, maxStr, go_sem, -List.set_cons_succ, -List.set_cons_zero]
/-- the text of a term is as it is said -/
def TxS (t : Tm) : Prop := ∀ H, ACalls Tryz.prog 141 [.agg (t.row.map .d)] H (fun r H' => H' = H ∧ r = .c (.d (.str t.wr)))
/-- a text, in brackets if its operator's level is above another one -/
def brk (t : Tm) (m : Int) : List UInt8 := if infixB t && decide (m < levelN t.s) then 40 :: t.wr ++ [41] else t.wr
theorem brk_len (t : Tm) (m : Int) : (brk t m).length ≤ t.wr.length + 2 := by
  unfold brk
  split <;> simp
theorem bracket_calls (t : Tm) (ht : t.fits) (hT : TxS t) (hw : t.wr.length ≤ 1000000) (m : Int) (H : Heap) : ACalls Tryz.prog 157 [.agg (t.row.map .d), .c (.d (.int .i64 m))] H (fun r H' => H' = H ∧ r = .c (.d (.str (brk t m)))) := by
  have c1 := infix_calls t ht
  unfold TxS at hT
  rw [row_eq] at c1 hT ⊢
  simp only [List.map_cons, List.map_nil] at c1 hT ⊢
  refine acalls Tryz.func157 (by kernel_rfl) ac157_ok fun hf => ?_
  simp -implicitDefEqProofs [ac157, go_sem, -List.set_cons_succ, -List.set_cons_zero]
  refine qcall_pure c1 hf rfl ?_
  cases hi : infixB t with
  | false =>
    simp -implicitDefEqProofs [go_sem, -List.set_cons_succ, -List.set_cons_zero]
    refine qcall_pure hT hf rfl ?_
    simp -implicitDefEqProofs [brk, hi, go_sem, -List.set_cons_succ, -List.set_cons_zero]
  | true =>
    simp -implicitDefEqProofs [go_sem, -List.set_cons_succ, -List.set_cons_zero]
    refine qcall_pure (level_calls t.s) hf rfl ?_
    simp -implicitDefEqProofs [go_sem, -List.set_cons_succ, -List.set_cons_zero]
    refine ⟨fun h => qcall_pure hT hf rfl ?_, fun h => qcall_pure hT hf rfl ?_⟩
    · simp -implicitDefEqProofs [brk, hi, h, maxStr, go_sem, -List.set_cons_succ, -List.set_cons_zero]
      omega
    · simp -implicitDefEqProofs [brk, hi, Int.not_lt.2 h, go_sem, -List.set_cons_succ, -List.set_cons_zero]
theorem left_calls (t : Tm) (ht : t.fits) (hT : TxS t) (hw : t.wr.length ≤ 1000000) (m : Int) (H : Heap) : ACalls Tryz.prog 150 [.agg (t.row.map .d), .c (.d (.int .i64 m))] H
    (fun r H' => H' = H ∧ r = .c (.d (.str (if soleB t then 40 :: t.wr ++ [41] else brk t m)))) := by
  have c1 := sole_calls t ht
  have c2 := bracket_calls t ht hT hw m
  unfold TxS at hT
  rw [row_eq] at c1 c2 hT ⊢
  simp only [List.map_cons, List.map_nil] at c1 c2 hT ⊢
  refine acalls Tryz.func150 (by kernel_rfl) ac150_ok fun hf => ?_
  simp -implicitDefEqProofs [ac150, go_sem, -List.set_cons_succ, -List.set_cons_zero]
  refine qcall_pure c1 hf rfl ?_
  cases hi : soleB t with
  | false =>
    simp -implicitDefEqProofs [go_sem, -List.set_cons_succ, -List.set_cons_zero]
    refine qcall_pure c2 hf rfl ?_
    simp -implicitDefEqProofs [go_sem, -List.set_cons_succ, -List.set_cons_zero]
  | true =>
    simp -implicitDefEqProofs [go_sem, -List.set_cons_succ, -List.set_cons_zero]
    refine qcall_pure hT hf rfl ?_
    simp -implicitDefEqProofs [maxStr, go_sem, -List.set_cons_succ, -List.set_cons_zero]
    omega
theorem byte_off {s : List UInt8} {i : Int} (b : UInt8) {K : A → St → Prop} {st : St} (hk : K (.c (.d (.int .u8 b.toNat))) st) : ByteK false s i K st := ⟨b, fun h => (by cases h), hk⟩
theorem small_at (b : UInt8) (r : List UInt8) (hl : r.length ≤ 4000000) (H : Heap) : ACalls Tryz.prog 146 [.c (.d (.str (b :: r))), .c (.d (.int .i64 0))] H (fun r H' => H' = H ∧ r = .c (.d (.bool (decide (97 ≤ b.toNat ∧ b.toNat ≤ 122))))) := by
  refine acalls Tryz.func146 (by kernel_rfl) ac146_ok fun hf => ?_
  have hli : inR .i64 ((r.length : Int) + 1) := small_i64 (by omega) (by omega)
  have hp : (0 : Int) < (r.length : Int) + 1 := by omega
  simp -implicitDefEqProofs [ac146, hli, hp, go_sem, -List.set_cons_succ, -List.set_cons_zero]
  refine byte_int b (by omega) (by simp) ?_
  by_cases h1 : (97 : Int) ≤ b.toNat
  · have h1' : 97 ≤ b.toNat := by omega
    simp -implicitDefEqProofs [h1, h1', go_sem, -List.set_cons_succ, -List.set_cons_zero]
    refine byte_int b (by omega) (by simp) ?_
    simp -implicitDefEqProofs [h1', go_sem, -List.set_cons_succ, -List.set_cons_zero]
    omega
  · have h1' : ¬ 97 ≤ b.toNat := by omega
    simp -implicitDefEqProofs [h1, h1', go_sem, -List.set_cons_succ, -List.set_cons_zero]
    refine byte_off b ?_
    simp -implicitDefEqProofs [h1', go_sem, -List.set_cons_succ, -List.set_cons_zero]
theorem digit_at (b : UInt8) (r : List UInt8) (hl : r.length ≤ 4000000) (H : Heap) : ACalls Tryz.prog 137 [.c (.d (.str (b :: r))), .c (.d (.int .i64 0))] H (fun r H' => H' = H ∧ r = .c (.d (.bool (decide (48 ≤ b.toNat ∧ b.toNat ≤ 57))))) := by
  refine acalls Tryz.func137 (by kernel_rfl) ac137_ok fun hf => ?_
  have hli : inR .i64 ((r.length : Int) + 1) := small_i64 (by omega) (by omega)
  have hp : (0 : Int) < (r.length : Int) + 1 := by omega
  simp -implicitDefEqProofs [ac137, hli, hp, go_sem, -List.set_cons_succ, -List.set_cons_zero]
  refine byte_int b (by omega) (by simp) ?_
  by_cases h1 : (48 : Int) ≤ b.toNat
  · have h1' : 48 ≤ b.toNat := by omega
    simp -implicitDefEqProofs [h1, h1', go_sem, -List.set_cons_succ, -List.set_cons_zero]
    refine byte_int b (by omega) (by simp) ?_
    simp -implicitDefEqProofs [h1', go_sem, -List.set_cons_succ, -List.set_cons_zero]
    omega
  · have h1' : ¬ 48 ≤ b.toNat := by omega
    simp -implicitDefEqProofs [h1, h1', go_sem, -List.set_cons_succ, -List.set_cons_zero]
    refine byte_off b ?_
    simp -implicitDefEqProofs [h1', go_sem, -List.set_cons_succ, -List.set_cons_zero]
theorem plain_calls (b : UInt8) (r : List UInt8) (hl : r.length ≤ 4000000) (H : Heap) : ACalls Tryz.prog 158 [.c (.d (.str (b :: r)))] H (fun r' H' => H' = H ∧ r' = .c (.d (.bool (plainC b)))) := by
  refine acalls Tryz.func158 (by kernel_rfl) ac158_ok fun hf => ?_
  simp -implicitDefEqProofs [ac158, go_sem, -List.set_cons_succ, -List.set_cons_zero]
  refine qcall_pure (small_at b r hl) hf rfl ?_
  have on : ∀ {K : A → St → Prop} {st : St}, K (.c (.d (.int .u8 b.toNat))) st → ByteK true (b :: r) 0 K st := fun hk => byte_int b (by omega) (by simp) hk
  by_cases h1 : 97 ≤ b.toNat ∧ b.toNat ≤ 122
  · have hp : plainC b = true := by simp [plainC, h1]
    simp -implicitDefEqProofs [h1, hp, go_sem, -List.set_cons_succ, -List.set_cons_zero]
    refine byte_off b ?_
    simp -implicitDefEqProofs [go_sem, -List.set_cons_succ, -List.set_cons_zero]
    refine byte_off b ?_
    simp -implicitDefEqProofs [go_sem, -List.set_cons_succ, -List.set_cons_zero]
    refine byte_off b ?_
    simp -implicitDefEqProofs [go_sem, -List.set_cons_succ, -List.set_cons_zero]
    refine byte_off b ?_
    simp -implicitDefEqProofs [go_sem, -List.set_cons_succ, -List.set_cons_zero]
  · simp -implicitDefEqProofs [h1, go_sem, -List.set_cons_succ, -List.set_cons_zero]
    refine qcall_pure (digit_at b r hl) hf rfl ?_
    by_cases h2 : 48 ≤ b.toNat ∧ b.toNat ≤ 57
    · have hp : plainC b = true := by simp [plainC, h2]
      simp -implicitDefEqProofs [h2, hp, go_sem, -List.set_cons_succ, -List.set_cons_zero]
      refine byte_off b ?_
      simp -implicitDefEqProofs [go_sem, -List.set_cons_succ, -List.set_cons_zero]
      refine byte_off b ?_
      simp -implicitDefEqProofs [go_sem, -List.set_cons_succ, -List.set_cons_zero]
      refine byte_off b ?_
      simp -implicitDefEqProofs [go_sem, -List.set_cons_succ, -List.set_cons_zero]
      refine byte_off b ?_
      simp -implicitDefEqProofs [go_sem, -List.set_cons_succ, -List.set_cons_zero]
    · simp -implicitDefEqProofs [h2, go_sem, -List.set_cons_succ, -List.set_cons_zero]
      refine on ?_
      by_cases h3 : (65 : Int) ≤ b.toNat
      · simp -implicitDefEqProofs [h3, go_sem, -List.set_cons_succ, -List.set_cons_zero]
        refine on ?_
        by_cases h4 : (b.toNat : Int) ≤ 90
        · have hp : plainC b = true := by
            have : 65 ≤ b.toNat ∧ b.toNat ≤ 90 := by omega
            simp [plainC, this]
          simp -implicitDefEqProofs [h4, hp, go_sem, -List.set_cons_succ, -List.set_cons_zero]
          refine byte_off b ?_
          simp -implicitDefEqProofs [go_sem, -List.set_cons_succ, -List.set_cons_zero]
          refine byte_off b ?_
          simp -implicitDefEqProofs [go_sem, -List.set_cons_succ, -List.set_cons_zero]
        · simp -implicitDefEqProofs [h4, go_sem, -List.set_cons_succ, -List.set_cons_zero]
          refine on ?_
          by_cases h5 : (b.toNat : Int) = 91
          · have h6 : b = 91 := UInt8.toNat_inj.1 (by simp; omega)
            have hp : plainC b = true := by simp [plainC, h6]
            simp -implicitDefEqProofs [h5, hp, go_sem, -List.set_cons_succ, -List.set_cons_zero]
            refine byte_off b ?_
            simp -implicitDefEqProofs [go_sem, -List.set_cons_succ, -List.set_cons_zero]
          · have h6 : b ≠ 91 := fun h => h5 (by rw [h]; rfl)
            have hp : plainC b = decide ((b.toNat : Int) = 40) := by
              have h7 : ¬ (65 ≤ b.toNat ∧ b.toNat ≤ 90) := by omega
              have h8 : (b = 40) ↔ ((b.toNat : Int) = 40) := ⟨fun h => by rw [h]; rfl, fun h => UInt8.toNat_inj.1 (by simp; omega)⟩
              simp [plainC, h1, h2, h6, h7, beq_dec, h8]
            have h9 : ((b.toNat : Int) == 91) = false := by simpa using h5
            simp -implicitDefEqProofs [h5, h9, hp, go_sem, -List.set_cons_succ, -List.set_cons_zero]
            refine on ?_
            simp -implicitDefEqProofs [go_sem, -List.set_cons_succ, -List.set_cons_zero]
            try (simp [beq_dec]; done)
      · simp -implicitDefEqProofs [h3, go_sem, -List.set_cons_succ, -List.set_cons_zero]
        refine byte_off b ?_
        simp -implicitDefEqProofs [go_sem, -List.set_cons_succ, -List.set_cons_zero]
        refine on ?_
        by_cases h5 : (b.toNat : Int) = 91
        · have h6 : b = 91 := UInt8.toNat_inj.1 (by simp; omega)
          have hp : plainC b = true := by simp [plainC, h6]
          simp -implicitDefEqProofs [h5, hp, go_sem, -List.set_cons_succ, -List.set_cons_zero]
          refine byte_off b ?_
          simp -implicitDefEqProofs [go_sem, -List.set_cons_succ, -List.set_cons_zero]
        · have h6 : b ≠ 91 := fun h => h5 (by rw [h]; rfl)
          have hp : plainC b = decide ((b.toNat : Int) = 40) := by
            have h7 : ¬ (65 ≤ b.toNat ∧ b.toNat ≤ 90) := by omega
            have h8 : (b = 40) ↔ ((b.toNat : Int) = 40) := ⟨fun h => by rw [h]; rfl, fun h => UInt8.toNat_inj.1 (by simp; omega)⟩
            simp [plainC, h1, h2, h6, h7, beq_dec, h8]
          have h9 : ((b.toNat : Int) == 91) = false := by simpa using h5
          simp -implicitDefEqProofs [h5, h9, hp, go_sem, -List.set_cons_succ, -List.set_cons_zero]
          refine on ?_
          simp -implicitDefEqProofs [go_sem, -List.set_cons_succ, -List.set_cons_zero]
          try (simp [beq_dec]; done)
theorem right_calls (t : Tm) (ht : t.fits) (hT : TxS t) (hne : t.wr ≠ []) (hw : t.wr.length ≤ 1000000) (m : Int) (H : Heap) : ACalls Tryz.prog 152 [.agg (t.row.map .d), .c (.d (.int .i64 m))] H
    (fun r H' => H' = H ∧ r = .c (.d (.str (if soleB t || !plainC ((brk t m).headD 0) then 40 :: brk t m ++ [41] else brk t m)))) := by
  have c1 := sole_calls t ht
  have c2 := bracket_calls t ht hT hw m
  have hl := brk_len t m
  have hbne : brk t m ≠ [] := by
    unfold brk
    split
    · simp
    · exact hne
  rw [row_eq] at c1 c2 ⊢
  simp only [List.map_cons, List.map_nil] at c1 c2 ⊢
  refine acalls Tryz.func152 (by kernel_rfl) ac152_ok fun hf => ?_
  simp -implicitDefEqProofs [ac152, go_sem, -List.set_cons_succ, -List.set_cons_zero]
  refine qcall_pure c2 hf rfl ?_
  generalize brk t m = w at hl hbne ⊢
  obtain ⟨b, r, rfl⟩ : ∃ b r, w = b :: r := by
    cases w with
    | nil => exact absurd rfl hbne
    | cons b r => exact ⟨b, r, rfl⟩
  simp at hl
  simp -implicitDefEqProofs [go_sem, -List.set_cons_succ, -List.set_cons_zero]
  refine qcall_pure c1 hf rfl ?_
  cases hi : soleB t with
  | true =>
    simp -implicitDefEqProofs [maxStr, go_sem, -List.set_cons_succ, -List.set_cons_zero]
    omega
  | false =>
    simp -implicitDefEqProofs [go_sem, -List.set_cons_succ, -List.set_cons_zero]
    refine qcall_pure (plain_calls b r (by omega)) hf rfl ?_
    cases hp : plainC b <;> simp -implicitDefEqProofs [maxStr, go_sem, -List.set_cons_succ, -List.set_cons_zero]
    omega
theorem joinS_take (l : List Tm) (h : ∀ t ∈ l, t.wr.length ≤ 1000000) {i : Nat} (hi : i ≤ l.length) : (joinS 44 ((l.map Tm.wr).take i)).length ≤ 1000001 * i := by
  refine Nat.le_trans (joinS_len 44 _) ?_
  rw [← List.map_take]
  have : ∀ q : List Tm, (∀ t ∈ q, t.wr.length ≤ 1000000) → ((q.map Tm.wr).map fun x => x.length + 1).sum ≤ 1000001 * q.length := by
    intro q
    induction q with
    | nil => intro _; simp
    | cons a q ih =>
      intro h
      have h1 := h a (by simp)
      have h2 := ih fun t ht => h t (by simp [ht])
      simp at h2 ⊢
      omega
  have h3 := this (l.take i) fun t ht => h t (List.mem_of_mem_take ht)
  simpa [Nat.min_eq_left hi] using h3
theorem wargs_calls (l : List Tm) (hl : l.length ≤ 1048576) (hT : ∀ t ∈ l, TxS t ∧ t.wr.length ≤ 1000000) (H : Heap) : ACalls Tryz.prog 153 [.c (.d (.sl (l.map Tm.row)))] H (fun r H' => H' = H ∧ r = .c (.d (.str (joinS 44 (l.map Tm.wr))))) := by
  refine acalls Tryz.func153 (by kernel_rfl) ac153_ok fun hf => ?_
  have hli : inR .i64 (l.length : Int) := small_i64 (by omega) (by omega)
  simp -implicitDefEqProofs [ac153, hli, go_sem, -List.set_cons_succ, -List.set_cons_zero]
  refine loop_set (σ := Nat) (fun i => [(4, .c (.d (.int .i64 i))), (3, .c (.d (.str (joinS 44 ((l.map Tm.wr).take i)))))]) (fun _ => H) (fun _ => []) (fun i => i ≤ l.length) (fun i => l.length - i) 0 rfl (Nat.zero_le _) ?_
  intro i hi
  have hb : (joinS 44 ((l.map Tm.wr).take i)).length ≤ 1000001 * i := joinS_take l (fun t ht => (hT t ht).2) hi
  simp -implicitDefEqProofs [setAll, hli, go_sem, -List.set_cons_succ, -List.set_cons_zero]
  refine ⟨fun hlt => ?_, fun hge => by rw [List.take_of_length_le (by simpa using hge)]⟩
  have hadd : inR .i64 ((i : Int) + 1) := small_i64 (by omega) (by omega)
  have hnext : joinS 44 ((l.map Tm.wr).take (i + 1)) = if (l.map Tm.wr).take i = [] then l[i].wr else joinS 44 ((l.map Tm.wr).take i) ++ 44 :: l[i].wr := by
    rw [List.take_succ_eq_append_getElem (by simpa using hlt), joinS_snoc]
    simp
  have hwi := (hT l[i] (List.getElem_mem hlt)).2
  have hTi := (hT l[i] (List.getElem_mem hlt)).1
  refine ⟨fun hp => ⟨by unfold maxStr; omega, row_of hlt (row_len _) ?_⟩, fun h0 => row_of hlt (row_len _) ?_⟩
  · have hne : ¬ (l.map Tm.wr).take i = [] := by
      intro h
      have := congrArg List.length h
      rw [List.length_take, List.length_map] at this
      simp only [List.length_nil] at this
      omega
    rw [if_neg hne] at hnext
    simp -implicitDefEqProofs [row_len, take_row, pure_d, re_d, go_sem, -List.set_cons_succ, -List.set_cons_zero]
    refine qcall_pure hTi hf rfl ?_
    simp -implicitDefEqProofs [hadd, maxStr, go_sem, -List.set_cons_succ, -List.set_cons_zero]
    refine ⟨by omega, ?_⟩
    exact loop_back (i + 1) (by simp [setAll, hnext]) hlt (by show l.length - (i + 1) < l.length - i; omega)
  · subst h0
    simp at hnext
    simp -implicitDefEqProofs [row_len, take_row, pure_d, re_d, go_sem, -List.set_cons_succ, -List.set_cons_zero]
    refine qcall_pure hTi hf rfl ?_
    simp -implicitDefEqProofs [hadd, maxStr, joinS, go_sem, -List.set_cons_succ, -List.set_cons_zero]
    refine ⟨by omega, by simpa using hadd, ?_⟩
    exact loop_back 1 (by simp [setAll, hnext]) hlt (by show l.length - 1 < l.length - 0; omega)
theorem leaf_calls (t : Tm) (ht : t.fits) (hg : t.good) (hk : t.kids = []) (H : Heap) : ACalls Tryz.prog 154 [.agg (t.row.map .d)] H (fun r H' => H' = H ∧ r = .c (.d (.str t.wr))) := by
  obtain ⟨k, n, s, l⟩ := t
  obtain rfl : l = [] := hk
  obtain ⟨ho, _⟩ := hg
  have hpair := pairSpec_calls _ ht
  obtain ⟨hk1, hn1, hs, hl, _⟩ := ht
  refine acalls Tryz.func154 (by kernel_rfl) ac154_ok fun hf => ?_
  have h00 : inR .i64 0 := small_i64 (by omega) (by omega)
  rcases own_cases ho with ⟨rfl, n0, n1, rfl, _⟩ | ⟨rfl, n0, n1, rfl, _⟩ | ⟨rfl, rfl, hs2, _⟩
  · obtain ⟨m, rfl⟩ := Int.eq_ofNat_of_zero_le n0
    simp -implicitDefEqProofs [ac154, row_mk, go_sem, -List.set_cons_succ, -List.set_cons_zero]
    refine qcall_pure (letter_calls m (by omega)) hf rfl ?_
    simp -implicitDefEqProofs [Tm.wr, wrNode, go_sem, -List.set_cons_succ, -List.set_cons_zero]
  · simp -implicitDefEqProofs [ac154, row_mk, go_sem, -List.set_cons_succ, -List.set_cons_zero]
    refine qcall_pure (dec1_calls n (by omega) (by omega)) hf rfl ?_
    simp -implicitDefEqProofs [Tm.wr, wrNode, go_sem, -List.set_cons_succ, -List.set_cons_zero]
  · simp [row_mk] at hpair
    simp -implicitDefEqProofs [ac154, row_mk, go_sem, -List.set_cons_succ, -List.set_cons_zero]
    refine qcall_pure hpair hf rfl ?_
    have hpb : (Tm.mk 3 0 s []).pairB = false := by simp [Tm.pairB, Tm.kids]
    simp -implicitDefEqProofs [hpb, go_sem, -List.set_cons_succ, -List.set_cons_zero]
    refine loop_set (σ := Unit) (fun _ => []) (fun _ => H) (fun _ => [_]) (fun _ => True) (fun _ => 0) () rfl trivial ?_
    rintro ⟨⟩ _
    simp -implicitDefEqProofs [setAll, h00, go_sem, -List.set_cons_succ, -List.set_cons_zero]
    simp [Tm.wr, wrNode]
end Go.Proofs.YteighafofbohcaaGreatDoor

/-
  Lists and terms as the reference writes them.
  Conditions: none.
-/
open Go Go.AM Go.Proofs
namespace Go.Proofs.YteighafofbohcaaGreatDoor
open Go.ChangeShapes Go.WideShapes Go.ChangeAt Go.RowKit
set_option linter.unusedVariables false
set_option linter.unusedSimpArgs false
set_option maxRecDepth 100000
theorem pair_inv {t : Tm} (h : t.pairB = true) : ∃ n a b, t = .mk 3 n [46] [a, b] := by
  obtain ⟨k, n, s, l⟩ := t
  simp only [Tm.pairB, Tm.k, Tm.s, Tm.kids, Bool.and_eq_true, decide_eq_true_eq, beq_iff_eq] at h
  obtain ⟨⟨hk, rfl⟩, hl⟩ := h
  obtain rfl : k = 3 := of_decide_eq_true hk
  have hl : (l.length : Int) = 2 := of_decide_eq_true hl
  match l, show l.length = 2 by omega with
  | [a, b], _ => exact ⟨n, a, b, rfl⟩
theorem pair_wrt (n : Int) (a b : Tm) : (Tm.mk 3 n [46] [a, b]).wrt = 44 :: a.wr ++ b.wrt := by
  rw [Tm.wrt, wrs_map, wrts_map]
  simp
theorem pair_wr (n : Int) (a b : Tm) : (Tm.mk 3 n [46] [a, b]).wr = 91 :: (a.wr ++ b.wrt) ++ [93] := by
  rw [Tm.wr, wrs_map, wrts_map]
  simp [wrNode]
theorem end_wrt {t : Tm} (h : t.pairB = false) : t.wrt = if t.nilB then [] else 124 :: t.wr := by
  obtain ⟨k, n, s, l⟩ := t
  rw [Tm.wrt, Tm.wr]
  have h1 : ¬ (k = 3 ∧ s = [46] ∧ l.length = 2) := by
    rintro ⟨rfl, rfl, h2⟩
    have h3 : (l.length : Int) = 2 := by omega
    simp [Tm.pairB, Tm.k, Tm.s, Tm.kids, h3] at h
  rw [if_neg h1]
  by_cases h2 : k = 3 ∧ s = [91, 93] ∧ l = []
  · obtain ⟨rfl, rfl, rfl⟩ := h2
    simp [Tm.nilB, Tm.k, Tm.kids, Tm.s]
  · have h3 : (Tm.mk k n s l).nilB = false := by
      cases hb : (Tm.mk k n s l).nilB with
      | false => rfl
      | true =>
        simp only [Tm.nilB, Tm.k, Tm.kids, Tm.s, Bool.and_eq_true, decide_eq_true_eq, beq_iff_eq, List.isEmpty_iff] at hb
        exact absurd ⟨of_decide_eq_true hb.1.1, hb.2, hb.1.2⟩ h2
    rw [if_neg h2, h3]
    rfl
/-- a term that the writers meet -/
structure Tm.ok (t : Tm) : Prop where
  fits : t.fits
  good : t.good
  size : t.size ≤ 120
theorem Tm.ok.len {t : Tm} (h : t.ok) : t.wr.length ≤ 2400 ∧ t.wrt.length ≤ 2401 ∧ t.wr ≠ [] := by
  have := wr_len t h.good
  have := h.size
  exact ⟨by omega, by omega, (wr_len t h.good).2⟩
theorem Tm.ok.kid {k n : Int} {s : List UInt8} {l : List Tm} (h : (Tm.mk k n s l).ok) {u : Tm} (hu : u ∈ l) : u.ok ∧ u.size < (Tm.mk k n s l).size := by
  obtain ⟨h1, h2, h3⟩ := h
  have h4 := sizes_mem hu
  rw [Tm.size] at h3 ⊢
  cases h1 with
  | mk _ _ _ _ hk => cases h2 with
    | mk _ hg => exact ⟨⟨hk u hu, hg u hu, by omega⟩, by omega⟩
theorem list_calls (t : Tm) (ht : t.ok) (hp : t.pairB = true) (hT : ∀ u : Tm, u.ok → u.size < t.size → TxS u) (H : Heap) : ACalls Tryz.prog 148 [.agg (t.row.map .d)] H (fun r H' => H' = H ∧ r = .c (.d (.str t.wr))) := by
  refine acalls Tryz.func148 (by kernel_rfl) ac148_ok fun hf => ?_
  simp -implicitDefEqProofs [ac148, row_len, take_row, go_sem, -List.set_cons_succ, -List.set_cons_zero]
  refine loop_enter (St.le_token 3 4 rfl) ?_
  refine loop_set (σ := List Tm × Tm) (fun x => [(3, .c (.own (.l 1) x.1.length (x.1.map Tm.row)))]) (fun _ => H) (fun x => [.cells (x.2.row.map .d), .grow x.1.length 4])
    (fun x => x.2.ok ∧ x.1.length + x.2.size ≤ t.size ∧ (∀ u ∈ x.1, u.ok ∧ u.size < t.size) ∧ ((x.1 = [] ∧ x.2 = t) ∨ (x.1 ≠ [] ∧ t.wr = 91 :: (joinS 44 (x.1.map Tm.wr) ++ x.2.wrt) ++ [93]))) (fun x => x.2.size) ([], t) rfl ⟨ht, by simp, by simp, .inl ⟨rfl, rfl⟩⟩ ?_
  rintro ⟨l, c⟩ ⟨hc, hsz, hl, hw⟩
  simp only at hc hsz hl hw
  have hts := ht.size
  simp -implicitDefEqProofs [setAll, row_len, take_row, pure_d, re_d, go_sem, -List.set_cons_succ, -List.set_cons_zero]
  refine qcall_pure (pairSpec_calls c hc.fits) hf rfl ?_
  cases hcp : c.pairB with
  | true =>
    obtain ⟨n, a, b, rfl⟩ := pair_inv hcp
    simp -implicitDefEqProofs [row_mk, go_sem, -List.set_cons_succ, -List.set_cons_zero]
    have ha := hc.kid (u := a) (by simp)
    have hb := hc.kid (u := b) (by simp)
    have hct : (Tm.mk 3 n [46] [a, b]).size ≤ t.size := by omega
    have hcs : (Tm.mk 3 n [46] [a, b]).size = 1 + a.size + b.size := by simp [Tm.size, sizes]; omega
    refine row_int a.row (by omega) rfl (row_len _) ?_
    simp -implicitDefEqProofs [row_len, take_row, pure_d, re_d, toDs_map, hf, go_sem, -List.set_cons_succ, -List.set_cons_zero]
    refine ⟨allLen_map row_len, by unfold maxApp; omega, row_int b.row (by omega) rfl (row_len _) ?_⟩
    simp -implicitDefEqProofs [row_len, take_row, pure_d, re_d, toDs_map, hf, go_sem, -List.set_cons_succ, -List.set_cons_zero]
    refine loop_back (l ++ [a], b) (by simp [setAll]) ⟨hb.1, by simp; omega, fun u hu => ?_, .inr ⟨by simp, ?_⟩⟩ (by show b.size < (Tm.mk 3 n [46] [a, b]).size; omega)
    · rcases List.mem_append.1 hu with hu | hu
      · exact hl u hu
      · rw [List.mem_singleton.1 hu]
        exact ⟨ha.1, by omega⟩
    · simp only [List.map_append, List.map_cons, List.map_nil]
      rw [joinS_snoc]
      rcases hw with ⟨rfl, rfl⟩ | ⟨hne, hw⟩
      · rw [pair_wr]
        simp
      · rw [hw, pair_wrt, if_neg (by simpa using hne)]
        simp
  | false =>
    have hlen : (joinS 44 (l.map Tm.wr)).length ≤ 1000001 * l.length := by
      have := joinS_take l (fun u hu => by have := (hl u hu).1.len; omega) (Nat.le_refl _)
      rwa [List.take_of_length_le (by simp)] at this
    have hne : l ≠ [] := by
      rintro rfl
      rcases hw with ⟨_, rfl⟩ | ⟨h, _⟩
      · rw [hp] at hcp; cases hcp
      · exact h rfl
    obtain ⟨_, hw⟩ : l ≠ [] ∧ t.wr = 91 :: (joinS 44 (l.map Tm.wr) ++ c.wrt) ++ [93] := by
      rcases hw with ⟨h, _⟩ | h
      · exact absurd h hne
      · exact h
    have hlt : c.size < t.size := by
      have : 0 < l.length := List.length_pos_iff.2 hne
      omega
    have hargs := wargs_calls l (by omega) (fun u hu => ⟨hT u (hl u hu).1 (hl u hu).2, by have := (hl u hu).1.len; omega⟩)
    rw [end_wrt hcp] at hw
    have hcl := hc.len
    simp -implicitDefEqProofs [row_len, take_row, pure_d, re_d, go_sem, -List.set_cons_succ, -List.set_cons_zero]
    refine qcall_pure (nilSpec_calls c hc.fits) hf rfl ?_
    cases hn : c.nilB with
    | true =>
      rw [hn] at hw
      simp -implicitDefEqProofs [go_sem, -List.set_cons_succ, -List.set_cons_zero]
      refine qcall_pure hargs hf rfl ?_
      simp -implicitDefEqProofs [hw, maxStr, go_sem, -List.set_cons_succ, -List.set_cons_zero]
      omega
    | false =>
      rw [hn] at hw
      simp -implicitDefEqProofs [go_sem, -List.set_cons_succ, -List.set_cons_zero]
      refine qcall_pure hargs hf rfl ?_
      simp -implicitDefEqProofs [maxStr, row_len, take_row, pure_d, re_d, go_sem, -List.set_cons_succ, -List.set_cons_zero]
      refine ⟨by omega, by omega, qcall_pure (hT c hc hlt) hf rfl ?_⟩
      simp -implicitDefEqProofs [hw, maxStr, go_sem, -List.set_cons_succ, -List.set_cons_zero]
      omega
theorem sole_eq (t : Tm) : soleB t = (t.atomB && decide (0 < levelN t.s)) := by
  have : decide ((t.kids.length : Int) = 0) = t.kids.isEmpty := by cases t.kids <;> simp; omega
  simp only [soleB, Tm.atomB, this]
theorem infix_lv (t : Tm) {m : Int} (hm : 0 ≤ m) (hk : t.kids.length = 2 → t.k = 3) : (infixB t && decide (m < levelN t.s)) = decide (m < t.lv) := by
  unfold infixB Tm.lv
  by_cases h2 : t.kids.length = 2
  · have h3 := hk h2
    have h4 : (t.kids.length : Int) = 2 := by omega
    rw [if_pos h2, Bool.eq_iff_iff]
    simp only [Bool.and_eq_true, decide_eq_true_iff]
    exact ⟨fun h => h.2, fun h => ⟨⟨⟨h3, h4⟩, by omega⟩, h⟩⟩
  · have h4 : ¬ (t.kids.length : Int) = 2 := by omega
    rw [if_neg h2, Bool.eq_iff_iff]
    simp only [Bool.and_eq_true, decide_eq_true_iff]
    exact ⟨fun h => absurd h.1.1.2 h4, fun h => by omega⟩
theorem brk_opnd_left (t : Tm) {m : Int} (hm : 0 ≤ m) (hk : t.kids.length = 2 → t.k = 3) : (if soleB t then 40 :: t.wr ++ [41] else brk t m) = opnd t t.wr m false := by
  unfold brk opnd
  rw [infix_lv t hm hk, sole_eq]
  cases (t.atomB && decide (0 < levelN t.s)) <;> cases decide (m < t.lv) <;> rfl
theorem plain_40 : plainC 40 = true := by decide
theorem sole_not_infix {t : Tm} (h : soleB t = true) : infixB t = false := by
  cases hi : infixB t with
  | false => rfl
  | true =>
    simp only [soleB, infixB, Bool.and_eq_true, decide_eq_true_iff] at h hi
    omega
theorem brk_opnd_right (t : Tm) {m : Int} (hm : 0 ≤ m) (hk : t.kids.length = 2 → t.k = 3) : (if soleB t || !plainC ((brk t m).headD 0) then 40 :: brk t m ++ [41] else brk t m) = opnd t t.wr m true := by
  have h1 : brk t m = if decide (m < t.lv) then 40 :: t.wr ++ [41] else t.wr := by
    unfold brk
    rw [infix_lv t hm hk]
  have h2 : soleB t = true → decide (m < t.lv) = false := fun h => by
    rw [← infix_lv t hm hk, sole_not_infix h]
    rfl
  unfold opnd
  rw [← sole_eq, h1]
  cases hs : soleB t with
  | true =>
    rw [h2 hs]
    rfl
  | false =>
    cases decide (m < t.lv) with
    | true => simp [plain_40]
    | false => simp
theorem lv_range {s : List UInt8} (h : 0 < levelN s) : (levelN s = 1 ∨ levelN s = 2 ∨ levelN s = 3) ∧ (levelN s = 3 → leftMost s = 2) ∧ (levelN s ≠ 3 → leftMost s = levelN s) := by
  have h1 : levelN s = 1 ∨ levelN s = 2 ∨ levelN s = 3 := by
    unfold levelN at h ⊢
    split
    · simp
    · split
      · simp
      · split
        · simp
        · rename_i a b c; rw [if_neg a, if_neg b, if_neg c] at h; omega
  refine ⟨h1, fun h3 => ?_, fun h3 => ?_⟩
  · simp [leftMost, leftB, h3]
  · rcases h1 with h1 | h1 | h1
    · simp [leftMost, leftB, h1]
    · simp [leftMost, leftB, h1]
    · exact absurd h1 h3
theorem text_calls : ∀ (N : Nat) (t : Tm), t.size ≤ N → t.ok → TxS t := by
  intro N
  induction N with
  | zero =>
    intro t h
    obtain ⟨k, n, s, l⟩ := t
    rw [Tm.size] at h
    omega
  | succ N ih =>
    intro t hN ht H
    have hT : ∀ u : Tm, u.ok → u.size < t.size → TxS u := fun u hu h => ih u (by omega) hu
    have c1 := pairSpec_calls t ht.fits
    have c2 := infix_calls t ht.fits
    refine acalls Tryz.func141 (by kernel_rfl) ac141_ok fun hf => ?_
    simp -implicitDefEqProofs [ac141, row_len, take_row, pure_d, re_d, go_sem, -List.set_cons_succ, -List.set_cons_zero]
    refine qcall_pure c1 hf rfl ?_
    cases hp : t.pairB with
    | true =>
      simp -implicitDefEqProofs [row_len, take_row, pure_d, re_d, go_sem, -List.set_cons_succ, -List.set_cons_zero]
      refine qcall_pure (list_calls t ht hp hT) hf rfl ?_
      simp -implicitDefEqProofs [go_sem, -List.set_cons_succ, -List.set_cons_zero]
    | false =>
      simp -implicitDefEqProofs [row_len, take_row, pure_d, re_d, go_sem, -List.set_cons_succ, -List.set_cons_zero]
      refine qcall_pure c2 hf rfl ?_
      cases hi : infixB t with
      | true =>
        obtain ⟨k, n, s, l⟩ := t
        have hi2 := hi
        simp only [infixB, Tm.k, Tm.kids, Tm.s, Bool.and_eq_true, decide_eq_true_iff] at hi2
        obtain ⟨⟨hk3, hl2⟩, hlv⟩ := hi2
        obtain rfl : k = 3 := of_decide_eq_true hk3
        have hl2 : (l.length : Int) = 2 := of_decide_eq_true hl2
        have hlp : 0 < levelN s := of_decide_eq_true hlv
        clear hlv
        match l, show l.length = 2 by omega, ht, hT, hp with
        | [a, b], _, ht, hT, hp =>
          have ha := ht.kid (u := a) (by simp)
          have hb := ht.kid (u := b) (by simp)
          have hal := ha.1.len
          have hbl := hb.1.len
          obtain ⟨hr1, hr2, hr3⟩ := lv_range hlp
          have hsl : s.length ≤ 1048576 := by
            cases ht.fits with
            | mk _ _ h3 _ _ => exact h3
          have hsub : inR .i64 (levelN s - 1) := small_i64 (by omega) (by omega)
          simp -implicitDefEqProofs [row_mk, go_sem, -List.set_cons_succ, -List.set_cons_zero]
          refine qcall_pure (level_calls s) hf rfl ?_
          have hk2 : ∀ u : Tm, u.ok → u.kids.length = 2 → u.k = 3 := fun u hu h => by
            obtain ⟨k, n, s, l⟩ := u
            have hg := hu.good
            cases hg with
            | mk ho _ =>
              rcases own_cases ho with ⟨_, _, _, _, rfl⟩ | ⟨_, _, _, _, rfl⟩ | ⟨h3, _⟩
              · simp [Tm.kids] at h
              · simp [Tm.kids] at h
              · exact h3
          have hm0 : 0 ≤ leftMost s := by
            by_cases h3 : levelN s = 3
            · rw [hr2 h3]; omega
            · rw [hr3 h3]; omega
          have cl := left_calls a ha.1.fits (hT a ha.1 ha.2) (by omega) (leftMost s)
          have cr := right_calls b hb.1.fits (hT b hb.1 hb.2) hbl.2.2 (by omega) (levelN s - 1)
          rw [brk_opnd_left a hm0 (hk2 a ha.1)] at cl
          rw [brk_opnd_right b (by omega) (hk2 b hb.1)] at cr
          have hol := opnd_len a a.wr (leftMost s) false
          have hor := opnd_len b b.wr (levelN s - 1) true
          have hos := opSp_len s
          have hwr : (Tm.mk 3 n s [a, b]).wr = opnd a a.wr (leftMost s) false ++ opSp s ++ opnd b b.wr (levelN s - 1) true := by
            have hne : s ≠ [46] := by rintro rfl; simp [levelN, ops3] at hlp
            rw [Tm.wr, wrs_map, wrts_map]
            simp [wrNode, hne, hlp]
          rw [hwr]
          by_cases h3 : levelN s = 3
          · rw [hr2 h3] at cl hol
            rw [h3, show (3 : Int) - 1 = 2 from rfl] at cr hor hsub
            rw [h3, show (3 : Int) - 1 = 2 from rfl]
            have h22 : inR .i64 2 := small_i64 (by omega) (by omega)
            simp only [hr2 h3]
            simp -implicitDefEqProofs [h3, hsub, h22, go_sem, -List.set_cons_succ, -List.set_cons_zero]
            refine row_int (i := 0) a.row (by omega) rfl (row_len _) ?_
            simp -implicitDefEqProofs [row_len, take_row, pure_d, re_d, go_sem, -List.set_cons_succ, -List.set_cons_zero]
            refine qcall_pure cl hf rfl ?_
            simp -implicitDefEqProofs [go_sem, -List.set_cons_succ, -List.set_cons_zero]
            refine qcall_pure (spaced_calls s hlp) hf rfl ?_
            simp -implicitDefEqProofs [maxStr, go_sem, -List.set_cons_succ, -List.set_cons_zero]
            refine ⟨by omega, row_int (i := 1) b.row (by omega) rfl (row_len _) ?_⟩
            simp -implicitDefEqProofs [row_len, take_row, pure_d, re_d, go_sem, -List.set_cons_succ, -List.set_cons_zero]
            refine qcall_pure cr hf rfl ?_
            simp -implicitDefEqProofs [maxStr, go_sem, -List.set_cons_succ, -List.set_cons_zero]
            omega
          · rw [hr3 h3] at cl hol
            have h4 : (levelN s == 3) = false := by simpa using h3
            simp only [hr3 h3]
            simp -implicitDefEqProofs [h3, h4, hsub, go_sem, -List.set_cons_succ, -List.set_cons_zero]
            refine row_int (i := 0) a.row (by omega) rfl (row_len _) ?_
            simp -implicitDefEqProofs [row_len, take_row, pure_d, re_d, go_sem, -List.set_cons_succ, -List.set_cons_zero]
            refine qcall_pure cl hf rfl ?_
            simp -implicitDefEqProofs [go_sem, -List.set_cons_succ, -List.set_cons_zero]
            refine qcall_pure (spaced_calls s hlp) hf rfl ?_
            simp -implicitDefEqProofs [maxStr, go_sem, -List.set_cons_succ, -List.set_cons_zero]
            refine ⟨by omega, row_int (i := 1) b.row (by omega) rfl (row_len _) ?_⟩
            simp -implicitDefEqProofs [row_len, take_row, pure_d, re_d, go_sem, -List.set_cons_succ, -List.set_cons_zero]
            refine qcall_pure cr hf rfl ?_
            simp -implicitDefEqProofs [maxStr, go_sem, -List.set_cons_succ, -List.set_cons_zero]
            omega
      | false =>
        have hli : inR .i64 (t.kids.length : Int) := by
          cases ht.fits with
          | mk _ _ _ h _ => exact small_i64 (by simp only [Tm.kids]; omega) (by simp only [Tm.kids]; omega)
        by_cases hks : t.kids = []
        · have hlf := leaf_calls t ht.fits ht.good hks
          obtain ⟨k, n, s, l⟩ := t
          obtain rfl : l = [] := hks
          have h00 : inR .i64 0 := small_i64 (by omega) (by omega)
          simp [row_mk] at hlf
          by_cases hk : k = 3
          · simp -implicitDefEqProofs [row_mk, hk, h00, go_sem, -List.set_cons_succ, -List.set_cons_zero]
            subst hk
            refine qcall_pure hlf hf rfl ?_
            simp -implicitDefEqProofs [go_sem, -List.set_cons_succ, -List.set_cons_zero]
          · simp -implicitDefEqProofs [row_mk, hk, h00, go_sem, -List.set_cons_succ, -List.set_cons_zero]
            refine qcall_pure hlf hf rfl ?_
            simp -implicitDefEqProofs [go_sem, -List.set_cons_succ, -List.set_cons_zero]
        · obtain ⟨k, n, s, l⟩ := t
          have hkl : l ≠ [] := hks
          clear hks
          have hkids := fun u hu => ht.kid (k := k) (n := n) (s := s) (l := l) (u := u) hu
          obtain rfl : k = 3 := by
            cases ht.good with
            | mk ho _ =>
              rcases own_cases ho with ⟨_, _, _, _, h⟩ | ⟨_, _, _, _, h⟩ | ⟨h3, _⟩
              · exact absurd h hkl
              · exact absurd h hkl
              · exact h3
          simp only [Tm.kids] at hli
          have hsl : s.length ≤ 1048576 ∧ l.length ≤ 1048576 := by
            cases ht.fits with
            | mk _ _ h3 h4 _ => exact ⟨h3, h4⟩
          have hps : 0 < l.length := List.length_pos_iff.2 hkl
          have hpos : (0 : Int) < l.length := by omega
          have hargs := wargs_calls l hsl.2 (fun u hu => ⟨hT u (hkids u hu).1 (hkids u hu).2, by have := (hkids u hu).1.len; omega⟩)
          have hjl := joinS_take l (fun u hu => by have := (hkids u hu).1.len; omega) (Nat.le_refl _)
          rw [List.take_of_length_le (by simp)] at hjl
          have hwr : (Tm.mk 3 n s l).wr = s ++ 40 :: joinS 44 (l.map Tm.wr) ++ [41] := by
            rw [Tm.wr, wrs_map, wrts_map]
            have h1 : ¬ (s = [46] ∧ l.length = 2) := by
              rintro ⟨rfl, h⟩
              have h' : (l.length : Int) = 2 := by omega
              simp [Tm.pairB, Tm.k, Tm.s, Tm.kids, h'] at hp
            have h2 : ¬ (l.length = 2 ∧ 0 < levelN s) := by
              rintro ⟨h, h'⟩
              have h'' : (l.length : Int) = 2 := by omega
              simp [infixB, Tm.k, Tm.s, Tm.kids, h'', h'] at hi
            simp [wrNode, h1, h2, hkl]
          rw [hwr]
          simp -implicitDefEqProofs [row_mk, hli, hpos, hps, hkl, go_sem, -List.set_cons_succ, -List.set_cons_zero]
          refine ⟨by unfold maxStr; omega, qcall_pure hargs hf rfl ?_⟩
          simp -implicitDefEqProofs [maxStr, go_sem, -List.set_cons_succ, -List.set_cons_zero]
          omega
end Go.Proofs.YteighafofbohcaaGreatDoor

/-
  Clauses and programs as the reference reads them.
  Conditions: none.
-/
open Go Go.AM Go.Proofs
namespace Go.Proofs.YteighafofbohcaaGreatDoor
open Go.ChangeShapes Go.WideShapes Go.ChangeAt Go.RowKit
set_option linter.unusedVariables false
set_option linter.unusedSimpArgs false
set_option maxRecDepth 100000
-- 129 loop.example/prologserver/spec.l4Text params 1 ntmps 31
-- loop head live: [1,3,4]
def ac129 : Cd := .seq (.region [⟨(some 1),.box (.t 0),none⟩,
 ⟨(some 2),.mv (.k (.c (.d (.str [])))),none⟩] [0,2])
 (.seq (.region [⟨(some 5),.fieldAddr 0 (.t 1),none⟩,
 ⟨(some 6),.load (some 4) (.t 5),none⟩,
 ⟨(some 7),.qcall 141 [(.t 6)],none⟩,
 ⟨(some 3),.mv (.t 7),none⟩] [5,6,7])
 (.seq (.seq (.region [⟨(some 4),.mv (.k (.c (.d (.int .i64 0)))),none⟩] [])
 (.block 0 (.loop (.seq (.seq (.region [⟨(some 8),.mv (.t 4),none⟩,
 ⟨(some 9),.fieldAddr 4 (.t 1),none⟩,
 ⟨(some 10),.load none (.t 9),none⟩,
 ⟨(some 11),.len 1 (.t 10),none⟩,
 ⟨(some 12),.bin .lss (.t 8) (.t 11),none⟩] [8,9,10,11])
 (.cond (.t 12)
 (.skip)
 (.exit 0)))
 (.seq (.block 1 (.seq (.seq (.region [⟨(some 15),.mv (.t 4),none⟩,
 ⟨(some 16),.bin .eql (.t 15) (.k (.c (.d (.int .i64 0)))),none⟩] [12,15])
 (.cond (.t 16)
 (.region [⟨(some 17),.mv (.t 3),none⟩,
 ⟨(some 18),.bin .add (.t 17) (.k (.c (.d (.str [58,45])))),none⟩,
 ⟨(some 3),.mv (.t 18),none⟩] [16,17,18])
 (.region [⟨(some 19),.mv (.t 3),none⟩,
 ⟨(some 20),.bin .add (.t 19) (.k (.c (.d (.str [44])))),none⟩,
 ⟨(some 3),.mv (.t 20),none⟩] [16,19,20])))
 (.region [⟨(some 21),.mv (.t 3),none⟩,
 ⟨(some 22),.fieldAddr 4 (.t 1),none⟩,
 ⟨(some 23),.load none (.t 22),none⟩,
 ⟨(some 24),.mv (.t 4),none⟩,
 ⟨(some 25),.indexAddr 4 (.t 23) (.t 24),none⟩,
 ⟨(some 26),.load (some 4) (.t 25),none⟩,
 ⟨(some 27),.qcall 141 [(.t 26)],none⟩,
 ⟨(some 28),.bin .add (.t 21) (.t 27),none⟩,
 ⟨(some 3),.mv (.t 28),none⟩] [21,22,23,24,25,26,27,28])))
 (.region [⟨(some 13),.mv (.t 4),none⟩,
 ⟨(some 14),.bin .add (.t 13) (.k (.c (.d (.int .i64 1)))),none⟩,
 ⟨(some 4),.mv (.t 14),none⟩] [13,14]))))))
 (.seq (.region [⟨(some 29),.mv (.t 3),none⟩,
 ⟨(some 30),.bin .add (.t 29) (.k (.c (.d (.str [46])))),none⟩,
 ⟨(some 2),.mv (.t 30),none⟩] [3,29,30])
 (.ret))))
theorem ac129_ok : cFunc Tryz.prog [1000141] [(0,[0,2],[]),(1,[5,6,7],[]),(2,[],[]),(3,[8,9,10,11],[]),(5,[12,15],[]),(6,[16,17,18],[]),(7,[16,19,20],[]),(8,[21,22,23,24,25,26,27,28],[]),(4,[13,14],[]),(9,[3,29,30],[])] Tryz.f129 = some (ac129,[.tmp 2],31) := by kernel_rfl
-- 122 loop.example/prologserver/spec.FormatClause params 1 ntmps 8
def ac122 : Cd := .seq (.region [⟨(some 1),.box (.t 0),none⟩,
 ⟨(some 2),.mv (.k (.c (.d (.str [])))),none⟩] [0,2])
 (.seq (.seq (.region [⟨(some 3),.load (some 5) (.t 1),none⟩,
 ⟨(some 4),.qcall 62 [(.t 3)],none⟩,
 ⟨(some 5),.un .not (.t 4),none⟩] [3,4])
 (.cond (.t 5)
 (.seq (.region [⟨(some 2),.mv (.k (.c (.d (.str [])))),none⟩] [1,5])
 (.ret))
 (.skip)))
 (.seq (.region [⟨(some 6),.load (some 5) (.t 1),none⟩,
 ⟨(some 7),.qcall 129 [(.t 6)],none⟩,
 ⟨(some 2),.mv (.t 7),none⟩] [1,5,6,7])
 (.ret)))
theorem ac122_ok : cFunc Tryz.prog [1000062,1000129] [(0,[0,2],[]),(1,[3,4],[]),(2,[1,5],[]),(3,[1,5,6,7],[])] Tryz.f122 = some (ac122,[.tmp 2],8) := by kernel_rfl
-- 110 loop.example/prologserver/spec.l4Copy params 1 ntmps 28
-- loop head live: [1,2,3,4]
def ac110 : Cd := .seq (.region [⟨(some 1),.box (.t 0),none⟩,
 ⟨(some 2),.alloc [(.d (.int .i64 0)),(.d (.int .i64 0)),(.d (.str [])),(.full []),(.full [])],none⟩] [0])
 (.seq (.region [⟨(some 5),.fieldAddr 0 (.t 1),none⟩,
 ⟨(some 6),.load (some 4) (.t 5),none⟩,
 ⟨(some 7),.qcall 21 [(.t 6)],none⟩,
 ⟨(some 8),.build [(.d (.int .i64 0)),(.d (.int .i64 0)),(.d (.str [])),(.full []),(.full [])] [(0,4,(.t 7))],none⟩,
 ⟨(some 3),.alloc [(.d (.int .i64 0)),(.d (.int .i64 0)),(.d (.str [])),(.full []),(.full [])],none⟩,
 ⟨none,.store 5 (.t 3) (.t 8),none⟩] [5,6,7,8])
 (.seq (.seq (.region [⟨(some 4),.mv (.k (.c (.d (.int .i64 0)))),none⟩] [])
 (.block 0 (.loop (.seq (.seq (.region [⟨(some 9),.mv (.t 4),none⟩,
 ⟨(some 10),.fieldAddr 4 (.t 1),none⟩,
 ⟨(some 11),.load none (.t 10),none⟩,
 ⟨(some 12),.len 1 (.t 11),none⟩,
 ⟨(some 13),.bin .lss (.t 9) (.t 12),none⟩] [9,10,11,12])
 (.cond (.t 13)
 (.skip)
 (.exit 0)))
 (.seq (.block 1 (.region [⟨(some 16),.fieldAddr 4 (.t 3),none⟩,
 ⟨(some 18),.fieldAddr 4 (.t 1),none⟩,
 ⟨(some 20),.mv (.t 4),none⟩,
 ⟨(some 17),.load none (.t 16),none⟩,
 ⟨(some 19),.load none (.t 18),none⟩,
 ⟨(some 21),.indexAddr 4 (.t 19) (.t 20),none⟩,
 ⟨(some 22),.load (some 4) (.t 21),none⟩,
 ⟨(some 23),.qcall 21 [(.t 22)],none⟩,
 ⟨(some 24),.buildSlice 4 1 [(.int .i64 0),(.int .i64 0),(.str []),(.sl [])] [(0,(.t 23))],none⟩,
 ⟨(some 25),.append false 4 (.t 17) (.t 24),none⟩,
 ⟨(some 26),.fieldAddr 4 (.t 3),none⟩,
 ⟨none,.store 1 (.t 26) (.t 25),none⟩] [13,16,17,18,19,20,21,22,23,24,25,26]))
 (.region [⟨(some 14),.mv (.t 4),none⟩,
 ⟨(some 15),.bin .add (.t 14) (.k (.c (.d (.int .i64 1)))),none⟩,
 ⟨(some 4),.mv (.t 15),none⟩] [14,15]))))))
 (.seq (.region [⟨(some 27),.load (some 5) (.t 3),none⟩,
 ⟨none,.store 5 (.t 2) (.t 27),none⟩] [3,27])
 (.ret))))
theorem ac110_ok : cFunc Tryz.prog [1000021] [(0,[0],[]),(1,[5,6,7,8],[]),(2,[],[]),(3,[9,10,11,12],[]),(5,[13,16,17,18,19,20,21,22,23,24,25,26],[0,2,4,1,3,5,6,7,8,9,10,11]),(4,[14,15],[]),(6,[3,27],[])] Tryz.f110 = some (ac110,[.cell 2 (some 5)],28) := by kernel_rfl
theorem valid_tok {t : Tm} (ht : t.fits) (h : t.valid = true) : t.ok := by
  refine ⟨ht, valid_good h, ?_⟩
  simp only [Tm.valid, Bool.and_eq_true, decide_eq_true_eq] at h
  exact h.2
theorem valid_text {t : Tm} (ht : t.fits) (h : t.valid = true) : TxS t ∧ t.wr.length ≤ 2400 ∧ t.wr ≠ [] := by
  have hk := valid_tok ht h
  exact ⟨text_calls _ t (Nat.le_refl _) hk, hk.len.1, hk.len.2.2⟩
theorem goalsW_snoc (W : Tm → List UInt8) : ∀ (f : Bool) (l : List Tm) (t : Tm), goalsW W f (l ++ [t]) = goalsW W f l ++ ((if (f && l.isEmpty) = true then [58, 45] else [44]) ++ W t)
  | f, [], t => by cases f <;> simp [goalsW]
  | f, a :: l, t => by simp [goalsW, goalsW_snoc W false l t]
theorem goalsW_len (W : Tm → List UInt8) : ∀ (f : Bool) (l : List Tm), (∀ t ∈ l, (W t).length ≤ 2400) → (goalsW W f l).length ≤ 2402 * l.length
  | f, [], _ => by simp [goalsW]
  | f, a :: l, h => by
    have h1 := goalsW_len W false l fun t ht => h t (by simp [ht])
    have h2 := h a (by simp)
    cases f <;> simp [goalsW] <;> omega
theorem Cl.validB.parts {c : Cl} (hv : c.validB = true) : c.head.valid = true ∧ c.body.length ≤ 6 ∧ ∀ t ∈ c.body, t.valid = true := by
  simp only [Cl.validB, Bool.and_eq_true, goalsB, List.all_eq_true, decide_eq_true_eq] at hv
  refine ⟨hv.1.1, hv.2.1, fun t ht => ?_⟩
  have := hv.2.2 t ht
  simp only [Tm.goal, Bool.and_eq_true] at this
  exact this.1
theorem l4Text_calls (c : Cl) (hc : c.fits) (hv : c.validB = true) (H : Heap) : ACalls Tryz.prog 129 [.agg (c.row.map .d)] H (fun r H' => H' = H ∧ r = .c (.d (.str (clW Tm.wr c)))) := by
  obtain ⟨h, b⟩ := c
  obtain ⟨hh, hl, hb⟩ := hc
  obtain ⟨v1, v2, v3⟩ := Cl.validB.parts hv
  simp only at hh hl hb v1 v2 v3
  obtain ⟨c1, n1, _⟩ := valid_text hh v1
  unfold TxS at c1
  rw [row_eq] at c1
  simp only [List.map_cons, List.map_nil] at c1
  have hbl : inR .i64 (b.length : Int) := small_i64 (by omega) (by omega)
  refine acalls Tryz.func129 (by kernel_rfl) ac129_ok fun hf => ?_
  simp -implicitDefEqProofs [ac129, Cl.row, go_sem, -List.set_cons_succ, -List.set_cons_zero]
  refine qcall_pure c1 hf rfl ?_
  simp -implicitDefEqProofs [go_sem, -List.set_cons_succ, -List.set_cons_zero]
  refine loop_set (σ := Nat) (fun i => [(3, .c (.d (.str (h.wr ++ goalsW Tm.wr true (b.take i))))), (4, .c (.d (.int .i64 i)))]) (fun _ => H) (fun _ => [.cells [.d (.int .i64 h.k), .d (.int .i64 h.n), .d (.str h.s), .d (.sl (h.kids.map Tm.row)), .d (.sl (b.map Tm.row))]])
    (fun i => i ≤ b.length) (fun i => b.length - i) 0 (by simp [setAll, goalsW]) (Nat.zero_le _) ?_
  intro i hi
  have hgl := goalsW_len Tm.wr true (b.take i) fun t ht => (valid_text (hb t (List.mem_of_mem_take ht)) (v3 t (List.mem_of_mem_take ht))).2.1
  have htl : (b.take i).length ≤ 6 := by simp; omega
  simp -implicitDefEqProofs [setAll, hbl, go_sem, -List.set_cons_succ, -List.set_cons_zero]
  refine ⟨fun hlt => ?_, fun hge => ?_⟩
  · have hadd : inR .i64 ((i : Int) + 1) := small_i64 (by omega) (by omega)
    obtain ⟨c2, n2, _⟩ := valid_text (hb _ (List.getElem_mem hlt)) (v3 _ (List.getElem_mem hlt))
    have hw : goalsW Tm.wr true (b.take (i + 1)) = goalsW Tm.wr true (b.take i) ++ ((if i = 0 then [58, 45] else [44]) ++ b[i].wr) := by
      rw [List.take_succ_eq_append_getElem hlt, goalsW_snoc]
      congr 2
      by_cases h0 : i = 0
      · subst h0; simp
      · have : (b.take i).isEmpty = false := by
          cases hx : b.take i with
          | nil => have := congrArg List.length hx; rw [List.length_take, List.length_nil] at this; omega
          | cons _ _ => rfl
        simp [this, h0]
    simp -implicitDefEqProofs [maxStr, go_sem, -List.set_cons_succ, -List.set_cons_zero]
    refine ⟨fun h0 => ⟨by omega, ?_⟩, fun h0 => ⟨by omega, ?_⟩⟩
    all_goals
      refine row_of hlt (row_len _) ?_
      simp -implicitDefEqProofs [row_len, take_row, pure_d, re_d, hf, go_sem, -List.set_cons_succ, -List.set_cons_zero]
      refine qcall_pure c2 hf rfl ?_
      simp -implicitDefEqProofs [maxStr, hadd, go_sem, -List.set_cons_succ, -List.set_cons_zero]
      refine ⟨by omega, ?_⟩
      refine loop_back (i + 1) ?_ hlt (by show b.length - (i + 1) < b.length - i; omega)
      simp [setAll]
      rw [hw]
      simp [h0]
  · obtain rfl : i = b.length := by omega
    simp at hgl
    simp -implicitDefEqProofs [maxStr, clW, go_sem, -List.set_cons_succ, -List.set_cons_zero]
    omega
theorem fmtC_calls (c : Cl) (hc : c.fits) (H : Heap) : ACalls Tryz.prog 122 [.agg (c.row.map .d)] H (fun r H' => H' = H ∧ r = .c (.d (.str (if c.validB = true then clW Tm.wr c else [])))) := by
  have c1 := cvSpec_calls c hc
  have c2 := l4Text_calls c hc
  obtain ⟨h, b⟩ := c
  simp only [Cl.row, List.map_cons, List.map_nil] at c1 c2
  refine acalls Tryz.func122 (by kernel_rfl) ac122_ok fun hf => ?_
  simp -implicitDefEqProofs [ac122, Cl.row, go_sem, -List.set_cons_succ, -List.set_cons_zero]
  refine qcall_pure c1 hf rfl ?_
  cases hv : Cl.validB ⟨h, b⟩ with
  | false => simp -implicitDefEqProofs [go_sem, -List.set_cons_succ, -List.set_cons_zero]
  | true =>
    simp -implicitDefEqProofs [go_sem, -List.set_cons_succ, -List.set_cons_zero]
    refine qcall_pure (c2 hv) hf rfl ?_
    simp -implicitDefEqProofs [go_sem, -List.set_cons_succ, -List.set_cons_zero]
theorem clCopy_calls (c : Cl) (hc : c.fits) (H : Heap) : ACalls Tryz.prog 110 [.agg (c.row.map .d)] H (fun r H' => H' = H ∧ r = .agg (c.row.map .d)) := by
  obtain ⟨h, b⟩ := c
  obtain ⟨hh, hl, hb⟩ := hc
  simp only at hh hl hb
  have c1 := copy_calls h hh
  rw [row_eq] at c1
  simp only [List.map_cons, List.map_nil] at c1
  have hbl : inR .i64 (b.length : Int) := small_i64 (by omega) (by omega)
  refine acalls Tryz.func110 (by kernel_rfl) ac110_ok fun hf => ?_
  simp -implicitDefEqProofs [ac110, Cl.row, hf, go_sem, -List.set_cons_succ, -List.set_cons_zero]
  refine qcall_pure c1 hf (by simp [A.re, C.re]) ?_
  simp -implicitDefEqProofs [hf, go_sem, -List.set_cons_succ, -List.set_cons_zero]
  refine loop_enter (St.le_tokenC 2 4 4 rfl rfl) ?_
  refine loop_set (σ := Nat) (fun i => [(4, .c (.d (.int .i64 i)))]) (fun _ => H) (fun i => [.cells [.d (.int .i64 h.k), .d (.int .i64 h.n), .d (.str h.s), .d (.sl (h.kids.map Tm.row)), .d (.sl (b.map Tm.row))], .cells [.d (.int .i64 0), .d (.int .i64 0), .d (.str []), .full [], .full []], .cells [.d (.int .i64 h.k), .d (.int .i64 h.n), .d (.str h.s), .d (.sl (h.kids.map Tm.row)), .own (.l 3) i ((b.map Tm.row).take i)], .grow i 4])
    (fun i => i ≤ b.length) (fun i => b.length - i) 0 rfl (Nat.zero_le _) ?_
  intro i hi
  simp -implicitDefEqProofs [setAll, hbl, go_sem, -List.set_cons_succ, -List.set_cons_zero]
  refine ⟨fun hlt => ?_, fun hge => ?_⟩
  · have hadd : inR .i64 ((i : Int) + 1) := small_i64 (by omega) (by omega)
    refine row_of hlt (row_len _) ?_
    simp -implicitDefEqProofs [row_len, take_row, pure_d, re_d, hf, go_sem, -List.set_cons_succ, -List.set_cons_zero]
    refine qcall_pure (copy_calls b[i] (hb _ (List.getElem_mem hlt))) hf (by simp [A.re, re_d]) ?_
    simp -implicitDefEqProofs [row_len, toDs_map, hadd, hf, Nat.min_eq_left hi, go_sem, -List.set_cons_succ, -List.set_cons_zero]
    refine ⟨fun r hr => allLen_map row_len r (List.mem_of_mem_take hr), by unfold maxApp; omega, ?_⟩
    refine loop_back (i + 1) ?_ hlt (by show b.length - (i + 1) < b.length - i; omega)
    simp [setAll, take_map_succ hlt]
  · have hil : i = b.length := by omega
    subst hil
    rw [show (b.map Tm.row).take b.length = b.map Tm.row from List.take_of_length_le (by simp)]
    simp -implicitDefEqProofs [hf, go_sem, -List.set_cons_succ, -List.set_cons_zero]
end Go.Proofs.YteighafofbohcaaGreatDoor

/-
  Clauses as the reference reads them.
  Conditions: none.
-/
open Go Go.AM Go.Proofs
namespace Go.Proofs.YteighafofbohcaaGreatDoor
open Go.ChangeShapes Go.WideShapes Go.ChangeAt Go.RowKit
set_option linter.unusedVariables false
set_option linter.unusedSimpArgs false
set_option maxRecDepth 100000
-- 112 loop.example/prologserver/spec.ParseClause params 1 ntmps 58
def ac112 : Cd := .seq (.region [⟨(some 2),.alloc [(.d (.int .i64 0)),(.d (.int .i64 0)),(.d (.str [])),(.full []),(.full [])],none⟩,
 ⟨(some 3),.mv (.k (.c (.d (.bool false)))),none⟩] [3])
 (.seq (.seq (.region [⟨(some 7),.mv (.t 0),none⟩,
 ⟨(some 8),.len 0 (.t 7),none⟩,
 ⟨(some 9),.bin .gtr (.t 8) (.k (.c (.d (.int .i64 1000)))),none⟩] [7,8])
 (.cond (.t 9)
 (.seq (.region [⟨(some 10),.build [(.d (.int .i64 0)),(.d (.int .i64 0)),(.d (.str [])),(.full []),(.full [])] [],none⟩,
 ⟨none,.store 5 (.t 2) (.t 10),none⟩,
 ⟨(some 3),.mv (.k (.c (.d (.bool false)))),none⟩] [0,9,10])
 (.ret))
 (.skip)))
 (.seq (.region [⟨(some 12),.mv (.t 0),none⟩,
 ⟨(some 13),.qcall 119 [(.t 12),(.k (.c (.d (.int .i64 0)))),(.k (.c (.d (.int .i64 30)))),(.k (.c (.d (.int .i64 3))))],none⟩,
 ⟨(some 11),.mv (.t 13),none⟩,
 ⟨(some 14),.extract 0 (.t 11),none⟩,
 ⟨(some 15),.extract 1 (.t 11),none⟩,
 ⟨(some 4),.alloc [(.d (.int .i64 0)),(.d (.int .i64 0)),(.d (.str [])),(.full [])],none⟩,
 ⟨none,.store 4 (.t 4) (.t 14),none⟩,
 ⟨(some 5),.mv (.t 15),none⟩] [3,9,11,12,13,14,15])
 (.seq (.seq (.region [⟨(some 16),.mv (.t 5),none⟩,
 ⟨(some 17),.bin .lss (.t 16) (.k (.c (.d (.int .i64 0)))),none⟩] [16])
 (.cond (.t 17)
 (.seq (.region [⟨(some 18),.build [(.d (.int .i64 0)),(.d (.int .i64 0)),(.d (.str [])),(.full []),(.full [])] [],none⟩,
 ⟨none,.store 5 (.t 2) (.t 18),none⟩,
 ⟨(some 3),.mv (.k (.c (.d (.bool false)))),none⟩] [0,4,5,17,18])
 (.ret))
 (.skip)))
 (.seq (.region [⟨(some 19),.load (some 4) (.t 4),none⟩,
 ⟨(some 20),.build [(.d (.int .i64 0)),(.d (.int .i64 0)),(.d (.str [])),(.full []),(.full [])] [(0,4,(.t 19))],none⟩,
 ⟨(some 6),.alloc [(.d (.int .i64 0)),(.d (.int .i64 0)),(.d (.str [])),(.full []),(.full [])],none⟩,
 ⟨none,.store 5 (.t 6) (.t 20),none⟩] [3,4,17,19,20])
 (.seq (.seq (.region [⟨(some 21),.mv (.t 0),none⟩,
 ⟨(some 22),.mv (.t 5),none⟩,
 ⟨(some 23),.qcall 120 [(.t 21),(.t 22),(.k (.c (.d (.int .u8 58))))],none⟩,
 ⟨(some 24),.mv (.t 23),none⟩,
 ⟨(some 25),.mv (.t 0),some (24,true)⟩,
 ⟨(some 26),.mv (.t 5),some (24,true)⟩,
 ⟨(some 27),.bin .add (.t 26) (.k (.c (.d (.int .i64 1)))),some (24,true)⟩,
 ⟨(some 28),.qcall 120 [(.t 25),(.t 27),(.k (.c (.d (.int .u8 45))))],some (24,true)⟩,
 ⟨(some 29),.pick (.t 24) (.t 28) (.k (.c (.d (.bool false)))),none⟩] [21,22,23,24,25,26,27,28])
 (.cond (.t 29)
 (.region [⟨(some 31),.mv (.t 0),none⟩,
 ⟨(some 32),.mv (.t 5),none⟩,
 ⟨(some 33),.bin .add (.t 32) (.k (.c (.d (.int .i64 2)))),none⟩,
 ⟨(some 34),.qcall 121 [(.t 31),(.t 33)],none⟩,
 ⟨(some 30),.mv (.t 34),none⟩,
 ⟨(some 35),.extract 0 (.t 30),none⟩,
 ⟨(some 36),.extract 1 (.t 30),none⟩,
 ⟨(some 37),.fieldAddr 4 (.t 6),none⟩,
 ⟨none,.store 1 (.t 37) (.t 35),none⟩,
 ⟨(some 5),.mv (.t 36),none⟩] [29,30,31,32,33,34,35,36,37])
 (.skip)))
 (.seq (.seq (.region [⟨(some 38),.mv (.t 5),none⟩,
 ⟨(some 39),.mv (.t 0),none⟩,
 ⟨(some 40),.len 0 (.t 39),none⟩,
 ⟨(some 41),.bin .sub (.t 40) (.k (.c (.d (.int .i64 1)))),none⟩,
 ⟨(some 42),.bin .neq (.t 38) (.t 41),none⟩,
 ⟨(some 43),.mv (.t 42),none⟩,
 ⟨(some 44),.mv (.t 0),some (43,false)⟩,
 ⟨(some 45),.mv (.t 5),some (43,false)⟩,
 ⟨(some 46),.qcall 120 [(.t 44),(.t 45),(.k (.c (.d (.int .u8 46))))],some (43,false)⟩,
 ⟨(some 47),.un .not (.t 46),some (43,false)⟩,
 ⟨(some 48),.pick (.t 43) (.k (.c (.d (.bool true)))) (.t 47),none⟩,
 ⟨(some 49),.mv (.t 48),none⟩,
 ⟨(some 50),.load (some 5) (.t 6),some (49,false)⟩,
 ⟨(some 51),.qcall 122 [(.t 50)],some (49,false)⟩,
 ⟨(some 52),.mv (.t 0),some (49,false)⟩,
 ⟨(some 53),.bin .neq (.t 51) (.t 52),some (49,false)⟩,
 ⟨(some 54),.pick (.t 49) (.k (.c (.d (.bool true)))) (.t 53),none⟩] [0,5,29,38,39,40,41,42,43,44,45,46,47,48,49,50,51,52,53])
 (.cond (.t 54)
 (.seq (.region [⟨(some 55),.build [(.d (.int .i64 0)),(.d (.int .i64 0)),(.d (.str [])),(.full []),(.full [])] [],none⟩,
 ⟨none,.store 5 (.t 2) (.t 55),none⟩,
 ⟨(some 3),.mv (.k (.c (.d (.bool false)))),none⟩] [6,54,55])
 (.ret))
 (.skip)))
 (.seq (.region [⟨(some 56),.load (some 5) (.t 6),none⟩,
 ⟨(some 57),.qcall 110 [(.t 56)],none⟩,
 ⟨none,.store 5 (.t 2) (.t 57),none⟩,
 ⟨(some 3),.mv (.k (.c (.d (.bool true)))),none⟩] [6,54,56,57])
 (.ret))))))))
theorem ac112_ok : cFunc Tryz.prog [1000110,1000119,1000120,1000121,1000122] [(0,[3],[]),(1,[7,8],[]),(2,[0,9,10],[]),(3,[3,9,11,12,13,14,15],[]),(4,[16],[]),(5,[0,4,5,17,18],[]),(6,[3,4,17,19,20],[]),(7,[21,22,23,24,25,26,27,28],[]),(8,[29,30,31,32,33,34,35,36,37],[]),(9,[0,5,29,38,39,40,41,42,43,44,45,46,47,48,49,50,51,52,53],[]),(10,[6,54,55],[]),(11,[6,54,56,57],[])] Tryz.f112 = some (ac112,[.cell 2 (some 5),.tmp 3],58) := by kernel_rfl
def zCl : Cl := ⟨.mk 0 0 [] [], []⟩
def clA : Option Cl → A
  | some c => .tup [.agg (c.row.map .d), .c (.d (.bool true))]
  | none => .tup [.agg (zCl.row.map .d), .c (.d (.bool false))]
theorem goalsR_ok2 (s : List UInt8) (hs : s.length ≤ 1000000) (i : Nat) (hi : i ≤ s.length) {ts : List Tm} {k : Nat} (h : goalsR s 7 i = some (ts, k)) : k ≤ s.length ∧ ts.length ≤ 7 ∧ (∀ t ∈ ts, t.fits) :=
  let ⟨a, b, c, _⟩ := goalsR_ok s hs 7 i ts k hi h
  ⟨a, b, c⟩
theorem clauseR_fits (s : List UInt8) (hs : s.length ≤ 1000000) {c : Cl} (h : clauseR Tm.wr s = some c) : c.fits ∧ c.validB = true := by
  unfold clauseR at h
  have key : ∀ (c0 : Cl) (j : Nat), c0.fits → clauseB Tm.wr s c0 j = some c → c.fits ∧ c.validB = true := by
    intro c0 j h0 h1
    unfold clauseB at h1
    split at h1
    · rename_i hc
      simp only [Bool.and_eq_true] at hc
      cases h1
      exact ⟨h0, hc.1.2⟩
    · cases h1
  split at h
  · cases h
  · obtain ⟨r, hr, hpost⟩ := rdF_ok s hs 0 30 (by omega)
    rw [hr] at h
    cases r with
    | bad e => cases h
    | ok us j =>
      obtain ⟨g1, g2, t, rfl, g3⟩ := hpost
      simp only [Rs.tm] at h
      split at h
      · rename_i hsg
        have hj : j + 1 < s.length := by
          simp only [Bool.and_eq_true] at hsg
          exact sgn_lt hsg.2
        split at h
        · rename_i b k hg
          obtain ⟨q1, q2, q3⟩ := goalsR_ok2 s hs (j + 2) (by omega) hg
          exact key ⟨t, b⟩ k ⟨g3, by show b.length ≤ 1048576; omega, q3⟩ h
        · cases h
      · exact key ⟨t, []⟩ j ⟨g3, by simp, by simp⟩ h
theorem pcSpec_calls (s : List UInt8) (hs : s.length ≤ 1000000) (H : Heap) : ACalls Tryz.prog 112 [.c (.d (.str s))] H (fun r H' => H' = H ∧ r = clA (clauseR Tm.wr s)) := by
  refine acalls Tryz.func112 (by kernel_rfl) ac112_ok fun hf => ?_
  have hli : inR .i64 (s.length : Int) := small_i64 (by omega) (by omega)
  have hl1 : inR .i64 ((s.length : Int) - 1) := small_i64 (by omega) (by omega)
  unfold clauseR
  by_cases h1000 : 1000 < s.length
  · have h1 : (1000 : Int) < s.length := by omega
    simp -implicitDefEqProofs [ac112, hli, h1, h1000, hf, clA, zCl, Cl.row, Tm.k, Tm.n, Tm.s, Tm.kids, go_sem, -List.set_cons_succ, -List.set_cons_zero]
  · have h1 : ¬ (1000 : Int) < s.length := by omega
    rw [if_neg h1000]
    obtain ⟨r, hr, hpost⟩ := rdF_ok s hs 0 30 (by omega)
    have c1 := (par s hs _).read 0 30 3 r (by omega) (by omega) (by omega) hr
    simp only [Int.cast_ofNat_Int] at c1
    rw [hr]
    simp -implicitDefEqProofs [ac112, hli, h1, go_sem, -List.set_cons_succ, -List.set_cons_zero]
    refine qcall_pure c1 hf (readA_re _ _) ?_
    cases r with
    | bad e =>
      have he : e ≤ s.length := hpost
      have hneg : (-1 - (e : Int)) < 0 := by omega
      simp -implicitDefEqProofs [readA, hneg, row_mk, clA, zCl, Cl.row, Tm.k, Tm.n, Tm.s, Tm.kids, hf, go_sem, -List.set_cons_succ, -List.set_cons_zero]
    | ok us j =>
      obtain ⟨g1, g2, t, rfl, g3⟩ := hpost
      obtain ⟨k, n, nm, l⟩ := t
      have hj0 : ¬ (j : Int) < 0 := by omega
      have hj1 : inR .i64 ((j : Int) + 1) := small_i64 (by omega) (by omega)
      have hj2 : inR .i64 ((j : Int) + 2) := small_i64 (by omega) (by omega)
      simp -implicitDefEqProofs [readA, Rs.tm, hj0, row_mk, hf, go_sem, -List.set_cons_succ, -List.set_cons_zero]
      refine qcall_pure (sign_calls s hs j (by omega) 58) hf rfl ?_
      have cd2 := sign_calls s hs (j + 1) (by omega) 45
      simp only [Int.natCast_add, Int.cast_ofNat_Int] at cd2
      cases hsg : sgn s j 58 with
      | false =>
        simp -implicitDefEqProofs [hj1, hf, hl1, hli, go_sem, -List.set_cons_succ, -List.set_cons_zero]
        have hft : (⟨.mk k n nm l, []⟩ : Cl).fits := ⟨g3, by simp, by simp⟩
        have cf := fmtC_calls _ hft
        have cc := clCopy_calls _ hft
        simp only [Cl.row, Tm.k, Tm.n, Tm.s, Tm.kids, List.map_cons, List.map_nil] at cf cc
        refine ⟨fun he => ⟨he, ?_⟩, fun he => ?_⟩
        · have he2 : j + 1 = s.length := by omega
          refine qcall_pure (sign_calls s hs j (by omega) 46) hf rfl ?_
          cases hs4 : sgn s j 46 with
          | false => simp -implicitDefEqProofs [clauseB, hs4, clA, zCl, Cl.row, Tm.k, Tm.n, Tm.s, Tm.kids, hf, go_sem, -List.set_cons_succ, -List.set_cons_zero]
          | true =>
            simp -implicitDefEqProofs [hf, go_sem, -List.set_cons_succ, -List.set_cons_zero]
            refine qcall_pure cf hf rfl ?_
            cases hv : Cl.validB ⟨.mk k n nm l, []⟩ with
            | false =>
              have hne : ¬ ([] : List UInt8) = s := fun h => by
                rw [← h] at he2
                simp at he2
              have hne2 : ¬ s = ([] : List UInt8) := fun h => hne h.symm
              simp -implicitDefEqProofs [clauseB, hs4, hv, hne, hne2, clA, zCl, Cl.row, Tm.k, Tm.n, Tm.s, Tm.kids, hf, go_sem, -List.set_cons_succ, -List.set_cons_zero]
            | true =>
              simp -implicitDefEqProofs [hf, go_sem, -List.set_cons_succ, -List.set_cons_zero]
              refine ⟨fun hw => ?_, fun hw => ?_⟩
              · simp -implicitDefEqProofs [clauseB, hs4, hv, hw, he2, clA, zCl, Cl.row, Tm.k, Tm.n, Tm.s, Tm.kids, hf, go_sem, -List.set_cons_succ, -List.set_cons_zero]
              · refine qcall_pure cc hf (by simp [A.re, C.re]) ?_
                simp -implicitDefEqProofs [clauseB, hs4, hv, hw, he2, clA, zCl, Cl.row, Tm.k, Tm.n, Tm.s, Tm.kids, hf, go_sem, -List.set_cons_succ, -List.set_cons_zero]
        · have he2 : ¬ j + 1 = s.length := by omega
          simp [clauseB, he2, clA, zCl, Cl.row, Tm.k, Tm.n, Tm.s, Tm.kids]
      | true =>
        simp -implicitDefEqProofs [hj1, hf, go_sem, -List.set_cons_succ, -List.set_cons_zero]
        refine qcall_pure cd2 hf rfl ?_
        cases hsg2 : sgn s (j + 1) 45 with
        | false =>
          simp -implicitDefEqProofs [hf, hl1, hli, go_sem, -List.set_cons_succ, -List.set_cons_zero]
          have hft : (⟨.mk k n nm l, []⟩ : Cl).fits := ⟨g3, by simp, by simp⟩
          have cf := fmtC_calls _ hft
          have cc := clCopy_calls _ hft
          simp only [Cl.row, Tm.k, Tm.n, Tm.s, Tm.kids, List.map_cons, List.map_nil] at cf cc
          refine ⟨fun he => ⟨he, ?_⟩, fun he => ?_⟩
          · have he2 : j + 1 = s.length := by omega
            refine qcall_pure (sign_calls s hs j (by omega) 46) hf rfl ?_
            cases hs4 : sgn s j 46 with
            | false => simp -implicitDefEqProofs [clauseB, hs4, clA, zCl, Cl.row, Tm.k, Tm.n, Tm.s, Tm.kids, hf, go_sem, -List.set_cons_succ, -List.set_cons_zero]
            | true =>
              simp -implicitDefEqProofs [hf, go_sem, -List.set_cons_succ, -List.set_cons_zero]
              refine qcall_pure cf hf rfl ?_
              cases hv : Cl.validB ⟨.mk k n nm l, []⟩ with
              | false =>
                have hne : ¬ ([] : List UInt8) = s := fun h => by
                  rw [← h] at he2
                  simp at he2
                have hne2 : ¬ s = ([] : List UInt8) := fun h => hne h.symm
                simp -implicitDefEqProofs [clauseB, hs4, hv, hne, hne2, clA, zCl, Cl.row, Tm.k, Tm.n, Tm.s, Tm.kids, hf, go_sem, -List.set_cons_succ, -List.set_cons_zero]
              | true =>
                simp -implicitDefEqProofs [hf, go_sem, -List.set_cons_succ, -List.set_cons_zero]
                refine ⟨fun hw => ?_, fun hw => ?_⟩
                · simp -implicitDefEqProofs [clauseB, hs4, hv, hw, he2, clA, zCl, Cl.row, Tm.k, Tm.n, Tm.s, Tm.kids, hf, go_sem, -List.set_cons_succ, -List.set_cons_zero]
                · refine qcall_pure cc hf (by simp [A.re, C.re]) ?_
                  simp -implicitDefEqProofs [clauseB, hs4, hv, hw, he2, clA, zCl, Cl.row, Tm.k, Tm.n, Tm.s, Tm.kids, hf, go_sem, -List.set_cons_succ, -List.set_cons_zero]
          · have he2 : ¬ j + 1 = s.length := by omega
            simp [clauseB, he2, clA, zCl, Cl.row, Tm.k, Tm.n, Tm.s, Tm.kids]
        | true =>
          have hjl := sgn_lt hsg2
          have cg := l4Goals_calls s hs (j + 2) (by omega)
          simp only [Int.natCast_add, Int.cast_ofNat_Int] at cg
          simp -implicitDefEqProofs [hj2, hf, go_sem, -List.set_cons_succ, -List.set_cons_zero]
          cases hg : goalsR s 7 (j + 2) with
          | none =>
            rw [hg] at cg
            refine qcall_pure cg hf (by simp [goalsA, A.re, A.res, C.re]) ?_
            have hm : ¬ (-1 : Int) = (s.length : Int) - 1 := by omega
            simp -implicitDefEqProofs [goalsA, hf, hl1, hli, hm, clA, zCl, Cl.row, Tm.k, Tm.n, Tm.s, Tm.kids, go_sem, -List.set_cons_succ, -List.set_cons_zero]
          | some q =>
            obtain ⟨b, e⟩ := q
            rw [hg] at cg
            obtain ⟨q1, q2, q3⟩ := goalsR_ok2 s hs (j + 2) (by omega) hg
            refine qcall_pure cg hf (by simp [goalsA, A.re, A.res, C.re]) ?_
            simp -implicitDefEqProofs [goalsA, hf, hl1, hli, go_sem, -List.set_cons_succ, -List.set_cons_zero]
            have hft : (⟨.mk k n nm l, b⟩ : Cl).fits := ⟨g3, by show b.length ≤ 1048576; omega, q3⟩
            have cf := fmtC_calls _ hft
            have cc := clCopy_calls _ hft
            simp only [Cl.row, Tm.k, Tm.n, Tm.s, Tm.kids, List.map_cons, List.map_nil] at cf cc
            refine ⟨fun he => ⟨he, ?_⟩, fun he => ?_⟩
            · have he2 : e + 1 = s.length := by omega
              refine qcall_pure (sign_calls s hs e (by omega) 46) hf rfl ?_
              cases hs4 : sgn s e 46 with
              | false => simp -implicitDefEqProofs [clauseB, hs4, clA, zCl, Cl.row, Tm.k, Tm.n, Tm.s, Tm.kids, hf, go_sem, -List.set_cons_succ, -List.set_cons_zero]
              | true =>
                simp -implicitDefEqProofs [hf, go_sem, -List.set_cons_succ, -List.set_cons_zero]
                refine qcall_pure cf hf rfl ?_
                cases hv : Cl.validB ⟨.mk k n nm l, b⟩ with
                | false =>
                  have hne : ¬ ([] : List UInt8) = s := fun h => by
                    rw [← h] at he2
                    simp at he2
                  have hne2 : ¬ s = ([] : List UInt8) := fun h => hne h.symm
                  simp -implicitDefEqProofs [clauseB, hs4, hv, hne, hne2, clA, zCl, Cl.row, Tm.k, Tm.n, Tm.s, Tm.kids, hf, go_sem, -List.set_cons_succ, -List.set_cons_zero]
                | true =>
                  simp -implicitDefEqProofs [hf, go_sem, -List.set_cons_succ, -List.set_cons_zero]
                  refine ⟨fun hw => ?_, fun hw => ?_⟩
                  · simp -implicitDefEqProofs [clauseB, hs4, hv, hw, he2, clA, zCl, Cl.row, Tm.k, Tm.n, Tm.s, Tm.kids, hf, go_sem, -List.set_cons_succ, -List.set_cons_zero]
                  · refine qcall_pure cc hf (by simp [A.re, C.re]) ?_
                    simp -implicitDefEqProofs [clauseB, hs4, hv, hw, he2, clA, zCl, Cl.row, Tm.k, Tm.n, Tm.s, Tm.kids, hf, go_sem, -List.set_cons_succ, -List.set_cons_zero]
            · have he2 : ¬ e + 1 = s.length := by omega
              simp [clauseB, he2, clA, zCl, Cl.row, Tm.k, Tm.n, Tm.s, Tm.kids]
end Go.Proofs.YteighafofbohcaaGreatDoor

/-
  Programs as the reference reads them.
  Conditions: none.
-/
open Go Go.AM Go.Proofs
namespace Go.Proofs.YteighafofbohcaaGreatDoor
open Go.ChangeShapes Go.WideShapes Go.ChangeAt Go.RowKit
set_option linter.unusedVariables false
set_option linter.unusedSimpArgs false
set_option maxRecDepth 100000
-- 111 loop.example/prologserver/spec.l18Cut params 2 ntmps 36
-- loop head live: [0,1,5,6,7]
def ac111 : Cd := .seq (.region [⟨(some 4),.mv (.k (.c (.full []))),none⟩] [4])
 (.seq (.region [⟨(some 8),.buildSlice 1 0 [(.str [])] [],none⟩,
 ⟨(some 5),.mv (.t 8),none⟩] [8])
 (.seq (.region [⟨(some 6),.mv (.k (.c (.d (.int .i64 0)))),none⟩] [])
 (.seq (.seq (.region [⟨(some 7),.mv (.k (.c (.d (.int .i64 0)))),none⟩] [])
 (.block 0 (.loop (.seq (.seq (.region [⟨(some 9),.mv (.t 7),none⟩,
 ⟨(some 10),.mv (.t 0),none⟩,
 ⟨(some 11),.len 0 (.t 10),none⟩,
 ⟨(some 12),.bin .leq (.t 9) (.t 11),none⟩] [9,10,11])
 (.cond (.t 12)
 (.skip)
 (.exit 0)))
 (.seq (.block 1 (.seq (.region [⟨(some 15),.mv (.t 7),none⟩,
 ⟨(some 16),.mv (.t 0),none⟩,
 ⟨(some 17),.len 0 (.t 16),none⟩,
 ⟨(some 18),.bin .eql (.t 15) (.t 17),none⟩,
 ⟨(some 19),.mv (.t 18),none⟩,
 ⟨(some 20),.mv (.t 0),some (19,false)⟩,
 ⟨(some 21),.mv (.t 7),some (19,false)⟩,
 ⟨(some 22),.index (.t 20) (.t 21),some (19,false)⟩,
 ⟨(some 23),.mv (.t 1),some (19,false)⟩,
 ⟨(some 24),.bin .eql (.t 22) (.t 23),some (19,false)⟩,
 ⟨(some 25),.pick (.t 19) (.k (.c (.d (.bool true)))) (.t 24),none⟩] [12,15,16,17,18,19,20,21,22,23,24])
 (.cond (.t 25)
 (.seq (.region [⟨(some 26),.mv (.t 5),none⟩,
 ⟨(some 27),.mv (.t 0),none⟩,
 ⟨(some 28),.mv (.t 6),none⟩,
 ⟨(some 29),.mv (.t 7),none⟩,
 ⟨(some 30),.slice 0 (.t 27) (some (.t 28)) (some (.t 29)) none,none⟩,
 ⟨(some 31),.buildSlice 1 1 [(.str [])] [(0,(.t 30))],none⟩,
 ⟨(some 32),.append false 1 (.t 26) (.t 31),none⟩,
 ⟨(some 5),.mv (.t 32),none⟩] [6,25,26,27,28,29,30,31,32])
 (.region [⟨(some 33),.mv (.t 7),none⟩,
 ⟨(some 34),.bin .add (.t 33) (.k (.c (.d (.int .i64 1)))),none⟩,
 ⟨(some 6),.mv (.t 34),none⟩] [33,34]))
 (.skip))))
 (.region [⟨(some 13),.mv (.t 7),none⟩,
 ⟨(some 14),.bin .add (.t 13) (.k (.c (.d (.int .i64 1)))),none⟩,
 ⟨(some 7),.mv (.t 14),none⟩] [13,14,25]))))))
 (.seq (.region [⟨(some 35),.mv (.t 5),none⟩,
 ⟨(some 4),.mv (.t 35),none⟩] [5,35])
 (.ret)))))
theorem ac111_ok : cFunc Tryz.prog [] [(0,[4],[]),(1,[8],[]),(2,[],[]),(3,[],[]),(4,[9,10,11],[]),(6,[12,15,16,17,18,19,20,21,22,23,24],[]),(7,[6,25,26,27,28,29,30,31,32],[]),(8,[33,34],[]),(5,[13,14,25],[]),(9,[5,35],[])] Tryz.f111 = some (ac111,[.tmp 4],36) := by kernel_rfl
-- 90 loop.example/prologserver/spec.ParseProgram params 1 ntmps 48
-- loop head live: [4,5,6]
def ac90 : Cd := .seq (.region [⟨(some 2),.mv (.k (.c (.full []))),none⟩,
 ⟨(some 3),.mv (.k (.c (.d (.bool false)))),none⟩] [2,3])
 (.seq (.region [⟨(some 9),.buildSlice 5 0 [(.int .i64 0),(.int .i64 0),(.str []),(.sl []),(.sl [])] [],none⟩,
 ⟨(some 4),.mv (.t 9),none⟩] [9])
 (.seq (.region [⟨(some 10),.mv (.t 0),none⟩,
 ⟨(some 11),.qcall 111 [(.t 10),(.k (.c (.d (.int .u8 10))))],none⟩,
 ⟨(some 5),.mv (.t 11),none⟩] [0,10,11])
 (.seq (.seq (.region [⟨(some 12),.mv (.t 5),none⟩,
 ⟨(some 13),.len 1 (.t 12),none⟩,
 ⟨(some 14),.bin .gtr (.t 13) (.k (.c (.d (.int .i64 21)))),none⟩,
 ⟨(some 15),.mv (.t 14),none⟩,
 ⟨(some 16),.mv (.t 5),some (15,false)⟩,
 ⟨(some 17),.mv (.t 5),some (15,false)⟩,
 ⟨(some 18),.len 1 (.t 17),some (15,false)⟩,
 ⟨(some 19),.bin .sub (.t 18) (.k (.c (.d (.int .i64 1)))),some (15,false)⟩,
 ⟨(some 20),.indexAddr 1 (.t 16) (.t 19),some (15,false)⟩,
 ⟨(some 21),.load none (.t 20),some (15,false)⟩,
 ⟨(some 22),.bin .neq (.t 21) (.k (.c (.d (.str [])))),some (15,false)⟩,
 ⟨(some 23),.pick (.t 15) (.k (.c (.d (.bool true)))) (.t 22),none⟩] [12,13,14,15,16,17,18,19,20,21,22])
 (.cond (.t 23)
 (.seq (.region [⟨(some 24),.mv (.t 4),none⟩,
 ⟨(some 2),.mv (.t 24),none⟩,
 ⟨(some 3),.mv (.k (.c (.d (.bool false)))),none⟩] [4,5,23,24])
 (.ret))
 (.skip)))
 (.seq (.seq (.region [⟨(some 6),.mv (.k (.c (.d (.int .i64 0)))),none⟩] [2,3,23])
 (.block 0 (.loop (.seq (.seq (.region [⟨(some 25),.mv (.t 6),none⟩,
 ⟨(some 26),.bin .add (.t 25) (.k (.c (.d (.int .i64 1)))),none⟩,
 ⟨(some 27),.mv (.t 5),none⟩,
 ⟨(some 28),.len 1 (.t 27),none⟩,
 ⟨(some 29),.bin .lss (.t 26) (.t 28),none⟩] [25,26,27,28])
 (.cond (.t 29)
 (.skip)
 (.exit 0)))
 (.seq (.block 1 (.seq (.region [⟨(some 33),.mv (.t 5),none⟩,
 ⟨(some 34),.mv (.t 6),none⟩,
 ⟨(some 35),.indexAddr 1 (.t 33) (.t 34),none⟩,
 ⟨(some 36),.load none (.t 35),none⟩,
 ⟨(some 37),.qcall 112 [(.t 36)],none⟩,
 ⟨(some 32),.mv (.t 37),none⟩,
 ⟨(some 38),.extract 0 (.t 32),none⟩,
 ⟨(some 39),.extract 1 (.t 32),none⟩,
 ⟨(some 7),.alloc [(.d (.int .i64 0)),(.d (.int .i64 0)),(.d (.str [])),(.full []),(.full [])],none⟩,
 ⟨none,.store 5 (.t 7) (.t 38),none⟩,
 ⟨(some 8),.mv (.t 39),none⟩] [29,32,33,34,35,36,37,38,39])
 (.seq (.seq (.region [⟨(some 40),.mv (.t 8),none⟩,
 ⟨(some 41),.un .not (.t 40),none⟩] [8,40])
 (.cond (.t 41)
 (.seq (.region [⟨(some 42),.buildSlice 5 0 [(.int .i64 0),(.int .i64 0),(.str []),(.sl []),(.sl [])] [],none⟩,
 ⟨(some 2),.mv (.t 42),none⟩,
 ⟨(some 3),.mv (.k (.c (.d (.bool false)))),none⟩] [4,5,6,7,41,42])
 (.ret))
 (.skip)))
 (.region [⟨(some 43),.mv (.t 4),none⟩,
 ⟨(some 44),.load (some 5) (.t 7),none⟩,
 ⟨(some 45),.buildSlice 5 1 [(.int .i64 0),(.int .i64 0),(.str []),(.sl []),(.sl [])] [(0,(.t 44))],none⟩,
 ⟨(some 46),.append false 5 (.t 43) (.t 45),none⟩,
 ⟨(some 4),.mv (.t 46),none⟩] [2,3,7,41,43,44,45,46]))))
 (.region [⟨(some 30),.mv (.t 6),none⟩,
 ⟨(some 31),.bin .add (.t 30) (.k (.c (.d (.int .i64 1)))),none⟩,
 ⟨(some 6),.mv (.t 31),none⟩] [30,31]))))))
 (.seq (.region [⟨(some 47),.mv (.t 4),none⟩,
 ⟨(some 2),.mv (.t 47),none⟩,
 ⟨(some 3),.mv (.k (.c (.d (.bool true)))),none⟩] [4,47])
 (.ret))))))
theorem ac90_ok : cFunc Tryz.prog [1000111,1000112] [(0,[2,3],[]),(1,[9],[]),(2,[0,10,11],[]),(3,[12,13,14,15,16,17,18,19,20,21,22],[]),(4,[4,5,23,24],[]),(5,[2,3,23],[]),(6,[25,26,27,28],[]),(8,[29,32,33,34,35,36,37,38,39],[]),(9,[8,40],[]),(10,[4,5,6,7,41,42],[]),(11,[2,3,7,41,43,44,45,46],[]),(7,[30,31],[]),(12,[4,47],[])] Tryz.f90 = some (ac90,[.tmp 2,.tmp 3],48) := by kernel_rfl
def glue (p : List UInt8) : List (List UInt8) → List (List UInt8)
  | l :: r => (p ++ l) :: r
  | [] => [p]
theorem cutAt_ne (c : UInt8) : ∀ s : List UInt8, cutAt c s ≠ []
  | [] => by simp [cutAt]
  | b :: s => by
    unfold cutAt
    split
    · simp
    · split <;> simp
theorem glue_nil (l : List (List UInt8)) (h : l ≠ []) : glue [] l = l := by
  cases l with
  | nil => exact absurd rfl h
  | cons a l => rfl
theorem glue_cut (c b : UInt8) (p s : List UInt8) : glue p (cutAt c (b :: s)) = if b = c then p :: cutAt c s else glue (p ++ [b]) (cutAt c s) := by
  rw [cutAt]
  by_cases h : b = c
  · simp [h, glue]
  · simp only [if_neg h]
    cases hc : cutAt c s with
    | nil => exact absurd hc (cutAt_ne c s)
    | cons l r => simp [glue]
theorem byte_off2 {g : Bool} {s : List UInt8} {i : Int} (b : UInt8) {K : A → St → Prop} {st : St} (hg : g = false) (hk : K (.c (.d (.int .u8 b.toNat))) st) : ByteK g s i K st := ⟨b, fun h => absurd (hg ▸ h) (by simp), hk⟩
theorem byte_nat2 {g : Bool} {s : List UInt8} {i : Nat} {K : A → St → Prop} {st : St} (h : i < s.length) (hg : g = true) (hk : K (.c (.d (.int .u8 s[i].toNat))) st) : ByteK g s i K st := by
  subst hg
  exact byte_nat h hk
theorem cut_calls (s : List UInt8) (hs : s.length ≤ 1000000) (c : UInt8) (H : Heap) : ACalls Tryz.prog 111 [.c (.d (.str s)), .c (.d (.int .u8 c.toNat))] H (fun r H' => H' = H ∧ r = .c (.d (.sl ((cutAt c s).map strRow)))) := by
  refine acalls Tryz.func111 (by kernel_rfl) ac111_ok fun hf => ?_
  have hli : inR .i64 (s.length : Int) := small_i64 (by omega) (by omega)
  simp -implicitDefEqProofs [ac111, go_sem, -List.set_cons_succ, -List.set_cons_zero]
  refine loop_enter (St.le_token 5 1 rfl) ?_
  refine loop_set (σ := Nat × Nat × List (List UInt8)) (fun x => [(7, .c (.d (.int .i64 x.1))), (6, .c (.d (.int .i64 x.2.1))), (5, .c (.own (.l 0) x.2.2.length (x.2.2.map strRow)))]) (fun _ => H) (fun x => [.grow x.2.2.length 1])
    (fun x => x.2.2.length ≤ x.1 ∧ ((x.1 ≤ s.length ∧ x.2.1 ≤ x.1 ∧ x.2.2 ++ glue ((s.take x.1).drop x.2.1) (cutAt c (s.drop x.1)) = cutAt c s) ∨ (x.1 = s.length + 1 ∧ x.2.2 = cutAt c s))) (fun x => s.length + 1 - x.1) (0, 0, []) (by simp [setAll]) ⟨Nat.zero_le _, .inl ⟨Nat.zero_le _, Nat.zero_le _, by simp [glue_nil _ (cutAt_ne c s)]⟩⟩ ?_
  rintro ⟨i, fr, out⟩ ⟨hol, hI⟩
  simp only at hol hI
  simp -implicitDefEqProofs [setAll, hli, go_sem, -List.set_cons_succ, -List.set_cons_zero]
  refine ⟨fun hle => ?_, fun hgt => ?_⟩
  · obtain ⟨_, hfr, hcut⟩ := hI.resolve_right (by omega)
    have hadd : inR .i64 ((i : Int) + 1) := small_i64 (by omega) (by omega)
    by_cases he : i = s.length
    · subst he
      refine byte_off2 0 (by simp) ?_
      simp -implicitDefEqProofs [hadd, go_sem, -List.set_cons_succ, -List.set_cons_zero]
      refine ⟨hfr, fun r hr => ?_, by unfold maxApp; omega, ?_⟩
      · obtain ⟨y, _, rfl⟩ := List.mem_map.1 hr; rfl
      refine loop_back (s.length + 1, s.length + 1, out ++ [s.drop fr]) (by simp [setAll, strRow]) ⟨by simp; omega, .inr ⟨rfl, ?_⟩⟩ (by show s.length + 1 - (s.length + 1) < _; omega)
      rw [← hcut]
      simp [cutAt, glue]
    · have he2 : ¬ (i : Int) = s.length := by omega
      have hlt : i < s.length := by omega
      refine byte_nat2 hlt (by simp [he2]) ?_
      simp -implicitDefEqProofs [he, he2, hadd, go_sem, -List.set_cons_succ, -List.set_cons_zero]
      have hdr : s.drop i = s[i] :: s.drop (i + 1) := List.drop_eq_getElem_cons hlt
      rw [hdr, glue_cut] at hcut
      refine ⟨fun hb => ⟨⟨hfr, by omega⟩, fun r hr => ?_, by unfold maxApp; omega, ?_⟩, fun hb => ?_⟩
      · obtain ⟨y, _, rfl⟩ := List.mem_map.1 hr; rfl
      · have hb2 : s[i] = c := UInt8.toNat_inj.1 (by omega)
        rw [if_pos hb2] at hcut
        refine loop_back (i + 1, i + 1, out ++ [(s.take i).drop fr]) (by simp [setAll, strRow]) ⟨by simp; omega, .inl ⟨hlt, Nat.le_refl _, ?_⟩⟩ (by show s.length + 1 - (i + 1) < s.length + 1 - i; omega)
        rw [← hcut]
        simp [glue_nil _ (cutAt_ne c _)]
      · have hb2 : ¬ s[i] = c := fun h => hb (by rw [h])
        rw [if_neg hb2] at hcut
        refine loop_back (i + 1, fr, out) (by simp [setAll]) ⟨by dsimp only; omega, .inl ⟨hlt, by dsimp only; omega, ?_⟩⟩ (by show s.length + 1 - (i + 1) < s.length + 1 - i; omega)
        rw [← hcut]
        simp only
        rw [List.take_succ_eq_append_getElem hlt, List.drop_append_of_le_length (by simp; omega)]
  · obtain ⟨_, hcut⟩ := hI.resolve_left (by omega)
    simp -implicitDefEqProofs [hcut, hf, go_sem, -List.set_cons_succ, -List.set_cons_zero]
theorem linesR_cons (W : Tm → List UInt8) (a b : List UInt8) (l : List (List UInt8)) : linesR W (a :: b :: l) = match clauseR W a, linesR W (b :: l) with | some c, some p => some (c :: p) | _, _ => none := rfl
def progA (x : List Cl × Bool) : A := .tup [.c (.d (.sl (x.1.map Cl.row))), .c (.d (.bool x.2))]
def pre (out : List Cl) : Option (List Cl) → List Cl × Bool
  | some p => (out ++ p, true)
  | none => ([], false)
theorem cut_mem (c : UInt8) : ∀ s : List UInt8, ∀ l ∈ cutAt c s, l.length ≤ s.length
  | [], l, h => by
    simp [cutAt] at h
    subst h
    simp
  | b :: s, l, h => by
    have ih := cut_mem c s
    rw [cutAt] at h
    split at h
    · rcases List.mem_cons.1 h with rfl | h
      · simp
      · have := ih l h; simp; omega
    · cases hc : cutAt c s with
      | nil => exact absurd hc (cutAt_ne c s)
      | cons x r =>
        rw [hc] at h ih
        rcases List.mem_cons.1 h with rfl | h
        · have := ih x (by simp); simp; omega
        · have := ih l (by simp [h]); simp; omega
theorem cutAt_len (c : UInt8) : ∀ s : List UInt8, (cutAt c s).length ≤ s.length + 1
  | [] => by simp [cutAt]
  | b :: s => by
    have ih := cutAt_len c s
    rw [cutAt]
    split
    · simp; omega
    · cases hc : cutAt c s with
      | nil => simp
      | cons x r => rw [hc] at ih; simp at ih ⊢; omega
set_option maxHeartbeats 1600000 in
theorem ppSpec_calls (s : List UInt8) (hs : s.length ≤ 1000000) (H : Heap) : ACalls Tryz.prog 90 [.c (.d (.str s))] H (fun r H' => H' = H ∧ r = progA (progR Tm.wr s)) := by
  refine acalls Tryz.func90 (by kernel_rfl) ac90_ok fun hf => ?_
  have c1 := cut_calls s hs 10
  have e10 : ((10 : UInt8).toNat : Int) = 10 := rfl
  rw [e10] at c1
  have hmem := cut_mem 10 s
  have hlen := cutAt_len 10 s
  have hne := cutAt_ne 10 s
  unfold progR
  generalize cutAt 10 s = L at *
  have hll : inR .i64 (L.length : Int) := small_i64 (by omega) (by omega)
  have hl1 : inR .i64 ((L.length : Int) - 1) := small_i64 (by omega) (by omega)
  have hlp : 1 ≤ L.length := by cases L with
    | nil => exact absurd rfl hne
    | cons a l => simp
  simp -implicitDefEqProofs [ac90, go_sem, -List.set_cons_succ, -List.set_cons_zero]
  refine qcall_pure c1 hf rfl ?_
  by_cases h21 : 21 < L.length
  · have h21' : (21 : Int) < L.length := by omega
    simp -implicitDefEqProofs [hll, hl1, h21, h21', progA, hf, go_sem, -List.set_cons_succ, -List.set_cons_zero]
    refine row_off [.str []] ?_
    simp -implicitDefEqProofs [hf, go_sem, -List.set_cons_succ, -List.set_cons_zero]
  · have h21' : ¬ (21 : Int) < L.length := by omega
    simp -implicitDefEqProofs [hll, hl1, h21, h21', hf, go_sem, -List.set_cons_succ, -List.set_cons_zero]
    have hlast : L[L.length - 1]? = some (L.getLastD []) := by
      cases L with
      | nil => exact absurd rfl hne
      | cons a l => rw [← List.getLast?_eq_getElem?]; simp [List.getLastD_eq_getLast?, List.getLast?_cons]
    refine row_int [.str (L.getLastD [])] (by omega) (by rw [show ((L.length : Int) - 1).toNat = L.length - 1 by omega, List.getElem?_map, hlast]; rfl) rfl ?_
    cases hlx : L.getLastD [] with
    | cons y ys =>
      have hlx2 : ¬ L.getLast?.getD [] = [] := by rw [List.getLastD_eq_getLast?] at hlx; rw [hlx]; simp
      simp -implicitDefEqProofs [progA, hlx, hlx2, hf, go_sem, -List.set_cons_succ, -List.set_cons_zero]
    | nil =>
      have hlx2 : L.getLast?.getD [] = [] := by rw [List.getLastD_eq_getLast?] at hlx; exact hlx
      simp -implicitDefEqProofs [hlx2, hf, go_sem, -List.set_cons_succ, -List.set_cons_zero]
      refine loop_enter (St.le_token 4 5 rfl) ?_
      have hres : linesR Tm.wr L = linesR Tm.wr (L.drop 0) := rfl
      refine loop_set (σ := Nat × List Cl) (fun x => [(6, .c (.d (.int .i64 x.1))), (4, .c (.own (.l 0) x.2.length (x.2.map Cl.row)))]) (fun _ => H) (fun x => [.grow x.2.length 5])
        (fun x => x.1 + 1 ≤ L.length ∧ x.2.length = x.1 ∧ pre x.2 (linesR Tm.wr (L.drop x.1)) = pre [] (linesR Tm.wr L)) (fun x => L.length - x.1) (0, []) (by simp [setAll]) ⟨hlp, rfl, rfl⟩ ?_
      rintro ⟨i, out⟩ ⟨hi, hol, hpre⟩
      simp only at hi hol hpre
      have hadd : inR .i64 ((i : Int) + 1) := small_i64 (by omega) (by omega)
      have hgoal : (match linesR Tm.wr L with | some p => (p, true) | none => ([], false)) = pre [] (linesR Tm.wr L) := by
        cases linesR Tm.wr L <;> rfl
      have hg2 : ∀ r, r = progA (pre [] (linesR Tm.wr L)) → r = progA (match linesR Tm.wr L with | some p => (p, true) | none => ([], false)) := fun r h => by rw [hgoal]; exact h
      simp -implicitDefEqProofs [setAll, hll, hadd, go_sem, -List.set_cons_succ, -List.set_cons_zero]
      refine ⟨fun hlt => ?_, fun hge => ?_⟩
      · have hlt2 : i < L.length := by omega
        have hdr : L.drop i = L[i] :: L[i + 1] :: L.drop (i + 2) := by
          rw [List.drop_eq_getElem_cons hlt2, List.drop_eq_getElem_cons (by omega : i + 1 < L.length)]
        have hdr2 : L.drop (i + 1) = L[i + 1] :: L.drop (i + 2) := List.drop_eq_getElem_cons (by omega)
        rw [hdr, linesR_cons, ← hdr2] at hpre
        have hll2 : (L[i]).length ≤ 1000000 := by
          have := hmem _ (List.getElem_mem hlt2)
          omega
        refine row_of hlt2 rfl ?_
        simp -implicitDefEqProofs [strRow, hf, go_sem, -List.set_cons_succ, -List.set_cons_zero]
        refine qcall_pure (pcSpec_calls L[i] hll2) hf (by cases clauseR Tm.wr L[i] <;> simp [clA, A.re, A.res, C.re, re_d]) ?_
        cases hc : clauseR Tm.wr L[i] with
        | none =>
          simp -implicitDefEqProofs [clA, zCl, Cl.row, Tm.k, Tm.n, Tm.s, Tm.kids, hf, go_sem, -List.set_cons_succ, -List.set_cons_zero]
          refine hg2 _ ?_
          rw [← hpre, hc]
          cases linesR Tm.wr (L.drop (i + 1)) <;> rfl
        | some c =>
          rw [hc] at hpre
          simp -implicitDefEqProofs [clA, crow_len, take_crow, toDs_map, hadd, hf, go_sem, -List.set_cons_succ, -List.set_cons_zero]
          refine ⟨allLen_map crow_len, by unfold maxApp; omega, ?_⟩
          refine loop_less (i + 1, out ++ [c]) (St.le_cut [_] ?_ (by simp [Sl.le, A.le_refl_iff, A.le_u_iff, As.lo, A.lo, C.lo, Ref.lo, Cs.lo, Obs.lo, Ob.lo, setAll, and_true, true_and, List.length_nil, List.length_cons]) (by simp; rfl) (by simp [Sl.le, A.le_refl_iff, A.le_u_iff, As.lo, A.lo, C.lo, Ref.lo, Cs.lo, Obs.lo, Ob.lo, setAll, and_true, true_and, List.length_nil, List.length_cons])) ⟨by dsimp only; omega, by simp; omega, ?_⟩ (by show L.length - (i + 1) < L.length - i; omega)
          · simp [setAll, Sl.le, A.le_refl_iff, A.le_u_iff, As.lo, A.lo, C.lo, Ref.lo, Cs.lo, Obs.lo, Ob.lo, setAll, and_true, true_and, List.length_nil, List.length_cons]
          · rw [← hpre]
            simp only
            cases linesR Tm.wr (L.drop (i + 1)) with
            | none => rfl
            | some p => simp [pre]
      · refine hg2 _ ?_
        obtain rfl : i = L.length - 1 := by omega
        have hd1 : L.drop (L.length - 1) = [L.getLastD []] := by
          rw [List.drop_eq_getElem_cons (by omega)]
          have := hlast
          rw [List.getElem?_eq_getElem (by omega)] at this
          rw [Option.some.inj this, List.drop_eq_nil_of_le (by omega)]
        rw [← hpre, hd1]
        simp [linesR, pre, progA]
end Go.Proofs.YteighafofbohcaaGreatDoor

/-
  Slices of bytes as data.
  Conditions: none.
-/
open Go Go.AM Go.Proofs
namespace Go.Proofs.YteighafofbohcaaGreatDoor
open Go.ChangeShapes Go.WideShapes Go.ChangeAt Go.RowKit
set_option linter.unusedVariables false
set_option linter.unusedSimpArgs false
set_option maxRecDepth 100000
theorem bytesRows_len {s : List UInt8} : (bytesRows s).length = s.length := by simp [bytesRows]
theorem bytesRows_nil {s : List UInt8} : bytesRows s = [] ↔ s = [] := by simp [bytesRows]
theorem bytesRows_get {s : List UInt8} {i : Nat} (h : i < s.length) : (bytesRows s)[i]? = some [.int .u8 s[i].toNat] := by simp [bytesRows, h]
theorem bytes_ty {row : List D} (h : HasTy Tryz.prog 22 row) : ∃ s : List UInt8, row = [.sl (bytesRows s)] ∧ s.length ≤ reachBytes := by
  obtain ⟨rows, rfl, hb, hc, ht⟩ := h.sl_inv Tryz.underlying22
  rw [show Tryz.prog.bytesOf 5 = 1 from by kernel_rfl] at hb
  obtain ⟨l, rfl, hl⟩ := list_of_ty (f := fun b : UInt8 => [.int .u8 b.toNat]) (p := fun _ => True) (rows := rows) (fun r hr => by
    obtain ⟨n, e, hn⟩ := (ht r hr).int_inv Tryz.underlying5
    refine ⟨UInt8.ofNat n.toNat, ?_, trivial⟩
    rw [e]
    have h1 : 0 ≤ n ∧ n ≤ 255 := by simpa [inR, IntKind.min, IntKind.max, IntKind.signed, IntKind.bits] using hn
    have : ((UInt8.ofNat n.toNat).toNat : Int) = n := by
      rw [UInt8.toNat_ofNat']
      omega
    rw [this])
  exact ⟨l, rfl, by simpa using hb⟩
theorem byteRow {s : List UInt8} {i : Int} {K : A → St → Prop} {st : St} (h0 : 0 ≤ i) (h : i < s.length) (hk : K (.c (.el [.int .u8 (s[i.toNat]'(by omega)).toNat] 0)) st) : RowK true (bytesRows s) i 1 K st :=
  row_int _ h0 (bytesRows_get (by omega)) rfl hk
theorem u8_i64 (b : UInt8) : IntKind.wrap .i64 (b.toNat : Int) = b.toNat := by
  rw [IntKind.wrap_i64]
  have := b.toNat_lt
  omega
end Go.Proofs.YteighafofbohcaaGreatDoor

/-
  The source of draws: its first functions, each by what it answers.
  Conditions: none.
-/
open Go Go.AM Go.Proofs
namespace Go.Proofs.YteighafofbohcaaGreatDoor
open Go.ChangeShapes Go.WideShapes Go.ChangeAt Go.RowKit
set_option linter.unusedVariables false
set_option linter.unusedSimpArgs false
set_option maxRecDepth 100000
-- 20 (*loop.example/prologserver/spec.l18Rd).pick params 2 ntmps 99
def ac20 : Cd := .seq (.region [⟨(some 4),.mv (.k (.c (.d (.int .i64 0)))),none⟩] [4])
 (.seq (.region [⟨(some 7),.mv (.t 0),none⟩,
 ⟨(some 8),.mv (.t 0),none⟩,
 ⟨(some 9),.nilCheck (.t 8),none⟩,
 ⟨(some 10),.fieldAddr 1 (.t 9),none⟩,
 ⟨(some 11),.load none (.t 10),none⟩,
 ⟨(some 12),.bin .add (.t 11) (.k (.c (.d (.int .i64 1)))),none⟩,
 ⟨(some 13),.nilCheck (.t 7),none⟩,
 ⟨(some 14),.fieldAddr 1 (.t 13),none⟩,
 ⟨none,.store 1 (.t 14) (.t 12),none⟩] [7,8,9,10,11,12,13,14])
 (.seq (.seq (.region [⟨(some 15),.mv (.t 1),none⟩,
 ⟨(some 16),.bin .lss (.t 15) (.k (.c (.d (.int .i64 1)))),none⟩,
 ⟨(some 17),.mv (.t 16),none⟩,
 ⟨(some 18),.mv (.t 0),some (17,false)⟩,
 ⟨(some 19),.nilCheck (.t 18),some (17,false)⟩,
 ⟨(some 20),.fieldAddr 0 (.t 19),some (17,false)⟩,
 ⟨(some 21),.load none (.t 20),some (17,false)⟩,
 ⟨(some 22),.len 1 (.t 21),some (17,false)⟩,
 ⟨(some 23),.bin .eql (.t 22) (.k (.c (.d (.int .i64 0)))),some (17,false)⟩,
 ⟨(some 24),.pick (.t 17) (.k (.c (.d (.bool true)))) (.t 23),none⟩] [15,16,17,18,19,20,21,22,23])
 (.cond (.t 24)
 (.seq (.region [⟨(some 4),.mv (.k (.c (.d (.int .i64 0)))),none⟩] [0,1,24])
 (.ret))
 (.skip)))
 (.seq (.region [⟨(some 25),.mv (.t 0),none⟩,
 ⟨(some 26),.nilCheck (.t 25),none⟩,
 ⟨(some 27),.fieldAddr 1 (.t 26),none⟩,
 ⟨(some 28),.load none (.t 27),none⟩,
 ⟨(some 29),.bin .sub (.t 28) (.k (.c (.d (.int .i64 1)))),none⟩,
 ⟨(some 5),.mv (.t 29),none⟩] [4,24,25,26,27,28,29])
 (.seq (.seq (.region [⟨(some 30),.mv (.t 5),none⟩,
 ⟨(some 31),.mv (.t 0),none⟩,
 ⟨(some 32),.nilCheck (.t 31),none⟩,
 ⟨(some 33),.fieldAddr 0 (.t 32),none⟩,
 ⟨(some 34),.load none (.t 33),none⟩,
 ⟨(some 35),.len 1 (.t 34),none⟩,
 ⟨(some 36),.bin .lss (.t 30) (.t 35),none⟩] [30,31,32,33,34,35])
 (.cond (.t 36)
 (.seq (.region [⟨(some 37),.mv (.t 0),none⟩,
 ⟨(some 38),.nilCheck (.t 37),none⟩,
 ⟨(some 39),.fieldAddr 0 (.t 38),none⟩,
 ⟨(some 40),.load none (.t 39),none⟩,
 ⟨(some 41),.mv (.t 5),none⟩,
 ⟨(some 42),.indexAddr 1 (.t 40) (.t 41),none⟩,
 ⟨(some 43),.load none (.t 42),none⟩,
 ⟨(some 44),.cvInt .i64 (.t 43),none⟩,
 ⟨(some 45),.mv (.t 1),none⟩,
 ⟨(some 46),.bin .rem (.t 44) (.t 45),none⟩,
 ⟨(some 4),.mv (.t 46),none⟩] [0,1,5,36,37,38,39,40,41,42,43,44,45,46])
 (.ret))
 (.skip)))
 (.seq (.region [⟨(some 47),.mv (.t 0),none⟩,
 ⟨(some 48),.nilCheck (.t 47),none⟩,
 ⟨(some 49),.fieldAddr 0 (.t 48),none⟩,
 ⟨(some 51),.mv (.t 5),none⟩,
 ⟨(some 52),.mv (.t 0),none⟩,
 ⟨(some 53),.nilCheck (.t 52),none⟩,
 ⟨(some 54),.fieldAddr 0 (.t 53),none⟩,
 ⟨(some 62),.mv (.t 0),none⟩,
 ⟨(some 63),.nilCheck (.t 62),none⟩,
 ⟨(some 64),.fieldAddr 0 (.t 63),none⟩,
 ⟨(some 66),.mv (.t 5),none⟩,
 ⟨(some 67),.bin .mul (.t 66) (.k (.c (.d (.int .i64 7)))),none⟩,
 ⟨(some 68),.bin .add (.t 67) (.k (.c (.d (.int .i64 3)))),none⟩,
 ⟨(some 69),.mv (.t 0),none⟩,
 ⟨(some 70),.nilCheck (.t 69),none⟩,
 ⟨(some 71),.fieldAddr 0 (.t 70),none⟩,
 ⟨(some 80),.mv (.t 5),none⟩,
 ⟨(some 81),.bin .mul (.t 80) (.k (.c (.d (.int .i64 29)))),none⟩,
 ⟨(some 83),.mv (.t 5),none⟩,
 ⟨(some 84),.mv (.t 0),none⟩,
 ⟨(some 85),.nilCheck (.t 84),none⟩,
 ⟨(some 86),.fieldAddr 0 (.t 85),none⟩,
 ⟨(some 50),.load none (.t 49),none⟩,
 ⟨(some 55),.load none (.t 54),none⟩,
 ⟨(some 56),.len 1 (.t 55),none⟩,
 ⟨(some 57),.bin .rem (.t 51) (.t 56),none⟩,
 ⟨(some 58),.indexAddr 1 (.t 50) (.t 57),none⟩,
 ⟨(some 59),.load none (.t 58),none⟩,
 ⟨(some 60),.cvInt .i64 (.t 59),none⟩,
 ⟨(some 61),.bin .mul (.t 60) (.k (.c (.d (.int .i64 131)))),none⟩,
 ⟨(some 65),.load none (.t 64),none⟩,
 ⟨(some 72),.load none (.t 71),none⟩,
 ⟨(some 73),.len 1 (.t 72),none⟩,
 ⟨(some 74),.bin .rem (.t 68) (.t 73),none⟩,
 ⟨(some 75),.indexAddr 1 (.t 65) (.t 74),none⟩,
 ⟨(some 76),.load none (.t 75),none⟩,
 ⟨(some 77),.cvInt .i64 (.t 76),none⟩,
 ⟨(some 78),.bin .mul (.t 77) (.k (.c (.d (.int .i64 1117)))),none⟩,
 ⟨(some 79),.bin .add (.t 61) (.t 78),none⟩,
 ⟨(some 82),.bin .add (.t 79) (.t 81),none⟩,
 ⟨(some 87),.load none (.t 86),none⟩,
 ⟨(some 88),.len 1 (.t 87),none⟩,
 ⟨(some 89),.bin .quo (.t 83) (.t 88),none⟩,
 ⟨(some 90),.bin .mul (.t 89) (.k (.c (.d (.int .i64 53)))),none⟩,
 ⟨(some 91),.bin .add (.t 82) (.t 90),none⟩,
 ⟨(some 6),.mv (.t 91),none⟩] [0,4,5,36,47,48,49,50,51,52,53,54,55,56,57,58,59,60,61,62,63,64,65,66,67,68,69,70,71,72,73,74,75,76,77,78,79,80,81,82,83,84,85,86,87,88,89,90,91])
 (.seq (.region [⟨(some 92),.mv (.t 6),none⟩,
 ⟨(some 93),.mv (.t 6),none⟩,
 ⟨(some 94),.bin .quo (.t 93) (.k (.c (.d (.int .i64 64)))),none⟩,
 ⟨(some 95),.bin .xor (.t 92) (.t 94),none⟩,
 ⟨(some 6),.mv (.t 95),none⟩] [92,93,94,95])
 (.seq (.region [⟨(some 96),.mv (.t 6),none⟩,
 ⟨(some 97),.mv (.t 1),none⟩,
 ⟨(some 98),.bin .rem (.t 96) (.t 97),none⟩,
 ⟨(some 4),.mv (.t 98),none⟩] [1,6,96,97,98])
 (.ret))))))))
theorem ac20_ok : cFunc Tryz.prog [] [(0,[4],[]),(1,[7,8,9,10,11,12,13,14],[]),(2,[15,16,17,18,19,20,21,22,23],[]),(3,[0,1,24],[]),(4,[4,24,25,26,27,28,29],[]),(5,[30,31,32,33,34,35],[]),(6,[0,1,5,36,37,38,39,40,41,42,43,44,45,46],[]),(7,[0,4,5,36,47,48,49,50,51,52,53,54,55,56,57,58,59,60,61,62,63,64,65,66,67,68,69,70,71,72,73,74,75,76,77,78,79,80,81,82,83,84,85,86,87,88,89,90,91],[0,1,2,4,5,6,7,15,16,17,19,20,21,22,23,24,33,34,36,37,38,39,3,8,9,10,11,12,13,14,18,25,26,27,28,29,30,31,32,35,40,41,42,43,44,45]),(8,[92,93,94,95],[]),(9,[1,6,96,97,98],[])] Tryz.f20 = some (ac20,[.tmp 4],99) := by kernel_rfl
-- 19 loop.example/prologserver/spec.l18Open params 1 ntmps 11
def ac19 : Cd := .seq (.region [⟨(some 2),.mv (.k (.c (.d (.v (.pointer none))))),none⟩] [2])
 (.seq (.seq (.region [⟨(some 3),.mv (.t 0),none⟩,
 ⟨(some 4),.len 1 (.t 3),none⟩,
 ⟨(some 5),.bin .gtr (.t 4) (.k (.c (.d (.int .i64 2000)))),none⟩] [3,4])
 (.cond (.t 5)
 (.region [⟨(some 6),.mv (.t 0),none⟩,
 ⟨(some 7),.slice 1 (.t 6) none (some (.k (.c (.d (.int .i64 2000))))) none,none⟩,
 ⟨(some 0),.mv (.t 7),none⟩] [5,6,7])
 (.skip)))
 (.seq (.region [⟨(some 8),.mv (.t 0),none⟩,
 ⟨(some 9),.build [(.full []),(.d (.int .i64 0))] [(0,1,(.t 8))],none⟩,
 ⟨(some 10),.box (.t 9),none⟩,
 ⟨(some 2),.mv (.t 10),none⟩] [0,5,8,9,10])
 (.ret)))
theorem ac19_ok : cFunc Tryz.prog [] [(0,[2],[]),(1,[3,4],[]),(2,[5,6,7],[]),(3,[0,5,8,9,10],[])] Tryz.f19 = some (ac19,[.tmp 2],11) := by kernel_rfl
-- 29 (*loop.example/prologserver/spec.l18Rd).num params 2 ntmps 12
def ac29 : Cd := .seq (.region [⟨(some 4),.mv (.k (.c (.d (.int .i64 0)))),none⟩] [4])
 (.seq (.region [⟨(some 5),.mv (.t 1),none⟩,
 ⟨(some 6),.mv (.t 0),none⟩,
 ⟨(some 7),.mv (.t 1),none⟩,
 ⟨(some 8),.len 1 (.t 7),none⟩,
 ⟨(some 9),.call false 20 [(.t 6),(.t 8)],none⟩,
 ⟨(some 10),.indexAddr 1 (.t 5) (.t 9),none⟩,
 ⟨(some 11),.load none (.t 10),none⟩,
 ⟨(some 4),.mv (.t 11),none⟩] [0,1,5,6,7,8,9,10,11])
 (.ret))
theorem ac29_ok : cFunc Tryz.prog [] [(0,[4],[]),(1,[0,1,5,6,7,8,9,10,11],[])] Tryz.f29 = some (ac29,[.tmp 4],12) := by kernel_rfl
/-- a source of draws, at a place -/
def Rd (c : List UInt8) (p : Int) : Ob := .cells [.d (.sl (bytesRows c)), .d (.int .i64 p)]
theorem xor_small {x y : Int} (hx : 0 ≤ x) (hx1 : x < 1099511627776) (hy : 0 ≤ y) (hy1 : y < 1099511627776) : 0 ≤ bitsVal .xor .i64 x y ∧ bitsVal .xor .i64 x y < 1099511627776 := by
  obtain ⟨a, rfl⟩ := Int.eq_ofNat_of_zero_le hx
  obtain ⟨b, rfl⟩ := Int.eq_ofNat_of_zero_le hy
  have hx : a < 2 ^ 40 := by omega
  have hy : b < 2 ^ 40 := by omega
  have hxor : a ^^^ b < 2 ^ 40 := Nat.xor_lt_two_pow hx hy
  have e : ((BitVec.ofInt 64 (a : Int)) ^^^ (BitVec.ofInt 64 (b : Int))).toNat = a ^^^ b := by
    rw [BitVec.toNat_xor]
    have h1 : (BitVec.ofInt 64 (a : Int)).toNat = a := by rw [BitVec.ofInt_natCast, BitVec.toNat_ofNat, Nat.mod_eq_of_lt (by omega)]
    have h2 : (BitVec.ofInt 64 (b : Int)).toNat = b := by rw [BitVec.ofInt_natCast, BitVec.toNat_ofNat, Nat.mod_eq_of_lt (by omega)]
    rw [h1, h2]
  have : bitsVal .xor .i64 (a : Int) (b : Int) = ((a ^^^ b : Nat) : Int) := by
    show IntKind.wrap .i64 (((BitVec.ofInt 64 (a : Int)) ^^^ (BitVec.ofInt 64 (b : Int))).toNat : Int) = _
    rw [e, IntKind.wrap_i64]
    omega
  rw [this]
  omega
theorem pick_calls (c : List UInt8) (hc : c.length ≤ 2000) (p m : Int) (hp : 0 ≤ p) (hp1 : p ≤ 1000000) (hm : -1000000000 ≤ m ∧ m ≤ 1000000000) (H : Heap) (i : Nat) (hi : i < H.length) :
    ACalls Tryz.prog 20 [.c (.ptr (.e i) 0), .c (.d (.int .i64 m))] (H.set i (Rd c p)) (fun r H' => ∃ k : Int, r = .c (.d (.int .i64 k)) ∧ 0 ≤ k ∧ (0 < m → k < m) ∧ H' = H.set i (Rd c (p + 1))) := by
  refine acalls Tryz.func20 (by kernel_rfl) ac20_ok fun hf => ?_
  have hadd : inR .i64 (p + 1) := small_i64 (by omega) (by omega)
  have hl : inR .i64 (c.length : Int) := small_i64 (by omega) (by omega)
  have hi64 : inR .i64 p := small_i64 (by omega) (by omega)
  simp only [List.length_set] at hf
  simp -implicitDefEqProofs [ac20, Rd, hadd, hl, hi64, hi, List.getElem?_set, bytesRows_len, go_sem, -List.set_cons_succ, -List.set_cons_zero]
  have hfit : Obs.fits H.length 0 (H.set i (.cells [.d (.sl (bytesRows c)), .d (.int .i64 (p + 1))])) := fits_reset hf ⟨trivial, trivial, trivial⟩
  refine ⟨hfit, fun h1 hc0 => ⟨fun h2 => ?_, fun h2 => ?_⟩⟩
  · refine byteRow hp (by omega) ?_
    simp -implicitDefEqProofs [u8_i64, go_sem, -List.set_cons_succ, -List.set_cons_zero]
    refine ⟨by omega, Int.tmod_nonneg _ (by omega), fun h => Int.tmod_lt_of_pos _ h⟩
  · have hcl : 0 < c.length := by cases c with | nil => exact absurd rfl hc0 | cons a l => simp
    refine ⟨small_i64 (by omega) (by omega), small_i64 (by omega) (by omega), small_i64 (by omega) (by omega), hc0, ?_⟩
    have hm1 := Int.tmod_nonneg (a := p) (c.length : Int) hp
    have hm2 := Int.tmod_lt_of_pos p (b := (c.length : Int)) (by omega)
    refine byteRow hm1 (by omega) ?_
    have hb1 := (c[(p.tmod ↑c.length).toNat]'(by omega)).toNat_lt
    have hq : 0 ≤ (p * 7 + 3).tmod (c.length : Int) := Int.tmod_nonneg _ (by omega)
    have hq2 := Int.tmod_lt_of_pos (p * 7 + 3) (b := (c.length : Int)) (by omega)
    simp -implicitDefEqProofs [u8_i64, hcl, hi, hl, bytesRows_len, bytesRows_nil, hc0, List.getElem?_set, go_sem, -List.set_cons_succ, -List.set_cons_zero]
    refine ⟨small_i64 (by omega) (by omega), byteRow hq (by omega) ?_⟩
    have hb2 := (c[((p * 7 + 3).tmod ↑c.length).toNat]'(by omega)).toNat_lt
    have hd0 : 0 ≤ p.tdiv (c.length : Int) := Int.tdiv_nonneg hp (by omega)
    have hd1 : p.tdiv (c.length : Int) ≤ p := Int.tdiv_le_self _ hp
    generalize ((c[(p.tmod ↑c.length).toNat]'(by omega)).toNat : Nat) = b1 at hb1
    generalize ((c[((p * 7 + 3).tmod ↑c.length).toNat]'(by omega)).toNat : Nat) = b2 at hb2
    generalize hdd : p.tdiv (c.length : Int) = d at hd0 hd1
    have i1 : inR .i64 ((b2 : Int) * 1117) := small_i64 (by omega) (by omega)
    have i2 : inR .i64 ((b1 : Int) * 131 + (b2 : Int) * 1117) := small_i64 (by omega) (by omega)
    have i3 : inR .i64 ((b1 : Int) * 131 + (b2 : Int) * 1117 + p * 29) := small_i64 (by omega) (by omega)
    have i4 : inR .i64 d := small_i64 (by omega) (by omega)
    have i5 : inR .i64 (d * 53) := small_i64 (by omega) (by omega)
    have i6 : inR .i64 ((b1 : Int) * 131 + (b2 : Int) * 1117 + p * 29 + d * 53) := small_i64 (by omega) (by omega)
    have hw : IntKind.wrap .i64 (b2 : Int) = b2 := by rw [IntKind.wrap_i64]; omega
    generalize hX : (b1 : Int) * 131 + (b2 : Int) * 1117 + p * 29 + d * 53 = X at i6
    have hx0 : 0 ≤ X := by omega
    have hx1 : X < 1099511627776 := by omega
    have j1 : 0 ≤ X.tdiv 64 := Int.tdiv_nonneg hx0 (by omega)
    have j2 : X.tdiv 64 ≤ X := Int.tdiv_le_self _ hx0
    obtain ⟨k1, k2⟩ := xor_small hx0 hx1 j1 (by omega)
    have i7 : inR .i64 (X.tdiv 64) := small_i64 (by omega) (by omega)
    simp -implicitDefEqProofs [hw, hcl, hi, hl, hdd, i1, i2, i3, i4, i5, hX, i6, i7, bytesRows_len, bytesRows_nil, hc0, List.getElem?_set, go_sem, -List.set_cons_succ, -List.set_cons_zero]
    exact ⟨by omega, Int.tmod_nonneg _ k1, fun h => Int.tmod_lt_of_pos _ h⟩

/-- what a function that draws gives: its source stands behind where it stood -/
def Drew (R : A → Prop) (N : Int) (c : List UInt8) (p : Int) (H : Heap) (i : Nat) (r : A) (H' : Heap) : Prop := R r ∧ ∃ p', p ≤ p' ∧ p' ≤ p + N ∧ H' = H.set i (Rd c p')
/-- what a function that draws is shown to give -/
def Draws (f : FuncId) (xs : List A) (N : Int) (R : A → Prop) : Prop :=
  ∀ (c : List UInt8) (p : Int) (H : Heap) (i : Nat), c.length ≤ 2000 → 0 ≤ p → p + N ≤ 1000000 → i < H.length → ACalls Tryz.prog f (.c (.ptr (.e i) 0) :: xs) (H.set i (Rd c p)) (Drew R N c p H i)
/-- an integer in a range -/
def IntIn (lo hi : Int) (r : A) : Prop := ∃ k : Int, r = .c (.d (.int .i64 k)) ∧ lo ≤ k ∧ k < hi
theorem pick_draws (m : Int) (hm : 1 ≤ m ∧ m ≤ 1000000000) : Draws 20 [.c (.d (.int .i64 m))] 1 (IntIn 0 m) := fun c p H i hc hp hp1 hi =>
  (pick_calls c hc p m hp (by omega) ⟨by omega, hm.2⟩ H i hi).mono fun r H' ⟨k, h1, h2, h3, h4⟩ => ⟨⟨k, h1, h2, h3 (by omega)⟩, p + 1, by omega, by omega, h4⟩

/-- a call that draws from a source that was handed in -/
theorem call_drawE {f : FuncId} {xs : List A} {N : Int} {R : A → Prop} (hd : Draws f xs N R) {c : List UInt8} {p : Int} {H : Heap} {i : Nat} {sl : List A} {loc H₂ : Heap} {K : A → St → Prop} (hc : c.length ≤ 2000) (hp : 0 ≤ p) (hp1 : p + N ≤ 1000000) (hi : i < H.length)
    (hH : H₂ = H.set i (Rd c p) ++ loc.map (Ob.re H.length)) (hr : ∀ r, R r → A.re H.length r = r) (hf : Obs.fits H.length 0 (H.set i (Rd c p))) (hk : ∀ r p', R r → p ≤ p' → p' ≤ p + N → K r ⟨sl, H.set i (Rd c p'), loc⟩) :
    ACalls Tryz.prog f (.c (.ptr (.e i) 0) :: xs) H₂ (CallK K ⟨sl, H.set i (Rd c p), loc⟩) := by
  subst hH
  have h := hd c p (H ++ loc.map (Ob.re H.length)) i hc hp hp1 (by simp; omega)
  rw [List.set_append_left _ _ hi] at h
  refine h.mono fun r H' ⟨h1, p', h2, h3, h4⟩ => ?_
  rw [List.set_append_left _ _ hi] at h4
  exact ⟨H.set i (Rd c p'), loc, r, by simpa using h4, by simp, Nat.le_refl _, by simpa using fits_reset (b := Rd c p') hf ⟨trivial, trivial, trivial⟩, by simpa using (hr r h1).symm, hk r p' h1 h2 h3⟩
/-- a call that draws from an own source, the first own object -/
theorem call_drawL {f : FuncId} {xs : List A} {N : Int} {R : A → Prop} (hd : Draws f xs N R) {c : List UInt8} {p : Int} {H : Heap} {sl : List A} {loc H₂ : Heap} {j : Nat} {K : A → St → Prop} (hc : c.length ≤ 2000) (hp : 0 ≤ p) (hp1 : p + N ≤ 1000000) (hj : loc[j]? = some (Rd c p))
    (hH : H₂ = H ++ loc.map (Ob.re H.length)) (hr : ∀ r, R r → A.re H.length r = r) (hf : Obs.fits H.length 0 H) (hk : ∀ r p', R r → p ≤ p' → p' ≤ p + N → K r ⟨sl, H, loc.set j (Rd c p')⟩) :
    ACalls Tryz.prog f (.c (.ptr (.e (H.length + j)) 0) :: xs) H₂ (CallK K ⟨sl, H, loc⟩) := by
  subst hH
  have hjl : j < loc.length := (List.getElem?_eq_some_iff.1 hj).1
  have h := hd c p (H ++ loc.map (Ob.re H.length)) (H.length + j) hc hp hp1 (by simp; omega)
  have e : ∀ q, (H ++ loc.map (Ob.re H.length)).set (H.length + j) (Rd c q) = H ++ (loc.set j (Rd c q)).map (Ob.re H.length) := fun q => by
    rw [List.set_append_right _ _ (by omega), Nat.add_sub_cancel_left, List.map_set]
    rfl
  have e0 : loc.set j (Rd c p) = loc := by
    apply List.ext_getElem?
    intro k
    rw [List.getElem?_set]
    split
    · rename_i h; subst h; rw [hj]
    · rfl
  rw [e, e0] at h
  refine h.mono fun r H' ⟨h1, p', h2, h3, h4⟩ => ?_
  rw [e] at h4
  exact ⟨H, loc.set j (Rd c p'), r, h4, rfl, by simp, hf, (hr r h1).symm, hk r p' h1 h2 h3⟩
theorem IntIn.re {lo hi : Int} {n : Nat} {r : A} (h : IntIn lo hi r) : A.re n r = r := by
  obtain ⟨k, rfl, _⟩ := h
  rfl

theorem num_draws (l : List Int) (hl : 1 ≤ l.length ∧ l.length ≤ 1000) : Draws 29 [.c (.d (.sl (l.map fun n => [.int .i64 n])))] 1 (fun r => ∃ n ∈ l, r = .c (.d (.int .i64 n))) := fun c p H i hc hp hp1 hi => by
  refine acalls Tryz.func29 (by kernel_rfl) ac29_ok fun hf => ?_
  simp only [List.length_set] at hf
  have hll : inR .i64 (l.length : Int) := small_i64 (by omega) (by omega)
  simp -implicitDefEqProofs [ac29, hll, go_sem, -List.set_cons_succ, -List.set_cons_zero]
  refine call_drawE (pick_draws l.length ⟨by omega, by omega⟩) hc hp hp1 hi (by simp) (fun r => IntIn.re) hf ?_
  rintro _ p' ⟨k, rfl, h1, h2⟩ h3 h4
  simp -implicitDefEqProofs [go_sem, -List.set_cons_succ, -List.set_cons_zero]
  have hk : k.toNat < l.length := by omega
  refine row_int [.int .i64 l[k.toNat]] h1 (by simp [hk]) rfl ?_
  simp -implicitDefEqProofs [go_sem, -List.set_cons_succ, -List.set_cons_zero]
  exact ⟨⟨_, List.getElem_mem hk, rfl⟩, p', h3, h4, rfl⟩
theorem open_calls (c : List UInt8) (hc : c.length ≤ 1048576) (H : Heap) : ACalls Tryz.prog 19 [.c (.d (.sl (bytesRows c)))] H (fun r H' => r = .c (.ptr (.e H.length) 0) ∧ ∃ c' : List UInt8, c'.length ≤ 2000 ∧ H' = H ++ [Rd c' 0]) := by
  refine acallsK Tryz.func19 (by kernel_rfl) ac19_ok fun hf => ?_
  have hl : inR .i64 (c.length : Int) := small_i64 (by omega) (by omega)
  simp -implicitDefEqProofs [ac19, hl, bytesRows_len, go_sem, -List.set_cons_succ, -List.set_cons_zero]
  refine ⟨fun h => ⟨?_, by omega, ?_⟩, fun h => ?_⟩
  · intro r hr
    simp only [bytesRows, List.mem_map] at hr
    obtain ⟨b, _, rfl⟩ := hr
    rfl
  · refine finK_ret _ ⟨trivial, trivial⟩ rfl ⟨rfl, c.take 2000, by simp; omega, ?_⟩
    simp [Rd, bytesRows, Ob.re, C.re]
  · refine finK_ret _ ⟨trivial, trivial⟩ rfl ⟨rfl, c, by omega, ?_⟩
    simp [Rd, Ob.re, C.re]
end Go.Proofs.YteighafofbohcaaGreatDoor

/-
  Terms that are drawn.
  Conditions: none.
-/
open Go Go.AM Go.Proofs
namespace Go.Proofs.YteighafofbohcaaGreatDoor
open Go.ChangeShapes Go.WideShapes Go.ChangeAt Go.RowKit
set_option linter.unusedVariables false
set_option linter.unusedSimpArgs false
set_option maxRecDepth 100000
-- 57 (*loop.example/prologserver/spec.l18Rd).of params 2 ntmps 12
def ac57 : Cd := .seq (.region [⟨(some 4),.mv (.k (.c (.d (.str [])))),none⟩] [4])
 (.seq (.region [⟨(some 5),.mv (.t 1),none⟩,
 ⟨(some 6),.mv (.t 0),none⟩,
 ⟨(some 7),.mv (.t 1),none⟩,
 ⟨(some 8),.len 1 (.t 7),none⟩,
 ⟨(some 9),.call false 20 [(.t 6),(.t 8)],none⟩,
 ⟨(some 10),.indexAddr 1 (.t 5) (.t 9),none⟩,
 ⟨(some 11),.load none (.t 10),none⟩,
 ⟨(some 4),.mv (.t 11),none⟩] [0,1,5,6,7,8,9,10,11])
 (.ret))
theorem ac57_ok : cFunc Tryz.prog [] [(0,[4],[]),(1,[0,1,5,6,7,8,9,10,11],[])] Tryz.f57 = some (ac57,[.tmp 4],12) := by kernel_rfl
-- 22 loop.example/prologserver/spec.l1Draw params 2 ntmps 65
-- loop head live: [0,1,4,5,6]
def ac22 : Cd := .seq (.region [⟨(some 4),.alloc [(.d (.int .i64 0)),(.d (.int .i64 0)),(.d (.str [])),(.full [])],none⟩] [])
 (.seq (.seq (.region [⟨(some 7),.mv (.t 1),none⟩,
 ⟨(some 8),.bin .lss (.t 7) (.k (.c (.d (.int .i64 2)))),none⟩,
 ⟨(some 9),.mv (.t 8),none⟩,
 ⟨(some 10),.mv (.t 0),some (9,false)⟩,
 ⟨(some 11),.call false 20 [(.t 10),(.k (.c (.d (.int .i64 4))))],some (9,false)⟩,
 ⟨(some 12),.bin .eql (.t 11) (.k (.c (.d (.int .i64 0)))),some (9,false)⟩,
 ⟨(some 13),.pick (.t 9) (.k (.c (.d (.bool true)))) (.t 12),none⟩] [7,8,9,10,11,12])
 (.cond (.t 13)
 (.seq (.seq (.region [⟨(some 14),.mv (.t 0),none⟩,
 ⟨(some 15),.call false 20 [(.t 14),(.k (.c (.d (.int .i64 4))))],none⟩] [1,13,14])
 (.block 0 (.seq (.region [⟨(some 17),.bin .eql (.t 15) (.k (.c (.d (.int .i64 0)))),none⟩,
 ⟨(some 16),.mv (.t 17),none⟩] [17])
 (.cond (.t 16)
 (.seq (.region [⟨(some 18),.mv (.t 0),none⟩,
 ⟨(some 19),.call false 20 [(.t 18),(.k (.c (.d (.int .i64 4))))],none⟩,
 ⟨(some 20),.qcall 54 [(.t 19)],none⟩,
 ⟨none,.store 4 (.t 4) (.t 20),none⟩] [0,15,16,18,19,20])
 (.ret))
 (.seq (.region [⟨(some 22),.bin .eql (.t 15) (.k (.c (.d (.int .i64 1)))),none⟩,
 ⟨(some 21),.mv (.t 22),none⟩] [15,16,22])
 (.cond (.t 21)
 (.seq (.region [⟨(some 23),.mv (.t 0),none⟩,
 ⟨(some 24),.buildSlice 1 6 [(.int .i64 0)] [(0,(.k (.c (.d (.int .i64 0))))),(1,(.k (.c (.d (.int .i64 1))))),(2,(.k (.c (.d (.int .i64 7))))),(3,(.k (.c (.d (.int .i64 (-3)))))),(4,(.k (.c (.d (.int .i64 999))))),(5,(.k (.c (.d (.int .i64 (-999))))))],none⟩,
 ⟨(some 25),.call false 29 [(.t 23),(.t 24)],none⟩,
 ⟨(some 26),.qcall 55 [(.t 25)],none⟩,
 ⟨none,.store 4 (.t 4) (.t 26),none⟩] [0,21,23,24,25,26])
 (.ret))
 (.skip)))))))
 (.seq (.region [⟨(some 27),.mv (.t 0),none⟩,
 ⟨(some 28),.buildSlice 1 6 [(.str [])] [(0,(.k (.c (.d (.str [97]))))),(1,(.k (.c (.d (.str [98]))))),(2,(.k (.c (.d (.str [110,105,108]))))),(3,(.k (.c (.d (.str [91,93]))))),(4,(.k (.c (.d (.str [102,111,111]))))),(5,(.k (.c (.d (.str [43])))))],none⟩,
 ⟨(some 29),.call false 57 [(.t 27),(.t 28)],none⟩,
 ⟨(some 30),.call false 56 [(.t 29),(.k (.c (.full [])))],none⟩,
 ⟨none,.store 4 (.t 4) (.t 30),none⟩] [0,21,27,28,29,30])
 (.ret)))
 (.skip)))
 (.seq (.seq (.region [⟨(some 31),.mv (.t 0),none⟩,
 ⟨(some 32),.call false 20 [(.t 31),(.k (.c (.d (.int .i64 3))))],none⟩,
 ⟨(some 33),.bin .eql (.t 32) (.k (.c (.d (.int .i64 0)))),none⟩] [13,31,32])
 (.cond (.t 33)
 (.seq (.region [⟨(some 34),.mv (.t 0),none⟩,
 ⟨(some 35),.mv (.t 1),none⟩,
 ⟨(some 36),.bin .sub (.t 35) (.k (.c (.d (.int .i64 1)))),none⟩,
 ⟨(some 37),.callL false false 22 [(.t 34),(.t 36)],none⟩,
 ⟨(some 38),.mv (.t 0),none⟩,
 ⟨(some 39),.mv (.t 1),none⟩,
 ⟨(some 40),.bin .sub (.t 39) (.k (.c (.d (.int .i64 1)))),none⟩,
 ⟨(some 41),.callL false false 22 [(.t 38),(.t 40)],none⟩,
 ⟨(some 42),.buildSlice 4 2 [(.int .i64 0),(.int .i64 0),(.str []),(.sl [])] [(0,(.t 37)),(1,(.t 41))],none⟩,
 ⟨(some 43),.call false 56 [(.k (.c (.d (.str [46])))),(.t 42)],none⟩,
 ⟨none,.store 4 (.t 4) (.t 43),none⟩] [0,1,33,34,35,36,37,38,39,40,41,42,43])
 (.ret))
 (.skip)))
 (.seq (.region [⟨(some 44),.mv (.t 0),none⟩,
 ⟨(some 45),.buildSlice 1 7 [(.str [])] [(0,(.k (.c (.d (.str [102]))))),(1,(.k (.c (.d (.str [103]))))),(2,(.k (.c (.d (.str [115]))))),(3,(.k (.c (.d (.str [43]))))),(4,(.k (.c (.d (.str [61]))))),(5,(.k (.c (.d (.str [105,115]))))),(6,(.k (.c (.d (.str [102,111,111])))))],none⟩,
 ⟨(some 46),.call false 57 [(.t 44),(.t 45)],none⟩,
 ⟨(some 47),.call false 56 [(.t 46),(.k (.c (.full [])))],none⟩,
 ⟨(some 5),.alloc [(.d (.int .i64 0)),(.d (.int .i64 0)),(.d (.str [])),(.full [])],none⟩,
 ⟨none,.store 4 (.t 5) (.t 47),none⟩] [33,44,45,46,47])
 (.seq (.seq (.region [⟨(some 48),.mv (.t 0),none⟩,
 ⟨(some 49),.buildSlice 1 4 [(.int .i64 0)] [(0,(.k (.c (.d (.int .i64 2))))),(1,(.k (.c (.d (.int .i64 1))))),(2,(.k (.c (.d (.int .i64 3))))),(3,(.k (.c (.d (.int .i64 2)))))],none⟩,
 ⟨(some 50),.call false 29 [(.t 48),(.t 49)],none⟩,
 ⟨(some 6),.mv (.t 50),none⟩] [48,49,50])
 (.block 1 (.loop (.seq (.seq (.region [⟨(some 51),.mv (.t 6),none⟩,
 ⟨(some 52),.bin .gtr (.t 51) (.k (.c (.d (.int .i64 0)))),none⟩] [51])
 (.cond (.t 52)
 (.skip)
 (.exit 1)))
 (.seq (.block 2 (.region [⟨(some 55),.fieldAddr 3 (.t 5),none⟩,
 ⟨(some 57),.mv (.t 0),none⟩,
 ⟨(some 58),.mv (.t 1),none⟩,
 ⟨(some 59),.bin .sub (.t 58) (.k (.c (.d (.int .i64 1)))),none⟩,
 ⟨(some 56),.loadL false none (.t 55),none⟩,
 ⟨(some 60),.callL false false 22 [(.t 57),(.t 59)],none⟩,
 ⟨(some 61),.buildSlice 4 1 [(.int .i64 0),(.int .i64 0),(.str []),(.sl [])] [(0,(.t 60))],none⟩,
 ⟨(some 62),.append false 4 (.t 56) (.t 61),none⟩,
 ⟨(some 63),.fieldAddr 3 (.t 5),none⟩,
 ⟨none,.store 1 (.t 63) (.t 62),none⟩] [52,55,56,57,58,59,60,61,62,63]))
 (.region [⟨(some 53),.mv (.t 6),none⟩,
 ⟨(some 54),.bin .sub (.t 53) (.k (.c (.d (.int .i64 1)))),none⟩,
 ⟨(some 6),.mv (.t 54),none⟩] [53,54]))))))
 (.seq (.region [⟨(some 64),.load (some 4) (.t 5),none⟩,
 ⟨none,.store 4 (.t 4) (.t 64),none⟩] [5,64])
 (.ret))))))
theorem ac22_ok : cFunc Tryz.prog [1000054,1000055,5000055,6000022] [(0,[],[]),(1,[7,8,9,10,11,12],[]),(2,[1,13,14],[]),(3,[17],[]),(4,[0,15,16,18,19,20],[]),(5,[15,16,22],[]),(6,[0,21,23,24,25,26],[]),(7,[0,21,27,28,29,30],[]),(8,[13,31,32],[]),(9,[0,1,33,34,35,36,37,38,39,40,41,42,43],[]),(10,[33,44,45,46,47],[]),(11,[48,49,50],[]),(12,[51],[]),(14,[52,55,56,57,58,59,60,61,62,63],[0,2,3,4,1,5,6,7,8,9]),(13,[53,54],[]),(15,[5,64],[])] Tryz.f22 = some (ac22,[.cell 4 (some 4)],65) := by kernel_rfl
namespace Full
-- 56 loop.example/prologserver/spec.l1Struct params 2 ntmps 10
def ac56 : Cd := .seq (.region [⟨(some 4),.alloc [(.d (.int .i64 0)),(.d (.int .i64 0)),(.d (.str [])),(.full [])],none⟩] [])
 (.seq (.region [⟨(some 5),.mv (.t 0),none⟩,
 ⟨(some 6),.buildSlice 4 0 [(.int .i64 0),(.int .i64 0),(.str []),(.sl [])] [],none⟩,
 ⟨(some 7),.mv (.t 1),none⟩,
 ⟨(some 8),.appendF 4 (.t 6) (.t 7),none⟩,
 ⟨(some 9),.build [(.d (.int .i64 0)),(.d (.int .i64 0)),(.d (.str [])),(.full [])] [(0,1,(.k (.c (.d (.int .i64 3))))),(2,1,(.t 5)),(3,1,(.t 8))],none⟩,
 ⟨none,.store 4 (.t 4) (.t 9),none⟩] [0,1,5,6,7,8,9])
 (.ret))
theorem ac56_ok : cFunc Tryz.prog [3000006] [(0,[],[]),(1,[0,1,5,6,7,8,9],[])] Tryz.f56 = some (ac56,[.cell 4 (some 4)],10) := by kernel_rfl
end Full
theorem of_draws (l : List (List UInt8)) (hl : 1 ≤ l.length ∧ l.length ≤ 1000) : Draws 57 [.c (.d (.sl (l.map fun s => [.str s])))] 1 (fun r => ∃ s ∈ l, r = .c (.d (.str s))) := fun c p H i hc hp hp1 hi => by
  refine acalls Tryz.func57 (by kernel_rfl) ac57_ok fun hf => ?_
  simp only [List.length_set] at hf
  have hll : inR .i64 (l.length : Int) := small_i64 (by omega) (by omega)
  simp -implicitDefEqProofs [ac57, hll, go_sem, -List.set_cons_succ, -List.set_cons_zero]
  refine call_drawE (pick_draws l.length ⟨by omega, by omega⟩) hc hp hp1 hi (by simp) (fun r => IntIn.re) hf ?_
  rintro _ p' ⟨k, rfl, h1, h2⟩ h3 h4
  simp -implicitDefEqProofs [go_sem, -List.set_cons_succ, -List.set_cons_zero]
  have hk : k.toNat < l.length := by omega
  refine row_int [.str l[k.toNat]] h1 (by simp [hk]) rfl ?_
  simp -implicitDefEqProofs [go_sem, -List.set_cons_succ, -List.set_cons_zero]
  exact ⟨⟨_, List.getElem_mem hk, rfl⟩, p', h3, h4, rfl⟩
/-- a structure without arguments: nothing stands behind its arguments -/
theorem struct_full (name : List UInt8) (H : Heap) : ACalls Tryz.prog 56 [.c (.d (.str name)), .c (.d (.sl []))] H (fun r H' => H' = H ++ [.cells [.d (.int .i64 3), .d (.int .i64 0), .d (.str name), .full []]] ∧ r = .agg [.d (.int .i64 3), .d (.int .i64 0), .d (.str name), .full []]) := by
  refine acallsK Tryz.func56 (by kernel_rfl) Full.ac56_ok fun hf => ?_
  simp -implicitDefEqProofs [Full.ac56, hf, go_sem, -List.set_cons_succ, -List.set_cons_zero]
  refine finK_ret _ ⟨trivial, trivial⟩ rfl ?_
  simp [Ob.re, C.re, A.re]
/-- a call that leaves one object more, which looks at no other -/
theorem call_new {P : Program} {f : FuncId} {xs : List A} {sl : List A} {ext loc H₂ : Heap} {o : Ob} {r : A} {K : A → St → Prop} (hc : ∀ H, ACalls P f xs H (fun r' H' => H' = H ++ [o] ∧ r' = r)) (ho : Ob.re ext.length o = o) (hr : A.re ext.length r = r)
    (hf : Obs.fits ext.length 0 ext) (hH : H₂ = ext ++ loc.map (Ob.re ext.length)) (hk : K r ⟨sl, ext, loc ++ [o]⟩) : ACalls P f xs H₂ (CallK K ⟨sl, ext, loc⟩) := by
  subst hH
  exact (hc _).mono fun r' H' ⟨h1, h2⟩ => ⟨ext, loc ++ [o], r, by rw [h1, List.append_assoc, List.map_append]; simp [ho], rfl, by simp, hf, by rw [h2]; exact hr.symm, hk⟩
/-- a term that a law looks at -/
def TmR (r : A) : Prop := ∃ t : Tm, r = .agg (t.row.map .d) ∧ t.fits
theorem TmR.re {n : Nat} {r : A} (h : TmR r) : A.re n r = r := by
  obtain ⟨t, rfl, _⟩ := h
  simp [A.re, re_d]
/-- the names that are drawn -/
def drawNames : List (List UInt8) := [[97], [98], [110, 105, 108], [91, 93], [102, 111, 111], [43], [46], [102], [103], [115], [61], [105, 115]]
theorem draw_names {l : List (List UInt8)} {s : List UInt8} (h : s ∈ l) (hl : l.all (drawNames.contains ·) = true := by decide) : s ∈ drawNames := by
  simp only [List.all_eq_true, List.contains_iff_mem] at hl
  exact hl s h
/-- a term that is drawn -/
def TmP (P : Tm → Prop) (r : A) : Prop := ∃ t : Tm, r = .agg (t.row.map .d) ∧ t.fits ∧ P t
theorem TmP.re {P : Tm → Prop} {n : Nat} {r : A} (h : TmP P r) : A.re n r = r := by
  obtain ⟨t, rfl, _⟩ := h
  simp [A.re, re_d]
theorem draw_of {P Q : Tm → Prop} (hP1 : ∀ n, 0 ≤ n → n ≤ 25 → P (.mk 1 n [] [])) (hP2 : ∀ n, -999 ≤ n → n ≤ 999 → P (.mk 2 n [] [])) (hP3 : ∀ s ∈ drawNames, ∀ l : List Tm, l.length ≤ 3 → (∀ t ∈ l, Q t) → P (.mk 3 0 s l))
    (d : Nat) (hd : d ≤ 6) (M N : Int) (hM : 0 ≤ M) (hN : 4 + 3 * M ≤ N) (ih : 2 ≤ d → Draws 22 [.c (.d (.int .i64 ((d : Int) - 1)))] M (TmP Q)) : Draws 22 [.c (.d (.int .i64 d))] N (TmP P) := fun c p H i hc hp hp1 hi => by
  refine acalls Tryz.func22 (by kernel_rfl) ac22_ok fun hf => ?_
  simp only [List.length_set] at hf
  simp -implicitDefEqProofs [ac22, go_sem, -List.set_cons_succ, -List.set_cons_zero]
  have hf0 : ∀ q, Obs.fits H.length 0 (H.set i (Rd c q)) := fun q => fits_reset (b := Rd c q) hf ⟨trivial, trivial, trivial⟩
  have hf1 : ∀ q, Obs.fits (H.set i (Rd c q)).length 0 (H.set i (Rd c q)) := fun q => by simpa using hf0 q
  have done : ∀ (t : Tm) (q : Int), p ≤ q → q ≤ p + N → t.fits → P t → ∀ r, r = .agg (t.row.map .d) → Drew (TmP P) N c p H i r (H.set i (Rd c q)) := fun t q a1 a2 a3 a4 r hr => ⟨⟨t, hr, a3, a4⟩, q, a1, a2, rfl⟩
  refine ⟨fun h2 => ⟨h2, ?_⟩, fun h2 => ?_⟩
  · refine call_drawE (pick_draws 4 (by omega)) hc hp (by omega) hi (by simp [Ob.re, C.re]) (fun r => IntIn.re) (hf0 _) ?_
    rintro _ p0 ⟨k, rfl, k0, k1⟩ h3 h4
    have hd0 : ¬ ((d : Int) < 2) := by omega
    simp -implicitDefEqProofs [hf0, hd0, go_sem, -List.set_cons_succ, -List.set_cons_zero]
    refine ⟨fun _ => ?_, fun _ => ?_⟩
    · skip
      refine call_drawE (pick_draws 4 (by omega)) hc (by omega) (by omega) hi (by simp [Ob.re, C.re]) (fun r => IntIn.re) (hf0 _) ?_
      rintro _ p1 ⟨k, rfl, k0, k1⟩ h3 h4
      simp -implicitDefEqProofs [hf0, go_sem, -List.set_cons_succ, -List.set_cons_zero]
      refine ⟨fun _ => ?_, fun _ => ⟨fun _ => ?_, fun _ => ?_⟩⟩
      · refine call_drawE (pick_draws 4 (by omega)) hc (by omega) (by omega) hi (by simp [Ob.re, C.re]) (fun r => IntIn.re) (hf0 _) ?_
        rintro _ p2 ⟨n, rfl, n0, n1⟩ h5 h6
        simp -implicitDefEqProofs [hf0, go_sem, -List.set_cons_succ, -List.set_cons_zero]
        refine qcall_pure (var_calls n) (hf1 _) (by simp [A.re, re_d]) ?_
        simp -implicitDefEqProofs [hf0, row_mk, go_sem, -List.set_cons_succ, -List.set_cons_zero]
        exact done (.mk 1 n [] []) p2 (by omega) (by omega) (.mk (small_i64 (by omega) (by omega)) (small_i64 (by omega) (by omega)) (by simp) (by simp) (by simp)) (hP1 n (by omega) (by omega)) _ (by simp [row_mk])
      · refine call_drawE (num_draws [0, 1, 7, -3, 999, -999] (by decide)) hc (by omega) (by omega) hi (by simp [Ob.re, C.re]) (fun r ⟨n, _, hn⟩ => by subst hn; rfl) (hf0 _) ?_
        rintro _ p2 ⟨n, hn, rfl⟩ h5 h6
        have hn : -999 ≤ n ∧ n ≤ 999 := by simp at hn; omega
        simp -implicitDefEqProofs [hf0, go_sem, -List.set_cons_succ, -List.set_cons_zero]
        refine qcall_pure (int_calls n) (hf1 _) (by simp [A.re, re_d]) ?_
        simp -implicitDefEqProofs [hf0, row_mk, go_sem, -List.set_cons_succ, -List.set_cons_zero]
        exact done (.mk 2 n [] []) p2 (by omega) (by omega) (.mk (small_i64 (by omega) (by omega)) (small_i64 (by omega) (by omega)) (by simp) (by simp) (by simp)) (hP2 n (by omega) (by omega)) _ (by simp [row_mk])
      · refine call_drawE (of_draws [[97], [98], [110, 105, 108], [91, 93], [102, 111, 111], [43]] (by decide)) hc (by omega) (by omega) hi (by simp [Ob.re, C.re]) (fun r ⟨n, _, hn⟩ => by subst hn; rfl) (hf0 _) ?_
        rintro _ p2 ⟨s, hs, rfl⟩ h5 h6
        have hsm : s ∈ drawNames := draw_names hs
        have hs : s.length ≤ 3 := by simp at hs; rcases hs with rfl | rfl | rfl | rfl | rfl | rfl <;> decide
        simp -implicitDefEqProofs [hf0, go_sem, -List.set_cons_succ, -List.set_cons_zero]
        refine call_new (struct_full s) (by simp [Ob.re, C.re]) (by simp [A.re, C.re]) (hf1 _) (by simp [Ob.re, C.re]) ?_
        simp -implicitDefEqProofs [hf0, go_sem, -List.set_cons_succ, -List.set_cons_zero]
        exact done (.mk 3 0 s []) p2 (by omega) (by omega) (.mk (small_i64 (by omega) (by omega)) (small_i64 (by omega) (by omega)) (by omega) (by simp) (by simp)) (hP3 s hsm [] (by simp) (by simp)) _ (by simp [row_mk])
    · refine call_drawE (pick_draws 3 (by omega)) hc (by omega) (by omega) hi (by simp [Ob.re, C.re]) (fun r => IntIn.re) (hf0 _) ?_
      rintro _ p1 ⟨k2, rfl, k3, k4⟩ h5 h6
      have hsub : inR .i64 ((d : Int) - 1) := small_i64 (by omega) (by omega)
      simp -implicitDefEqProofs [hf0, hsub, go_sem, -List.set_cons_succ, -List.set_cons_zero]
      refine ⟨fun _ => ?_, fun _ => ?_⟩
      · refine call_drawE (ih (by omega)) hc (by omega) (by omega) hi (by simp [Ob.re, C.re]) (fun r => TmP.re) (hf0 _) ?_
        rintro _ p2 ⟨a, rfl, ha, haQ⟩ h7 h8
        refine ⟨LocSame.refl _, ?_⟩
        simp -implicitDefEqProofs [hf0, hsub, row_len, take_row, go_sem, -List.set_cons_succ, -List.set_cons_zero]
        refine call_drawE (ih (by omega)) hc (by omega) (by omega) hi (by simp [Ob.re, C.re]) (fun r => TmP.re) (hf0 _) ?_
        rintro _ p3 ⟨b, rfl, hb, hbQ⟩ h9 h10
        refine ⟨LocSame.refl _, ?_⟩
        simp -implicitDefEqProofs [hf0, hsub, row_len, take_row, toDs_map, go_sem, -List.set_cons_succ, -List.set_cons_zero]
        have hs := struct_calls [46] [a, b] (by simp)
        simp only [List.map_cons, List.map_nil] at hs
        refine call_same (r := .agg ((Tm.mk 3 0 [46] [a, b]).row.map .d)) (hs _) (by simp [Ob.re, C.re]) (by simp [A.re, re_d]) (hf1 _) ?_
        simp -implicitDefEqProofs [hf0, row_mk, go_sem, -List.set_cons_succ, -List.set_cons_zero]
        exact done (.mk 3 0 [46] [a, b]) p3 (by omega) (by omega) (.mk (small_i64 (by omega) (by omega)) (small_i64 (by omega) (by omega)) (by simp) (by simp) (by simp [ha, hb])) (hP3 [46] (by decide) [a, b] (by simp) (by simp [haQ, hbQ])) _ (by simp [row_mk])
      · refine call_drawE (of_draws [[102], [103], [115], [43], [61], [105, 115], [102, 111, 111]] (by decide)) hc (by omega) (by omega) hi (by simp [Ob.re, C.re]) (fun r ⟨n, _, hn⟩ => by subst hn; rfl) (hf0 _) ?_
        rintro _ p2 ⟨s, hs, rfl⟩ h7 h8
        have hsm : s ∈ drawNames := draw_names hs
        have hs : s.length ≤ 3 := by simp at hs; rcases hs with rfl | rfl | rfl | rfl | rfl | rfl | rfl <;> decide
        simp -implicitDefEqProofs [hf0, go_sem, -List.set_cons_succ, -List.set_cons_zero]
        refine call_new (struct_full s) (by simp [Ob.re, C.re]) (by simp [A.re, C.re]) (hf1 _) (by simp [Ob.re, C.re]) ?_
        simp -implicitDefEqProofs [hf0, go_sem, -List.set_cons_succ, -List.set_cons_zero]
        refine call_drawE (num_draws [2, 1, 3, 2] (by decide)) hc (by omega) (by omega) hi (by simp [Ob.re, C.re]) (fun r ⟨n, _, hn⟩ => by subst hn; rfl) (hf0 _) ?_
        rintro _ p3 ⟨n, hn, rfl⟩ h9 h10
        have hn : 0 ≤ n ∧ n ≤ 3 := by simp at hn; omega
        have hnM : n * M ≤ 3 * M := Int.mul_le_mul_of_nonneg_right hn.2 hM
        simp -implicitDefEqProofs [hf0, go_sem, -List.set_cons_succ, -List.set_cons_zero]
        refine loop_enter (St.le_tokenC 2 3 4 rfl rfl) ?_
        refine loop_set (σ := Int × List Tm × Int) (fun x => [(6, .c (.d (.int .i64 x.1)))]) (fun x => H.set i (Rd c x.2.2)) (fun x => [.cells [.d (.int .i64 0), .d (.int .i64 0), .d (.str []), .full []], .cells [.d (.int .i64 3), .d (.int .i64 0), .d (.str s), .full []], .cells [.d (.int .i64 3), .d (.int .i64 0), .d (.str s), .own (.l 3) x.2.1.length (x.2.1.map Tm.row)], .grow x.2.1.length 4])
          (fun x => 0 ≤ x.1 ∧ x.1 + x.2.1.length ≤ 3 ∧ p ≤ x.2.2 ∧ x.2.2 + x.1 * M ≤ p + N ∧ (∀ t ∈ x.2.1, t.fits) ∧ ∀ t ∈ x.2.1, Q t) (fun x => x.1.toNat) (n, [], p3) rfl ⟨hn.1, by simp; omega, by simp; omega, by simp; omega, by simp, by simp⟩ ?_
        rintro ⟨m, l, q⟩ ⟨i0, i1, i2, i3, i4, i5⟩
        simp only at i0 i1 i2 i3 i4 i5
        have hmM : 0 ≤ m * M := Int.mul_nonneg i0 hM
        simp -implicitDefEqProofs [setAll, hf0, hsub, go_sem, -List.set_cons_succ, -List.set_cons_zero]
        refine ⟨fun hlt => ?_, fun hge => ?_⟩
        · have hm1 : (m - 1) * M = m * M - M := by rw [Int.sub_mul, Int.one_mul]
          have hm2 : 0 ≤ (m - 1) * M := Int.mul_nonneg (by omega) hM
          have hsubm : inR .i64 (m - 1) := small_i64 (by omega) (by omega)
          refine call_drawE (ih (by omega)) hc (by omega) (by omega) hi (by simp [Ob.re, C.re]) (fun r => TmP.re) (hf0 _) ?_
          rintro _ q2 ⟨a, rfl, ha, haQ⟩ h11 h12
          refine ⟨LocSame.refl _, ?_⟩
          simp -implicitDefEqProofs [hf0, hsubm, row_len, take_row, toDs_map, go_sem, -List.set_cons_succ, -List.set_cons_zero]
          refine ⟨allLen_map row_len, by unfold maxApp; omega, ?_⟩
          refine loop_back (m - 1, l ++ [a], q2) (by simp [setAll]) ⟨by simp; omega, by simp; omega, by simp; omega, by simp; omega, fun t ht => ?_, fun t ht => ?_⟩ (by show (m - 1).toNat < m.toNat; omega)
          · rcases List.mem_append.1 ht with ht | ht
            · exact i4 t ht
            · simp at ht; subst ht; exact ha
          · rcases List.mem_append.1 ht with ht | ht
            · exact i5 t ht
            · simp at ht; subst ht; exact haQ
        · exact done (.mk 3 0 s l) q i2 (by omega) (.mk (small_i64 (by omega) (by omega)) (small_i64 (by omega) (by omega)) (by omega) (by omega) i4) (hP3 s hsm l (by omega) i5) _ (by simp [row_mk])
  · skip
    refine call_drawE (pick_draws 4 (by omega)) hc (by omega) (by omega) hi (by simp [Ob.re, C.re]) (fun r => IntIn.re) (hf0 _) ?_
    rintro _ p1 ⟨k, rfl, k0, k1⟩ h3 h4
    simp -implicitDefEqProofs [hf0, go_sem, -List.set_cons_succ, -List.set_cons_zero]
    refine ⟨fun _ => ?_, fun _ => ⟨fun _ => ?_, fun _ => ?_⟩⟩
    · refine call_drawE (pick_draws 4 (by omega)) hc (by omega) (by omega) hi (by simp [Ob.re, C.re]) (fun r => IntIn.re) (hf0 _) ?_
      rintro _ p2 ⟨n, rfl, n0, n1⟩ h5 h6
      simp -implicitDefEqProofs [hf0, go_sem, -List.set_cons_succ, -List.set_cons_zero]
      refine qcall_pure (var_calls n) (hf1 _) (by simp [A.re, re_d]) ?_
      simp -implicitDefEqProofs [hf0, row_mk, go_sem, -List.set_cons_succ, -List.set_cons_zero]
      exact done (.mk 1 n [] []) p2 (by omega) (by omega) (.mk (small_i64 (by omega) (by omega)) (small_i64 (by omega) (by omega)) (by simp) (by simp) (by simp)) (hP1 n (by omega) (by omega)) _ (by simp [row_mk])
    · refine call_drawE (num_draws [0, 1, 7, -3, 999, -999] (by decide)) hc (by omega) (by omega) hi (by simp [Ob.re, C.re]) (fun r ⟨n, _, hn⟩ => by subst hn; rfl) (hf0 _) ?_
      rintro _ p2 ⟨n, hn, rfl⟩ h5 h6
      have hn : -999 ≤ n ∧ n ≤ 999 := by simp at hn; omega
      simp -implicitDefEqProofs [hf0, go_sem, -List.set_cons_succ, -List.set_cons_zero]
      refine qcall_pure (int_calls n) (hf1 _) (by simp [A.re, re_d]) ?_
      simp -implicitDefEqProofs [hf0, row_mk, go_sem, -List.set_cons_succ, -List.set_cons_zero]
      exact done (.mk 2 n [] []) p2 (by omega) (by omega) (.mk (small_i64 (by omega) (by omega)) (small_i64 (by omega) (by omega)) (by simp) (by simp) (by simp)) (hP2 n (by omega) (by omega)) _ (by simp [row_mk])
    · refine call_drawE (of_draws [[97], [98], [110, 105, 108], [91, 93], [102, 111, 111], [43]] (by decide)) hc (by omega) (by omega) hi (by simp [Ob.re, C.re]) (fun r ⟨n, _, hn⟩ => by subst hn; rfl) (hf0 _) ?_
      rintro _ p2 ⟨s, hs, rfl⟩ h5 h6
      have hsm : s ∈ drawNames := draw_names hs
      have hs : s.length ≤ 3 := by simp at hs; rcases hs with rfl | rfl | rfl | rfl | rfl | rfl <;> decide
      simp -implicitDefEqProofs [hf0, go_sem, -List.set_cons_succ, -List.set_cons_zero]
      refine call_new (struct_full s) (by simp [Ob.re, C.re]) (by simp [A.re, C.re]) (hf1 _) (by simp [Ob.re, C.re]) ?_
      simp -implicitDefEqProofs [hf0, go_sem, -List.set_cons_succ, -List.set_cons_zero]
      exact done (.mk 3 0 s []) p2 (by omega) (by omega) (.mk (small_i64 (by omega) (by omega)) (small_i64 (by omega) (by omega)) (by omega) (by simp) (by simp)) (hP3 s hsm [] (by simp) (by simp)) _ (by simp [row_mk])
/-- whatever holds of leaves and is handed on, holds of what is drawn -/
theorem l1DrawP_draws (P : Nat → Tm → Prop) (h1 : ∀ d n, 0 ≤ n → n ≤ 25 → P d (.mk 1 n [] [])) (h2 : ∀ d n, -999 ≤ n → n ≤ 999 → P d (.mk 2 n [] [])) (h30 : ∀ s ∈ drawNames, P 0 (.mk 3 0 s []))
    (h3 : ∀ d, ∀ s ∈ drawNames, ∀ l : List Tm, l.length ≤ 3 → (∀ t ∈ l, P d t) → P (d + 1) (.mk 3 0 s l)) : ∀ d : Nat, d ≤ 6 → Draws 22 [.c (.d (.int .i64 d))] ((5 * 4 ^ d : Nat) : Int) (TmP (P d))
  | 0, h => draw_of (P := P 0) (Q := fun _ => False) (h1 0) (h2 0) (fun s hs l hl hq => by
      cases l with
      | nil => exact h30 s hs
      | cons a l => exact (hq a (by simp)).elim) 0 h 0 _ (by omega) (by decide) (fun h => absurd h (by omega))
  | d + 1, h => by
    refine draw_of (h1 _) (h2 _) (h3 d) (d + 1) h ((5 * 4 ^ d : Nat) : Int) _ (by omega) ?_ fun _ => ?_
    · have : 0 < 4 ^ d := Nat.pos_of_ne_zero (by simp)
      rw [Nat.pow_succ]; omega
    · have := l1DrawP_draws P h1 h2 h30 h3 d (by omega)
      rw [show (((d + 1 : Nat) : Int) - 1) = (d : Int) by omega]
      exact this
theorem l1Draw_draws (d : Nat) (hd : d ≤ 6) : Draws 22 [.c (.d (.int .i64 d))] ((5 * 4 ^ d : Nat) : Int) TmR := fun c p H i hc hp hp1 hi =>
  (l1DrawP_draws (fun _ _ => True) (fun _ _ _ _ => trivial) (fun _ _ _ _ => trivial) (fun _ _ => trivial) (fun _ _ _ _ _ _ => trivial) d hd c p H i hc hp hp1 hi).mono fun r H' ⟨⟨t, h1, h2, _⟩, h3⟩ => ⟨⟨t, h1, h2⟩, h3⟩
end Go.Proofs.YteighafofbohcaaGreatDoor

/-
  Terms that are drawn: copies that are changed.
  Conditions: none.
-/
open Go Go.AM Go.Proofs
namespace Go.Proofs.YteighafofbohcaaGreatDoor
open Go.ChangeShapes Go.WideShapes Go.ChangeAt Go.RowKit
set_option linter.unusedVariables false
set_option linter.unusedSimpArgs false
set_option maxRecDepth 100000
-- 53 loop.example/prologserver/spec.l1Some params 1 ntmps 8
def ac53 : Cd := .seq (.region [⟨(some 2),.alloc [(.d (.int .i64 0)),(.d (.int .i64 0)),(.d (.str [])),(.full [])],none⟩] [])
 (.seq (.region [⟨(some 3),.mv (.t 0),none⟩,
 ⟨(some 4),.mv (.t 0),none⟩,
 ⟨(some 5),.buildSlice 1 4 [(.int .i64 0)] [(0,(.k (.c (.d (.int .i64 3))))),(1,(.k (.c (.d (.int .i64 2))))),(2,(.k (.c (.d (.int .i64 4))))),(3,(.k (.c (.d (.int .i64 1)))))],none⟩,
 ⟨(some 6),.call false 29 [(.t 4),(.t 5)],none⟩,
 ⟨(some 7),.call false 22 [(.t 3),(.t 6)],none⟩,
 ⟨none,.store 4 (.t 2) (.t 7),none⟩] [0,3,4,5,6,7])
 (.ret))
theorem ac53_ok : cFunc Tryz.prog [] [(0,[],[]),(1,[0,3,4,5,6,7],[])] Tryz.f53 = some (ac53,[.cell 2 (some 4)],8) := by kernel_rfl
-- 52 loop.example/prologserver/spec.l1Mutate params 2 ntmps 51
-- loop head live: [4,5]
-- loop head live: [4,5,6]
def ac52 : Cd := .seq (.region [⟨(some 3),.box (.t 1),none⟩,
 ⟨(some 4),.alloc [(.d (.int .i64 0)),(.d (.int .i64 0)),(.d (.str [])),(.full [])],none⟩] [1])
 (.seq (.region [⟨(some 7),.load (some 4) (.t 3),none⟩,
 ⟨(some 8),.call false 21 [(.t 7)],none⟩,
 ⟨(some 5),.alloc [(.d (.int .i64 0)),(.d (.int .i64 0)),(.d (.str [])),(.full [])],none⟩,
 ⟨none,.store 4 (.t 5) (.t 8),none⟩] [3,7,8])
 (.seq (.seq (.region [⟨(some 9),.mv (.t 0),none⟩,
 ⟨(some 10),.call false 20 [(.t 9),(.k (.c (.d (.int .i64 50))))],none⟩] [9])
 (.block 0 (.seq (.region [⟨(some 12),.bin .eql (.t 10) (.k (.c (.d (.int .i64 0)))),none⟩,
 ⟨(some 11),.mv (.t 12),none⟩] [12])
 (.cond (.t 11)
 (.region [⟨(some 13),.mv (.t 0),none⟩,
 ⟨(some 14),.buildSlice 1 5 [(.int .i64 0)] [(0,(.k (.c (.d (.int .i64 0))))),(1,(.k (.c (.d (.int .i64 4))))),(2,(.k (.c (.d (.int .i64 1))))),(3,(.k (.c (.d (.int .i64 2))))),(4,(.k (.c (.d (.int .i64 3)))))],none⟩,
 ⟨(some 15),.call false 29 [(.t 13),(.t 14)],none⟩,
 ⟨(some 16),.fieldAddr 0 (.t 5),none⟩,
 ⟨none,.store 1 (.t 16) (.t 15),none⟩] [0,10,11,13,14,15,16])
 (.seq (.region [⟨(some 18),.bin .eql (.t 10) (.k (.c (.d (.int .i64 1)))),none⟩,
 ⟨(some 17),.mv (.t 18),none⟩] [11,18])
 (.cond (.t 17)
 (.region [⟨(some 19),.mv (.t 0),none⟩,
 ⟨(some 20),.buildSlice 1 5 [(.int .i64 0)] [(0,(.k (.c (.d (.int .i64 26))))),(1,(.k (.c (.d (.int .i64 1000))))),(2,(.k (.c (.d (.int .i64 (-1000)))))),(3,(.k (.c (.d (.int .i64 (-1)))))),(4,(.k (.c (.d (.int .i64 1)))))],none⟩,
 ⟨(some 21),.call false 29 [(.t 19),(.t 20)],none⟩,
 ⟨(some 22),.fieldAddr 1 (.t 5),none⟩,
 ⟨none,.store 1 (.t 22) (.t 21),none⟩] [0,10,17,19,20,21,22])
 (.seq (.region [⟨(some 24),.bin .eql (.t 10) (.k (.c (.d (.int .i64 2)))),none⟩,
 ⟨(some 23),.mv (.t 24),none⟩] [17,24])
 (.cond (.t 23)
 (.region [⟨(some 25),.mv (.t 0),none⟩,
 ⟨(some 26),.buildSlice 1 5 [(.str [])] [(0,(.k (.c (.d (.str []))))),(1,(.k (.c (.d (.str [88]))))),(2,(.k (.c (.d (.str [116,111,111,108,111,110,103]))))),(3,(.k (.c (.d (.str [195,169]))))),(4,(.k (.c (.d (.str [97])))))],none⟩,
 ⟨(some 27),.call false 57 [(.t 25),(.t 26)],none⟩,
 ⟨(some 28),.fieldAddr 2 (.t 5),none⟩,
 ⟨none,.store 1 (.t 28) (.t 27),none⟩] [0,10,23,25,26,27,28])
 (.seq (.region [⟨(some 30),.bin .eql (.t 10) (.k (.c (.d (.int .i64 3)))),none⟩,
 ⟨(some 29),.mv (.t 30),none⟩] [0,23,30])
 (.cond (.t 29)
 (.block 1 (.loop (.seq (.seq (.region [⟨(some 31),.fieldAddr 3 (.t 5),none⟩,
 ⟨(some 32),.load none (.t 31),none⟩,
 ⟨(some 33),.len 1 (.t 32),none⟩,
 ⟨(some 34),.bin .leq (.t 33) (.k (.c (.d (.int .i64 4)))),none⟩] [31,32,33])
 (.cond (.t 34)
 (.skip)
 (.exit 1)))
 (.block 2 (.region [⟨(some 35),.fieldAddr 3 (.t 5),none⟩,
 ⟨(some 36),.load none (.t 35),none⟩,
 ⟨(some 37),.qcall 55 [(.k (.c (.d (.int .i64 1))))],none⟩,
 ⟨(some 38),.buildSlice 4 1 [(.int .i64 0),(.int .i64 0),(.str []),(.sl [])] [(0,(.t 37))],none⟩,
 ⟨(some 39),.append false 4 (.t 36) (.t 38),none⟩,
 ⟨(some 40),.fieldAddr 3 (.t 5),none⟩,
 ⟨none,.store 1 (.t 40) (.t 39),none⟩] [34,35,36,37,38,39,40])))))
 (.seq (.region [⟨(some 42),.bin .eql (.t 10) (.k (.c (.d (.int .i64 4)))),none⟩,
 ⟨(some 41),.mv (.t 42),none⟩] [10,29,42])
 (.cond (.t 41)
 (.seq (.region [⟨(some 6),.mv (.k (.c (.d (.int .i64 0)))),none⟩] [41])
 (.block 3 (.loop (.seq (.seq (.region [⟨(some 43),.mv (.t 6),none⟩,
 ⟨(some 44),.bin .lss (.t 43) (.k (.c (.d (.int .i64 30)))),none⟩] [43])
 (.cond (.t 44)
 (.skip)
 (.exit 3)))
 (.seq (.block 4 (.region [⟨(some 47),.load (some 4) (.t 5),none⟩,
 ⟨(some 48),.buildSlice 4 1 [(.int .i64 0),(.int .i64 0),(.str []),(.sl [])] [(0,(.t 47))],none⟩,
 ⟨(some 49),.qcall 56 [(.k (.c (.d (.str [115])))),(.t 48)],none⟩,
 ⟨none,.store 4 (.t 5) (.t 49),none⟩] [44,47,48,49]))
 (.region [⟨(some 45),.mv (.t 6),none⟩,
 ⟨(some 46),.bin .add (.t 45) (.k (.c (.d (.int .i64 1)))),none⟩,
 ⟨(some 6),.mv (.t 46),none⟩] [45,46]))))))
 (.skip)))))))))))))
 (.seq (.region [⟨(some 50),.load (some 4) (.t 5),none⟩,
 ⟨none,.store 4 (.t 4) (.t 50),none⟩] [5,41,50])
 (.ret))))
theorem ac52_ok : cFunc Tryz.prog [1000055,1000056] [(0,[1],[]),(1,[3,7,8],[]),(2,[9],[]),(3,[12],[]),(4,[0,10,11,13,14,15,16],[]),(5,[11,18],[]),(6,[0,10,17,19,20,21,22],[]),(7,[17,24],[]),(8,[0,10,23,25,26,27,28],[]),(9,[0,23,30],[]),(10,[31,32,33],[]),(11,[34,35,36,37,38,39,40],[0,1,2,3,4,5,6]),(12,[10,29,42],[]),(13,[41],[]),(14,[43],[]),(16,[44,47,48,49],[]),(15,[45,46],[]),(17,[5,41,50],[])] Tryz.f52 = some (ac52,[.cell 4 (some 4)],51) := by kernel_rfl
theorem Draws.mono {f : FuncId} {xs : List A} {N N' : Int} {R : A → Prop} (h : Draws f xs N R) (hN : N ≤ N') : Draws f xs N' R := fun c p H i hc hp hp1 hi =>
  (h c p H i hc hp (by omega) hi).mono fun r H' ⟨h1, p', h2, h3, h4⟩ => ⟨h1, p', h2, by omega, h4⟩
theorem l1Some_draws : Draws 53 [] 1281 TmR := fun c p H i hc hp hp1 hi => by
  refine acalls Tryz.func53 (by kernel_rfl) ac53_ok fun hf => ?_
  simp only [List.length_set] at hf
  have hf0 : ∀ q, Obs.fits H.length 0 (H.set i (Rd c q)) := fun q => fits_reset (b := Rd c q) hf ⟨trivial, trivial, trivial⟩
  simp -implicitDefEqProofs [ac53, hf0, go_sem, -List.set_cons_succ, -List.set_cons_zero]
  refine call_drawE (num_draws [3, 2, 4, 1] (by decide)) hc (by omega) (by omega) hi (by simp [Ob.re, C.re]) (fun r ⟨n, _, hn⟩ => by subst hn; rfl) (hf0 _) ?_
  rintro _ p1 ⟨n, hn, rfl⟩ h1 h2
  obtain ⟨d, rfl, hd⟩ : ∃ d : Nat, n = (d : Int) ∧ d ≤ 4 := ⟨n.toNat, by simp at hn; omega, by simp at hn; omega⟩
  have hdr : Draws 22 [.c (.d (.int .i64 d))] 1280 TmR := (l1Draw_draws d (by omega)).mono (by
    have : 4 ^ d ≤ 4 ^ 4 := Nat.pow_le_pow_right (by omega) hd
    omega)
  simp -implicitDefEqProofs [hf0, go_sem, -List.set_cons_succ, -List.set_cons_zero]
  refine call_drawE hdr hc (by omega) (by omega) hi (by simp [Ob.re, C.re]) (fun r => TmR.re) (hf0 _) ?_
  rintro _ p2 ⟨t, rfl, ht⟩ h3 h4
  rw [row_eq]
  simp -implicitDefEqProofs [hf0, go_sem, -List.set_cons_succ, -List.set_cons_zero]
  exact ⟨⟨t, by rw [row_eq]; rfl, ht⟩, p2, by omega, by omega, rfl⟩
theorem copy_own (k n : Int) (s : List UInt8) (l : List Tm) (hfits : (Tm.mk k n s l).fits) (H : Heap) : ACalls Tryz.prog 21 [.agg ((Tm.mk k n s l).row.map .d)] H (fun r H' =>
    H' = H ++ [.cells [.d (.int .i64 k), .d (.int .i64 n), .d (.str s), .d (.sl (l.map Tm.row))], .cells [.d (.int .i64 k), .d (.int .i64 n), .d (.str s), .own (.e (H.length + 3)) l.length (l.map Tm.row)], .cells [.d (.int .i64 k), .d (.int .i64 n), .d (.str s), .own (.e (H.length + 3)) l.length (l.map Tm.row)], .grow l.length 4] ∧
    r = .agg [.d (.int .i64 k), .d (.int .i64 n), .d (.str s), .own (.e (H.length + 3)) l.length (l.map Tm.row)]) := by
  obtain ⟨hk, hn, hs, hl, hkids⟩ := hfits
  refine acallsK Tryz.func21 (by kernel_rfl) ac21_ok fun hf => ?_
  have hli : inR .i64 (l.length : Int) := small_i64 (by omega) (by omega)
  simp -implicitDefEqProofs [ac21, row_mk, hf, hli, go_sem, -List.set_cons_succ, -List.set_cons_zero]
  refine loop_enter (St.le_tokenC 2 3 4 rfl rfl) ?_
  refine loop_set (σ := Nat) (fun i => [(4, .c (.d (.int .i64 i)))]) (fun _ => H) (fun i => [.cells [.d (.int .i64 k), .d (.int .i64 n), .d (.str s), .d (.sl (l.map Tm.row))], .cells [.d (.int .i64 0), .d (.int .i64 0), .d (.str []), .full []], .cells [.d (.int .i64 k), .d (.int .i64 n), .d (.str s), .own (.l 3) i ((l.map Tm.row).take i)], .grow i 4])
    (fun i => i ≤ l.length) (fun i => l.length - i) 0 rfl (Nat.zero_le _) ?_
  intro i hi
  simp -implicitDefEqProofs [setAll, hli, go_sem, -List.set_cons_succ, -List.set_cons_zero]
  refine ⟨fun hlt => ?_, fun hge => ?_⟩
  · have hadd : inR .i64 ((i : Int) + 1) := small_i64 (by omega) (by omega)
    refine row_of hlt (row_len _) ?_
    simp -implicitDefEqProofs [row_len, take_row, pure_d, re_d, go_sem, -List.set_cons_succ, -List.set_cons_zero]
    refine qcall_pure (copy_calls l[i] (hkids _ (List.getElem_mem hlt))) hf (by simp [A.re, re_d]) ?_
    simp -implicitDefEqProofs [row_len, toDs_map, hadd, hf, Nat.min_eq_left hi, go_sem, -List.set_cons_succ, -List.set_cons_zero]
    refine ⟨fun r hr => allLen_map row_len r (List.mem_of_mem_take hr), by unfold maxApp; omega, ?_⟩
    refine loop_back (i + 1) ?_ hlt (by show l.length - (i + 1) < l.length - i; omega)
    simp [setAll, take_map_succ hlt]
  · have hil : i = l.length := by omega
    subst hil
    rw [show (l.map Tm.row).take l.length = l.map Tm.row from List.take_of_length_le (by simp)]
    simp -implicitDefEqProofs [hf, go_sem, -List.set_cons_succ, -List.set_cons_zero]
    refine finK_ret _ ⟨trivial, trivial⟩ rfl ?_
    simp [Ob.re, C.re, A.re, Ref.re]
theorem l1Mutate_draws (t : Tm) (ht : t.fits) : Draws 52 [.agg (t.row.map .d)] 2 TmR := fun c p H i hc hp hp1 hi => by
  obtain ⟨k, n, s, l⟩ := t
  refine acalls Tryz.func52 (by kernel_rfl) ac52_ok fun hf => ?_
  simp only [List.length_set] at hf
  have hf0 : ∀ q, Obs.fits H.length 0 (H.set i (Rd c q)) := fun q => fits_reset (b := Rd c q) hf ⟨trivial, trivial, trivial⟩
  have hf1 : ∀ q, Obs.fits (H.set i (Rd c q)).length 0 (H.set i (Rd c q)) := fun q => by simpa using hf0 q
  have hcopy := copy_own k n s l ht
  obtain ⟨hk, hn, hs, hl, hkids⟩ := ht
  rw [row_mk] at hcopy ⊢
  simp -implicitDefEqProofs [ac52, hf0, go_sem, -List.set_cons_succ, -List.set_cons_zero]
  have done : ∀ (t : Tm) (q : Int), p ≤ q → q ≤ p + 2 → t.fits → ∀ r, r = .agg (t.row.map .d) → Drew TmR 2 c p H i r (H.set i (Rd c q)) := fun t q a1 a2 a3 r hr => ⟨⟨t, hr, a3⟩, q, a1, a2, rfl⟩
  refine (hcopy _).mono fun r H' ⟨g1, g2⟩ => ⟨H.set i (Rd c p), [.cells [.d (.int .i64 k), .d (.int .i64 n), .d (.str s), .d (.sl (l.map Tm.row))], .cells [.d (.int .i64 0), .d (.int .i64 0), .d (.str []), .full []], .cells [.d (.int .i64 k), .d (.int .i64 n), .d (.str s), .d (.sl (l.map Tm.row))], .cells [.d (.int .i64 k), .d (.int .i64 n), .d (.str s), .own (.l 5) l.length (l.map Tm.row)], .cells [.d (.int .i64 k), .d (.int .i64 n), .d (.str s), .own (.l 5) l.length (l.map Tm.row)], .grow l.length 4],
    .agg [.d (.int .i64 k), .d (.int .i64 n), .d (.str s), .own (.l 5) l.length (l.map Tm.row)], by rw [g1]; simp [Ob.re, C.re, Ref.re], by simp, by simp, by simpa using hf0 p, by rw [g2]; simp [A.re, C.re, Ref.re], ?_⟩
  clear hcopy
  simp -implicitDefEqProofs [hf0, go_sem, -List.set_cons_succ, -List.set_cons_zero]
  refine call_drawE (pick_draws 50 (by omega)) hc (by omega) (by omega) hi (by simp [Ob.re, C.re, Ref.re]) (fun r => IntIn.re) (hf0 _) ?_
  rintro _ p1 ⟨m, rfl, m0, m1⟩ h1 h2
  simp -implicitDefEqProofs [hf0, go_sem, -List.set_cons_succ, -List.set_cons_zero]
  refine ⟨fun _ => ?_, fun _ => ⟨fun _ => ?_, fun _ => ⟨fun _ => ?_, fun _ => ⟨fun _ => ?_, fun _ => ⟨fun _ => ?_, fun _ => ?_⟩⟩⟩⟩⟩
  · refine call_drawE (num_draws [0, 4, 1, 2, 3] (by decide)) hc (by omega) (by omega) hi (by simp [Ob.re, C.re]) (fun r ⟨n, _, hn⟩ => by subst hn; rfl) (hf0 _) ?_
    rintro _ p2 ⟨x, hx, rfl⟩ h3 h4
    have hx : -1000 ≤ x ∧ x ≤ 1000 := by simp at hx; omega
    simp -implicitDefEqProofs [hf0, go_sem, -List.set_cons_succ, -List.set_cons_zero]
    exact done (.mk x n s l) p2 (by omega) (by omega) (.mk (small_i64 (by omega) (by omega)) hn hs hl hkids) _ (by simp [row_mk])
  · refine call_drawE (num_draws [26, 1000, -1000, -1, 1] (by decide)) hc (by omega) (by omega) hi (by simp [Ob.re, C.re]) (fun r ⟨n, _, hn⟩ => by subst hn; rfl) (hf0 _) ?_
    rintro _ p2 ⟨x, hx, rfl⟩ h3 h4
    have hx : -1000 ≤ x ∧ x ≤ 1000 := by simp at hx; omega
    simp -implicitDefEqProofs [hf0, go_sem, -List.set_cons_succ, -List.set_cons_zero]
    exact done (.mk k x s l) p2 (by omega) (by omega) (.mk hk (small_i64 (by omega) (by omega)) hs hl hkids) _ (by simp [row_mk])
  · refine call_drawE (of_draws [[], [88], [116, 111, 111, 108, 111, 110, 103], [195, 169], [97]] (by decide)) hc (by omega) (by omega) hi (by simp [Ob.re, C.re]) (fun r ⟨n, _, hn⟩ => by subst hn; rfl) (hf0 _) ?_
    rintro _ p2 ⟨x, hx, rfl⟩ h3 h4
    have hx : x.length ≤ 1000 := by simp at hx; rcases hx with rfl | rfl | rfl | rfl | rfl <;> decide
    simp -implicitDefEqProofs [hf0, go_sem, -List.set_cons_succ, -List.set_cons_zero]
    exact done (.mk k n x l) p2 (by omega) (by omega) (.mk hk hn (by omega) hl hkids) _ (by simp [row_mk])
  · refine loop_set (σ := List Tm) (fun _ => []) (fun _ => H.set i (Rd c p1)) (fun y => [.cells [.d (.int .i64 k), .d (.int .i64 n), .d (.str s), .d (.sl (l.map Tm.row))], .cells [.d (.int .i64 0), .d (.int .i64 0), .d (.str []), .full []], .cells [.d (.int .i64 k), .d (.int .i64 n), .d (.str s), .d (.sl (l.map Tm.row))], .cells [.d (.int .i64 k), .d (.int .i64 n), .d (.str s), .own (.l 5) l.length (l.map Tm.row)], .cells [.d (.int .i64 k), .d (.int .i64 n), .d (.str s), .own (.l 5) l.length (l.map Tm.row)], .grow y.length 4, .cells [.d (.int .i64 k), .d (.int .i64 n), .d (.str s), .own (.l 5) y.length (y.map Tm.row)]])
      (fun y => y.length ≤ 1048576 ∧ ∀ t ∈ y, t.fits) (fun y => 5 - y.length) l rfl ⟨hl, hkids⟩ ?_
    rintro y ⟨hy, hyf⟩
    have hly : inR .i64 (y.length : Int) := small_i64 (by omega) (by omega)
    simp -implicitDefEqProofs [setAll, hf0, hly, go_sem, -List.set_cons_succ, -List.set_cons_zero]
    refine ⟨fun hlt => ?_, fun hge => ?_⟩
    · refine qcall_pure (int_calls 1) (hf1 _) (by simp [A.re, re_d]) ?_
      simp -implicitDefEqProofs [hf0, row_mk, go_sem, -List.set_cons_succ, -List.set_cons_zero]
      refine ⟨allLen_map row_len, by unfold maxApp; omega, ?_⟩
      refine loop_back (y ++ [Tm.mk 2 1 [] []]) (by simp [setAll, row_mk]) ⟨by simp; omega, fun t ht => ?_⟩ (by show 5 - (y ++ [Tm.mk 2 1 [] []]).length < 5 - y.length; simp; omega)
      rcases List.mem_append.1 ht with ht | ht
      · exact hyf t ht
      · simp at ht; subst ht; exact .mk (small_i64 (by omega) (by omega)) (small_i64 (by omega) (by omega)) (by simp) (by simp) (by simp)
    · exact done (.mk k n s y) p1 (by omega) (by omega) (.mk hk hn hs hy hyf) _ (by simp [row_mk])
  · refine loop_set (σ := Nat × Tm) (fun x => [(6, .c (.d (.int .i64 x.1)))]) (fun _ => H.set i (Rd c p1)) (fun x => [.cells [.d (.int .i64 k), .d (.int .i64 n), .d (.str s), .d (.sl (l.map Tm.row))], .cells [.d (.int .i64 0), .d (.int .i64 0), .d (.str []), .full []], .cells [.d (.int .i64 k), .d (.int .i64 n), .d (.str s), .d (.sl (l.map Tm.row))], .cells [.d (.int .i64 k), .d (.int .i64 n), .d (.str s), .own (.l 5) l.length (l.map Tm.row)], .cells [.d (.int .i64 k), .d (.int .i64 n), .d (.str s), .own (.l 5) l.length (l.map Tm.row)], .grow l.length 4, .cells (if x.1 = 0 then [.d (.int .i64 k), .d (.int .i64 n), .d (.str s), .own (.l 5) l.length (l.map Tm.row)] else x.2.row.map .d)])
      (fun x => x.1 ≤ 30 ∧ x.2.fits ∧ (x.1 = 0 → x.2 = .mk k n s l)) (fun x => 30 - x.1) (0, Tm.mk k n s l) rfl ⟨by omega, .mk hk hn hs hl hkids, fun _ => rfl⟩ ?_
    rintro ⟨j, u⟩ ⟨hj, hu, hj0⟩
    simp only at hj hu hj0
    have hadd : inR .i64 ((j : Int) + 1) := small_i64 (by omega) (by omega)
    have hone : (Tm.mk 3 0 [115] [u]).fits := .mk (small_i64 (by omega) (by omega)) (small_i64 (by omega) (by omega)) (by simp) (by simp) (by simpa using hu)
    have hst := struct_calls [115] [u] (by simp)
    simp only [List.map_cons, List.map_nil] at hst
    by_cases hz : j = 0
    · subst hz
      have hu := hj0 rfl
      subst hu
      have h1 : inR .i64 1 := small_i64 (by omega) (by omega)
      simp -implicitDefEqProofs [setAll, hf0, go_sem, -List.set_cons_succ, -List.set_cons_zero]
      rw [row_mk] at hst
      refine qcall_pure hst (hf1 _) (by simp [A.re, re_d]) ?_
      simp -implicitDefEqProofs [hf0, h1, row_len, take_row, go_sem, -List.set_cons_succ, -List.set_cons_zero]
      exact loop_back (1, Tm.mk 3 0 [115] [Tm.mk k n s l]) (by simp [setAll]) ⟨by simp, hone, fun h => by simp at h⟩ (by show 30 - 1 < 30 - 0; omega)
    · simp -implicitDefEqProofs [setAll, hf0, hz, hadd, row_len, take_row, toDs_map, go_sem, -List.set_cons_succ, -List.set_cons_zero]
      refine ⟨fun hlt => ?_, fun hge => ?_⟩
      · refine qcall_pure hst (hf1 _) (by simp [A.re, re_d, row_len]) ?_
        simp -implicitDefEqProofs [hf0, hadd, row_len, take_row, go_sem, -List.set_cons_succ, -List.set_cons_zero]
        exact loop_back (j + 1, Tm.mk 3 0 [115] [u]) (by simp [setAll, row_len]) ⟨by show j + 1 ≤ 30; omega, hone, fun h => by simp at h⟩ (by show 30 - (j + 1) < 30 - j; omega)
      · simp [thaw_d, fits_map]
        exact done u p1 (by omega) (by omega) hu _ rfl
  · exact done (.mk k n s l) p1 (by omega) (by omega) (.mk hk hn hs hl hkids) _ (by simp [row_mk])
end Go.Proofs.YteighafofbohcaaGreatDoor

/-
  Programs and clauses that are drawn.
  Conditions: none.
-/
open Go Go.AM Go.Proofs
namespace Go.Proofs.YteighafofbohcaaGreatDoor
open Go.ChangeShapes Go.WideShapes Go.ChangeAt Go.RowKit
set_option linter.unusedVariables false
set_option linter.unusedSimpArgs false
set_option maxRecDepth 100000
-- 89 loop.example/prologserver/spec.l4Texts params 0 ntmps 2
def ac89 : Cd := .seq (.region [⟨(some 0),.mv (.k (.c (.full []))),none⟩] [0])
 (.seq (.region [⟨(some 1),.buildSlice 1 11 [(.str [])] [(0,(.k (.c (.d (.str [97,112,112,40,91,93,44,65,44,65,41,46,10,97,112,112,40,91,65,124,66,93,44,67,44,91,65,124,68,93,41,58,45,97,112,112,40,66,44,67,44,68,41,46,10]))))),(1,(.k (.c (.d (.str [109,101,109,40,65,44,91,65,124,66,93,41,46,10,109,101,109,40,65,44,91,66,124,67,93,41,58,45,109,101,109,40,65,44,67,41,46,10]))))),(2,(.k (.c (.d (.str [112,40,49,41,46,10,112,40,50,41,46,10,112,40,51,41,46,10,113,40,65,41,58,45,112,40,65,41,44,65,62,49,44,33,46,10,114,40,65,44,66,41,58,45,112,40,65,41,44,112,40,66,41,46,10]))))),(3,(.k (.c (.d (.str [108,101,110,40,91,93,44,48,41,46,10,108,101,110,40,91,65,124,66,93,44,67,41,58,45,108,101,110,40,66,44,68,41,44,67,32,105,115,32,68,43,49,46,10]))))),(4,(.k (.c (.d (.str [109,97,120,40,65,44,66,44,65,41,58,45,65,62,61,66,44,33,46,10,109,97,120,40,65,44,66,44,66,41,46,10]))))),(5,(.k (.c (.d (.str [101,40,97,44,98,41,46,10,101,40,98,44,99,41,46,10,101,40,99,44,100,41,46,10,116,40,65,44,66,41,58,45,101,40,65,44,66,41,46,10,116,40,65,44,66,41,58,45,101,40,65,44,67,41,44,116,40,67,44,66,41,46,10]))))),(6,(.k (.c (.d (.str [108,111,111,112,58,45,108,111,111,112,46,10,111,107,46,10]))))),(7,(.k (.c (.d (.str [102,97,99,40,48,44,49,41,58,45,33,46,10,102,97,99,40,65,44,66,41,58,45,65,62,48,44,67,32,105,115,32,65,45,49,44,102,97,99,40,67,44,68,41,44,66,32,105,115,32,65,42,68,46,10]))))),(8,(.k (.c (.d (.str [115,40,65,41,58,45,65,61,102,40,66,41,44,97,114,103,40,49,44,65,44,66,41,44,66,61,49,46,10,115,40,65,41,58,45,118,97,114,40,65,41,44,65,61,110,111,110,101,46,10]))))),(9,(.k (.c (.d (.str [114,101,118,40,91,93,44,65,44,65,41,46,10,114,101,118,40,91,65,124,66,93,44,67,44,68,41,58,45,114,101,118,40,66,44,91,65,124,67,93,44,68,41,46,10]))))),(10,(.k (.c (.d (.str [98,97,100,40,65,41,58,45,66,32,105,115,32,65,43,102,111,111,44,67,61,66,46,10,98,105,103,40,65,41,58,45,65,32,105,115,32,57,57,57,43,49,46,10,117,110,40,65,41,58,45,110,111,115,117,99,104,40,65,41,46,10])))))],none⟩,
 ⟨(some 0),.mv (.t 1),none⟩] [1])
 (.ret))
theorem ac89_ok : cFunc Tryz.prog [] [(0,[0],[]),(1,[1],[])] Tryz.f89 = some (ac89,[.tmp 0],2) := by kernel_rfl
-- 51 loop.example/prologserver/spec.l4Program params 1 ntmps 19
def ac51 : Cd := .seq (.region [⟨(some 2),.mv (.k (.c (.full []))),none⟩] [2])
 (.seq (.region [⟨(some 6),.qcall 89 [],none⟩,
 ⟨(some 3),.mv (.t 6),none⟩] [6])
 (.seq (.region [⟨(some 8),.mv (.t 3),none⟩,
 ⟨(some 9),.mv (.t 0),none⟩,
 ⟨(some 10),.mv (.t 3),none⟩,
 ⟨(some 11),.len 1 (.t 10),none⟩,
 ⟨(some 12),.call false 20 [(.t 9),(.t 11)],none⟩,
 ⟨(some 13),.indexAddr 1 (.t 8) (.t 12),none⟩,
 ⟨(some 14),.load none (.t 13),none⟩,
 ⟨(some 15),.qcall 90 [(.t 14)],none⟩,
 ⟨(some 7),.mv (.t 15),none⟩,
 ⟨(some 16),.extract 0 (.t 7),none⟩,
 ⟨(some 17),.extract 1 (.t 7),none⟩,
 ⟨(some 4),.mv (.t 16),none⟩,
 ⟨(some 5),.mv (.t 17),none⟩] [0,3,5,7,8,9,10,11,12,13,14,15,16,17])
 (.seq (.region [⟨(some 18),.mv (.t 4),none⟩,
 ⟨(some 2),.mv (.t 18),none⟩] [4,18])
 (.ret))))
theorem ac51_ok : cFunc Tryz.prog [1000089,1000090] [(0,[2],[]),(1,[6],[]),(2,[0,3,5,7,8,9,10,11,12,13,14,15,16,17],[]),(3,[4,18],[])] Tryz.f51 = some (ac51,[.tmp 2],19) := by kernel_rfl
-- 44 loop.example/prologserver/spec.l4Clause params 1 ntmps 47
-- loop head live: [0,2,4,5]
def ac88 : Cd := .seq (.region [⟨(some 3),.box (.t 1),none⟩,
 ⟨(some 4),.alloc [(.d (.int .i64 0)),(.d (.int .i64 0)),(.d (.str [])),(.full []),(.full [])],none⟩] [1])
 (.seq (.region [⟨(some 6),.load (some 5) (.t 3),none⟩,
 ⟨(some 7),.call false 110 [(.t 6)],none⟩,
 ⟨(some 5),.alloc [(.d (.int .i64 0)),(.d (.int .i64 0)),(.d (.str [])),(.full []),(.full [])],none⟩,
 ⟨none,.store 5 (.t 5) (.t 7),none⟩] [3,6,7])
 (.seq (.seq (.region [⟨(some 8),.mv (.t 0),none⟩,
 ⟨(some 9),.call false 20 [(.t 8),(.k (.c (.d (.int .i64 40))))],none⟩] [8])
 (.block 0 (.seq (.region [⟨(some 11),.bin .eql (.t 9) (.k (.c (.d (.int .i64 0)))),none⟩,
 ⟨(some 10),.mv (.t 11),none⟩] [11])
 (.cond (.t 10)
 (.region [⟨(some 12),.mv (.t 0),none⟩,
 ⟨(some 13),.mv (.t 0),none⟩,
 ⟨(some 14),.callL false false 53 [(.t 13)],none⟩,
 ⟨(some 15),.callL false false 52 [(.t 12),(.t 14)],none⟩,
 ⟨(some 16),.fieldAddr 0 (.t 5),none⟩,
 ⟨none,.store 4 (.t 16) (.t 15),none⟩] [0,9,10,12,13,14,15,16])
 (.seq (.region [⟨(some 18),.bin .eql (.t 9) (.k (.c (.d (.int .i64 1)))),none⟩,
 ⟨(some 17),.mv (.t 18),none⟩] [10,18])
 (.cond (.t 17)
 (.region [⟨(some 19),.fieldAddr 4 (.t 5),none⟩,
 ⟨(some 21),.mv (.t 0),none⟩,
 ⟨(some 22),.mv (.t 0),none⟩,
 ⟨(some 20),.loadL false none (.t 19),none⟩,
 ⟨(some 23),.callL false false 53 [(.t 22)],none⟩,
 ⟨(some 24),.callL false false 52 [(.t 21),(.t 23)],none⟩,
 ⟨(some 25),.buildSlice 4 1 [(.int .i64 0),(.int .i64 0),(.str []),(.sl [])] [(0,(.t 24))],none⟩,
 ⟨(some 26),.append false 4 (.t 20) (.t 25),none⟩,
 ⟨(some 27),.fieldAddr 4 (.t 5),none⟩,
 ⟨none,.store 1 (.t 27) (.t 26),none⟩] [0,9,17,19,20,21,22,23,24,25,26,27])
 (.seq (.region [⟨(some 29),.bin .eql (.t 9) (.k (.c (.d (.int .i64 2)))),none⟩,
 ⟨(some 28),.mv (.t 29),none⟩] [17,29])
 (.cond (.t 28)
 (.block 1 (.loop (.seq (.seq (.region [⟨(some 30),.fieldAddr 4 (.t 5),none⟩,
 ⟨(some 31),.load none (.t 30),none⟩,
 ⟨(some 32),.len 1 (.t 31),none⟩,
 ⟨(some 33),.bin .leq (.t 32) (.k (.c (.d (.int .i64 6)))),none⟩] [30,31,32])
 (.cond (.t 33)
 (.skip)
 (.exit 1)))
 (.block 2 (.region [⟨(some 34),.fieldAddr 4 (.t 5),none⟩,
 ⟨(some 35),.load none (.t 34),none⟩,
 ⟨(some 36),.qcall 56 [(.k (.c (.d (.str [116,114,117,101])))),(.k (.c (.full [])))],none⟩,
 ⟨(some 37),.buildSlice 4 1 [(.int .i64 0),(.int .i64 0),(.str []),(.sl [])] [(0,(.t 36))],none⟩,
 ⟨(some 38),.append false 4 (.t 35) (.t 37),none⟩,
 ⟨(some 39),.fieldAddr 4 (.t 5),none⟩,
 ⟨none,.store 1 (.t 39) (.t 38),none⟩] [33,34,35,36,37,38,39])))))
 (.seq (.region [⟨(some 41),.bin .eql (.t 9) (.k (.c (.d (.int .i64 3)))),none⟩,
 ⟨(some 40),.mv (.t 41),none⟩] [9,28,41])
 (.cond (.t 40)
 (.region [⟨(some 42),.mv (.t 0),none⟩,
 ⟨(some 43),.buildSlice 1 5 [(.str [])] [(0,(.k (.c (.d (.str [116,114,117,101]))))),(1,(.k (.c (.d (.str [105,115]))))),(2,(.k (.c (.d (.str [61]))))),(3,(.k (.c (.d (.str [109,111,100]))))),(4,(.k (.c (.d (.str [113])))))],none⟩,
 ⟨(some 44),.call false 57 [(.t 42),(.t 43)],none⟩,
 ⟨(some 45),.fieldAddr 0 (.t 5),none⟩,
 ⟨(some 46),.fieldAddr 2 (.t 45),none⟩,
 ⟨none,.store 1 (.t 46) (.t 44),none⟩] [0,40,42,43,44,45,46])
 (.skip)))))))))))
 (.seq (.region [⟨(some 47),.load (some 5) (.t 5),none⟩,
 ⟨none,.store 5 (.t 4) (.t 47),none⟩] [0,5,40,47])
 (.ret))))
theorem ac88_ok : cFunc Tryz.prog [1000056,5000019,6000053,6000052] [(0,[1],[]),(1,[3,6,7],[]),(2,[8],[]),(3,[11],[]),(4,[0,9,10,12,13,14,15,16],[]),(5,[10,18],[]),(6,[0,9,17,19,20,21,22,23,24,25,26,27],[0,2,3,1,4,5,6,7,8,9]),(7,[17,29],[]),(8,[30,31,32],[]),(9,[33,34,35,36,37,38,39],[0,1,2,3,4,5,6]),(10,[9,28,41],[]),(11,[0,40,42,43,44,45,46],[]),(12,[0,5,40,47],[])] Tryz.f88 = some (ac88,[.cell 4 (some 5)],48) := by kernel_rfl
def progTexts : List (List UInt8) := [[97, 112, 112, 40, 91, 93, 44, 65, 44, 65, 41, 46, 10, 97, 112, 112, 40, 91, 65, 124, 66, 93, 44, 67, 44, 91, 65, 124, 68, 93, 41, 58, 45, 97, 112, 112, 40, 66, 44, 67, 44, 68, 41, 46, 10], [109, 101, 109, 40, 65, 44, 91, 65, 124, 66, 93, 41, 46, 10, 109, 101, 109, 40, 65, 44, 91, 66, 124, 67, 93, 41, 58, 45, 109, 101, 109, 40, 65, 44, 67, 41, 46, 10], [112, 40, 49, 41, 46, 10, 112, 40, 50, 41, 46, 10, 112, 40, 51, 41, 46, 10, 113, 40, 65, 41, 58, 45, 112, 40, 65, 41, 44, 65, 62, 49, 44, 33, 46, 10, 114, 40, 65, 44, 66, 41, 58, 45, 112, 40, 65, 41, 44, 112, 40, 66, 41, 46, 10], [108, 101, 110, 40, 91, 93, 44, 48, 41, 46, 10, 108, 101, 110, 40, 91, 65, 124, 66, 93, 44, 67, 41, 58, 45, 108, 101, 110, 40, 66, 44, 68, 41, 44, 67, 32, 105, 115, 32, 68, 43, 49, 46, 10], [109, 97, 120, 40, 65, 44, 66, 44, 65, 41, 58, 45, 65, 62, 61, 66, 44, 33, 46, 10, 109, 97, 120, 40, 65, 44, 66, 44, 66, 41, 46, 10], [101, 40, 97, 44, 98, 41, 46, 10, 101, 40, 98, 44, 99, 41, 46, 10, 101, 40, 99, 44, 100, 41, 46, 10, 116, 40, 65, 44, 66, 41, 58, 45, 101, 40, 65, 44, 66, 41, 46, 10, 116, 40, 65, 44, 66, 41, 58, 45, 101, 40, 65, 44, 67, 41, 44, 116, 40, 67, 44, 66, 41, 46, 10], [108, 111, 111, 112, 58, 45, 108, 111, 111, 112, 46, 10, 111, 107, 46, 10], [102, 97, 99, 40, 48, 44, 49, 41, 58, 45, 33, 46, 10, 102, 97, 99, 40, 65, 44, 66, 41, 58, 45, 65, 62, 48, 44, 67, 32, 105, 115, 32, 65, 45, 49, 44, 102, 97, 99, 40, 67, 44, 68, 41, 44, 66, 32, 105, 115, 32, 65, 42, 68, 46, 10], [115, 40, 65, 41, 58, 45, 65, 61, 102, 40, 66, 41, 44, 97, 114, 103, 40, 49, 44, 65, 44, 66, 41, 44, 66, 61, 49, 46, 10, 115, 40, 65, 41, 58, 45, 118, 97, 114, 40, 65, 41, 44, 65, 61, 110, 111, 110, 101, 46, 10], [114, 101, 118, 40, 91, 93, 44, 65, 44, 65, 41, 46, 10, 114, 101, 118, 40, 91, 65, 124, 66, 93, 44, 67, 44, 68, 41, 58, 45, 114, 101, 118, 40, 66, 44, 91, 65, 124, 67, 93, 44, 68, 41, 46, 10], [98, 97, 100, 40, 65, 41, 58, 45, 66, 32, 105, 115, 32, 65, 43, 102, 111, 111, 44, 67, 61, 66, 46, 10, 98, 105, 103, 40, 65, 41, 58, 45, 65, 32, 105, 115, 32, 57, 57, 57, 43, 49, 46, 10, 117, 110, 40, 65, 41, 58, 45, 110, 111, 115, 117, 99, 104, 40, 65, 41, 46, 10]]
theorem texts_calls (H : Heap) : ACalls Tryz.prog 89 [] H (fun r H' => H' = H ∧ r = .c (.d (.sl (progTexts.map strRow)))) := by
  refine acalls Tryz.func89 (by kernel_rfl) ac89_ok fun hf => ?_
  simp -implicitDefEqProofs [ac89, progTexts, strRow, go_sem, -List.set_cons_succ, -List.set_cons_zero]
theorem linesR_fits : ∀ (L : List (List UInt8)), (∀ l ∈ L, l.length ≤ 1000000) → ∀ p, linesR Tm.wr L = some p → ∀ c ∈ p, c.fits ∧ c.validB = true
  | [], _, p, h => by cases h; simp
  | [a], _, p, h => by cases h; simp
  | a :: b :: L, hl, p, h => by
    rw [linesR_cons] at h
    cases hc : clauseR Tm.wr a with
    | none => rw [hc] at h; cases h
    | some c =>
      cases hr : linesR Tm.wr (b :: L) with
      | none => rw [hc, hr] at h; cases h
      | some q =>
        rw [hc, hr] at h
        cases h
        intro d hd
        rcases List.mem_cons.1 hd with rfl | hd
        · exact clauseR_fits a (hl a (by simp)) hc
        · exact linesR_fits (b :: L) (fun l hm => hl l (by simp [List.mem_cons.1 hm])) q hr d hd
theorem progR_fits (s : List UInt8) (hs : s.length ≤ 1000000) : ∀ c ∈ (progR Tm.wr s).1, c.fits ∧ c.validB = true := by
  unfold progR
  split
  · simp
  · cases hr : linesR Tm.wr (cutAt 10 s) with
    | none => simp
    | some p =>
      exact linesR_fits _ (fun l hl => by have := cut_mem 10 s l hl; omega) p hr
theorem progs_len : (progTexts.map fun t => (progR Tm.wr3 t).1.length) = [2, 2, 5, 2, 2, 5, 2, 2, 2, 2, 3] := by kernel_rfl
theorem prog_len {m : Nat} (h : m < progTexts.length) : 1 ≤ (progR Tm.wr progTexts[m]).1.length ∧ (progR Tm.wr progTexts[m]).1.length ≤ 5 := by
  rw [← progR_eq]
  have h1 : ((progTexts.map fun t => (progR Tm.wr3 t).1.length)[m]?) = some (progR Tm.wr3 progTexts[m]).1.length := by simp [h]
  rw [progs_len] at h1
  have h2 := List.mem_of_getElem? h1
  have key : ∀ x ∈ [2, 2, 5, 2, 2, 5, 2, 2, 2, 2, 3], 1 ≤ x ∧ x ≤ 5 := by decide
  exact key _ h2
/-- a clause, somewhere -/
def ClR (n : Nat) (r : A) : Prop := ∃ c : Cl, r = .agg (c.row.map .d) ∧ c.fits ∧ c.body.length ≤ n
theorem ClR.re {m n : Nat} {r : A} (h : ClR m r) : A.re n r = r := by
  obtain ⟨c, rfl, _⟩ := h
  simp [A.re, re_d]
def PgR (r : A) : Prop := ∃ p : List Cl, r = .c (.d (.sl (p.map Cl.row))) ∧ 1 ≤ p.length ∧ p.length ≤ 5 ∧ ∀ c ∈ p, c.fits ∧ c.validB = true
theorem PgR.re {n : Nat} {r : A} (h : PgR r) : A.re n r = r := by
  obtain ⟨l, rfl, _⟩ := h
  rfl
theorem program_draws : Draws 51 [] 1 PgR := fun c p H i hc hp hp1 hi => by
  refine acalls Tryz.func51 (by kernel_rfl) ac51_ok fun hf => ?_
  simp only [List.length_set] at hf
  have hf0 : ∀ q, Obs.fits H.length 0 (H.set i (Rd c q)) := fun q => fits_reset (b := Rd c q) hf ⟨trivial, trivial, trivial⟩
  have hf1 : ∀ q, Obs.fits (H.set i (Rd c q)).length 0 (H.set i (Rd c q)) := fun q => by simpa using hf0 q
  have hql : progTexts.length = 11 := rfl
  have h11 : inR .i64 (11 : Int) := small_i64 (by omega) (by omega)
  simp -implicitDefEqProofs [ac51, hf0, go_sem, -List.set_cons_succ, -List.set_cons_zero]
  refine qcall_pure texts_calls (hf1 _) rfl ?_
  simp -implicitDefEqProofs [hql, h11, hf0, go_sem, -List.set_cons_succ, -List.set_cons_zero]
  refine call_drawE (pick_draws 11 (by omega)) hc (by omega) (by omega) hi (by simp [Ob.re, C.re]) (fun r => IntIn.re) (hf0 _) ?_
  rintro _ p1 ⟨m, rfl, m0, m1⟩ h1 h2
  have hmlt : m.toNat < progTexts.length := by rw [hql]; omega
  have hql2 : (progTexts[m.toNat]).length ≤ 1000000 := by
    have : ∀ q ∈ progTexts, q.length ≤ 1000 := by decide
    have := this _ (List.getElem_mem hmlt)
    omega
  obtain ⟨g1, g2⟩ := prog_len hmlt
  have g3 := progR_fits _ hql2
  simp -implicitDefEqProofs [hf0, go_sem, -List.set_cons_succ, -List.set_cons_zero]
  refine row_int [.str progTexts[m.toNat]] m0 (by simp [hmlt, strRow]) rfl ?_
  simp -implicitDefEqProofs [hf0, go_sem, -List.set_cons_succ, -List.set_cons_zero]
  refine qcall_pure (ppSpec_calls progTexts[m.toNat] hql2) (hf1 _) (by simp [progA, A.re, A.res, C.re]) ?_
  simp -implicitDefEqProofs [progA, hf0, go_sem, -List.set_cons_succ, -List.set_cons_zero]
  exact ⟨⟨_, rfl, g1, g2, g3⟩, p1, h1, h2, rfl⟩
theorem clCopy_own (c : Cl) (hc : c.fits) (H : Heap) : ACalls Tryz.prog 110 [.agg (c.row.map .d)] H (fun r H' =>
    H' = H ++ [.cells (c.row.map .d), .cells [.d (.int .i64 c.head.k), .d (.int .i64 c.head.n), .d (.str c.head.s), .d (.sl (c.head.kids.map Tm.row)), .own (.e (H.length + 3)) c.body.length (c.body.map Tm.row)], .cells [.d (.int .i64 c.head.k), .d (.int .i64 c.head.n), .d (.str c.head.s), .d (.sl (c.head.kids.map Tm.row)), .own (.e (H.length + 3)) c.body.length (c.body.map Tm.row)], .grow c.body.length 4] ∧
    r = .agg [.d (.int .i64 c.head.k), .d (.int .i64 c.head.n), .d (.str c.head.s), .d (.sl (c.head.kids.map Tm.row)), .own (.e (H.length + 3)) c.body.length (c.body.map Tm.row)]) := by
  obtain ⟨h, b⟩ := c
  obtain ⟨hh, hl, hb⟩ := hc
  simp only at hh hl hb
  have c1 := copy_calls h hh
  rw [row_eq] at c1
  simp only [List.map_cons, List.map_nil] at c1
  have hbl : inR .i64 (b.length : Int) := small_i64 (by omega) (by omega)
  refine acallsK Tryz.func110 (by kernel_rfl) ac110_ok fun hf => ?_
  simp -implicitDefEqProofs [ac110, Cl.row, hf, go_sem, -List.set_cons_succ, -List.set_cons_zero]
  refine qcall_pure c1 hf (by simp [A.re, C.re]) ?_
  simp -implicitDefEqProofs [hf, go_sem, -List.set_cons_succ, -List.set_cons_zero]
  refine loop_enter (St.le_tokenC 2 4 4 rfl rfl) ?_
  refine loop_set (σ := Nat) (fun i => [(4, .c (.d (.int .i64 i)))]) (fun _ => H) (fun i => [.cells [.d (.int .i64 h.k), .d (.int .i64 h.n), .d (.str h.s), .d (.sl (h.kids.map Tm.row)), .d (.sl (b.map Tm.row))], .cells [.d (.int .i64 0), .d (.int .i64 0), .d (.str []), .full [], .full []], .cells [.d (.int .i64 h.k), .d (.int .i64 h.n), .d (.str h.s), .d (.sl (h.kids.map Tm.row)), .own (.l 3) i ((b.map Tm.row).take i)], .grow i 4])
    (fun i => i ≤ b.length) (fun i => b.length - i) 0 rfl (Nat.zero_le _) ?_
  intro i hi
  simp -implicitDefEqProofs [setAll, hbl, go_sem, -List.set_cons_succ, -List.set_cons_zero]
  refine ⟨fun hlt => ?_, fun hge => ?_⟩
  · have hadd : inR .i64 ((i : Int) + 1) := small_i64 (by omega) (by omega)
    refine row_of hlt (row_len _) ?_
    simp -implicitDefEqProofs [row_len, take_row, pure_d, re_d, hf, go_sem, -List.set_cons_succ, -List.set_cons_zero]
    refine qcall_pure (copy_calls b[i] (hb _ (List.getElem_mem hlt))) hf (by simp [A.re, re_d]) ?_
    simp -implicitDefEqProofs [row_len, toDs_map, hadd, hf, Nat.min_eq_left hi, go_sem, -List.set_cons_succ, -List.set_cons_zero]
    refine ⟨fun r hr => allLen_map row_len r (List.mem_of_mem_take hr), by unfold maxApp; omega, ?_⟩
    refine loop_back (i + 1) ?_ hlt (by show b.length - (i + 1) < b.length - i; omega)
    simp [setAll, take_map_succ hlt]
  · have hil : i = b.length := by omega
    subst hil
    rw [show (b.map Tm.row).take b.length = b.map Tm.row from List.take_of_length_le (by simp)]
    simp -implicitDefEqProofs [hf, go_sem, -List.set_cons_succ, -List.set_cons_zero]
    refine finK_ret _ ⟨trivial, trivial⟩ rfl ?_
    simp [Ob.re, C.re, A.re, Ref.re]
/-- a clause that is drawn -/
theorem mutC_draws (c0 : Cl) (h0 : c0.fits) (hb7 : c0.body.length ≤ 900) : Draws 88 [.agg (c0.row.map .d)] 1284 (ClR 1000) := fun c p H i hc hp hp1 hi => by
  obtain ⟨⟨k, n, s, l⟩, b⟩ := c0
  refine acalls Tryz.func88 (by kernel_rfl) ac88_ok fun hf => ?_
  simp only [List.length_set] at hf
  have hf0 : ∀ q, Obs.fits H.length 0 (H.set i (Rd c q)) := fun q => fits_reset (b := Rd c q) hf ⟨trivial, trivial, trivial⟩
  have hf1 : ∀ q, Obs.fits (H.set i (Rd c q)).length 0 (H.set i (Rd c q)) := fun q => by simpa using hf0 q
  have hcopy := clCopy_own _ h0
  obtain ⟨hh, hbl, hbf⟩ := h0
  simp only at hh hbl hbf hb7
  have hhf := hh
  obtain ⟨hk, hn, hs, hl, hkids⟩ := hh
  simp only [Cl.row, Tm.k, Tm.n, Tm.s, Tm.kids, List.map_cons, List.map_nil] at hcopy ⊢
  simp -implicitDefEqProofs [ac88, hf0, go_sem, -List.set_cons_succ, -List.set_cons_zero]
  have done : ∀ (d : Cl) (q : Int), p ≤ q → q ≤ p + 1284 → d.fits → d.body.length ≤ 1000 → ∀ r, r = .agg (d.row.map .d) → Drew (ClR 1000) 1284 c p H i r (H.set i (Rd c q)) := fun d q a1 a2 a3 a4 r hr => ⟨⟨d, hr, a3, a4⟩, q, a1, a2, rfl⟩
  refine (hcopy _).mono fun r H' ⟨g1, g2⟩ => ⟨H.set i (Rd c p), [.cells [.d (.int .i64 k), .d (.int .i64 n), .d (.str s), .d (.sl (l.map Tm.row)), .d (.sl (b.map Tm.row))], .cells [.d (.int .i64 0), .d (.int .i64 0), .d (.str []), .full [], .full []], .cells [.d (.int .i64 k), .d (.int .i64 n), .d (.str s), .d (.sl (l.map Tm.row)), .d (.sl (b.map Tm.row))], .cells [.d (.int .i64 k), .d (.int .i64 n), .d (.str s), .d (.sl (l.map Tm.row)), .own (.l 5) b.length (b.map Tm.row)], .cells [.d (.int .i64 k), .d (.int .i64 n), .d (.str s), .d (.sl (l.map Tm.row)), .own (.l 5) b.length (b.map Tm.row)], .grow b.length 4],
    .agg [.d (.int .i64 k), .d (.int .i64 n), .d (.str s), .d (.sl (l.map Tm.row)), .own (.l 5) b.length (b.map Tm.row)], by rw [g1]; simp [Ob.re, C.re, Ref.re], by simp, by simp, by simpa using hf0 p, by rw [g2]; simp [A.re, C.re, Ref.re], ?_⟩
  clear hcopy
  simp -implicitDefEqProofs [hf0, go_sem, -List.set_cons_succ, -List.set_cons_zero]
  refine call_drawE (pick_draws 40 (by omega)) hc (by omega) (by omega) hi (by simp [Ob.re, C.re, Ref.re]) (fun r => IntIn.re) (hf0 _) ?_
  rintro _ p1 ⟨m, rfl, m0, m1⟩ h1 h2
  simp -implicitDefEqProofs [hf0, go_sem, -List.set_cons_succ, -List.set_cons_zero]
  refine ⟨fun _ => ?_, fun _ => ⟨fun _ => ?_, fun _ => ⟨fun _ => ?_, fun _ => ⟨fun _ => ?_, fun _ => ?_⟩⟩⟩⟩
  · refine call_drawE l1Some_draws hc (by omega) (by omega) hi (by simp [Ob.re, C.re]) (fun r => TmR.re) (hf0 _) ?_
    rintro _ p2 ⟨t, rfl, ht⟩ h3 h4
    refine ⟨LocSame.refl _, ?_⟩
    simp -implicitDefEqProofs [pure_d, re_d, hf0, go_sem, -List.set_cons_succ, -List.set_cons_zero]
    refine call_drawE (l1Mutate_draws t ht) hc (by omega) (by omega) hi (by simp [Ob.re, C.re, Ref.re]) (fun r => TmR.re) (hf0 _) ?_
    rintro _ p3 ⟨u, rfl, hu⟩ h5 h6
    refine ⟨LocSame.refl _, ?_⟩
    obtain ⟨k2, n2, s2, l2⟩ := u
    simp -implicitDefEqProofs [row_mk, hf0, go_sem, -List.set_cons_succ, -List.set_cons_zero]
    exact done ⟨.mk k2 n2 s2 l2, b⟩ p3 (by omega) (by omega) ⟨hu, hbl, hbf⟩ (by show b.length ≤ 1000; omega) _ (by simp [Cl.row, Tm.k, Tm.n, Tm.s, Tm.kids])
  · refine call_drawE l1Some_draws hc (by omega) (by omega) hi (by simp [Ob.re, C.re]) (fun r => TmR.re) (hf0 _) ?_
    rintro _ p2 ⟨t, rfl, ht⟩ h3 h4
    refine ⟨LocSame.refl _, ?_⟩
    simp -implicitDefEqProofs [pure_d, re_d, hf0, go_sem, -List.set_cons_succ, -List.set_cons_zero]
    refine call_drawE (l1Mutate_draws t ht) hc (by omega) (by omega) hi (by simp [Ob.re, C.re, Ref.re]) (fun r => TmR.re) (hf0 _) ?_
    rintro _ p3 ⟨u, rfl, hu⟩ h5 h6
    refine ⟨LocSame.refl _, ?_⟩
    simp -implicitDefEqProofs [row_len, take_row, toDs_map, hf0, go_sem, -List.set_cons_succ, -List.set_cons_zero]
    refine ⟨allLen_map row_len, by unfold maxApp; omega, ?_⟩
    exact done ⟨.mk k n s l, b ++ [u]⟩ p3 (by omega) (by omega) ⟨hhf, by show (b ++ [u]).length ≤ 1048576; simp; omega, fun x hx => by
      rcases List.mem_append.1 hx with hx | hx
      · exact hbf x hx
      · simp at hx; subst hx; exact hu⟩ (by show (b ++ [u]).length ≤ 1000; simp; omega) _ (by simp [Cl.row, Tm.k, Tm.n, Tm.s, Tm.kids])
  · refine loop_set (σ := List Tm) (fun _ => []) (fun _ => H.set i (Rd c p1)) (fun y => [.cells [.d (.int .i64 k), .d (.int .i64 n), .d (.str s), .d (.sl (l.map Tm.row)), .d (.sl (b.map Tm.row))], .cells [.d (.int .i64 0), .d (.int .i64 0), .d (.str []), .full [], .full []], .cells [.d (.int .i64 k), .d (.int .i64 n), .d (.str s), .d (.sl (l.map Tm.row)), .d (.sl (b.map Tm.row))], .cells [.d (.int .i64 k), .d (.int .i64 n), .d (.str s), .d (.sl (l.map Tm.row)), .own (.l 5) b.length (b.map Tm.row)], .cells [.d (.int .i64 k), .d (.int .i64 n), .d (.str s), .d (.sl (l.map Tm.row)), .own (.l 5) b.length (b.map Tm.row)], .grow y.length 4, .cells [.d (.int .i64 k), .d (.int .i64 n), .d (.str s), .d (.sl (l.map Tm.row)), .own (.l 5) y.length (y.map Tm.row)]])
      (fun y => y.length ≤ 900 ∧ ∀ t ∈ y, t.fits) (fun y => 7 - y.length) b rfl ⟨hb7, hbf⟩ ?_
    rintro y ⟨hy, hyf⟩
    have hly : inR .i64 (y.length : Int) := small_i64 (by omega) (by omega)
    simp -implicitDefEqProofs [setAll, hf0, hly, go_sem, -List.set_cons_succ, -List.set_cons_zero]
    refine ⟨fun hlt => ?_, fun hge => ?_⟩
    · have hst := struct_calls [116, 114, 117, 101] [] (by simp)
      simp only [List.map_nil] at hst
      refine qcall_pure hst (hf1 _) (by simp [A.re, re_d]) ?_
      simp -implicitDefEqProofs [hf0, row_len, take_row, toDs_map, go_sem, -List.set_cons_succ, -List.set_cons_zero]
      refine ⟨allLen_map row_len, by unfold maxApp; omega, ?_⟩
      refine loop_back (y ++ [Tm.mk 3 0 [116, 114, 117, 101] []]) (by first | rfl | simp [setAll]) ⟨by simp; omega, fun t ht => ?_⟩ (by show 7 - (y ++ [Tm.mk 3 0 [116, 114, 117, 101] []]).length < 7 - y.length; simp; omega)
      rcases List.mem_append.1 ht with ht | ht
      · exact hyf t ht
      · simp at ht; subst ht; exact fits_st (by simp) (by simp) (by simp)
    · exact done ⟨.mk k n s l, y⟩ p1 (by omega) (by omega) ⟨hhf, by show y.length ≤ 1048576; omega, hyf⟩ (by show y.length ≤ 1000; omega) _ (by simp [Cl.row, Tm.k, Tm.n, Tm.s, Tm.kids])
  · refine call_drawE (of_draws [[116, 114, 117, 101], [105, 115], [61], [109, 111, 100], [113]] (by decide)) hc (by omega) (by omega) hi (by simp [Ob.re, C.re]) (fun r ⟨n, _, hn⟩ => by subst hn; rfl) (hf0 _) ?_
    rintro _ p2 ⟨x, hx, rfl⟩ h3 h4
    have hx : x.length ≤ 1000 := by simp at hx; rcases hx with rfl | rfl | rfl | rfl | rfl <;> decide
    simp -implicitDefEqProofs [hf0, go_sem, -List.set_cons_succ, -List.set_cons_zero]
    exact done ⟨.mk k n x l, b⟩ p2 (by omega) (by omega) ⟨.mk hk hn (by omega) hl hkids, hbl, hbf⟩ (by show b.length ≤ 1000; omega) _ (by simp [Cl.row, Tm.k, Tm.n, Tm.s, Tm.kids])
  · exact done ⟨.mk k n s l, b⟩ p1 (by omega) (by omega) ⟨hhf, hbl, hbf⟩ (by show b.length ≤ 1000; omega) _ (by simp [Cl.row, Tm.k, Tm.n, Tm.s, Tm.kids])
/-- what is drawn is well-formed -/
def VP (d : Nat) (t : Tm) : Prop := t.shape (d + 1) = true ∧ t.size ≤ 4 ^ d
theorem shapes_of {d : Nat} : ∀ {l : List Tm}, (∀ t ∈ l, t.shape d = true) → shapes d l = true := fun h => by
  rw [shapes_all, List.all_eq_true]
  exact h
theorem sizes_of {n : Nat} : ∀ {l : List Tm}, (∀ t ∈ l, t.size ≤ n) → sizes l ≤ l.length * n
  | [], _ => by simp [sizes]
  | t :: l, h => by
    have h1 := h t (by simp)
    have h2 := sizes_of (l := l) fun u hu => h u (by simp [hu])
    simp only [sizes, List.length_cons, Nat.add_mul, Nat.one_mul]
    omega
theorem struct_shape {d : Nat} {s : List UInt8} {l : List Tm} (hs : nameB s = true) (hl : l.length ≤ 4) (h : ∀ t ∈ l, t.shape d = true) : (Tm.mk 3 0 s l).shape (d + 1) = true := by
  simp [Tm.shape, Tm.ownB, hs, hl, shapes_of h]
theorem shape_mono : ∀ t : Tm, ∀ d e : Nat, d ≤ e → t.shape d = true → t.shape e = true := by
  refine Tm.ind fun k n s l ih d e hde h => ?_
  simp only [Tm.shape, Bool.and_eq_true, decide_eq_true_eq] at h ⊢
  obtain ⟨h1, h2, h3⟩ := h
  refine ⟨by omega, h2, ?_⟩
  rw [shapes_all, List.all_eq_true] at h3 ⊢
  exact fun t ht => ih t ht (d - 1) (e - 1) (by omega) (h3 t ht)
theorem VP.valid {s : List UInt8} {l : List Tm} (hs : nameB s = true) (hl : l.length ≤ 4) (h : ∀ t ∈ l, VP 2 t) : (Tm.mk 3 0 s l).valid = true := by
  have h1 := sizes_of (l := l) fun t ht => (h t ht).2
  have h2 : l.length * 4 ^ 2 ≤ 4 * 4 ^ 2 := Nat.mul_le_mul_right _ hl
  have h3 : (Tm.mk 3 0 s l).shape 30 = true := shape_mono _ 4 30 (by omega) (struct_shape hs hl fun t ht => (h t ht).1)
  show ((Tm.mk 3 0 s l).shape 30 && decide ((Tm.mk 3 0 s l).size ≤ 120)) = true
  rw [h3, Bool.true_and, decide_eq_true_eq, Tm.size]
  omega
/-- a valid clause, somewhere -/
def ClT (r : A) : Prop := ∃ c : Cl, r = .agg (c.row.map .d) ∧ c.fits ∧ c.body.length ≤ 6 ∧ c.validB = true
theorem ClT.re {n : Nat} {r : A} (h : ClT r) : A.re n r = r := by
  obtain ⟨c, rfl, _⟩ := h
  simp [A.re, re_d]
end Go.Proofs.YteighafofbohcaaGreatDoor

/-
  Terms: how many there are.
  Conditions: none.
-/
open Go Go.AM Go.Proofs
namespace Go.Proofs.YteighafofbohcaaGreatDoor
open Go.ChangeShapes Go.WideShapes Go.ChangeAt Go.RowKit
set_option linter.unusedVariables false
set_option linter.unusedSimpArgs false
set_option maxRecDepth 100000
mutual
/-- the terms below a term -/
def Tm.sub : Tm → Nat
  | .mk _ _ _ l => Tm.cnt l
def Tm.cnt : List Tm → Nat
  | [] => 0
  | t :: l => 1 + t.sub + Tm.cnt l
end
/-- what is left, where enough is -/
def LeftW (m : Int) (p : Prop) (w : Nat) (r : A) : Prop := ∃ q : Int, r = .c (.d (.int .i64 q)) ∧ -1 ≤ q ∧ q ≤ m ∧ (0 ≤ q → p ∧ q + w ≤ m)
theorem LeftW.re {n : Nat} {m : Int} {p : Prop} {w : Nat} {r : A} (h : LeftW m p w r) : A.re n r = r := by
  obtain ⟨q, rfl, _⟩ := h
  rfl
theorem LeftW.left {m : Int} {p : Prop} {w : Nat} {r : A} (h : LeftW m p w r) : Left m p r := by
  obtain ⟨q, h1, h2, h3, h4⟩ := h
  exact ⟨q, h1, h2, h3, fun h => (h4 h).1⟩
end Go.Proofs.YteighafofbohcaaGreatDoor

/-
  Rows that are marked one after the other.
  Conditions: none.
-/
open Go Go.AM Go.Proofs
namespace Go.Proofs.YteighafofbohcaaGreatDoor
set_option linter.unusedVariables false
set_option linter.unusedSimpArgs false
/-- the first i rows are new ones -/
def mixed {α : Type} (f : Nat → α) (rows : List α) (i : Nat) : List α := (List.range i).map f ++ rows.drop i
end Go.Proofs.YteighafofbohcaaGreatDoor

/-
  The law's text for a mark.
  Conditions: none.
-/
open Go Go.AM Go.Proofs
namespace Go.Proofs.YteighafofbohcaaGreatDoor
open Go.ChangeShapes Go.WideShapes Go.ChangeAt Go.RowKit
set_option linter.unusedVariables false
set_option linter.unusedSimpArgs false
set_option maxRecDepth 100000
end Go.Proofs.YteighafofbohcaaGreatDoor

/-
  Terms are marked, and looked at again.
  Conditions: none.
-/
open Go Go.AM Go.Proofs
namespace Go.Proofs.YteighafofbohcaaGreatDoor
open Go.ChangeShapes Go.WideShapes Go.ChangeAt Go.RowKit
set_option linter.unusedVariables false
set_option linter.unusedSimpArgs false
set_option maxRecDepth 100000
/-- a term's cells, its kids cut off -/
def srow (t : Tm) (v : Value) : List D := [.int .i64 t.k, .int .i64 t.n, .str t.s, .v v]
def ktree (t : Tm) (v : Value) : Ob := .tree v (t.kids.map Tm.row)
theorem strip_terms : ∀ (l : List Tm) (vs : List Value), vs.length = l.length → Strip (l.map Tm.row).flatten (List.zipWith srow l vs).flatten (List.zipWith ktree l vs)
  | [], [], _ => ⟨rfl, rfl⟩
  | [], _ :: _, h => by simp at h
  | _ :: _, [], h => by simp at h
  | t :: l, v :: vs, h => by
    simp only [List.map_cons, List.flatten_cons, List.zipWith_cons_cons, row_eq, srow, List.cons_append, List.nil_append]
    exact ⟨_, rfl, _, rfl, _, rfl, _, _, _, rfl, rfl, strip_terms l vs (by simpa using h)⟩
theorem zip_lens {l : List Tm} {vs : List Value} (h : vs.length = l.length) : (List.zipWith srow l vs).map List.length = (l.map Tm.row).map List.length := by
  refine List.ext_getElem? fun i => ?_
  rcases Nat.lt_or_ge i l.length with hi | hi
  · simp [List.getElem?_zipWith, hi, h, row_len, srow]
  · rw [List.getElem?_eq_none (by simp [h]; omega), List.getElem?_eq_none (by simp; omega)]
end Go.Proofs.YteighafofbohcaaGreatDoor

/-
  Copies of terms that stand in arrays of their own.
  Conditions: none.
-/
open Go Go.AM Go.Proofs
namespace Go.Proofs.YteighafofbohcaaGreatDoor
open Go.ChangeShapes Go.WideShapes Go.ChangeAt Go.RowKit
set_option linter.unusedVariables false
set_option linter.unusedSimpArgs false
set_option maxRecDepth 100000
namespace Own
end Own
/-- what is handed out: rows in an array of their own -/
def HandsRows (rows : List (List D)) (r : A) (H : Heap) : Prop := ∃ v : Value, r = .c (.d (.v v)) ∧ H = [.tree v rows]
theorem HandsRows.handed {rows : List (List D)} {r : A} {H : Heap} (h : HandsRows rows r H) : Handed r H := by
  obtain ⟨v, rfl, rfl⟩ := h
  exact ⟨rfl, rfl⟩
/-- .. a term -/
def HandsTm (t : Tm) (r : A) (H : Heap) : Prop := ∃ v : Value, r = .agg [.d (.int .i64 t.k), .d (.int .i64 t.n), .d (.str t.s), .d (.v v)] ∧ H = [.tree v (t.kids.map Tm.row)]
theorem HandsTm.handed {t : Tm} {r : A} {H : Heap} (h : HandsTm t r H) : Handed r H := by
  obtain ⟨v, rfl, rfl⟩ := h
  exact ⟨rfl, rfl⟩
theorem zip_snoc {α β γ : Type} (f : α → β → γ) (l : List α) (vs : List β) (v : β) (h : vs.length < l.length) : List.zipWith f l (vs ++ [v]) = List.zipWith f l vs ++ [f l[vs.length] v] := by
  induction vs generalizing l with
  | nil => cases l with
    | nil => simp at h
    | cons x l => simp
  | cons w vs ih => cases l with
    | nil => simp at h
    | cons x l => simp only [List.cons_append, List.zipWith_cons_cons, List.length_cons, List.getElem_cons_succ]; rw [ih l (by simpa using h)]
end Go.Proofs.YteighafofbohcaaGreatDoor

/-
  The program's copies of terms stand in arrays of their own.
  Conditions: none.
-/
open Go Go.AM Go.Proofs
namespace Go.Proofs.YteighafofbohcaaGreatDoor
open Go.ChangeShapes Go.WideShapes Go.ChangeAt Go.RowKit
set_option linter.unusedVariables false
set_option linter.unusedSimpArgs false
set_option maxRecDepth 100000
namespace Own
end Own
theorem allLen_zip (l : List Tm) (vs : List Value) : allLen 4 (List.zipWith srow l vs) := by
  induction l generalizing vs with
  | nil => intro r hr; simp at hr
  | cons t l ih =>
    cases vs with
    | nil => intro r hr; simp at hr
    | cons v vs =>
      intro r hr
      rw [List.zipWith_cons_cons] at hr
      rcases List.mem_cons.1 hr with rfl | hr
      · rfl
      · exact ih vs r hr
end Go.Proofs.YteighafofbohcaaGreatDoor

/-
  Copies of terms of the reference that stand in arrays of their own.
  Conditions: none.
-/
open Go Go.AM Go.Proofs
namespace Go.Proofs.YteighafofbohcaaGreatDoor
open Go.ChangeShapes Go.WideShapes Go.ChangeAt Go.RowKit
set_option linter.unusedVariables false
set_option linter.unusedSimpArgs false
set_option maxRecDepth 100000
namespace OwnC
-- 21 loop.example/prologserver/spec.l1Copy params 1 ntmps 31
-- loop head live: [1,2,3,4]
def ac21 : Cd := .seq (.region [⟨(some 1),.box (.t 0),none⟩,
 ⟨(some 2),.alloc [(.d (.int .i64 0)),(.d (.int .i64 0)),(.d (.str [])),(.full [])],none⟩] [0])
 (.seq (.region [⟨(some 5),.fieldAddr 0 (.t 1),none⟩,
 ⟨(some 6),.load none (.t 5),none⟩,
 ⟨(some 7),.fieldAddr 1 (.t 1),none⟩,
 ⟨(some 8),.load none (.t 7),none⟩,
 ⟨(some 9),.fieldAddr 2 (.t 1),none⟩,
 ⟨(some 10),.load none (.t 9),none⟩,
 ⟨(some 11),.build [(.d (.int .i64 0)),(.d (.int .i64 0)),(.d (.str [])),(.full [])] [(0,1,(.t 6)),(1,1,(.t 8)),(2,1,(.t 10))],none⟩,
 ⟨(some 3),.alloc [(.d (.int .i64 0)),(.d (.int .i64 0)),(.d (.str [])),(.full [])],none⟩,
 ⟨none,.store 4 (.t 3) (.t 11),none⟩] [5,6,7,8,9,10,11])
 (.seq (.seq (.region [⟨(some 4),.mv (.k (.c (.d (.int .i64 0)))),none⟩] [])
 (.block 0 (.loop (.seq (.seq (.region [⟨(some 12),.mv (.t 4),none⟩,
 ⟨(some 13),.fieldAddr 3 (.t 1),none⟩,
 ⟨(some 14),.load none (.t 13),none⟩,
 ⟨(some 15),.len 1 (.t 14),none⟩,
 ⟨(some 16),.bin .lss (.t 12) (.t 15),none⟩] [12,13,14,15])
 (.cond (.t 16)
 (.skip)
 (.exit 0)))
 (.seq (.block 1 (.region [⟨(some 19),.fieldAddr 3 (.t 3),none⟩,
 ⟨(some 21),.fieldAddr 3 (.t 1),none⟩,
 ⟨(some 23),.mv (.t 4),none⟩,
 ⟨(some 20),.loadL false none (.t 19),none⟩,
 ⟨(some 22),.load none (.t 21),none⟩,
 ⟨(some 24),.indexAddr 4 (.t 22) (.t 23),none⟩,
 ⟨(some 25),.load (some 4) (.t 24),none⟩,
 ⟨(some 26),.callL false false 21 [(.t 25)],none⟩,
 ⟨(some 27),.buildSlice 4 1 [(.int .i64 0),(.int .i64 0),(.str []),(.sl [])] [(0,(.t 26))],none⟩,
 ⟨(some 28),.append false 4 (.t 20) (.t 27),none⟩,
 ⟨(some 29),.fieldAddr 3 (.t 3),none⟩,
 ⟨none,.store 1 (.t 29) (.t 28),none⟩] [16,19,20,21,22,23,24,25,26,27,28,29]))
 (.region [⟨(some 17),.mv (.t 4),none⟩,
 ⟨(some 18),.bin .add (.t 17) (.k (.c (.d (.int .i64 1)))),none⟩,
 ⟨(some 4),.mv (.t 18),none⟩] [17,18]))))))
 (.seq (.region [⟨(some 30),.load (some 4) (.t 3),none⟩,
 ⟨none,.store 4 (.t 2) (.t 30),none⟩] [3,30])
 (.ret))))
theorem ac21_ok : cFunc Tryz.prog [5000019,6000021] [(0,[0],[]),(1,[5,6,7,8,9,10,11],[]),(2,[],[]),(3,[12,13,14,15],[]),(5,[16,19,20,21,22,23,24,25,26,27,28,29],[0,2,4,1,3,5,6,7,8,9,10,11]),(4,[17,18],[]),(6,[3,30],[])] Tryz.f21 = some (ac21,[.cell 2 (some 4)],31) := by kernel_rfl
end OwnC
def CopyOk (t : Tm) : Prop := ACalls Tryz.prog 21 [.agg (t.row.map .d)] [] (HandsTm t)
theorem copyO_calls : ∀ t : Tm, t.fits → CopyOk t := by
  refine Tm.ind fun k n s l ih hfits => ?_
  obtain ⟨hk, hn, hs, hl, hkids⟩ := hfits
  refine acallsT Tryz.func21 (by kernel_rfl) OwnC.ac21_ok ?_
  have hli : inR .i64 (l.length : Int) := small_i64 (by omega) (by omega)
  simp -implicitDefEqProofs [OwnC.ac21, row_mk, hli, go_sem, -List.set_cons_succ, -List.set_cons_zero]
  refine loop_enter (St.le_tokenC 2 3 4 rfl rfl) ?_
  refine loop_set (σ := List Value) (fun vs => [(4, .c (.d (.int .i64 vs.length)))]) (fun _ => []) (fun vs => [.cells [.d (.int .i64 k), .d (.int .i64 n), .d (.str s), .d (.sl (l.map Tm.row))], .cells [.d (.int .i64 0), .d (.int .i64 0), .d (.str []), .full []], .cells [.d (.int .i64 k), .d (.int .i64 n), .d (.str s), .own (.l 3) vs.length (List.zipWith srow l vs)], .grow vs.length 4] ++ List.zipWith ktree l vs)
    (fun vs => vs.length ≤ l.length) (fun vs => l.length - vs.length) [] (by simp [setAll]) (Nat.zero_le _) ?_
  intro vs hi
  simp -implicitDefEqProofs [setAll, hli, go_sem, -List.set_cons_succ, -List.set_cons_zero]
  refine ⟨fun hlt => ?_, fun hge => ?_⟩
  · have hadd : inR .i64 ((vs.length : Int) + 1) := small_i64 (by omega) (by omega)
    refine row_of hlt (row_len _) ?_
    simp -implicitDefEqProofs [row_len, take_row, pure_d, re_d, go_sem, -List.set_cons_succ, -List.set_cons_zero]
    refine call_loc (J := []) (ih l[vs.length] (List.getElem_mem hlt) (hkids _ (List.getElem_mem hlt))) (fun r H' h => h.handed) (by simp [ktree, Ob.re, C.re, Ref.re, List.map_zipWith]) (.cons (.agg (fzCs_id _)) .nil) List.nodup_nil rfl rfl ?_
    rintro _ _ ⟨v, rfl, rfl⟩ _
    refine ⟨LocSame.push _ _, ?_⟩
    simp -implicitDefEqProofs [putAll, hadd, go_sem, -List.set_cons_succ, -List.set_cons_zero]
    refine ⟨allLen_zip l vs, by unfold maxApp; omega, ?_⟩
    have hs1 := zip_snoc srow l vs v hlt
    rw [srow] at hs1
    rw [← hs1]
    refine loop_back (vs ++ [v]) ?_ (by simp; omega) (by show l.length - (vs ++ [v]).length < l.length - vs.length; simp; omega)
    simp [setAll, zip_snoc ktree l vs v hlt]
    rfl
  · have hvl : vs.length = l.length := by omega
    have hn : (3 :: List.range' 4 vs.length).Nodup := List.nodup_cons.2 ⟨by simp, List.nodup_range'⟩
    refine finT_ret (.agg [.d (.int .i64 k), .d (.int .i64 n), .d (.str s), .own (.l 3) vs.length (List.zipWith srow l vs)]) ⟨trivial, trivial⟩ rfl fun kv => ⟨_, _, _, .one (.agg (.cons (.leaf rfl) (.cons (.leaf rfl) (.cons (.leaf rfl) (.cons (.own (js := List.range' 4 vs.length) rfl (by simp [hvl]) (strip_terms l vs hvl) (by rw [zip_lens hvl]) (fun m hm => ?_)) .nil))))), by simpa using hn, _, rfl, rfl⟩
    have hm' : m < vs.length := by simp at hm; omega
    exact ⟨4 + m, by simp [hm'], by rw [Nat.add_comm]; simp⟩
theorem map_row_ne {l : List Tm} (h : l ≠ []) : l.map Tm.row ≠ [] := fun e => h (by simpa using e)
/-- a copy whose arguments are an own row -/
theorem copyF_calls (k n : Int) (s : List UInt8) (l : List Tm) (hfits : (Tm.mk k n s l).fits) (hne : l ≠ []) (H : Heap) : ACalls Tryz.prog 21 [.agg ((Tm.mk k n s l).row.map .d)] H (fun r H' =>
    H' = H ++ [.rows (l.map Tm.row)] ∧ r = .agg [.d (.int .i64 k), .d (.int .i64 n), .d (.str s), .fsl (.e H.length) l.length 4]) := by
  have h1 := acalls_frame (H := H) (J := []) (H₀ := []) List.nodup_nil rfl (by simp) (.cons (.agg (fzCs_id _)) .nil) (copyO_calls _ hfits) (fun r H' h => ⟨A.port_of h.handed.1, fun o ho => Ob.isTree_of (List.all_eq_true.1 h.handed.2 o ho)⟩)
  have h2 := acalls_melt (pre := [.d (.int .i64 k), .d (.int .i64 n), .d (.str s)]) (post := []) (rows := l.map Tm.row) 4 (map_row_ne hne) (fun r hr => by obtain ⟨t, _, rfl⟩ := List.mem_map.1 hr; exact row_len t)
    (h1.mono fun r H' ⟨H₁, ⟨v, e1, e2⟩, _, e3⟩ => ⟨v, by rw [e3, e2]; rfl, by rw [e1]; rfl⟩)
  simpa using h2
end Go.Proofs.YteighafofbohcaaGreatDoor
