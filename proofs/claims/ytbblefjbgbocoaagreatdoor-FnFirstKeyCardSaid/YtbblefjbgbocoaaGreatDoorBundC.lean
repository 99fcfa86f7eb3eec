/-
  Contracts of functions that the law reaches, and plain lemmas: several texts in one.
  Conditions: none.
-/
import Derived.Test.YtbblefjbgbocoaaGreatDoorBundB
import Derived.Test.YtbblefjbgbocoaaGreatDoorBundA
import Derived.Test.YtbblefjbgbocoaaGreatDoorAbsN
open Go Go.AM Go.Proofs
attribute [local go_sem] kw ew sw tw a_ b_ c_ A.ok A.val d_ e_ f_ g_ h_ i_ j_ k_ l_ m_ unA unD n_ AOp.total o_ p_ q_ r_ s_ t_ u_ v_ A.thaw C.thaw A.fits As.fits C.fits evs oks w_ A.pure C.pure A.re C.re x_ y_ cut A.cells C.rows? z_ A_ B_ C_ a0_ b0_ D_ Ob.re Cs.fits E_ F_ G_ H_ I_ J_ K_ L_ M_ N_ O_ C.toD P_ Q_ R_ S_ T_ Obs.fits U_ eqD V_ W_ X_ Y_ Z_
/-
  Terms as the reference writes them.
  Conditions: none.
-/
open Go Go.AM Go.Proofs
namespace Go.Proofs.YtbblefjbgbocoaaGreatDoor
open Go.ChangeShapes Go.WideShapes Go.ChangeAt Go.RowKit
set_option linter.unusedVariables false
set_option linter.unusedSimpArgs false
set_option maxRecDepth 100000
-- 255 loop.example/prologserver/spec.l1Letter params 1 ntmps 8
def ac255 : Cd := .seq (.region [⟨(some 2),.mv (.k (.c (.d (.str [])))),none⟩] [2])
 (.seq (.region [⟨(some 3),.mv (.t 0),none⟩,
 ⟨(some 4),.cvInt .u8 (.t 3),none⟩,
 ⟨(some 5),.bin .add (.k (.c (.d (.int .u8 65)))) (.t 4),none⟩,
 ⟨(some 6),.buildSlice 1 1 [(.int .u8 0)] [(0,(.t 5))],none⟩,
 ⟨(some 7),.cvB2S (.t 6),none⟩,
 ⟨(some 2),.mv (.t 7),none⟩] [0,3,4,5,6,7])
 (.ret))
theorem ac255_ok : cFunc Tryz.prog [] [(0,[2],[]),(1,[0,3,4,5,6,7],[])] Tryz.f255 = some (ac255,[.tmp 2],8) := by kernel_rfl
-- 250 loop.example/prologserver/spec.l1Text params 1 ntmps 51
-- loop head live: [1,3,4]
def ac250 : Cd := .seq (.region [⟨(some 1),.box (.t 0),none⟩,
 ⟨(some 2),.mv (.k (.c (.d (.str [])))),none⟩] [0,2])
 (.seq (.seq (.region [⟨(some 5),.fieldAddr 0 (.t 1),none⟩,
 ⟨(some 6),.load none (.t 5),none⟩] [5])
 (.block 0 (.seq (.region [⟨(some 8),.bin .eql (.t 6) (.k (.c (.d (.int .i64 1)))),none⟩,
 ⟨(some 7),.mv (.t 8),none⟩] [8])
 (.cond (.t 7)
 (.seq (.region [⟨(some 9),.fieldAddr 1 (.t 1),none⟩,
 ⟨(some 10),.load none (.t 9),none⟩,
 ⟨(some 11),.qcall 255 [(.t 10)],none⟩,
 ⟨(some 2),.mv (.t 11),none⟩] [1,6,7,9,10,11])
 (.ret))
 (.seq (.region [⟨(some 13),.bin .eql (.t 6) (.k (.c (.d (.int .i64 2)))),none⟩,
 ⟨(some 12),.mv (.t 13),none⟩] [6,7,13])
 (.cond (.t 12)
 (.seq (.region [⟨(some 14),.fieldAddr 1 (.t 1),none⟩,
 ⟨(some 15),.load none (.t 14),none⟩,
 ⟨(some 16),.qcall 54 [(.t 15)],none⟩,
 ⟨(some 2),.mv (.t 16),none⟩] [1,12,14,15,16])
 (.ret))
 (.skip)))))))
 (.seq (.seq (.region [⟨(some 17),.load (some 4) (.t 1),none⟩,
 ⟨(some 18),.qcall 243 [(.t 17)],none⟩] [2,12,17])
 (.cond (.t 18)
 (.seq (.region [⟨(some 19),.load (some 4) (.t 1),none⟩,
 ⟨(some 20),.qcall 256 [(.t 19)],none⟩,
 ⟨(some 2),.mv (.t 20),none⟩] [1,18,19,20])
 (.ret))
 (.skip)))
 (.seq (.region [⟨(some 21),.fieldAddr 2 (.t 1),none⟩,
 ⟨(some 22),.load none (.t 21),none⟩,
 ⟨(some 3),.mv (.t 22),none⟩] [2,18,21,22])
 (.seq (.seq (.region [⟨(some 4),.mv (.k (.c (.d (.int .i64 0)))),none⟩] [])
 (.block 1 (.loop (.seq (.seq (.region [⟨(some 23),.mv (.t 4),none⟩,
 ⟨(some 24),.fieldAddr 3 (.t 1),none⟩,
 ⟨(some 25),.load none (.t 24),none⟩,
 ⟨(some 26),.len 1 (.t 25),none⟩,
 ⟨(some 27),.bin .lss (.t 23) (.t 26),none⟩] [23,24,25,26])
 (.cond (.t 27)
 (.skip)
 (.exit 1)))
 (.seq (.block 2 (.seq (.seq (.region [⟨(some 30),.mv (.t 4),none⟩,
 ⟨(some 31),.bin .eql (.t 30) (.k (.c (.d (.int .i64 0)))),none⟩] [27,30])
 (.cond (.t 31)
 (.region [⟨(some 32),.mv (.t 3),none⟩,
 ⟨(some 33),.bin .add (.t 32) (.k (.c (.d (.str [40])))),none⟩,
 ⟨(some 3),.mv (.t 33),none⟩] [31,32,33])
 (.region [⟨(some 34),.mv (.t 3),none⟩,
 ⟨(some 35),.bin .add (.t 34) (.k (.c (.d (.str [44])))),none⟩,
 ⟨(some 3),.mv (.t 35),none⟩] [31,34,35])))
 (.region [⟨(some 36),.mv (.t 3),none⟩,
 ⟨(some 37),.fieldAddr 3 (.t 1),none⟩,
 ⟨(some 38),.load none (.t 37),none⟩,
 ⟨(some 39),.mv (.t 4),none⟩,
 ⟨(some 40),.indexAddr 4 (.t 38) (.t 39),none⟩,
 ⟨(some 41),.load (some 4) (.t 40),none⟩,
 ⟨(some 42),.qcall 250 [(.t 41)],none⟩,
 ⟨(some 43),.bin .add (.t 36) (.t 42),none⟩,
 ⟨(some 3),.mv (.t 43),none⟩] [36,37,38,39,40,41,42,43])))
 (.region [⟨(some 28),.mv (.t 4),none⟩,
 ⟨(some 29),.bin .add (.t 28) (.k (.c (.d (.int .i64 1)))),none⟩,
 ⟨(some 4),.mv (.t 29),none⟩] [28,29]))))))
 (.seq (.seq (.region [⟨(some 44),.fieldAddr 3 (.t 1),none⟩,
 ⟨(some 45),.load none (.t 44),none⟩,
 ⟨(some 46),.len 1 (.t 45),none⟩,
 ⟨(some 47),.bin .gtr (.t 46) (.k (.c (.d (.int .i64 0)))),none⟩] [1,44,45,46])
 (.cond (.t 47)
 (.region [⟨(some 48),.mv (.t 3),none⟩,
 ⟨(some 49),.bin .add (.t 48) (.k (.c (.d (.str [41])))),none⟩,
 ⟨(some 3),.mv (.t 49),none⟩] [47,48,49])
 (.skip)))
 (.seq (.region [⟨(some 50),.mv (.t 3),none⟩,
 ⟨(some 2),.mv (.t 50),none⟩] [3,47,50])
 (.ret)))))))
theorem ac250_ok : cFunc Tryz.prog [1000054,1000243,1000250,1000255,1000256] [(0,[0,2],[]),(1,[5],[]),(2,[8],[]),(3,[1,6,7,9,10,11],[]),(4,[6,7,13],[]),(5,[1,12,14,15,16],[]),(6,[2,12,17],[]),(7,[1,18,19,20],[]),(8,[2,18,21,22],[]),(9,[],[]),(10,[23,24,25,26],[]),(12,[27,30],[]),(13,[31,32,33],[]),(14,[31,34,35],[]),(15,[36,37,38,39,40,41,42,43],[]),(11,[28,29],[]),(16,[1,44,45,46],[]),(17,[47,48,49],[]),(18,[3,47,50],[])] Tryz.f250 = some (ac250,[.tmp 2],51) := by kernel_rfl
-- 245 loop.example/prologserver/spec.l2Infix params 1 ntmps 18
def ac245 : Cd := .seq (.region [⟨(some 1),.box (.t 0),none⟩,
 ⟨(some 2),.mv (.k (.c (.d (.bool false)))),none⟩] [0,2])
 (.seq (.region [⟨(some 3),.fieldAddr 0 (.t 1),none⟩,
 ⟨(some 4),.load none (.t 3),none⟩,
 ⟨(some 5),.bin .eql (.t 4) (.k (.c (.d (.int .i64 3)))),none⟩,
 ⟨(some 6),.mv (.t 5),none⟩,
 ⟨(some 7),.fieldAddr 3 (.t 1),some (6,true)⟩,
 ⟨(some 8),.load none (.t 7),some (6,true)⟩,
 ⟨(some 9),.len 1 (.t 8),some (6,true)⟩,
 ⟨(some 10),.bin .eql (.t 9) (.k (.c (.d (.int .i64 2)))),some (6,true)⟩,
 ⟨(some 11),.pick (.t 6) (.t 10) (.k (.c (.d (.bool false)))),none⟩,
 ⟨(some 12),.mv (.t 11),none⟩,
 ⟨(some 13),.fieldAddr 2 (.t 1),some (12,true)⟩,
 ⟨(some 14),.load none (.t 13),some (12,true)⟩,
 ⟨(some 15),.qcall 139 [(.t 14)],some (12,true)⟩,
 ⟨(some 16),.bin .gtr (.t 15) (.k (.c (.d (.int .i64 0)))),some (12,true)⟩,
 ⟨(some 17),.pick (.t 12) (.t 16) (.k (.c (.d (.bool false)))),none⟩,
 ⟨(some 2),.mv (.t 17),none⟩] [1,3,4,5,6,7,8,9,10,11,12,13,14,15,16,17])
 (.ret))
theorem ac245_ok : cFunc Tryz.prog [1000139] [(0,[0,2],[]),(1,[1,3,4,5,6,7,8,9,10,11,12,13,14,15,16,17],[])] Tryz.f245 = some (ac245,[.tmp 2],18) := by kernel_rfl
-- 247 loop.example/prologserver/spec.l2Spaced params 1 ntmps 13
def ac247 : Cd := .seq (.region [⟨(some 2),.mv (.k (.c (.d (.str [])))),none⟩] [2])
 (.seq (.seq (.region [⟨(some 3),.mv (.t 0),none⟩,
 ⟨(some 4),.bin .eql (.t 3) (.k (.c (.d (.str [105,115])))),none⟩,
 ⟨(some 5),.mv (.t 4),none⟩,
 ⟨(some 6),.mv (.t 0),some (5,false)⟩,
 ⟨(some 7),.bin .eql (.t 6) (.k (.c (.d (.str [109,111,100])))),some (5,false)⟩,
 ⟨(some 8),.pick (.t 5) (.k (.c (.d (.bool true)))) (.t 7),none⟩] [3,4,5,6,7])
 (.cond (.t 8)
 (.seq (.region [⟨(some 9),.mv (.t 0),none⟩,
 ⟨(some 10),.bin .add (.k (.c (.d (.str [32])))) (.t 9),none⟩,
 ⟨(some 11),.bin .add (.t 10) (.k (.c (.d (.str [32])))),none⟩,
 ⟨(some 2),.mv (.t 11),none⟩] [0,8,9,10,11])
 (.ret))
 (.skip)))
 (.seq (.region [⟨(some 12),.mv (.t 0),none⟩,
 ⟨(some 2),.mv (.t 12),none⟩] [0,8,12])
 (.ret)))
theorem ac247_ok : cFunc Tryz.prog [] [(0,[2],[]),(1,[3,4,5,6,7],[]),(2,[0,8,9,10,11],[]),(3,[0,8,12],[])] Tryz.f247 = some (ac247,[.tmp 2],13) := by kernel_rfl
-- 253 loop.example/prologserver/spec.l2Bracket params 2 ntmps 20
def ac253 : Cd := .seq (.region [⟨(some 2),.box (.t 0),none⟩,
 ⟨(some 4),.mv (.k (.c (.d (.str [])))),none⟩] [0,4])
 (.seq (.seq (.region [⟨(some 5),.load (some 4) (.t 2),none⟩,
 ⟨(some 6),.qcall 245 [(.t 5)],none⟩,
 ⟨(some 7),.mv (.t 6),none⟩,
 ⟨(some 8),.fieldAddr 2 (.t 2),some (7,true)⟩,
 ⟨(some 9),.load none (.t 8),some (7,true)⟩,
 ⟨(some 10),.qcall 139 [(.t 9)],some (7,true)⟩,
 ⟨(some 11),.mv (.t 1),some (7,true)⟩,
 ⟨(some 12),.bin .gtr (.t 10) (.t 11),some (7,true)⟩,
 ⟨(some 13),.pick (.t 7) (.t 12) (.k (.c (.d (.bool false)))),none⟩] [1,5,6,7,8,9,10,11,12])
 (.cond (.t 13)
 (.seq (.region [⟨(some 14),.load (some 4) (.t 2),none⟩,
 ⟨(some 15),.qcall 242 [(.t 14)],none⟩,
 ⟨(some 16),.bin .add (.k (.c (.d (.str [40])))) (.t 15),none⟩,
 ⟨(some 17),.bin .add (.t 16) (.k (.c (.d (.str [41])))),none⟩,
 ⟨(some 4),.mv (.t 17),none⟩] [2,13,14,15,16,17])
 (.ret))
 (.skip)))
 (.seq (.region [⟨(some 18),.load (some 4) (.t 2),none⟩,
 ⟨(some 19),.qcall 242 [(.t 18)],none⟩,
 ⟨(some 4),.mv (.t 19),none⟩] [2,13,18,19])
 (.ret)))
theorem ac253_ok : cFunc Tryz.prog [1000139,1000242,1000245] [(0,[0,4],[]),(1,[1,5,6,7,8,9,10,11,12],[]),(2,[2,13,14,15,16,17],[]),(3,[2,13,18,19],[])] Tryz.f253 = some (ac253,[.tmp 4],20) := by kernel_rfl
-- 249 loop.example/prologserver/spec.l2Args params 1 ntmps 23
-- loop head live: [0,3,4]
def ac249 : Cd := .seq (.region [⟨(some 2),.mv (.k (.c (.d (.str [])))),none⟩] [2])
 (.seq (.region [⟨(some 3),.mv (.k (.c (.d (.str [])))),none⟩] [])
 (.seq (.seq (.region [⟨(some 4),.mv (.k (.c (.d (.int .i64 0)))),none⟩] [])
 (.block 0 (.loop (.seq (.seq (.region [⟨(some 5),.mv (.t 4),none⟩,
 ⟨(some 6),.mv (.t 0),none⟩,
 ⟨(some 7),.len 1 (.t 6),none⟩,
 ⟨(some 8),.bin .lss (.t 5) (.t 7),none⟩] [5,6,7])
 (.cond (.t 8)
 (.skip)
 (.exit 0)))
 (.seq (.block 1 (.seq (.seq (.region [⟨(some 11),.mv (.t 4),none⟩,
 ⟨(some 12),.bin .gtr (.t 11) (.k (.c (.d (.int .i64 0)))),none⟩] [8,11])
 (.cond (.t 12)
 (.region [⟨(some 13),.mv (.t 3),none⟩,
 ⟨(some 14),.bin .add (.t 13) (.k (.c (.d (.str [44])))),none⟩,
 ⟨(some 3),.mv (.t 14),none⟩] [12,13,14])
 (.skip)))
 (.region [⟨(some 15),.mv (.t 3),none⟩,
 ⟨(some 16),.mv (.t 0),none⟩,
 ⟨(some 17),.mv (.t 4),none⟩,
 ⟨(some 18),.indexAddr 4 (.t 16) (.t 17),none⟩,
 ⟨(some 19),.load (some 4) (.t 18),none⟩,
 ⟨(some 20),.qcall 242 [(.t 19)],none⟩,
 ⟨(some 21),.bin .add (.t 15) (.t 20),none⟩,
 ⟨(some 3),.mv (.t 21),none⟩] [12,15,16,17,18,19,20,21])))
 (.region [⟨(some 9),.mv (.t 4),none⟩,
 ⟨(some 10),.bin .add (.t 9) (.k (.c (.d (.int .i64 1)))),none⟩,
 ⟨(some 4),.mv (.t 10),none⟩] [9,10]))))))
 (.seq (.region [⟨(some 22),.mv (.t 3),none⟩,
 ⟨(some 2),.mv (.t 22),none⟩] [3,22])
 (.ret))))
theorem ac249_ok : cFunc Tryz.prog [1000242] [(0,[2],[]),(1,[],[]),(2,[],[]),(3,[5,6,7],[]),(5,[8,11],[]),(6,[12,13,14],[]),(7,[12,15,16,17,18,19,20,21],[]),(4,[9,10],[]),(8,[3,22],[])] Tryz.f249 = some (ac249,[.tmp 2],23) := by kernel_rfl
-- 244 loop.example/prologserver/spec.l2List params 1 ntmps 32
-- loop head live: [1,3]
def ac244 : Cd := .seq (.region [⟨(some 1),.box (.t 0),none⟩,
 ⟨(some 2),.mv (.k (.c (.d (.str [])))),none⟩] [0,2])
 (.seq (.region [⟨(some 4),.buildSlice 4 0 [(.int .i64 0),(.int .i64 0),(.str []),(.sl [])] [],none⟩,
 ⟨(some 3),.mv (.t 4),none⟩] [4])
 (.seq (.block 0 (.loop (.seq (.seq (.region [⟨(some 5),.load (some 4) (.t 1),none⟩,
 ⟨(some 6),.qcall 243 [(.t 5)],none⟩] [5])
 (.cond (.t 6)
 (.skip)
 (.exit 0)))
 (.block 1 (.seq (.region [⟨(some 7),.mv (.t 3),none⟩,
 ⟨(some 8),.fieldAddr 3 (.t 1),none⟩,
 ⟨(some 9),.load none (.t 8),none⟩,
 ⟨(some 10),.indexAddr 4 (.t 9) (.k (.c (.d (.int .i64 0)))),none⟩,
 ⟨(some 11),.load (some 4) (.t 10),none⟩,
 ⟨(some 12),.buildSlice 4 1 [(.int .i64 0),(.int .i64 0),(.str []),(.sl [])] [(0,(.t 11))],none⟩,
 ⟨(some 13),.append false 4 (.t 7) (.t 12),none⟩,
 ⟨(some 3),.mv (.t 13),none⟩] [6,7,8,9,10,11,12,13])
 (.region [⟨(some 14),.fieldAddr 3 (.t 1),none⟩,
 ⟨(some 15),.load none (.t 14),none⟩,
 ⟨(some 16),.indexAddr 4 (.t 15) (.k (.c (.d (.int .i64 1)))),none⟩,
 ⟨(some 17),.load (some 4) (.t 16),none⟩,
 ⟨none,.store 4 (.t 1) (.t 17),none⟩] [14,15,16,17]))))))
 (.seq (.seq (.region [⟨(some 18),.load (some 4) (.t 1),none⟩,
 ⟨(some 19),.qcall 251 [(.t 18)],none⟩] [18])
 (.cond (.t 19)
 (.seq (.region [⟨(some 20),.mv (.t 3),none⟩,
 ⟨(some 21),.qcall 249 [(.t 20)],none⟩,
 ⟨(some 22),.bin .add (.k (.c (.d (.str [91])))) (.t 21),none⟩,
 ⟨(some 23),.bin .add (.t 22) (.k (.c (.d (.str [93])))),none⟩,
 ⟨(some 2),.mv (.t 23),none⟩] [1,3,19,20,21,22,23])
 (.ret))
 (.skip)))
 (.seq (.region [⟨(some 24),.mv (.t 3),none⟩,
 ⟨(some 25),.qcall 249 [(.t 24)],none⟩,
 ⟨(some 26),.bin .add (.k (.c (.d (.str [91])))) (.t 25),none⟩,
 ⟨(some 27),.bin .add (.t 26) (.k (.c (.d (.str [124])))),none⟩,
 ⟨(some 28),.load (some 4) (.t 1),none⟩,
 ⟨(some 29),.qcall 242 [(.t 28)],none⟩,
 ⟨(some 30),.bin .add (.t 27) (.t 29),none⟩,
 ⟨(some 31),.bin .add (.t 30) (.k (.c (.d (.str [93])))),none⟩,
 ⟨(some 2),.mv (.t 31),none⟩] [1,3,19,24,25,26,27,28,29,30,31])
 (.ret)))))
theorem ac244_ok : cFunc Tryz.prog [1000242,1000243,1000249,1000251] [(0,[0,2],[]),(1,[4],[]),(2,[5],[]),(3,[6,7,8,9,10,11,12,13],[]),(4,[14,15,16,17],[]),(5,[18],[]),(6,[1,3,19,20,21,22,23],[]),(7,[1,3,19,24,25,26,27,28,29,30,31],[0,1,2,3,4,5,6,7,8])] Tryz.f244 = some (ac244,[.tmp 2],32) := by kernel_rfl
-- 252 loop.example/prologserver/spec.l2Sole params 1 ntmps 18
def ac252 : Cd := .seq (.region [⟨(some 1),.box (.t 0),none⟩,
 ⟨(some 2),.mv (.k (.c (.d (.bool false)))),none⟩] [0,2])
 (.seq (.region [⟨(some 3),.fieldAddr 0 (.t 1),none⟩,
 ⟨(some 4),.load none (.t 3),none⟩,
 ⟨(some 5),.bin .eql (.t 4) (.k (.c (.d (.int .i64 3)))),none⟩,
 ⟨(some 6),.mv (.t 5),none⟩,
 ⟨(some 7),.fieldAddr 3 (.t 1),some (6,true)⟩,
 ⟨(some 8),.load none (.t 7),some (6,true)⟩,
 ⟨(some 9),.len 1 (.t 8),some (6,true)⟩,
 ⟨(some 10),.bin .eql (.t 9) (.k (.c (.d (.int .i64 0)))),some (6,true)⟩,
 ⟨(some 11),.pick (.t 6) (.t 10) (.k (.c (.d (.bool false)))),none⟩,
 ⟨(some 12),.mv (.t 11),none⟩,
 ⟨(some 13),.fieldAddr 2 (.t 1),some (12,true)⟩,
 ⟨(some 14),.load none (.t 13),some (12,true)⟩,
 ⟨(some 15),.qcall 139 [(.t 14)],some (12,true)⟩,
 ⟨(some 16),.bin .gtr (.t 15) (.k (.c (.d (.int .i64 0)))),some (12,true)⟩,
 ⟨(some 17),.pick (.t 12) (.t 16) (.k (.c (.d (.bool false)))),none⟩,
 ⟨(some 2),.mv (.t 17),none⟩] [1,3,4,5,6,7,8,9,10,11,12,13,14,15,16,17])
 (.ret))
theorem ac252_ok : cFunc Tryz.prog [1000139] [(0,[0,2],[]),(1,[1,3,4,5,6,7,8,9,10,11,12,13,14,15,16,17],[])] Tryz.f252 = some (ac252,[.tmp 2],18) := by kernel_rfl
-- 254 loop.example/prologserver/spec.l2Plain params 1 ntmps 29
def ac254 : Cd := .seq (.region [⟨(some 2),.mv (.k (.c (.d (.bool false)))),none⟩] [2])
 (.seq (.region [⟨(some 3),.mv (.t 0),none⟩,
 ⟨(some 4),.qcall 231 [(.t 3),(.k (.c (.d (.int .i64 0))))],none⟩,
 ⟨(some 5),.mv (.t 4),none⟩,
 ⟨(some 6),.mv (.t 0),some (5,false)⟩,
 ⟨(some 7),.qcall 200 [(.t 6),(.k (.c (.d (.int .i64 0))))],some (5,false)⟩,
 ⟨(some 8),.pick (.t 5) (.k (.c (.d (.bool true)))) (.t 7),none⟩,
 ⟨(some 9),.mv (.t 8),none⟩,
 ⟨(some 10),.mv (.t 0),some (9,false)⟩,
 ⟨(some 11),.index (.t 10) (.k (.c (.d (.int .i64 0)))),some (9,false)⟩,
 ⟨(some 12),.bin .geq (.t 11) (.k (.c (.d (.int .u8 65)))),some (9,false)⟩,
 ⟨(some 13),.mv (.t 12),some (9,false)⟩,
 ⟨(some 14),.mv (.t 0),some (13,true)⟩,
 ⟨(some 15),.index (.t 14) (.k (.c (.d (.int .i64 0)))),some (13,true)⟩,
 ⟨(some 16),.bin .leq (.t 15) (.k (.c (.d (.int .u8 90)))),some (13,true)⟩,
 ⟨(some 17),.pick (.t 13) (.t 16) (.k (.c (.d (.bool false)))),some (9,false)⟩,
 ⟨(some 18),.pick (.t 9) (.k (.c (.d (.bool true)))) (.t 17),none⟩,
 ⟨(some 19),.mv (.t 18),none⟩,
 ⟨(some 20),.mv (.t 0),some (19,false)⟩,
 ⟨(some 21),.index (.t 20) (.k (.c (.d (.int .i64 0)))),some (19,false)⟩,
 ⟨(some 22),.bin .eql (.t 21) (.k (.c (.d (.int .u8 91)))),some (19,false)⟩,
 ⟨(some 23),.pick (.t 19) (.k (.c (.d (.bool true)))) (.t 22),none⟩,
 ⟨(some 24),.mv (.t 23),none⟩,
 ⟨(some 25),.mv (.t 0),some (24,false)⟩,
 ⟨(some 26),.index (.t 25) (.k (.c (.d (.int .i64 0)))),some (24,false)⟩,
 ⟨(some 27),.bin .eql (.t 26) (.k (.c (.d (.int .u8 40)))),some (24,false)⟩,
 ⟨(some 28),.pick (.t 24) (.k (.c (.d (.bool true)))) (.t 27),none⟩,
 ⟨(some 2),.mv (.t 28),none⟩] [0,3,4,5,6,7,8,9,10,11,12,13,14,15,16,17,18,19,20,21,22,23,24,25,26,27,28])
 (.ret))
theorem ac254_ok : cFunc Tryz.prog [1000200,1000231] [(0,[2],[]),(1,[0,3,4,5,6,7,8,9,10,11,12,13,14,15,16,17,18,19,20,21,22,23,24,25,26,27,28],[])] Tryz.f254 = some (ac254,[.tmp 2],29) := by kernel_rfl
-- 246 loop.example/prologserver/spec.l2Left params 2 ntmps 14
def ac246 : Cd := .seq (.region [⟨(some 2),.box (.t 0),none⟩,
 ⟨(some 4),.mv (.k (.c (.d (.str [])))),none⟩] [0,4])
 (.seq (.seq (.region [⟨(some 5),.load (some 4) (.t 2),none⟩,
 ⟨(some 6),.qcall 252 [(.t 5)],none⟩] [5])
 (.cond (.t 6)
 (.seq (.region [⟨(some 7),.load (some 4) (.t 2),none⟩,
 ⟨(some 8),.qcall 242 [(.t 7)],none⟩,
 ⟨(some 9),.bin .add (.k (.c (.d (.str [40])))) (.t 8),none⟩,
 ⟨(some 10),.bin .add (.t 9) (.k (.c (.d (.str [41])))),none⟩,
 ⟨(some 4),.mv (.t 10),none⟩] [1,2,6,7,8,9,10])
 (.ret))
 (.skip)))
 (.seq (.region [⟨(some 11),.load (some 4) (.t 2),none⟩,
 ⟨(some 12),.mv (.t 1),none⟩,
 ⟨(some 13),.qcall 253 [(.t 11),(.t 12)],none⟩,
 ⟨(some 4),.mv (.t 13),none⟩] [1,2,6,11,12,13])
 (.ret)))
theorem ac246_ok : cFunc Tryz.prog [1000242,1000252,1000253] [(0,[0,4],[]),(1,[5],[]),(2,[1,2,6,7,8,9,10],[]),(3,[1,2,6,11,12,13],[])] Tryz.f246 = some (ac246,[.tmp 4],14) := by kernel_rfl
-- 248 loop.example/prologserver/spec.l2Right params 2 ntmps 20
def ac248 : Cd := .seq (.region [⟨(some 2),.box (.t 0),none⟩,
 ⟨(some 4),.mv (.k (.c (.d (.str [])))),none⟩] [0,4])
 (.seq (.region [⟨(some 6),.load (some 4) (.t 2),none⟩,
 ⟨(some 7),.mv (.t 1),none⟩,
 ⟨(some 8),.qcall 253 [(.t 6),(.t 7)],none⟩,
 ⟨(some 5),.mv (.t 8),none⟩] [1,6,7,8])
 (.seq (.seq (.region [⟨(some 9),.load (some 4) (.t 2),none⟩,
 ⟨(some 10),.qcall 252 [(.t 9)],none⟩,
 ⟨(some 11),.mv (.t 10),none⟩,
 ⟨(some 12),.mv (.t 5),some (11,false)⟩,
 ⟨(some 13),.qcall 254 [(.t 12)],some (11,false)⟩,
 ⟨(some 14),.un .not (.t 13),some (11,false)⟩,
 ⟨(some 15),.pick (.t 11) (.k (.c (.d (.bool true)))) (.t 14),none⟩] [2,9,10,11,12,13,14])
 (.cond (.t 15)
 (.seq (.region [⟨(some 16),.mv (.t 5),none⟩,
 ⟨(some 17),.bin .add (.k (.c (.d (.str [40])))) (.t 16),none⟩,
 ⟨(some 18),.bin .add (.t 17) (.k (.c (.d (.str [41])))),none⟩,
 ⟨(some 4),.mv (.t 18),none⟩] [5,15,16,17,18])
 (.ret))
 (.skip)))
 (.seq (.region [⟨(some 19),.mv (.t 5),none⟩,
 ⟨(some 4),.mv (.t 19),none⟩] [5,15,19])
 (.ret))))
theorem ac248_ok : cFunc Tryz.prog [1000252,1000253,1000254] [(0,[0,4],[]),(1,[1,6,7,8],[]),(2,[2,9,10,11,12,13,14],[]),(3,[5,15,16,17,18],[]),(4,[5,15,19],[])] Tryz.f248 = some (ac248,[.tmp 4],20) := by kernel_rfl
-- 242 loop.example/prologserver/spec.l2Text params 1 ntmps 57
def ac242 : Cd := .seq (.region [⟨(some 1),.box (.t 0),none⟩,
 ⟨(some 2),.mv (.k (.c (.d (.str [])))),none⟩] [0,2])
 (.seq (.block 0 (.seq (.region [⟨(some 6),.load (some 4) (.t 1),none⟩,
 ⟨(some 7),.qcall 243 [(.t 6)],none⟩,
 ⟨(some 5),.mv (.t 7),none⟩] [6,7])
 (.cond (.t 5)
 (.seq (.region [⟨(some 8),.load (some 4) (.t 1),none⟩,
 ⟨(some 9),.qcall 244 [(.t 8)],none⟩,
 ⟨(some 2),.mv (.t 9),none⟩] [1,5,8,9])
 (.ret))
 (.seq (.region [⟨(some 11),.load (some 4) (.t 1),none⟩,
 ⟨(some 12),.qcall 245 [(.t 11)],none⟩,
 ⟨(some 10),.mv (.t 12),none⟩] [5,11,12])
 (.cond (.t 10)
 (.seq (.region [⟨(some 13),.fieldAddr 2 (.t 1),none⟩,
 ⟨(some 14),.load none (.t 13),none⟩,
 ⟨(some 15),.qcall 139 [(.t 14)],none⟩,
 ⟨(some 3),.mv (.t 15),none⟩] [10,13,14,15])
 (.seq (.region [⟨(some 16),.mv (.t 3),none⟩,
 ⟨(some 4),.mv (.t 16),none⟩] [16])
 (.seq (.seq (.region [⟨(some 17),.mv (.t 3),none⟩,
 ⟨(some 18),.bin .eql (.t 17) (.k (.c (.d (.int .i64 3)))),none⟩] [17])
 (.cond (.t 18)
 (.region [⟨(some 4),.mv (.k (.c (.d (.int .i64 2)))),none⟩] [18])
 (.skip)))
 (.seq (.region [⟨(some 19),.fieldAddr 3 (.t 1),none⟩,
 ⟨(some 23),.mv (.t 4),none⟩,
 ⟨(some 25),.fieldAddr 2 (.t 1),none⟩,
 ⟨(some 29),.fieldAddr 3 (.t 1),none⟩,
 ⟨(some 33),.mv (.t 3),none⟩,
 ⟨(some 34),.bin .sub (.t 33) (.k (.c (.d (.int .i64 1)))),none⟩,
 ⟨(some 20),.load none (.t 19),none⟩,
 ⟨(some 21),.indexAddr 4 (.t 20) (.k (.c (.d (.int .i64 0)))),none⟩,
 ⟨(some 22),.load (some 4) (.t 21),none⟩,
 ⟨(some 24),.qcall 246 [(.t 22),(.t 23)],none⟩,
 ⟨(some 26),.load none (.t 25),none⟩,
 ⟨(some 27),.qcall 247 [(.t 26)],none⟩,
 ⟨(some 28),.bin .add (.t 24) (.t 27),none⟩,
 ⟨(some 30),.load none (.t 29),none⟩,
 ⟨(some 31),.indexAddr 4 (.t 30) (.k (.c (.d (.int .i64 1)))),none⟩,
 ⟨(some 32),.load (some 4) (.t 31),none⟩,
 ⟨(some 35),.qcall 248 [(.t 32),(.t 34)],none⟩,
 ⟨(some 36),.bin .add (.t 28) (.t 35),none⟩,
 ⟨(some 2),.mv (.t 36),none⟩] [1,3,4,18,19,20,21,22,23,24,25,26,27,28,29,30,31,32,33,34,35,36])
 (.ret)))))
 (.seq (.region [⟨(some 38),.fieldAddr 0 (.t 1),none⟩,
 ⟨(some 39),.load none (.t 38),none⟩,
 ⟨(some 40),.bin .eql (.t 39) (.k (.c (.d (.int .i64 3)))),none⟩,
 ⟨(some 41),.mv (.t 40),none⟩,
 ⟨(some 42),.fieldAddr 3 (.t 1),some (41,true)⟩,
 ⟨(some 43),.load none (.t 42),some (41,true)⟩,
 ⟨(some 44),.len 1 (.t 43),some (41,true)⟩,
 ⟨(some 45),.bin .gtr (.t 44) (.k (.c (.d (.int .i64 0)))),some (41,true)⟩,
 ⟨(some 46),.pick (.t 41) (.t 45) (.k (.c (.d (.bool false)))),none⟩,
 ⟨(some 37),.mv (.t 46),none⟩] [10,38,39,40,41,42,43,44,45,46])
 (.cond (.t 37)
 (.seq (.region [⟨(some 47),.fieldAddr 2 (.t 1),none⟩,
 ⟨(some 50),.fieldAddr 3 (.t 1),none⟩,
 ⟨(some 48),.load none (.t 47),none⟩,
 ⟨(some 49),.bin .add (.t 48) (.k (.c (.d (.str [40])))),none⟩,
 ⟨(some 51),.load none (.t 50),none⟩,
 ⟨(some 52),.qcall 249 [(.t 51)],none⟩,
 ⟨(some 53),.bin .add (.t 49) (.t 52),none⟩,
 ⟨(some 54),.bin .add (.t 53) (.k (.c (.d (.str [41])))),none⟩,
 ⟨(some 2),.mv (.t 54),none⟩] [1,37,47,48,49,50,51,52,53,54])
 (.ret))
 (.skip))))))))
 (.seq (.region [⟨(some 55),.load (some 4) (.t 1),none⟩,
 ⟨(some 56),.qcall 250 [(.t 55)],none⟩,
 ⟨(some 2),.mv (.t 56),none⟩] [1,37,55,56])
 (.ret)))
theorem ac242_ok : cFunc Tryz.prog [1000139,1000243,1000244,1000245,1000246,1000247,1000248,1000249,1000250] [(0,[0,2],[]),(1,[6,7],[]),(2,[1,5,8,9],[]),(3,[5,11,12],[]),(4,[10,13,14,15],[]),(5,[16],[]),(6,[17],[]),(7,[18],[]),(8,[1,3,4,18,19,20,21,22,23,24,25,26,27,28,29,30,31,32,33,34,35,36],[0,4,6,10,14,15,1,2,3,5,7,8,9,11,12,13,16,17,18]),(9,[10,38,39,40,41,42,43,44,45,46],[]),(10,[1,37,47,48,49,50,51,52,53,54],[0,3,1,2,4,5,6,7,8]),(11,[1,37,55,56],[])] Tryz.f242 = some (ac242,[.tmp 2],57) := by kernel_rfl
theorem u8_nat {m : Nat} (h : m < 256) : ((UInt8.ofNat m).toNat : Int) = m := by simp; omega
theorem b2s_byte {m : Nat} {K : A → St → Prop} {st : St} (h : m < 256) (hk : K (.c (.d (.str [UInt8.ofNat m]))) st) : B2SK true [[.int .u8 (m : Int)]] K st :=
  ⟨[UInt8.ofNat m], fun _ => by simp only [bytesRows, List.map_cons, List.map_nil, u8_nat h], hk⟩
theorem letter_calls (n : Nat) (h : n ≤ 25) (H : Heap) : ACalls Tryz.prog 255 [.c (.d (.int .i64 n))] H (fun r H' => H' = H ∧ r = .c (.d (.str [UInt8.ofNat (65 + n)]))) := by
  refine acalls Tryz.func255 (by kernel_rfl) ac255_ok fun hf => ?_
  have hw : IntKind.wrap .u8 (n : Int) = n := by simp [IntKind.wrap, IntKind.bits, IntKind.signed]; omega
  have hi : inR .u8 (65 + (n : Int)) := by simp [inR, IntKind.min, IntKind.max, IntKind.signed, IntKind.bits]; omega
  simp -implicitDefEqProofs [ac255, hw, hi, go_sem, -List.set_cons_succ, -List.set_cons_zero]
  have e : 65 + (n : Int) = ((65 + n : Nat) : Int) := by omega
  simp only [e]
  refine b2s_byte (by omega) ?_
  simp -implicitDefEqProofs [go_sem, -List.set_cons_succ, -List.set_cons_zero]
def infixB (t : Tm) : Bool := (decide (t.k = 3) && decide ((t.kids.length : Int) = 2)) && decide (0 < levelN t.s)
def soleB (t : Tm) : Bool := (decide (t.k = 3) && decide ((t.kids.length : Int) = 0)) && decide (0 < levelN t.s)
theorem infix_calls (t : Tm) (ht : t.fits) (H : Heap) : ACalls Tryz.prog 245 [.agg (t.row.map .d)] H (fun r H' => H' = H ∧ r = .c (.d (.bool (infixB t)))) := by
  obtain ⟨k, n, s, l⟩ := t
  obtain ⟨_, _, hs, hl, _⟩ := ht
  refine acalls Tryz.func245 (by kernel_rfl) ac245_ok fun hf => ?_
  have hli : inR .i64 (l.length : Int) := small_i64 (by omega) (by omega)
  by_cases hk : k = 3
  · by_cases h2 : l.length = 2
    · match l, h2 with
      | [a, b], _ =>
        have h22 : inR .i64 2 := small_i64 (by omega) (by omega)
        simp -implicitDefEqProofs [ac245, row_mk, hk, h22, go_sem, -List.set_cons_succ, -List.set_cons_zero]
        refine qcall_pure (level_calls s) hf rfl ?_
        simp -implicitDefEqProofs [infixB, Tm.k, Tm.kids, Tm.s, go_sem, -List.set_cons_succ, -List.set_cons_zero]
        exact decide_eq_decide.2 Iff.rfl
    · have h3 : ((l.length : Int) == 2) = false := by simpa using fun h => h2 (by omega)
      have h4 : ¬ (l.length : Int) = 2 := fun h => h2 (by omega)
      simp -implicitDefEqProofs [ac245, row_mk, hk, hli, h3, h4, infixB, Tm.k, Tm.kids, Tm.s, go_sem, -List.set_cons_succ, -List.set_cons_zero]
  · simp -implicitDefEqProofs [ac245, row_mk, hk, hli, infixB, Tm.k, Tm.kids, Tm.s, go_sem, -List.set_cons_succ, -List.set_cons_zero]
theorem sole_calls (t : Tm) (ht : t.fits) (H : Heap) : ACalls Tryz.prog 252 [.agg (t.row.map .d)] H (fun r H' => H' = H ∧ r = .c (.d (.bool (soleB t)))) := by
  obtain ⟨k, n, s, l⟩ := t
  obtain ⟨_, _, hs, hl, _⟩ := ht
  refine acalls Tryz.func252 (by kernel_rfl) ac252_ok fun hf => ?_
  have hli : inR .i64 (l.length : Int) := small_i64 (by omega) (by omega)
  by_cases hk : k = 3
  · cases l with
    | nil =>
      have h00 : inR .i64 0 := small_i64 (by omega) (by omega)
      simp -implicitDefEqProofs [ac252, row_mk, hk, h00, go_sem, -List.set_cons_succ, -List.set_cons_zero]
      refine qcall_pure (level_calls s) hf rfl ?_
      simp -implicitDefEqProofs [soleB, Tm.k, Tm.kids, Tm.s, go_sem, -List.set_cons_succ, -List.set_cons_zero]
      exact decide_eq_decide.2 Iff.rfl
    | cons a l =>
      have h3 : (((l.length : Int) + 1) == 0) = false := by simp; omega
      have h4 : ¬ (l.length : Int) + 1 = 0 := by omega
      have hl2 : inR .i64 ((l.length : Int) + 1) := by simpa using hli
      simp -implicitDefEqProofs [ac252, row_mk, hk, hl2, h3, h4, soleB, Tm.k, Tm.kids, Tm.s, go_sem, -List.set_cons_succ, -List.set_cons_zero]
  · simp -implicitDefEqProofs [ac252, row_mk, hk, hli, soleB, Tm.k, Tm.kids, Tm.s, go_sem, -List.set_cons_succ, -List.set_cons_zero]
theorem spaced_calls (s : List UInt8) (hl : 0 < levelN s) (H : Heap) : ACalls Tryz.prog 247 [.c (.d (.str s))] H (fun r H' => H' = H ∧ r = .c (.d (.str (opSp s)))) := by
  have hm : s ∈ [[61], [92, 61], [61, 61], [60], [62], [61, 60], [62, 61], [61, 58, 61], [105, 115], [43], [45], [42], [47, 47], [109, 111, 100]] := by
    unfold levelN at hl
    split at hl
    · rename_i h; simp [ops3] at h; rcases h with rfl | rfl | rfl | rfl | rfl | rfl | rfl | rfl | rfl <;> simp
    · split at hl
      · rename_i h; simp at h; rcases h with rfl | rfl <;> simp
      · split at hl
        · rename_i h; simp at h; rcases h with rfl | rfl | rfl <;> simp
        · omega
  refine acalls Tryz.func247 (by kernel_rfl) ac247_ok fun hf => ?_
  simp at hm
  rcases hm with rfl | rfl | rfl | rfl | rfl | rfl | rfl | rfl | rfl | rfl | rfl | rfl | rfl | rfl <;> simp -implicitDefEqProofs [ac247, opSp, lettersB, lowB, maxStr, go_sem, -List.set_cons_succ, -List.set_cons_zero]
/-- the text of a term is as it is said -/
def TxS (t : Tm) : Prop := ∀ H, ACalls Tryz.prog 242 [.agg (t.row.map .d)] H (fun r H' => H' = H ∧ r = .c (.d (.str t.wr)))
/-- a text, in brackets if its operator's level is above another one -/
def brk (t : Tm) (m : Int) : List UInt8 := if infixB t && decide (m < levelN t.s) then 40 :: t.wr ++ [41] else t.wr
theorem brk_len (t : Tm) (m : Int) : (brk t m).length ≤ t.wr.length + 2 := by
  unfold brk
  split <;> simp
theorem bracket_calls (t : Tm) (ht : t.fits) (hT : TxS t) (hw : t.wr.length ≤ 1000000) (m : Int) (H : Heap) : ACalls Tryz.prog 253 [.agg (t.row.map .d), .c (.d (.int .i64 m))] H (fun r H' => H' = H ∧ r = .c (.d (.str (brk t m)))) := by
  have c1 := infix_calls t ht
  unfold TxS at hT
  rw [row_eq] at c1 hT ⊢
  simp only [List.map_cons, List.map_nil] at c1 hT ⊢
  refine acalls Tryz.func253 (by kernel_rfl) ac253_ok fun hf => ?_
  simp -implicitDefEqProofs [ac253, go_sem, -List.set_cons_succ, -List.set_cons_zero]
  refine qcall_pure c1 hf rfl ?_
  cases hi : infixB t with
  | false =>
    simp -implicitDefEqProofs [go_sem, -List.set_cons_succ, -List.set_cons_zero]
    refine qcall_pure hT hf rfl ?_
    simp -implicitDefEqProofs [brk, hi, go_sem, -List.set_cons_succ, -List.set_cons_zero]
  | true =>
    simp -implicitDefEqProofs [go_sem, -List.set_cons_succ, -List.set_cons_zero]
    refine qcall_pure (level_calls t.s) hf rfl ?_
    simp -implicitDefEqProofs [go_sem, -List.set_cons_succ, -List.set_cons_zero]
    refine ⟨fun h => qcall_pure hT hf rfl ?_, fun h => qcall_pure hT hf rfl ?_⟩
    · simp -implicitDefEqProofs [brk, hi, h, maxStr, go_sem, -List.set_cons_succ, -List.set_cons_zero]
      omega
    · simp -implicitDefEqProofs [brk, hi, Int.not_lt.2 h, go_sem, -List.set_cons_succ, -List.set_cons_zero]
theorem left_calls (t : Tm) (ht : t.fits) (hT : TxS t) (hw : t.wr.length ≤ 1000000) (m : Int) (H : Heap) : ACalls Tryz.prog 246 [.agg (t.row.map .d), .c (.d (.int .i64 m))] H
    (fun r H' => H' = H ∧ r = .c (.d (.str (if soleB t then 40 :: t.wr ++ [41] else brk t m)))) := by
  have c1 := sole_calls t ht
  have c2 := bracket_calls t ht hT hw m
  unfold TxS at hT
  rw [row_eq] at c1 c2 hT ⊢
  simp only [List.map_cons, List.map_nil] at c1 c2 hT ⊢
  refine acalls Tryz.func246 (by kernel_rfl) ac246_ok fun hf => ?_
  simp -implicitDefEqProofs [ac246, go_sem, -List.set_cons_succ, -List.set_cons_zero]
  refine qcall_pure c1 hf rfl ?_
  cases hi : soleB t with
  | false =>
    simp -implicitDefEqProofs [go_sem, -List.set_cons_succ, -List.set_cons_zero]
    refine qcall_pure c2 hf rfl ?_
    simp -implicitDefEqProofs [go_sem, -List.set_cons_succ, -List.set_cons_zero]
  | true =>
    simp -implicitDefEqProofs [go_sem, -List.set_cons_succ, -List.set_cons_zero]
    refine qcall_pure hT hf rfl ?_
    simp -implicitDefEqProofs [maxStr, go_sem, -List.set_cons_succ, -List.set_cons_zero]
    omega
theorem byte_off {s : List UInt8} {i : Int} (b : UInt8) {K : A → St → Prop} {st : St} (hk : K (.c (.d (.int .u8 b.toNat))) st) : ByteK false s i K st := ⟨b, fun h => (by cases h), hk⟩
theorem small_at (b : UInt8) (r : List UInt8) (hl : r.length ≤ 4000000) (H : Heap) : ACalls Tryz.prog 231 [.c (.d (.str (b :: r))), .c (.d (.int .i64 0))] H (fun r H' => H' = H ∧ r = .c (.d (.bool (decide (97 ≤ b.toNat ∧ b.toNat ≤ 122))))) := by
  refine acalls Tryz.func231 (by kernel_rfl) ac231_ok fun hf => ?_
  have hli : inR .i64 ((r.length : Int) + 1) := small_i64 (by omega) (by omega)
  have hp : (0 : Int) < (r.length : Int) + 1 := by omega
  simp -implicitDefEqProofs [ac231, hli, hp, go_sem, -List.set_cons_succ, -List.set_cons_zero]
  refine byte_int b (by omega) (by simp) ?_
  by_cases h1 : (97 : Int) ≤ b.toNat
  · have h1' : 97 ≤ b.toNat := by omega
    simp -implicitDefEqProofs [h1, h1', go_sem, -List.set_cons_succ, -List.set_cons_zero]
    refine byte_int b (by omega) (by simp) ?_
    simp -implicitDefEqProofs [h1', go_sem, -List.set_cons_succ, -List.set_cons_zero]
    omega
  · have h1' : ¬ 97 ≤ b.toNat := by omega
    simp -implicitDefEqProofs [h1, h1', go_sem, -List.set_cons_succ, -List.set_cons_zero]
    refine byte_off b ?_
    simp -implicitDefEqProofs [h1', go_sem, -List.set_cons_succ, -List.set_cons_zero]
theorem digit_at (b : UInt8) (r : List UInt8) (hl : r.length ≤ 4000000) (H : Heap) : ACalls Tryz.prog 200 [.c (.d (.str (b :: r))), .c (.d (.int .i64 0))] H (fun r H' => H' = H ∧ r = .c (.d (.bool (decide (48 ≤ b.toNat ∧ b.toNat ≤ 57))))) := by
  refine acalls Tryz.func200 (by kernel_rfl) ac200_ok fun hf => ?_
  have hli : inR .i64 ((r.length : Int) + 1) := small_i64 (by omega) (by omega)
  have hp : (0 : Int) < (r.length : Int) + 1 := by omega
  simp -implicitDefEqProofs [ac200, hli, hp, go_sem, -List.set_cons_succ, -List.set_cons_zero]
  refine byte_int b (by omega) (by simp) ?_
  by_cases h1 : (48 : Int) ≤ b.toNat
  · have h1' : 48 ≤ b.toNat := by omega
    simp -implicitDefEqProofs [h1, h1', go_sem, -List.set_cons_succ, -List.set_cons_zero]
    refine byte_int b (by omega) (by simp) ?_
    simp -implicitDefEqProofs [h1', go_sem, -List.set_cons_succ, -List.set_cons_zero]
    omega
  · have h1' : ¬ 48 ≤ b.toNat := by omega
    simp -implicitDefEqProofs [h1, h1', go_sem, -List.set_cons_succ, -List.set_cons_zero]
    refine byte_off b ?_
    simp -implicitDefEqProofs [h1', go_sem, -List.set_cons_succ, -List.set_cons_zero]
theorem plain_calls (b : UInt8) (r : List UInt8) (hl : r.length ≤ 4000000) (H : Heap) : ACalls Tryz.prog 254 [.c (.d (.str (b :: r)))] H (fun r' H' => H' = H ∧ r' = .c (.d (.bool (plainC b)))) := by
  refine acalls Tryz.func254 (by kernel_rfl) ac254_ok fun hf => ?_
  simp -implicitDefEqProofs [ac254, go_sem, -List.set_cons_succ, -List.set_cons_zero]
  refine qcall_pure (small_at b r hl) hf rfl ?_
  have on : ∀ {K : A → St → Prop} {st : St}, K (.c (.d (.int .u8 b.toNat))) st → ByteK true (b :: r) 0 K st := fun hk => byte_int b (by omega) (by simp) hk
  by_cases h1 : 97 ≤ b.toNat ∧ b.toNat ≤ 122
  · have hp : plainC b = true := by simp [plainC, h1]
    simp -implicitDefEqProofs [h1, hp, go_sem, -List.set_cons_succ, -List.set_cons_zero]
    refine byte_off b ?_
    simp -implicitDefEqProofs [go_sem, -List.set_cons_succ, -List.set_cons_zero]
    refine byte_off b ?_
    simp -implicitDefEqProofs [go_sem, -List.set_cons_succ, -List.set_cons_zero]
    refine byte_off b ?_
    simp -implicitDefEqProofs [go_sem, -List.set_cons_succ, -List.set_cons_zero]
    refine byte_off b ?_
    simp -implicitDefEqProofs [go_sem, -List.set_cons_succ, -List.set_cons_zero]
  · simp -implicitDefEqProofs [h1, go_sem, -List.set_cons_succ, -List.set_cons_zero]
    refine qcall_pure (digit_at b r hl) hf rfl ?_
    by_cases h2 : 48 ≤ b.toNat ∧ b.toNat ≤ 57
    · have hp : plainC b = true := by simp [plainC, h2]
      simp -implicitDefEqProofs [h2, hp, go_sem, -List.set_cons_succ, -List.set_cons_zero]
      refine byte_off b ?_
      simp -implicitDefEqProofs [go_sem, -List.set_cons_succ, -List.set_cons_zero]
      refine byte_off b ?_
      simp -implicitDefEqProofs [go_sem, -List.set_cons_succ, -List.set_cons_zero]
      refine byte_off b ?_
      simp -implicitDefEqProofs [go_sem, -List.set_cons_succ, -List.set_cons_zero]
      refine byte_off b ?_
      simp -implicitDefEqProofs [go_sem, -List.set_cons_succ, -List.set_cons_zero]
    · simp -implicitDefEqProofs [h2, go_sem, -List.set_cons_succ, -List.set_cons_zero]
      refine on ?_
      by_cases h3 : (65 : Int) ≤ b.toNat
      · simp -implicitDefEqProofs [h3, go_sem, -List.set_cons_succ, -List.set_cons_zero]
        refine on ?_
        by_cases h4 : (b.toNat : Int) ≤ 90
        · have hp : plainC b = true := by
            have : 65 ≤ b.toNat ∧ b.toNat ≤ 90 := by omega
            simp [plainC, this]
          simp -implicitDefEqProofs [h4, hp, go_sem, -List.set_cons_succ, -List.set_cons_zero]
          refine byte_off b ?_
          simp -implicitDefEqProofs [go_sem, -List.set_cons_succ, -List.set_cons_zero]
          refine byte_off b ?_
          simp -implicitDefEqProofs [go_sem, -List.set_cons_succ, -List.set_cons_zero]
        · simp -implicitDefEqProofs [h4, go_sem, -List.set_cons_succ, -List.set_cons_zero]
          refine on ?_
          by_cases h5 : (b.toNat : Int) = 91
          · have h6 : b = 91 := UInt8.toNat_inj.1 (by simp; omega)
            have hp : plainC b = true := by simp [plainC, h6]
            simp -implicitDefEqProofs [h5, hp, go_sem, -List.set_cons_succ, -List.set_cons_zero]
            refine byte_off b ?_
            simp -implicitDefEqProofs [go_sem, -List.set_cons_succ, -List.set_cons_zero]
          · have h6 : b ≠ 91 := fun h => h5 (by rw [h]; rfl)
            have hp : plainC b = decide ((b.toNat : Int) = 40) := by
              have h7 : ¬ (65 ≤ b.toNat ∧ b.toNat ≤ 90) := by omega
              have h8 : (b = 40) ↔ ((b.toNat : Int) = 40) := ⟨fun h => by rw [h]; rfl, fun h => UInt8.toNat_inj.1 (by simp; omega)⟩
              simp [plainC, h1, h2, h6, h7, beq_dec, h8]
            have h9 : ((b.toNat : Int) == 91) = false := by simpa using h5
            simp -implicitDefEqProofs [h5, h9, hp, go_sem, -List.set_cons_succ, -List.set_cons_zero]
            refine on ?_
            simp -implicitDefEqProofs [go_sem, -List.set_cons_succ, -List.set_cons_zero]
            try (simp [beq_dec]; done)
      · simp -implicitDefEqProofs [h3, go_sem, -List.set_cons_succ, -List.set_cons_zero]
        refine byte_off b ?_
        simp -implicitDefEqProofs [go_sem, -List.set_cons_succ, -List.set_cons_zero]
        refine on ?_
        by_cases h5 : (b.toNat : Int) = 91
        · have h6 : b = 91 := UInt8.toNat_inj.1 (by simp; omega)
          have hp : plainC b = true := by simp [plainC, h6]
          simp -implicitDefEqProofs [h5, hp, go_sem, -List.set_cons_succ, -List.set_cons_zero]
          refine byte_off b ?_
          simp -implicitDefEqProofs [go_sem, -List.set_cons_succ, -List.set_cons_zero]
        · have h6 : b ≠ 91 := fun h => h5 (by rw [h]; rfl)
          have hp : plainC b = decide ((b.toNat : Int) = 40) := by
            have h7 : ¬ (65 ≤ b.toNat ∧ b.toNat ≤ 90) := by omega
            have h8 : (b = 40) ↔ ((b.toNat : Int) = 40) := ⟨fun h => by rw [h]; rfl, fun h => UInt8.toNat_inj.1 (by simp; omega)⟩
            simp [plainC, h1, h2, h6, h7, beq_dec, h8]
          have h9 : ((b.toNat : Int) == 91) = false := by simpa using h5
          simp -implicitDefEqProofs [h5, h9, hp, go_sem, -List.set_cons_succ, -List.set_cons_zero]
          refine on ?_
          simp -implicitDefEqProofs [go_sem, -List.set_cons_succ, -List.set_cons_zero]
          try (simp [beq_dec]; done)
theorem right_calls (t : Tm) (ht : t.fits) (hT : TxS t) (hne : t.wr ≠ []) (hw : t.wr.length ≤ 1000000) (m : Int) (H : Heap) : ACalls Tryz.prog 248 [.agg (t.row.map .d), .c (.d (.int .i64 m))] H
    (fun r H' => H' = H ∧ r = .c (.d (.str (if soleB t || !plainC ((brk t m).headD 0) then 40 :: brk t m ++ [41] else brk t m)))) := by
  have c1 := sole_calls t ht
  have c2 := bracket_calls t ht hT hw m
  have hl := brk_len t m
  have hbne : brk t m ≠ [] := by
    unfold brk
    split
    · simp
    · exact hne
  rw [row_eq] at c1 c2 ⊢
  simp only [List.map_cons, List.map_nil] at c1 c2 ⊢
  refine acalls Tryz.func248 (by kernel_rfl) ac248_ok fun hf => ?_
  simp -implicitDefEqProofs [ac248, go_sem, -List.set_cons_succ, -List.set_cons_zero]
  refine qcall_pure c2 hf rfl ?_
  generalize brk t m = w at hl hbne ⊢
  obtain ⟨b, r, rfl⟩ : ∃ b r, w = b :: r := by
    cases w with
    | nil => exact absurd rfl hbne
    | cons b r => exact ⟨b, r, rfl⟩
  simp at hl
  simp -implicitDefEqProofs [go_sem, -List.set_cons_succ, -List.set_cons_zero]
  refine qcall_pure c1 hf rfl ?_
  cases hi : soleB t with
  | true =>
    simp -implicitDefEqProofs [maxStr, go_sem, -List.set_cons_succ, -List.set_cons_zero]
    omega
  | false =>
    simp -implicitDefEqProofs [go_sem, -List.set_cons_succ, -List.set_cons_zero]
    refine qcall_pure (plain_calls b r (by omega)) hf rfl ?_
    cases hp : plainC b <;> simp -implicitDefEqProofs [maxStr, go_sem, -List.set_cons_succ, -List.set_cons_zero]
    omega
theorem joinS_take (l : List Tm) (h : ∀ t ∈ l, t.wr.length ≤ 1000000) {i : Nat} (hi : i ≤ l.length) : (joinS 44 ((l.map Tm.wr).take i)).length ≤ 1000001 * i := by
  refine Nat.le_trans (joinS_len 44 _) ?_
  rw [← List.map_take]
  have : ∀ q : List Tm, (∀ t ∈ q, t.wr.length ≤ 1000000) → ((q.map Tm.wr).map fun x => x.length + 1).sum ≤ 1000001 * q.length := by
    intro q
    induction q with
    | nil => intro _; simp
    | cons a q ih =>
      intro h
      have h1 := h a (by simp)
      have h2 := ih fun t ht => h t (by simp [ht])
      simp at h2 ⊢
      omega
  have h3 := this (l.take i) fun t ht => h t (List.mem_of_mem_take ht)
  simpa [Nat.min_eq_left hi] using h3
theorem wargs_calls (l : List Tm) (hl : l.length ≤ 1048576) (hT : ∀ t ∈ l, TxS t ∧ t.wr.length ≤ 1000000) (H : Heap) : ACalls Tryz.prog 249 [.c (.d (.sl (l.map Tm.row)))] H (fun r H' => H' = H ∧ r = .c (.d (.str (joinS 44 (l.map Tm.wr))))) := by
  refine acalls Tryz.func249 (by kernel_rfl) ac249_ok fun hf => ?_
  have hli : inR .i64 (l.length : Int) := small_i64 (by omega) (by omega)
  simp -implicitDefEqProofs [ac249, hli, go_sem, -List.set_cons_succ, -List.set_cons_zero]
  refine loop_set (σ := Nat) (fun i => [(4, .c (.d (.int .i64 i))), (3, .c (.d (.str (joinS 44 ((l.map Tm.wr).take i)))))]) (fun _ => H) (fun _ => []) (fun i => i ≤ l.length) (fun i => l.length - i) 0 rfl (Nat.zero_le _) ?_
  intro i hi
  have hb : (joinS 44 ((l.map Tm.wr).take i)).length ≤ 1000001 * i := joinS_take l (fun t ht => (hT t ht).2) hi
  simp -implicitDefEqProofs [setAll, hli, go_sem, -List.set_cons_succ, -List.set_cons_zero]
  refine ⟨fun hlt => ?_, fun hge => by rw [List.take_of_length_le (by simpa using hge)]⟩
  have hadd : inR .i64 ((i : Int) + 1) := small_i64 (by omega) (by omega)
  have hnext : joinS 44 ((l.map Tm.wr).take (i + 1)) = if (l.map Tm.wr).take i = [] then l[i].wr else joinS 44 ((l.map Tm.wr).take i) ++ 44 :: l[i].wr := by
    rw [List.take_succ_eq_append_getElem (by simpa using hlt), joinS_snoc]
    simp
  have hwi := (hT l[i] (List.getElem_mem hlt)).2
  have hTi := (hT l[i] (List.getElem_mem hlt)).1
  refine ⟨fun hp => ⟨by unfold maxStr; omega, row_of hlt (row_len _) ?_⟩, fun h0 => row_of hlt (row_len _) ?_⟩
  · have hne : ¬ (l.map Tm.wr).take i = [] := by
      intro h
      have := congrArg List.length h
      rw [List.length_take, List.length_map] at this
      simp only [List.length_nil] at this
      omega
    rw [if_neg hne] at hnext
    simp -implicitDefEqProofs [row_len, take_row, pure_d, re_d, go_sem, -List.set_cons_succ, -List.set_cons_zero]
    refine qcall_pure hTi hf rfl ?_
    simp -implicitDefEqProofs [hadd, maxStr, go_sem, -List.set_cons_succ, -List.set_cons_zero]
    refine ⟨by omega, ?_⟩
    exact loop_back (i + 1) (by simp [setAll, hnext]) hlt (by show l.length - (i + 1) < l.length - i; omega)
  · subst h0
    simp at hnext
    simp -implicitDefEqProofs [row_len, take_row, pure_d, re_d, go_sem, -List.set_cons_succ, -List.set_cons_zero]
    refine qcall_pure hTi hf rfl ?_
    simp -implicitDefEqProofs [hadd, maxStr, joinS, go_sem, -List.set_cons_succ, -List.set_cons_zero]
    refine ⟨by omega, by simpa using hadd, ?_⟩
    exact loop_back 1 (by simp [setAll, hnext]) hlt (by show l.length - 1 < l.length - 0; omega)
theorem leaf_calls (t : Tm) (ht : t.fits) (hg : t.good) (hk : t.kids = []) (H : Heap) : ACalls Tryz.prog 250 [.agg (t.row.map .d)] H (fun r H' => H' = H ∧ r = .c (.d (.str t.wr))) := by
  obtain ⟨k, n, s, l⟩ := t
  obtain rfl : l = [] := hk
  obtain ⟨ho, _⟩ := hg
  have hpair := pairSpec_calls _ ht
  obtain ⟨hk1, hn1, hs, hl, _⟩ := ht
  refine acalls Tryz.func250 (by kernel_rfl) ac250_ok fun hf => ?_
  have h00 : inR .i64 0 := small_i64 (by omega) (by omega)
  rcases own_cases ho with ⟨rfl, n0, n1, rfl, _⟩ | ⟨rfl, n0, n1, rfl, _⟩ | ⟨rfl, rfl, hs2, _⟩
  · obtain ⟨m, rfl⟩ := Int.eq_ofNat_of_zero_le n0
    simp -implicitDefEqProofs [ac250, row_mk, go_sem, -List.set_cons_succ, -List.set_cons_zero]
    refine qcall_pure (letter_calls m (by omega)) hf rfl ?_
    simp -implicitDefEqProofs [Tm.wr, wrNode, go_sem, -List.set_cons_succ, -List.set_cons_zero]
  · simp -implicitDefEqProofs [ac250, row_mk, go_sem, -List.set_cons_succ, -List.set_cons_zero]
    refine qcall_pure (dec1_calls n (by omega) (by omega)) hf rfl ?_
    simp -implicitDefEqProofs [Tm.wr, wrNode, go_sem, -List.set_cons_succ, -List.set_cons_zero]
  · simp [row_mk] at hpair
    simp -implicitDefEqProofs [ac250, row_mk, go_sem, -List.set_cons_succ, -List.set_cons_zero]
    refine qcall_pure hpair hf rfl ?_
    have hpb : (Tm.mk 3 0 s []).pairB = false := by simp [Tm.pairB, Tm.kids]
    simp -implicitDefEqProofs [hpb, go_sem, -List.set_cons_succ, -List.set_cons_zero]
    refine loop_set (σ := Unit) (fun _ => []) (fun _ => H) (fun _ => [_]) (fun _ => True) (fun _ => 0) () rfl trivial ?_
    rintro ⟨⟩ _
    simp -implicitDefEqProofs [setAll, h00, go_sem, -List.set_cons_succ, -List.set_cons_zero]
    simp [Tm.wr, wrNode]
end Go.Proofs.YtbblefjbgbocoaaGreatDoor

/-
  Lists and terms as the reference writes them.
  Conditions: none.
-/
open Go Go.AM Go.Proofs
namespace Go.Proofs.YtbblefjbgbocoaaGreatDoor
open Go.ChangeShapes Go.WideShapes Go.ChangeAt Go.RowKit
set_option linter.unusedVariables false
set_option linter.unusedSimpArgs false
set_option maxRecDepth 100000
theorem pair_inv {t : Tm} (h : t.pairB = true) : ∃ n a b, t = .mk 3 n [46] [a, b] := by
  obtain ⟨k, n, s, l⟩ := t
  simp only [Tm.pairB, Tm.k, Tm.s, Tm.kids, Bool.and_eq_true, decide_eq_true_eq, beq_iff_eq] at h
  obtain ⟨⟨hk, rfl⟩, hl⟩ := h
  obtain rfl : k = 3 := of_decide_eq_true hk
  have hl : (l.length : Int) = 2 := of_decide_eq_true hl
  match l, show l.length = 2 by omega with
  | [a, b], _ => exact ⟨n, a, b, rfl⟩
theorem pair_wrt (n : Int) (a b : Tm) : (Tm.mk 3 n [46] [a, b]).wrt = 44 :: a.wr ++ b.wrt := by
  rw [Tm.wrt, wrs_map, wrts_map]
  simp
theorem pair_wr (n : Int) (a b : Tm) : (Tm.mk 3 n [46] [a, b]).wr = 91 :: (a.wr ++ b.wrt) ++ [93] := by
  rw [Tm.wr, wrs_map, wrts_map]
  simp [wrNode]
theorem end_wrt {t : Tm} (h : t.pairB = false) : t.wrt = if t.nilB then [] else 124 :: t.wr := by
  obtain ⟨k, n, s, l⟩ := t
  rw [Tm.wrt, Tm.wr]
  have h1 : ¬ (k = 3 ∧ s = [46] ∧ l.length = 2) := by
    rintro ⟨rfl, rfl, h2⟩
    have h3 : (l.length : Int) = 2 := by omega
    simp [Tm.pairB, Tm.k, Tm.s, Tm.kids, h3] at h
  rw [if_neg h1]
  by_cases h2 : k = 3 ∧ s = [91, 93] ∧ l = []
  · obtain ⟨rfl, rfl, rfl⟩ := h2
    simp [Tm.nilB, Tm.k, Tm.kids, Tm.s]
  · have h3 : (Tm.mk k n s l).nilB = false := by
      cases hb : (Tm.mk k n s l).nilB with
      | false => rfl
      | true =>
        simp only [Tm.nilB, Tm.k, Tm.kids, Tm.s, Bool.and_eq_true, decide_eq_true_eq, beq_iff_eq, List.isEmpty_iff] at hb
        exact absurd ⟨of_decide_eq_true hb.1.1, hb.2, hb.1.2⟩ h2
    rw [if_neg h2, h3]
    rfl
/-- a term that the writers meet -/
structure Tm.ok (t : Tm) : Prop where
  fits : t.fits
  good : t.good
  size : t.size ≤ 300
theorem Tm.ok.len {t : Tm} (h : t.ok) : t.wr.length ≤ 6000 ∧ t.wrt.length ≤ 6001 ∧ t.wr ≠ [] := by
  have := wr_len t h.good
  have := h.size
  exact ⟨by omega, by omega, (wr_len t h.good).2⟩
theorem Tm.ok.kid {k n : Int} {s : List UInt8} {l : List Tm} (h : (Tm.mk k n s l).ok) {u : Tm} (hu : u ∈ l) : u.ok ∧ u.size < (Tm.mk k n s l).size := by
  obtain ⟨h1, h2, h3⟩ := h
  have h4 := sizes_mem hu
  rw [Tm.size] at h3 ⊢
  cases h1 with
  | mk _ _ _ _ hk => cases h2 with
    | mk _ hg => exact ⟨⟨hk u hu, hg u hu, by omega⟩, by omega⟩
theorem list_calls (t : Tm) (ht : t.ok) (hp : t.pairB = true) (hT : ∀ u : Tm, u.ok → u.size < t.size → TxS u) (H : Heap) : ACalls Tryz.prog 244 [.agg (t.row.map .d)] H (fun r H' => H' = H ∧ r = .c (.d (.str t.wr))) := by
  refine acalls Tryz.func244 (by kernel_rfl) ac244_ok fun hf => ?_
  simp -implicitDefEqProofs [ac244, row_len, take_row, go_sem, -List.set_cons_succ, -List.set_cons_zero]
  refine loop_enter (St.le_token 3 4 rfl) ?_
  refine loop_set (σ := List Tm × Tm) (fun x => [(3, .c (.own (.l 1) x.1.length (x.1.map Tm.row)))]) (fun _ => H) (fun x => [.cells (x.2.row.map .d), .grow x.1.length 4])
    (fun x => x.2.ok ∧ x.1.length + x.2.size ≤ t.size ∧ (∀ u ∈ x.1, u.ok ∧ u.size < t.size) ∧ ((x.1 = [] ∧ x.2 = t) ∨ (x.1 ≠ [] ∧ t.wr = 91 :: (joinS 44 (x.1.map Tm.wr) ++ x.2.wrt) ++ [93]))) (fun x => x.2.size) ([], t) rfl ⟨ht, by simp, by simp, .inl ⟨rfl, rfl⟩⟩ ?_
  rintro ⟨l, c⟩ ⟨hc, hsz, hl, hw⟩
  simp only at hc hsz hl hw
  have hts := ht.size
  simp -implicitDefEqProofs [setAll, row_len, take_row, pure_d, re_d, go_sem, -List.set_cons_succ, -List.set_cons_zero]
  refine qcall_pure (pairSpec_calls c hc.fits) hf rfl ?_
  cases hcp : c.pairB with
  | true =>
    obtain ⟨n, a, b, rfl⟩ := pair_inv hcp
    simp -implicitDefEqProofs [row_mk, go_sem, -List.set_cons_succ, -List.set_cons_zero]
    have ha := hc.kid (u := a) (by simp)
    have hb := hc.kid (u := b) (by simp)
    have hct : (Tm.mk 3 n [46] [a, b]).size ≤ t.size := by omega
    have hcs : (Tm.mk 3 n [46] [a, b]).size = 1 + a.size + b.size := by simp [Tm.size, sizes]; omega
    refine row_int a.row (by omega) rfl (row_len _) ?_
    simp -implicitDefEqProofs [row_len, take_row, pure_d, re_d, toDs_map, hf, go_sem, -List.set_cons_succ, -List.set_cons_zero]
    refine ⟨allLen_map row_len, by unfold maxApp; omega, row_int b.row (by omega) rfl (row_len _) ?_⟩
    simp -implicitDefEqProofs [row_len, take_row, pure_d, re_d, toDs_map, hf, go_sem, -List.set_cons_succ, -List.set_cons_zero]
    refine loop_back (l ++ [a], b) (by simp [setAll]) ⟨hb.1, by simp; omega, fun u hu => ?_, .inr ⟨by simp, ?_⟩⟩ (by show b.size < (Tm.mk 3 n [46] [a, b]).size; omega)
    · rcases List.mem_append.1 hu with hu | hu
      · exact hl u hu
      · rw [List.mem_singleton.1 hu]
        exact ⟨ha.1, by omega⟩
    · simp only [List.map_append, List.map_cons, List.map_nil]
      rw [joinS_snoc]
      rcases hw with ⟨rfl, rfl⟩ | ⟨hne, hw⟩
      · rw [pair_wr]
        simp
      · rw [hw, pair_wrt, if_neg (by simpa using hne)]
        simp
  | false =>
    have hlen : (joinS 44 (l.map Tm.wr)).length ≤ 1000001 * l.length := by
      have := joinS_take l (fun u hu => by have := (hl u hu).1.len; omega) (Nat.le_refl _)
      rwa [List.take_of_length_le (by simp)] at this
    have hne : l ≠ [] := by
      rintro rfl
      rcases hw with ⟨_, rfl⟩ | ⟨h, _⟩
      · rw [hp] at hcp; cases hcp
      · exact h rfl
    obtain ⟨_, hw⟩ : l ≠ [] ∧ t.wr = 91 :: (joinS 44 (l.map Tm.wr) ++ c.wrt) ++ [93] := by
      rcases hw with ⟨h, _⟩ | h
      · exact absurd h hne
      · exact h
    have hlt : c.size < t.size := by
      have : 0 < l.length := List.length_pos_iff.2 hne
      omega
    have hargs := wargs_calls l (by omega) (fun u hu => ⟨hT u (hl u hu).1 (hl u hu).2, by have := (hl u hu).1.len; omega⟩)
    rw [end_wrt hcp] at hw
    have hcl := hc.len
    simp -implicitDefEqProofs [row_len, take_row, pure_d, re_d, go_sem, -List.set_cons_succ, -List.set_cons_zero]
    refine qcall_pure (nilSpec_calls c hc.fits) hf rfl ?_
    cases hn : c.nilB with
    | true =>
      rw [hn] at hw
      simp -implicitDefEqProofs [go_sem, -List.set_cons_succ, -List.set_cons_zero]
      refine qcall_pure hargs hf rfl ?_
      simp -implicitDefEqProofs [hw, maxStr, go_sem, -List.set_cons_succ, -List.set_cons_zero]
      omega
    | false =>
      rw [hn] at hw
      simp -implicitDefEqProofs [go_sem, -List.set_cons_succ, -List.set_cons_zero]
      refine qcall_pure hargs hf rfl ?_
      simp -implicitDefEqProofs [maxStr, row_len, take_row, pure_d, re_d, go_sem, -List.set_cons_succ, -List.set_cons_zero]
      refine ⟨by omega, by omega, qcall_pure (hT c hc hlt) hf rfl ?_⟩
      simp -implicitDefEqProofs [hw, maxStr, go_sem, -List.set_cons_succ, -List.set_cons_zero]
      omega
theorem sole_eq (t : Tm) : soleB t = (t.atomB && decide (0 < levelN t.s)) := by
  have : decide ((t.kids.length : Int) = 0) = t.kids.isEmpty := by cases t.kids <;> simp; omega
  simp only [soleB, Tm.atomB, this]
theorem infix_lv (t : Tm) {m : Int} (hm : 0 ≤ m) (hk : t.kids.length = 2 → t.k = 3) : (infixB t && decide (m < levelN t.s)) = decide (m < t.lv) := by
  unfold infixB Tm.lv
  by_cases h2 : t.kids.length = 2
  · have h3 := hk h2
    have h4 : (t.kids.length : Int) = 2 := by omega
    rw [if_pos h2, Bool.eq_iff_iff]
    simp only [Bool.and_eq_true, decide_eq_true_iff]
    exact ⟨fun h => h.2, fun h => ⟨⟨⟨h3, h4⟩, by omega⟩, h⟩⟩
  · have h4 : ¬ (t.kids.length : Int) = 2 := by omega
    rw [if_neg h2, Bool.eq_iff_iff]
    simp only [Bool.and_eq_true, decide_eq_true_iff]
    exact ⟨fun h => absurd h.1.1.2 h4, fun h => by omega⟩
theorem brk_opnd_left (t : Tm) {m : Int} (hm : 0 ≤ m) (hk : t.kids.length = 2 → t.k = 3) : (if soleB t then 40 :: t.wr ++ [41] else brk t m) = opnd t t.wr m false := by
  unfold brk opnd
  rw [infix_lv t hm hk, sole_eq]
  cases (t.atomB && decide (0 < levelN t.s)) <;> cases decide (m < t.lv) <;> rfl
theorem plain_40 : plainC 40 = true := by decide
theorem sole_not_infix {t : Tm} (h : soleB t = true) : infixB t = false := by
  cases hi : infixB t with
  | false => rfl
  | true =>
    simp only [soleB, infixB, Bool.and_eq_true, decide_eq_true_iff] at h hi
    omega
theorem brk_opnd_right (t : Tm) {m : Int} (hm : 0 ≤ m) (hk : t.kids.length = 2 → t.k = 3) : (if soleB t || !plainC ((brk t m).headD 0) then 40 :: brk t m ++ [41] else brk t m) = opnd t t.wr m true := by
  have h1 : brk t m = if decide (m < t.lv) then 40 :: t.wr ++ [41] else t.wr := by
    unfold brk
    rw [infix_lv t hm hk]
  have h2 : soleB t = true → decide (m < t.lv) = false := fun h => by
    rw [← infix_lv t hm hk, sole_not_infix h]
    rfl
  unfold opnd
  rw [← sole_eq, h1]
  cases hs : soleB t with
  | true =>
    rw [h2 hs]
    rfl
  | false =>
    cases decide (m < t.lv) with
    | true => simp [plain_40]
    | false => simp
theorem lv_range {s : List UInt8} (h : 0 < levelN s) : (levelN s = 1 ∨ levelN s = 2 ∨ levelN s = 3) ∧ (levelN s = 3 → leftMost s = 2) ∧ (levelN s ≠ 3 → leftMost s = levelN s) := by
  have h1 : levelN s = 1 ∨ levelN s = 2 ∨ levelN s = 3 := by
    unfold levelN at h ⊢
    split
    · simp
    · split
      · simp
      · split
        · simp
        · rename_i a b c; rw [if_neg a, if_neg b, if_neg c] at h; omega
  refine ⟨h1, fun h3 => ?_, fun h3 => ?_⟩
  · simp [leftMost, leftB, h3]
  · rcases h1 with h1 | h1 | h1
    · simp [leftMost, leftB, h1]
    · simp [leftMost, leftB, h1]
    · exact absurd h1 h3
theorem text_calls : ∀ (N : Nat) (t : Tm), t.size ≤ N → t.ok → TxS t := by
  intro N
  induction N with
  | zero =>
    intro t h
    obtain ⟨k, n, s, l⟩ := t
    rw [Tm.size] at h
    omega
  | succ N ih =>
    intro t hN ht H
    have hT : ∀ u : Tm, u.ok → u.size < t.size → TxS u := fun u hu h => ih u (by omega) hu
    have c1 := pairSpec_calls t ht.fits
    have c2 := infix_calls t ht.fits
    refine acalls Tryz.func242 (by kernel_rfl) ac242_ok fun hf => ?_
    simp -implicitDefEqProofs [ac242, row_len, take_row, pure_d, re_d, go_sem, -List.set_cons_succ, -List.set_cons_zero]
    refine qcall_pure c1 hf rfl ?_
    cases hp : t.pairB with
    | true =>
      simp -implicitDefEqProofs [row_len, take_row, pure_d, re_d, go_sem, -List.set_cons_succ, -List.set_cons_zero]
      refine qcall_pure (list_calls t ht hp hT) hf rfl ?_
      simp -implicitDefEqProofs [go_sem, -List.set_cons_succ, -List.set_cons_zero]
    | false =>
      simp -implicitDefEqProofs [row_len, take_row, pure_d, re_d, go_sem, -List.set_cons_succ, -List.set_cons_zero]
      refine qcall_pure c2 hf rfl ?_
      cases hi : infixB t with
      | true =>
        obtain ⟨k, n, s, l⟩ := t
        have hi2 := hi
        simp only [infixB, Tm.k, Tm.kids, Tm.s, Bool.and_eq_true, decide_eq_true_iff] at hi2
        obtain ⟨⟨hk3, hl2⟩, hlv⟩ := hi2
        obtain rfl : k = 3 := of_decide_eq_true hk3
        have hl2 : (l.length : Int) = 2 := of_decide_eq_true hl2
        have hlp : 0 < levelN s := of_decide_eq_true hlv
        clear hlv
        match l, show l.length = 2 by omega, ht, hT, hp with
        | [a, b], _, ht, hT, hp =>
          have ha := ht.kid (u := a) (by simp)
          have hb := ht.kid (u := b) (by simp)
          have hal := ha.1.len
          have hbl := hb.1.len
          obtain ⟨hr1, hr2, hr3⟩ := lv_range hlp
          have hsl : s.length ≤ 1048576 := by
            cases ht.fits with
            | mk _ _ h3 _ _ => exact h3
          have hsub : inR .i64 (levelN s - 1) := small_i64 (by omega) (by omega)
          simp -implicitDefEqProofs [row_mk, go_sem, -List.set_cons_succ, -List.set_cons_zero]
          refine qcall_pure (level_calls s) hf rfl ?_
          have hk2 : ∀ u : Tm, u.ok → u.kids.length = 2 → u.k = 3 := fun u hu h => by
            obtain ⟨k, n, s, l⟩ := u
            have hg := hu.good
            cases hg with
            | mk ho _ =>
              rcases own_cases ho with ⟨_, _, _, _, rfl⟩ | ⟨_, _, _, _, rfl⟩ | ⟨h3, _⟩
              · simp [Tm.kids] at h
              · simp [Tm.kids] at h
              · exact h3
          have hm0 : 0 ≤ leftMost s := by
            by_cases h3 : levelN s = 3
            · rw [hr2 h3]; omega
            · rw [hr3 h3]; omega
          have cl := left_calls a ha.1.fits (hT a ha.1 ha.2) (by omega) (leftMost s)
          have cr := right_calls b hb.1.fits (hT b hb.1 hb.2) hbl.2.2 (by omega) (levelN s - 1)
          rw [brk_opnd_left a hm0 (hk2 a ha.1)] at cl
          rw [brk_opnd_right b (by omega) (hk2 b hb.1)] at cr
          have hol := opnd_len a a.wr (leftMost s) false
          have hor := opnd_len b b.wr (levelN s - 1) true
          have hos := opSp_len s
          have hwr : (Tm.mk 3 n s [a, b]).wr = opnd a a.wr (leftMost s) false ++ opSp s ++ opnd b b.wr (levelN s - 1) true := by
            have hne : s ≠ [46] := by rintro rfl; simp [levelN, ops3] at hlp
            rw [Tm.wr, wrs_map, wrts_map]
            simp [wrNode, hne, hlp]
          rw [hwr]
          by_cases h3 : levelN s = 3
          · rw [hr2 h3] at cl hol
            rw [h3, show (3 : Int) - 1 = 2 from rfl] at cr hor hsub
            rw [h3, show (3 : Int) - 1 = 2 from rfl]
            have h22 : inR .i64 2 := small_i64 (by omega) (by omega)
            simp only [hr2 h3]
            simp -implicitDefEqProofs [h3, hsub, h22, go_sem, -List.set_cons_succ, -List.set_cons_zero]
            refine row_int (i := 0) a.row (by omega) rfl (row_len _) ?_
            simp -implicitDefEqProofs [row_len, take_row, pure_d, re_d, go_sem, -List.set_cons_succ, -List.set_cons_zero]
            refine qcall_pure cl hf rfl ?_
            simp -implicitDefEqProofs [go_sem, -List.set_cons_succ, -List.set_cons_zero]
            refine qcall_pure (spaced_calls s hlp) hf rfl ?_
            simp -implicitDefEqProofs [maxStr, go_sem, -List.set_cons_succ, -List.set_cons_zero]
            refine ⟨by omega, row_int (i := 1) b.row (by omega) rfl (row_len _) ?_⟩
            simp -implicitDefEqProofs [row_len, take_row, pure_d, re_d, go_sem, -List.set_cons_succ, -List.set_cons_zero]
            refine qcall_pure cr hf rfl ?_
            simp -implicitDefEqProofs [maxStr, go_sem, -List.set_cons_succ, -List.set_cons_zero]
            omega
          · rw [hr3 h3] at cl hol
            have h4 : (levelN s == 3) = false := by simpa using h3
            simp only [hr3 h3]
            simp -implicitDefEqProofs [h3, h4, hsub, go_sem, -List.set_cons_succ, -List.set_cons_zero]
            refine row_int (i := 0) a.row (by omega) rfl (row_len _) ?_
            simp -implicitDefEqProofs [row_len, take_row, pure_d, re_d, go_sem, -List.set_cons_succ, -List.set_cons_zero]
            refine qcall_pure cl hf rfl ?_
            simp -implicitDefEqProofs [go_sem, -List.set_cons_succ, -List.set_cons_zero]
            refine qcall_pure (spaced_calls s hlp) hf rfl ?_
            simp -implicitDefEqProofs [maxStr, go_sem, -List.set_cons_succ, -List.set_cons_zero]
            refine ⟨by omega, row_int (i := 1) b.row (by omega) rfl (row_len _) ?_⟩
            simp -implicitDefEqProofs [row_len, take_row, pure_d, re_d, go_sem, -List.set_cons_succ, -List.set_cons_zero]
            refine qcall_pure cr hf rfl ?_
            simp -implicitDefEqProofs [maxStr, go_sem, -List.set_cons_succ, -List.set_cons_zero]
            omega
      | false =>
        have hli : inR .i64 (t.kids.length : Int) := by
          cases ht.fits with
          | mk _ _ _ h _ => exact small_i64 (by simp only [Tm.kids]; omega) (by simp only [Tm.kids]; omega)
        by_cases hks : t.kids = []
        · have hlf := leaf_calls t ht.fits ht.good hks
          obtain ⟨k, n, s, l⟩ := t
          obtain rfl : l = [] := hks
          have h00 : inR .i64 0 := small_i64 (by omega) (by omega)
          simp [row_mk] at hlf
          by_cases hk : k = 3
          · simp -implicitDefEqProofs [row_mk, hk, h00, go_sem, -List.set_cons_succ, -List.set_cons_zero]
            subst hk
            refine qcall_pure hlf hf rfl ?_
            simp -implicitDefEqProofs [go_sem, -List.set_cons_succ, -List.set_cons_zero]
          · simp -implicitDefEqProofs [row_mk, hk, h00, go_sem, -List.set_cons_succ, -List.set_cons_zero]
            refine qcall_pure hlf hf rfl ?_
            simp -implicitDefEqProofs [go_sem, -List.set_cons_succ, -List.set_cons_zero]
        · obtain ⟨k, n, s, l⟩ := t
          have hkl : l ≠ [] := hks
          clear hks
          have hkids := fun u hu => ht.kid (k := k) (n := n) (s := s) (l := l) (u := u) hu
          obtain rfl : k = 3 := by
            cases ht.good with
            | mk ho _ =>
              rcases own_cases ho with ⟨_, _, _, _, h⟩ | ⟨_, _, _, _, h⟩ | ⟨h3, _⟩
              · exact absurd h hkl
              · exact absurd h hkl
              · exact h3
          simp only [Tm.kids] at hli
          have hsl : s.length ≤ 1048576 ∧ l.length ≤ 1048576 := by
            cases ht.fits with
            | mk _ _ h3 h4 _ => exact ⟨h3, h4⟩
          have hps : 0 < l.length := List.length_pos_iff.2 hkl
          have hpos : (0 : Int) < l.length := by omega
          have hargs := wargs_calls l hsl.2 (fun u hu => ⟨hT u (hkids u hu).1 (hkids u hu).2, by have := (hkids u hu).1.len; omega⟩)
          have hjl := joinS_take l (fun u hu => by have := (hkids u hu).1.len; omega) (Nat.le_refl _)
          rw [List.take_of_length_le (by simp)] at hjl
          have hwr : (Tm.mk 3 n s l).wr = s ++ 40 :: joinS 44 (l.map Tm.wr) ++ [41] := by
            rw [Tm.wr, wrs_map, wrts_map]
            have h1 : ¬ (s = [46] ∧ l.length = 2) := by
              rintro ⟨rfl, h⟩
              have h' : (l.length : Int) = 2 := by omega
              simp [Tm.pairB, Tm.k, Tm.s, Tm.kids, h'] at hp
            have h2 : ¬ (l.length = 2 ∧ 0 < levelN s) := by
              rintro ⟨h, h'⟩
              have h'' : (l.length : Int) = 2 := by omega
              simp [infixB, Tm.k, Tm.s, Tm.kids, h'', h'] at hi
            simp [wrNode, h1, h2, hkl]
          rw [hwr]
          simp -implicitDefEqProofs [row_mk, hli, hpos, hps, hkl, go_sem, -List.set_cons_succ, -List.set_cons_zero]
          refine ⟨by unfold maxStr; omega, qcall_pure hargs hf rfl ?_⟩
          simp -implicitDefEqProofs [maxStr, go_sem, -List.set_cons_succ, -List.set_cons_zero]
          omega
end Go.Proofs.YtbblefjbgbocoaaGreatDoor

/-
  Clauses and programs as the reference reads them.
  Conditions: none.
-/
open Go Go.AM Go.Proofs
namespace Go.Proofs.YtbblefjbgbocoaaGreatDoor
open Go.ChangeShapes Go.WideShapes Go.ChangeAt Go.RowKit
set_option linter.unusedVariables false
set_option linter.unusedSimpArgs false
set_option maxRecDepth 100000
-- 236 loop.example/prologserver/spec.l4Text params 1 ntmps 31
-- loop head live: [1,3,4]
def ac236 : Cd := .seq (.region [⟨(some 1),.box (.t 0),none⟩,
 ⟨(some 2),.mv (.k (.c (.d (.str [])))),none⟩] [0,2])
 (.seq (.region [⟨(some 5),.fieldAddr 0 (.t 1),none⟩,
 ⟨(some 6),.load (some 4) (.t 5),none⟩,
 ⟨(some 7),.qcall 242 [(.t 6)],none⟩,
 ⟨(some 3),.mv (.t 7),none⟩] [5,6,7])
 (.seq (.seq (.region [⟨(some 4),.mv (.k (.c (.d (.int .i64 0)))),none⟩] [])
 (.block 0 (.loop (.seq (.seq (.region [⟨(some 8),.mv (.t 4),none⟩,
 ⟨(some 9),.fieldAddr 4 (.t 1),none⟩,
 ⟨(some 10),.load none (.t 9),none⟩,
 ⟨(some 11),.len 1 (.t 10),none⟩,
 ⟨(some 12),.bin .lss (.t 8) (.t 11),none⟩] [8,9,10,11])
 (.cond (.t 12)
 (.skip)
 (.exit 0)))
 (.seq (.block 1 (.seq (.seq (.region [⟨(some 15),.mv (.t 4),none⟩,
 ⟨(some 16),.bin .eql (.t 15) (.k (.c (.d (.int .i64 0)))),none⟩] [12,15])
 (.cond (.t 16)
 (.region [⟨(some 17),.mv (.t 3),none⟩,
 ⟨(some 18),.bin .add (.t 17) (.k (.c (.d (.str [58,45])))),none⟩,
 ⟨(some 3),.mv (.t 18),none⟩] [16,17,18])
 (.region [⟨(some 19),.mv (.t 3),none⟩,
 ⟨(some 20),.bin .add (.t 19) (.k (.c (.d (.str [44])))),none⟩,
 ⟨(some 3),.mv (.t 20),none⟩] [16,19,20])))
 (.region [⟨(some 21),.mv (.t 3),none⟩,
 ⟨(some 22),.fieldAddr 4 (.t 1),none⟩,
 ⟨(some 23),.load none (.t 22),none⟩,
 ⟨(some 24),.mv (.t 4),none⟩,
 ⟨(some 25),.indexAddr 4 (.t 23) (.t 24),none⟩,
 ⟨(some 26),.load (some 4) (.t 25),none⟩,
 ⟨(some 27),.qcall 242 [(.t 26)],none⟩,
 ⟨(some 28),.bin .add (.t 21) (.t 27),none⟩,
 ⟨(some 3),.mv (.t 28),none⟩] [21,22,23,24,25,26,27,28])))
 (.region [⟨(some 13),.mv (.t 4),none⟩,
 ⟨(some 14),.bin .add (.t 13) (.k (.c (.d (.int .i64 1)))),none⟩,
 ⟨(some 4),.mv (.t 14),none⟩] [13,14]))))))
 (.seq (.region [⟨(some 29),.mv (.t 3),none⟩,
 ⟨(some 30),.bin .add (.t 29) (.k (.c (.d (.str [46])))),none⟩,
 ⟨(some 2),.mv (.t 30),none⟩] [3,29,30])
 (.ret))))
theorem ac236_ok : cFunc Tryz.prog [1000242] [(0,[0,2],[]),(1,[5,6,7],[]),(2,[],[]),(3,[8,9,10,11],[]),(5,[12,15],[]),(6,[16,17,18],[]),(7,[16,19,20],[]),(8,[21,22,23,24,25,26,27,28],[]),(4,[13,14],[]),(9,[3,29,30],[])] Tryz.f236 = some (ac236,[.tmp 2],31) := by kernel_rfl
-- 217 loop.example/prologserver/spec.FormatClause params 1 ntmps 8
def ac217 : Cd := .seq (.region [⟨(some 1),.box (.t 0),none⟩,
 ⟨(some 2),.mv (.k (.c (.d (.str [])))),none⟩] [0,2])
 (.seq (.seq (.region [⟨(some 3),.load (some 5) (.t 1),none⟩,
 ⟨(some 4),.qcall 134 [(.t 3)],none⟩,
 ⟨(some 5),.un .not (.t 4),none⟩] [3,4])
 (.cond (.t 5)
 (.seq (.region [⟨(some 2),.mv (.k (.c (.d (.str [])))),none⟩] [1,5])
 (.ret))
 (.skip)))
 (.seq (.region [⟨(some 6),.load (some 5) (.t 1),none⟩,
 ⟨(some 7),.qcall 236 [(.t 6)],none⟩,
 ⟨(some 2),.mv (.t 7),none⟩] [1,5,6,7])
 (.ret)))
theorem ac217_ok : cFunc Tryz.prog [1000134,1000236] [(0,[0,2],[]),(1,[3,4],[]),(2,[1,5],[]),(3,[1,5,6,7],[])] Tryz.f217 = some (ac217,[.tmp 2],8) := by kernel_rfl
-- 215 loop.example/prologserver/spec.l4Copy params 1 ntmps 28
-- loop head live: [1,2,3,4]
def ac215 : Cd := .seq (.region [⟨(some 1),.box (.t 0),none⟩,
 ⟨(some 2),.alloc [(.d (.int .i64 0)),(.d (.int .i64 0)),(.d (.str [])),(.full []),(.full [])],none⟩] [0])
 (.seq (.region [⟨(some 5),.fieldAddr 0 (.t 1),none⟩,
 ⟨(some 6),.load (some 4) (.t 5),none⟩,
 ⟨(some 7),.qcall 59 [(.t 6)],none⟩,
 ⟨(some 8),.build [(.d (.int .i64 0)),(.d (.int .i64 0)),(.d (.str [])),(.full []),(.full [])] [(0,4,(.t 7))],none⟩,
 ⟨(some 3),.alloc [(.d (.int .i64 0)),(.d (.int .i64 0)),(.d (.str [])),(.full []),(.full [])],none⟩,
 ⟨none,.store 5 (.t 3) (.t 8),none⟩] [5,6,7,8])
 (.seq (.seq (.region [⟨(some 4),.mv (.k (.c (.d (.int .i64 0)))),none⟩] [])
 (.block 0 (.loop (.seq (.seq (.region [⟨(some 9),.mv (.t 4),none⟩,
 ⟨(some 10),.fieldAddr 4 (.t 1),none⟩,
 ⟨(some 11),.load none (.t 10),none⟩,
 ⟨(some 12),.len 1 (.t 11),none⟩,
 ⟨(some 13),.bin .lss (.t 9) (.t 12),none⟩] [9,10,11,12])
 (.cond (.t 13)
 (.skip)
 (.exit 0)))
 (.seq (.block 1 (.region [⟨(some 16),.fieldAddr 4 (.t 3),none⟩,
 ⟨(some 18),.fieldAddr 4 (.t 1),none⟩,
 ⟨(some 20),.mv (.t 4),none⟩,
 ⟨(some 17),.load none (.t 16),none⟩,
 ⟨(some 19),.load none (.t 18),none⟩,
 ⟨(some 21),.indexAddr 4 (.t 19) (.t 20),none⟩,
 ⟨(some 22),.load (some 4) (.t 21),none⟩,
 ⟨(some 23),.qcall 59 [(.t 22)],none⟩,
 ⟨(some 24),.buildSlice 4 1 [(.int .i64 0),(.int .i64 0),(.str []),(.sl [])] [(0,(.t 23))],none⟩,
 ⟨(some 25),.append false 4 (.t 17) (.t 24),none⟩,
 ⟨(some 26),.fieldAddr 4 (.t 3),none⟩,
 ⟨none,.store 1 (.t 26) (.t 25),none⟩] [13,16,17,18,19,20,21,22,23,24,25,26]))
 (.region [⟨(some 14),.mv (.t 4),none⟩,
 ⟨(some 15),.bin .add (.t 14) (.k (.c (.d (.int .i64 1)))),none⟩,
 ⟨(some 4),.mv (.t 15),none⟩] [14,15]))))))
 (.seq (.region [⟨(some 27),.load (some 5) (.t 3),none⟩,
 ⟨none,.store 5 (.t 2) (.t 27),none⟩] [3,27])
 (.ret))))
theorem ac215_ok : cFunc Tryz.prog [1000059] [(0,[0],[]),(1,[5,6,7,8],[]),(2,[],[]),(3,[9,10,11,12],[]),(5,[13,16,17,18,19,20,21,22,23,24,25,26],[0,2,4,1,3,5,6,7,8,9,10,11]),(4,[14,15],[]),(6,[3,27],[])] Tryz.f215 = some (ac215,[.cell 2 (some 5)],28) := by kernel_rfl
theorem valid_tok {t : Tm} (ht : t.fits) (h : t.valid = true) : t.ok := by
  refine ⟨ht, valid_good h, ?_⟩
  simp only [Tm.valid, Bool.and_eq_true, decide_eq_true_eq] at h
  have := h.2
  omega
theorem valid_text {t : Tm} (ht : t.fits) (h : t.valid = true) : TxS t ∧ t.wr.length ≤ 2400 ∧ t.wr ≠ [] := by
  have hk := valid_tok ht h
  exact ⟨text_calls _ t (Nat.le_refl _) hk, by
    have h1 := (wr_len t hk.good).1.1
    simp only [Tm.valid, Bool.and_eq_true, decide_eq_true_eq] at h
    have h2 := h.2
    omega, hk.len.2.2⟩
theorem goalsW_snoc (W : Tm → List UInt8) : ∀ (f : Bool) (l : List Tm) (t : Tm), goalsW W f (l ++ [t]) = goalsW W f l ++ ((if (f && l.isEmpty) = true then [58, 45] else [44]) ++ W t)
  | f, [], t => by cases f <;> simp [goalsW]
  | f, a :: l, t => by simp [goalsW, goalsW_snoc W false l t]
theorem goalsW_len (W : Tm → List UInt8) : ∀ (f : Bool) (l : List Tm), (∀ t ∈ l, (W t).length ≤ 2400) → (goalsW W f l).length ≤ 2402 * l.length
  | f, [], _ => by simp [goalsW]
  | f, a :: l, h => by
    have h1 := goalsW_len W false l fun t ht => h t (by simp [ht])
    have h2 := h a (by simp)
    cases f <;> simp [goalsW] <;> omega
theorem Cl.validB.parts {c : Cl} (hv : c.validB = true) : c.head.valid = true ∧ c.body.length ≤ 6 ∧ ∀ t ∈ c.body, t.valid = true := by
  simp only [Cl.validB, Bool.and_eq_true, goalsB, List.all_eq_true, decide_eq_true_eq] at hv
  refine ⟨hv.1.1, hv.2.1, fun t ht => ?_⟩
  have := hv.2.2 t ht
  simp only [Tm.goal, Bool.and_eq_true] at this
  exact this.1
theorem l4Text_calls (c : Cl) (hc : c.fits) (hv : c.validB = true) (H : Heap) : ACalls Tryz.prog 236 [.agg (c.row.map .d)] H (fun r H' => H' = H ∧ r = .c (.d (.str (clW Tm.wr c)))) := by
  obtain ⟨h, b⟩ := c
  obtain ⟨hh, hl, hb⟩ := hc
  obtain ⟨v1, v2, v3⟩ := Cl.validB.parts hv
  simp only at hh hl hb v1 v2 v3
  obtain ⟨c1, n1, _⟩ := valid_text hh v1
  unfold TxS at c1
  rw [row_eq] at c1
  simp only [List.map_cons, List.map_nil] at c1
  have hbl : inR .i64 (b.length : Int) := small_i64 (by omega) (by omega)
  refine acalls Tryz.func236 (by kernel_rfl) ac236_ok fun hf => ?_
  simp -implicitDefEqProofs [ac236, Cl.row, go_sem, -List.set_cons_succ, -List.set_cons_zero]
  refine qcall_pure c1 hf rfl ?_
  simp -implicitDefEqProofs [go_sem, -List.set_cons_succ, -List.set_cons_zero]
  refine loop_set (σ := Nat) (fun i => [(3, .c (.d (.str (h.wr ++ goalsW Tm.wr true (b.take i))))), (4, .c (.d (.int .i64 i)))]) (fun _ => H) (fun _ => [.cells [.d (.int .i64 h.k), .d (.int .i64 h.n), .d (.str h.s), .d (.sl (h.kids.map Tm.row)), .d (.sl (b.map Tm.row))]])
    (fun i => i ≤ b.length) (fun i => b.length - i) 0 (by simp [setAll, goalsW]) (Nat.zero_le _) ?_
  intro i hi
  have hgl := goalsW_len Tm.wr true (b.take i) fun t ht => (valid_text (hb t (List.mem_of_mem_take ht)) (v3 t (List.mem_of_mem_take ht))).2.1
  have htl : (b.take i).length ≤ 6 := by simp; omega
  simp -implicitDefEqProofs [setAll, hbl, go_sem, -List.set_cons_succ, -List.set_cons_zero]
  refine ⟨fun hlt => ?_, fun hge => ?_⟩
  · have hadd : inR .i64 ((i : Int) + 1) := small_i64 (by omega) (by omega)
    obtain ⟨c2, n2, _⟩ := valid_text (hb _ (List.getElem_mem hlt)) (v3 _ (List.getElem_mem hlt))
    have hw : goalsW Tm.wr true (b.take (i + 1)) = goalsW Tm.wr true (b.take i) ++ ((if i = 0 then [58, 45] else [44]) ++ b[i].wr) := by
      rw [List.take_succ_eq_append_getElem hlt, goalsW_snoc]
      congr 2
      by_cases h0 : i = 0
      · subst h0; simp
      · have : (b.take i).isEmpty = false := by
          cases hx : b.take i with
          | nil => have := congrArg List.length hx; rw [List.length_take, List.length_nil] at this; omega
          | cons _ _ => rfl
        simp [this, h0]
    simp -implicitDefEqProofs [maxStr, go_sem, -List.set_cons_succ, -List.set_cons_zero]
    refine ⟨fun h0 => ⟨by omega, ?_⟩, fun h0 => ⟨by omega, ?_⟩⟩
    all_goals
      refine row_of hlt (row_len _) ?_
      simp -implicitDefEqProofs [row_len, take_row, pure_d, re_d, hf, go_sem, -List.set_cons_succ, -List.set_cons_zero]
      refine qcall_pure c2 hf rfl ?_
      simp -implicitDefEqProofs [maxStr, hadd, go_sem, -List.set_cons_succ, -List.set_cons_zero]
      refine ⟨by omega, ?_⟩
      refine loop_back (i + 1) ?_ hlt (by show b.length - (i + 1) < b.length - i; omega)
      simp [setAll]
      rw [hw]
      simp [h0]
  · obtain rfl : i = b.length := by omega
    simp at hgl
    simp -implicitDefEqProofs [maxStr, clW, go_sem, -List.set_cons_succ, -List.set_cons_zero]
    omega
theorem fmtC_calls (c : Cl) (hc : c.fits) (H : Heap) : ACalls Tryz.prog 217 [.agg (c.row.map .d)] H (fun r H' => H' = H ∧ r = .c (.d (.str (if c.validB = true then clW Tm.wr c else [])))) := by
  have c1 := cvSpec_calls c hc
  have c2 := l4Text_calls c hc
  obtain ⟨h, b⟩ := c
  simp only [Cl.row, List.map_cons, List.map_nil] at c1 c2
  refine acalls Tryz.func217 (by kernel_rfl) ac217_ok fun hf => ?_
  simp -implicitDefEqProofs [ac217, Cl.row, go_sem, -List.set_cons_succ, -List.set_cons_zero]
  refine qcall_pure c1 hf rfl ?_
  cases hv : Cl.validB ⟨h, b⟩ with
  | false => simp -implicitDefEqProofs [go_sem, -List.set_cons_succ, -List.set_cons_zero]
  | true =>
    simp -implicitDefEqProofs [go_sem, -List.set_cons_succ, -List.set_cons_zero]
    refine qcall_pure (c2 hv) hf rfl ?_
    simp -implicitDefEqProofs [go_sem, -List.set_cons_succ, -List.set_cons_zero]
theorem clCopy_calls (c : Cl) (hc : c.fits) (H : Heap) : ACalls Tryz.prog 215 [.agg (c.row.map .d)] H (fun r H' => H' = H ∧ r = .agg (c.row.map .d)) := by
  obtain ⟨h, b⟩ := c
  obtain ⟨hh, hl, hb⟩ := hc
  simp only at hh hl hb
  have c1 := copy_calls h hh
  rw [row_eq] at c1
  simp only [List.map_cons, List.map_nil] at c1
  have hbl : inR .i64 (b.length : Int) := small_i64 (by omega) (by omega)
  refine acalls Tryz.func215 (by kernel_rfl) ac215_ok fun hf => ?_
  simp -implicitDefEqProofs [ac215, Cl.row, hf, go_sem, -List.set_cons_succ, -List.set_cons_zero]
  refine qcall_pure c1 hf (by simp [A.re, C.re]) ?_
  simp -implicitDefEqProofs [hf, go_sem, -List.set_cons_succ, -List.set_cons_zero]
  refine loop_enter (St.le_tokenC 2 4 4 rfl rfl) ?_
  refine loop_set (σ := Nat) (fun i => [(4, .c (.d (.int .i64 i)))]) (fun _ => H) (fun i => [.cells [.d (.int .i64 h.k), .d (.int .i64 h.n), .d (.str h.s), .d (.sl (h.kids.map Tm.row)), .d (.sl (b.map Tm.row))], .cells [.d (.int .i64 0), .d (.int .i64 0), .d (.str []), .full [], .full []], .cells [.d (.int .i64 h.k), .d (.int .i64 h.n), .d (.str h.s), .d (.sl (h.kids.map Tm.row)), .own (.l 3) i ((b.map Tm.row).take i)], .grow i 4])
    (fun i => i ≤ b.length) (fun i => b.length - i) 0 rfl (Nat.zero_le _) ?_
  intro i hi
  simp -implicitDefEqProofs [setAll, hbl, go_sem, -List.set_cons_succ, -List.set_cons_zero]
  refine ⟨fun hlt => ?_, fun hge => ?_⟩
  · have hadd : inR .i64 ((i : Int) + 1) := small_i64 (by omega) (by omega)
    refine row_of hlt (row_len _) ?_
    simp -implicitDefEqProofs [row_len, take_row, pure_d, re_d, hf, go_sem, -List.set_cons_succ, -List.set_cons_zero]
    refine qcall_pure (copy_calls b[i] (hb _ (List.getElem_mem hlt))) hf (by simp [A.re, re_d]) ?_
    simp -implicitDefEqProofs [row_len, toDs_map, hadd, hf, Nat.min_eq_left hi, go_sem, -List.set_cons_succ, -List.set_cons_zero]
    refine ⟨fun r hr => allLen_map row_len r (List.mem_of_mem_take hr), by unfold maxApp; omega, ?_⟩
    refine loop_back (i + 1) ?_ hlt (by show b.length - (i + 1) < b.length - i; omega)
    simp [setAll, take_map_succ hlt]
  · have hil : i = b.length := by omega
    subst hil
    rw [show (b.map Tm.row).take b.length = b.map Tm.row from List.take_of_length_le (by simp)]
    simp -implicitDefEqProofs [hf, go_sem, -List.set_cons_succ, -List.set_cons_zero]
end Go.Proofs.YtbblefjbgbocoaaGreatDoor

/-
  Clauses as the reference reads them.
  Conditions: none.
-/
open Go Go.AM Go.Proofs
namespace Go.Proofs.YtbblefjbgbocoaaGreatDoor
open Go.ChangeShapes Go.WideShapes Go.ChangeAt Go.RowKit
set_option linter.unusedVariables false
set_option linter.unusedSimpArgs false
set_option maxRecDepth 100000
-- 186 loop.example/prologserver/spec.ParseClause params 1 ntmps 58
def ac186 : Cd := .seq (.region [⟨(some 2),.alloc [(.d (.int .i64 0)),(.d (.int .i64 0)),(.d (.str [])),(.full []),(.full [])],none⟩,
 ⟨(some 3),.mv (.k (.c (.d (.bool false)))),none⟩] [3])
 (.seq (.seq (.region [⟨(some 7),.mv (.t 0),none⟩,
 ⟨(some 8),.len 0 (.t 7),none⟩,
 ⟨(some 9),.bin .gtr (.t 8) (.k (.c (.d (.int .i64 1000)))),none⟩] [7,8])
 (.cond (.t 9)
 (.seq (.region [⟨(some 10),.build [(.d (.int .i64 0)),(.d (.int .i64 0)),(.d (.str [])),(.full []),(.full [])] [],none⟩,
 ⟨none,.store 5 (.t 2) (.t 10),none⟩,
 ⟨(some 3),.mv (.k (.c (.d (.bool false)))),none⟩] [0,9,10])
 (.ret))
 (.skip)))
 (.seq (.region [⟨(some 12),.mv (.t 0),none⟩,
 ⟨(some 13),.qcall 108 [(.t 12),(.k (.c (.d (.int .i64 0)))),(.k (.c (.d (.int .i64 30)))),(.k (.c (.d (.int .i64 3))))],none⟩,
 ⟨(some 11),.mv (.t 13),none⟩,
 ⟨(some 14),.extract 0 (.t 11),none⟩,
 ⟨(some 15),.extract 1 (.t 11),none⟩,
 ⟨(some 4),.alloc [(.d (.int .i64 0)),(.d (.int .i64 0)),(.d (.str [])),(.full [])],none⟩,
 ⟨none,.store 4 (.t 4) (.t 14),none⟩,
 ⟨(some 5),.mv (.t 15),none⟩] [3,9,11,12,13,14,15])
 (.seq (.seq (.region [⟨(some 16),.mv (.t 5),none⟩,
 ⟨(some 17),.bin .lss (.t 16) (.k (.c (.d (.int .i64 0)))),none⟩] [16])
 (.cond (.t 17)
 (.seq (.region [⟨(some 18),.build [(.d (.int .i64 0)),(.d (.int .i64 0)),(.d (.str [])),(.full []),(.full [])] [],none⟩,
 ⟨none,.store 5 (.t 2) (.t 18),none⟩,
 ⟨(some 3),.mv (.k (.c (.d (.bool false)))),none⟩] [0,4,5,17,18])
 (.ret))
 (.skip)))
 (.seq (.region [⟨(some 19),.load (some 4) (.t 4),none⟩,
 ⟨(some 20),.build [(.d (.int .i64 0)),(.d (.int .i64 0)),(.d (.str [])),(.full []),(.full [])] [(0,4,(.t 19))],none⟩,
 ⟨(some 6),.alloc [(.d (.int .i64 0)),(.d (.int .i64 0)),(.d (.str [])),(.full []),(.full [])],none⟩,
 ⟨none,.store 5 (.t 6) (.t 20),none⟩] [3,4,17,19,20])
 (.seq (.seq (.region [⟨(some 21),.mv (.t 0),none⟩,
 ⟨(some 22),.mv (.t 5),none⟩,
 ⟨(some 23),.qcall 106 [(.t 21),(.t 22),(.k (.c (.d (.int .u8 58))))],none⟩,
 ⟨(some 24),.mv (.t 23),none⟩,
 ⟨(some 25),.mv (.t 0),some (24,true)⟩,
 ⟨(some 26),.mv (.t 5),some (24,true)⟩,
 ⟨(some 27),.bin .add (.t 26) (.k (.c (.d (.int .i64 1)))),some (24,true)⟩,
 ⟨(some 28),.qcall 106 [(.t 25),(.t 27),(.k (.c (.d (.int .u8 45))))],some (24,true)⟩,
 ⟨(some 29),.pick (.t 24) (.t 28) (.k (.c (.d (.bool false)))),none⟩] [21,22,23,24,25,26,27,28])
 (.cond (.t 29)
 (.region [⟨(some 31),.mv (.t 0),none⟩,
 ⟨(some 32),.mv (.t 5),none⟩,
 ⟨(some 33),.bin .add (.t 32) (.k (.c (.d (.int .i64 2)))),none⟩,
 ⟨(some 34),.qcall 58 [(.t 31),(.t 33)],none⟩,
 ⟨(some 30),.mv (.t 34),none⟩,
 ⟨(some 35),.extract 0 (.t 30),none⟩,
 ⟨(some 36),.extract 1 (.t 30),none⟩,
 ⟨(some 37),.fieldAddr 4 (.t 6),none⟩,
 ⟨none,.store 1 (.t 37) (.t 35),none⟩,
 ⟨(some 5),.mv (.t 36),none⟩] [29,30,31,32,33,34,35,36,37])
 (.skip)))
 (.seq (.seq (.region [⟨(some 38),.mv (.t 5),none⟩,
 ⟨(some 39),.mv (.t 0),none⟩,
 ⟨(some 40),.len 0 (.t 39),none⟩,
 ⟨(some 41),.bin .sub (.t 40) (.k (.c (.d (.int .i64 1)))),none⟩,
 ⟨(some 42),.bin .neq (.t 38) (.t 41),none⟩,
 ⟨(some 43),.mv (.t 42),none⟩,
 ⟨(some 44),.mv (.t 0),some (43,false)⟩,
 ⟨(some 45),.mv (.t 5),some (43,false)⟩,
 ⟨(some 46),.qcall 106 [(.t 44),(.t 45),(.k (.c (.d (.int .u8 46))))],some (43,false)⟩,
 ⟨(some 47),.un .not (.t 46),some (43,false)⟩,
 ⟨(some 48),.pick (.t 43) (.k (.c (.d (.bool true)))) (.t 47),none⟩,
 ⟨(some 49),.mv (.t 48),none⟩,
 ⟨(some 50),.load (some 5) (.t 6),some (49,false)⟩,
 ⟨(some 51),.qcall 217 [(.t 50)],some (49,false)⟩,
 ⟨(some 52),.mv (.t 0),some (49,false)⟩,
 ⟨(some 53),.bin .neq (.t 51) (.t 52),some (49,false)⟩,
 ⟨(some 54),.pick (.t 49) (.k (.c (.d (.bool true)))) (.t 53),none⟩] [0,5,29,38,39,40,41,42,43,44,45,46,47,48,49,50,51,52,53])
 (.cond (.t 54)
 (.seq (.region [⟨(some 55),.build [(.d (.int .i64 0)),(.d (.int .i64 0)),(.d (.str [])),(.full []),(.full [])] [],none⟩,
 ⟨none,.store 5 (.t 2) (.t 55),none⟩,
 ⟨(some 3),.mv (.k (.c (.d (.bool false)))),none⟩] [6,54,55])
 (.ret))
 (.skip)))
 (.seq (.region [⟨(some 56),.load (some 5) (.t 6),none⟩,
 ⟨(some 57),.qcall 215 [(.t 56)],none⟩,
 ⟨none,.store 5 (.t 2) (.t 57),none⟩,
 ⟨(some 3),.mv (.k (.c (.d (.bool true)))),none⟩] [6,54,56,57])
 (.ret))))))))
theorem ac186_ok : cFunc Tryz.prog [1000058,1000106,1000108,1000215,1000217] [(0,[3],[]),(1,[7,8],[]),(2,[0,9,10],[]),(3,[3,9,11,12,13,14,15],[]),(4,[16],[]),(5,[0,4,5,17,18],[]),(6,[3,4,17,19,20],[]),(7,[21,22,23,24,25,26,27,28],[]),(8,[29,30,31,32,33,34,35,36,37],[]),(9,[0,5,29,38,39,40,41,42,43,44,45,46,47,48,49,50,51,52,53],[]),(10,[6,54,55],[]),(11,[6,54,56,57],[])] Tryz.f186 = some (ac186,[.cell 2 (some 5),.tmp 3],58) := by kernel_rfl
def zCl : Cl := ⟨.mk 0 0 [] [], []⟩
def clA : Option Cl → A
  | some c => .tup [.agg (c.row.map .d), .c (.d (.bool true))]
  | none => .tup [.agg (zCl.row.map .d), .c (.d (.bool false))]
theorem goalsR_ok2 (s : List UInt8) (hs : s.length ≤ 1000000) (i : Nat) (hi : i ≤ s.length) {ts : List Tm} {k : Nat} (h : goalsR s 7 i = some (ts, k)) : k ≤ s.length ∧ ts.length ≤ 7 ∧ (∀ t ∈ ts, t.fits) :=
  let ⟨a, b, c, _⟩ := goalsR_ok s hs 7 i ts k hi h
  ⟨a, b, c⟩
theorem clauseR_fits (s : List UInt8) (hs : s.length ≤ 1000000) {c : Cl} (h : clauseR Tm.wr s = some c) : c.fits ∧ c.validB = true := by
  unfold clauseR at h
  have key : ∀ (c0 : Cl) (j : Nat), c0.fits → clauseB Tm.wr s c0 j = some c → c.fits ∧ c.validB = true := by
    intro c0 j h0 h1
    unfold clauseB at h1
    split at h1
    · rename_i hc
      simp only [Bool.and_eq_true] at hc
      cases h1
      exact ⟨h0, hc.1.2⟩
    · cases h1
  split at h
  · cases h
  · obtain ⟨r, hr, hpost⟩ := rdF_ok s hs 0 30 (by omega)
    rw [hr] at h
    cases r with
    | bad e => cases h
    | ok us j =>
      obtain ⟨g1, g2, t, rfl, g3⟩ := hpost
      simp only [Rs.tm] at h
      split at h
      · rename_i hsg
        have hj : j + 1 < s.length := by
          simp only [Bool.and_eq_true] at hsg
          exact sgn_lt hsg.2
        split at h
        · rename_i b k hg
          obtain ⟨q1, q2, q3⟩ := goalsR_ok2 s hs (j + 2) (by omega) hg
          exact key ⟨t, b⟩ k ⟨g3, by show b.length ≤ 1048576; omega, q3⟩ h
        · cases h
      · exact key ⟨t, []⟩ j ⟨g3, by simp, by simp⟩ h
theorem pcSpec_calls (s : List UInt8) (hs : s.length ≤ 1000000) (H : Heap) : ACalls Tryz.prog 186 [.c (.d (.str s))] H (fun r H' => H' = H ∧ r = clA (clauseR Tm.wr s)) := by
  refine acalls Tryz.func186 (by kernel_rfl) ac186_ok fun hf => ?_
  have hli : inR .i64 (s.length : Int) := small_i64 (by omega) (by omega)
  have hl1 : inR .i64 ((s.length : Int) - 1) := small_i64 (by omega) (by omega)
  unfold clauseR
  by_cases h1000 : 1000 < s.length
  · have h1 : (1000 : Int) < s.length := by omega
    simp -implicitDefEqProofs [ac186, hli, h1, h1000, hf, clA, zCl, Cl.row, Tm.k, Tm.n, Tm.s, Tm.kids, go_sem, -List.set_cons_succ, -List.set_cons_zero]
  · have h1 : ¬ (1000 : Int) < s.length := by omega
    rw [if_neg h1000]
    obtain ⟨r, hr, hpost⟩ := rdF_ok s hs 0 30 (by omega)
    have c1 := (par s hs _).read 0 30 3 r (by omega) (by omega) (by omega) hr
    simp only [Int.cast_ofNat_Int] at c1
    rw [hr]
    simp -implicitDefEqProofs [ac186, hli, h1, go_sem, -List.set_cons_succ, -List.set_cons_zero]
    refine qcall_pure c1 hf (readA_re _ _) ?_
    cases r with
    | bad e =>
      have he : e ≤ s.length := hpost
      have hneg : (-1 - (e : Int)) < 0 := by omega
      simp -implicitDefEqProofs [readA, hneg, row_mk, clA, zCl, Cl.row, Tm.k, Tm.n, Tm.s, Tm.kids, hf, go_sem, -List.set_cons_succ, -List.set_cons_zero]
    | ok us j =>
      obtain ⟨g1, g2, t, rfl, g3⟩ := hpost
      obtain ⟨k, n, nm, l⟩ := t
      have hj0 : ¬ (j : Int) < 0 := by omega
      have hj1 : inR .i64 ((j : Int) + 1) := small_i64 (by omega) (by omega)
      have hj2 : inR .i64 ((j : Int) + 2) := small_i64 (by omega) (by omega)
      simp -implicitDefEqProofs [readA, Rs.tm, hj0, row_mk, hf, go_sem, -List.set_cons_succ, -List.set_cons_zero]
      refine qcall_pure (sign_calls s hs j (by omega) 58) hf rfl ?_
      have cd2 := sign_calls s hs (j + 1) (by omega) 45
      simp only [Int.natCast_add, Int.cast_ofNat_Int] at cd2
      cases hsg : sgn s j 58 with
      | false =>
        simp -implicitDefEqProofs [hj1, hf, hl1, hli, go_sem, -List.set_cons_succ, -List.set_cons_zero]
        have hft : (⟨.mk k n nm l, []⟩ : Cl).fits := ⟨g3, by simp, by simp⟩
        have cf := fmtC_calls _ hft
        have cc := clCopy_calls _ hft
        simp only [Cl.row, Tm.k, Tm.n, Tm.s, Tm.kids, List.map_cons, List.map_nil] at cf cc
        refine ⟨fun he => ⟨he, ?_⟩, fun he => ?_⟩
        · have he2 : j + 1 = s.length := by omega
          refine qcall_pure (sign_calls s hs j (by omega) 46) hf rfl ?_
          cases hs4 : sgn s j 46 with
          | false => simp -implicitDefEqProofs [clauseB, hs4, clA, zCl, Cl.row, Tm.k, Tm.n, Tm.s, Tm.kids, hf, go_sem, -List.set_cons_succ, -List.set_cons_zero]
          | true =>
            simp -implicitDefEqProofs [hf, go_sem, -List.set_cons_succ, -List.set_cons_zero]
            refine qcall_pure cf hf rfl ?_
            cases hv : Cl.validB ⟨.mk k n nm l, []⟩ with
            | false =>
              have hne : ¬ ([] : List UInt8) = s := fun h => by
                rw [← h] at he2
                simp at he2
              have hne2 : ¬ s = ([] : List UInt8) := fun h => hne h.symm
              simp -implicitDefEqProofs [clauseB, hs4, hv, hne, hne2, clA, zCl, Cl.row, Tm.k, Tm.n, Tm.s, Tm.kids, hf, go_sem, -List.set_cons_succ, -List.set_cons_zero]
            | true =>
              simp -implicitDefEqProofs [hf, go_sem, -List.set_cons_succ, -List.set_cons_zero]
              refine ⟨fun hw => ?_, fun hw => ?_⟩
              · simp -implicitDefEqProofs [clauseB, hs4, hv, hw, he2, clA, zCl, Cl.row, Tm.k, Tm.n, Tm.s, Tm.kids, hf, go_sem, -List.set_cons_succ, -List.set_cons_zero]
              · refine qcall_pure cc hf (by simp [A.re, C.re]) ?_
                simp -implicitDefEqProofs [clauseB, hs4, hv, hw, he2, clA, zCl, Cl.row, Tm.k, Tm.n, Tm.s, Tm.kids, hf, go_sem, -List.set_cons_succ, -List.set_cons_zero]
        · have he2 : ¬ j + 1 = s.length := by omega
          simp [clauseB, he2, clA, zCl, Cl.row, Tm.k, Tm.n, Tm.s, Tm.kids]
      | true =>
        simp -implicitDefEqProofs [hj1, hf, go_sem, -List.set_cons_succ, -List.set_cons_zero]
        refine qcall_pure cd2 hf rfl ?_
        cases hsg2 : sgn s (j + 1) 45 with
        | false =>
          simp -implicitDefEqProofs [hf, hl1, hli, go_sem, -List.set_cons_succ, -List.set_cons_zero]
          have hft : (⟨.mk k n nm l, []⟩ : Cl).fits := ⟨g3, by simp, by simp⟩
          have cf := fmtC_calls _ hft
          have cc := clCopy_calls _ hft
          simp only [Cl.row, Tm.k, Tm.n, Tm.s, Tm.kids, List.map_cons, List.map_nil] at cf cc
          refine ⟨fun he => ⟨he, ?_⟩, fun he => ?_⟩
          · have he2 : j + 1 = s.length := by omega
            refine qcall_pure (sign_calls s hs j (by omega) 46) hf rfl ?_
            cases hs4 : sgn s j 46 with
            | false => simp -implicitDefEqProofs [clauseB, hs4, clA, zCl, Cl.row, Tm.k, Tm.n, Tm.s, Tm.kids, hf, go_sem, -List.set_cons_succ, -List.set_cons_zero]
            | true =>
              simp -implicitDefEqProofs [hf, go_sem, -List.set_cons_succ, -List.set_cons_zero]
              refine qcall_pure cf hf rfl ?_
              cases hv : Cl.validB ⟨.mk k n nm l, []⟩ with
              | false =>
                have hne : ¬ ([] : List UInt8) = s := fun h => by
                  rw [← h] at he2
                  simp at he2
                have hne2 : ¬ s = ([] : List UInt8) := fun h => hne h.symm
                simp -implicitDefEqProofs [clauseB, hs4, hv, hne, hne2, clA, zCl, Cl.row, Tm.k, Tm.n, Tm.s, Tm.kids, hf, go_sem, -List.set_cons_succ, -List.set_cons_zero]
              | true =>
                simp -implicitDefEqProofs [hf, go_sem, -List.set_cons_succ, -List.set_cons_zero]
                refine ⟨fun hw => ?_, fun hw => ?_⟩
                · simp -implicitDefEqProofs [clauseB, hs4, hv, hw, he2, clA, zCl, Cl.row, Tm.k, Tm.n, Tm.s, Tm.kids, hf, go_sem, -List.set_cons_succ, -List.set_cons_zero]
                · refine qcall_pure cc hf (by simp [A.re, C.re]) ?_
                  simp -implicitDefEqProofs [clauseB, hs4, hv, hw, he2, clA, zCl, Cl.row, Tm.k, Tm.n, Tm.s, Tm.kids, hf, go_sem, -List.set_cons_succ, -List.set_cons_zero]
          · have he2 : ¬ j + 1 = s.length := by omega
            simp [clauseB, he2, clA, zCl, Cl.row, Tm.k, Tm.n, Tm.s, Tm.kids]
        | true =>
          have hjl := sgn_lt hsg2
          have cg := l4Goals_calls s hs (j + 2) (by omega)
          simp only [Int.natCast_add, Int.cast_ofNat_Int] at cg
          simp -implicitDefEqProofs [hj2, hf, go_sem, -List.set_cons_succ, -List.set_cons_zero]
          cases hg : goalsR s 7 (j + 2) with
          | none =>
            rw [hg] at cg
            refine qcall_pure cg hf (by simp [goalsA, A.re, A.res, C.re]) ?_
            have hm : ¬ (-1 : Int) = (s.length : Int) - 1 := by omega
            simp -implicitDefEqProofs [goalsA, hf, hl1, hli, hm, clA, zCl, Cl.row, Tm.k, Tm.n, Tm.s, Tm.kids, go_sem, -List.set_cons_succ, -List.set_cons_zero]
          | some q =>
            obtain ⟨b, e⟩ := q
            rw [hg] at cg
            obtain ⟨q1, q2, q3⟩ := goalsR_ok2 s hs (j + 2) (by omega) hg
            refine qcall_pure cg hf (by simp [goalsA, A.re, A.res, C.re]) ?_
            simp -implicitDefEqProofs [goalsA, hf, hl1, hli, go_sem, -List.set_cons_succ, -List.set_cons_zero]
            have hft : (⟨.mk k n nm l, b⟩ : Cl).fits := ⟨g3, by show b.length ≤ 1048576; omega, q3⟩
            have cf := fmtC_calls _ hft
            have cc := clCopy_calls _ hft
            simp only [Cl.row, Tm.k, Tm.n, Tm.s, Tm.kids, List.map_cons, List.map_nil] at cf cc
            refine ⟨fun he => ⟨he, ?_⟩, fun he => ?_⟩
            · have he2 : e + 1 = s.length := by omega
              refine qcall_pure (sign_calls s hs e (by omega) 46) hf rfl ?_
              cases hs4 : sgn s e 46 with
              | false => simp -implicitDefEqProofs [clauseB, hs4, clA, zCl, Cl.row, Tm.k, Tm.n, Tm.s, Tm.kids, hf, go_sem, -List.set_cons_succ, -List.set_cons_zero]
              | true =>
                simp -implicitDefEqProofs [hf, go_sem, -List.set_cons_succ, -List.set_cons_zero]
                refine qcall_pure cf hf rfl ?_
                cases hv : Cl.validB ⟨.mk k n nm l, b⟩ with
                | false =>
                  have hne : ¬ ([] : List UInt8) = s := fun h => by
                    rw [← h] at he2
                    simp at he2
                  have hne2 : ¬ s = ([] : List UInt8) := fun h => hne h.symm
                  simp -implicitDefEqProofs [clauseB, hs4, hv, hne, hne2, clA, zCl, Cl.row, Tm.k, Tm.n, Tm.s, Tm.kids, hf, go_sem, -List.set_cons_succ, -List.set_cons_zero]
                | true =>
                  simp -implicitDefEqProofs [hf, go_sem, -List.set_cons_succ, -List.set_cons_zero]
                  refine ⟨fun hw => ?_, fun hw => ?_⟩
                  · simp -implicitDefEqProofs [clauseB, hs4, hv, hw, he2, clA, zCl, Cl.row, Tm.k, Tm.n, Tm.s, Tm.kids, hf, go_sem, -List.set_cons_succ, -List.set_cons_zero]
                  · refine qcall_pure cc hf (by simp [A.re, C.re]) ?_
                    simp -implicitDefEqProofs [clauseB, hs4, hv, hw, he2, clA, zCl, Cl.row, Tm.k, Tm.n, Tm.s, Tm.kids, hf, go_sem, -List.set_cons_succ, -List.set_cons_zero]
            · have he2 : ¬ e + 1 = s.length := by omega
              simp [clauseB, he2, clA, zCl, Cl.row, Tm.k, Tm.n, Tm.s, Tm.kids]
end Go.Proofs.YtbblefjbgbocoaaGreatDoor

/-
  Programs as the reference reads them.
  Conditions: none.
-/
open Go Go.AM Go.Proofs
namespace Go.Proofs.YtbblefjbgbocoaaGreatDoor
open Go.ChangeShapes Go.WideShapes Go.ChangeAt Go.RowKit
set_option linter.unusedVariables false
set_option linter.unusedSimpArgs false
set_option maxRecDepth 100000
-- 153 loop.example/prologserver/spec.ParseProgram params 1 ntmps 48
-- loop head live: [4,5,6]
def ac153 : Cd := .seq (.region [⟨(some 2),.mv (.k (.c (.full []))),none⟩,
 ⟨(some 3),.mv (.k (.c (.d (.bool false)))),none⟩] [2,3])
 (.seq (.region [⟨(some 9),.buildSlice 5 0 [(.int .i64 0),(.int .i64 0),(.str []),(.sl []),(.sl [])] [],none⟩,
 ⟨(some 4),.mv (.t 9),none⟩] [9])
 (.seq (.region [⟨(some 10),.mv (.t 0),none⟩,
 ⟨(some 11),.qcall 56 [(.t 10),(.k (.c (.d (.int .u8 10))))],none⟩,
 ⟨(some 5),.mv (.t 11),none⟩] [0,10,11])
 (.seq (.seq (.region [⟨(some 12),.mv (.t 5),none⟩,
 ⟨(some 13),.len 1 (.t 12),none⟩,
 ⟨(some 14),.bin .gtr (.t 13) (.k (.c (.d (.int .i64 21)))),none⟩,
 ⟨(some 15),.mv (.t 14),none⟩,
 ⟨(some 16),.mv (.t 5),some (15,false)⟩,
 ⟨(some 17),.mv (.t 5),some (15,false)⟩,
 ⟨(some 18),.len 1 (.t 17),some (15,false)⟩,
 ⟨(some 19),.bin .sub (.t 18) (.k (.c (.d (.int .i64 1)))),some (15,false)⟩,
 ⟨(some 20),.indexAddr 1 (.t 16) (.t 19),some (15,false)⟩,
 ⟨(some 21),.load none (.t 20),some (15,false)⟩,
 ⟨(some 22),.bin .neq (.t 21) (.k (.c (.d (.str [])))),some (15,false)⟩,
 ⟨(some 23),.pick (.t 15) (.k (.c (.d (.bool true)))) (.t 22),none⟩] [12,13,14,15,16,17,18,19,20,21,22])
 (.cond (.t 23)
 (.seq (.region [⟨(some 24),.mv (.t 4),none⟩,
 ⟨(some 2),.mv (.t 24),none⟩,
 ⟨(some 3),.mv (.k (.c (.d (.bool false)))),none⟩] [4,5,23,24])
 (.ret))
 (.skip)))
 (.seq (.seq (.region [⟨(some 6),.mv (.k (.c (.d (.int .i64 0)))),none⟩] [2,3,23])
 (.block 0 (.loop (.seq (.seq (.region [⟨(some 25),.mv (.t 6),none⟩,
 ⟨(some 26),.bin .add (.t 25) (.k (.c (.d (.int .i64 1)))),none⟩,
 ⟨(some 27),.mv (.t 5),none⟩,
 ⟨(some 28),.len 1 (.t 27),none⟩,
 ⟨(some 29),.bin .lss (.t 26) (.t 28),none⟩] [25,26,27,28])
 (.cond (.t 29)
 (.skip)
 (.exit 0)))
 (.seq (.block 1 (.seq (.region [⟨(some 33),.mv (.t 5),none⟩,
 ⟨(some 34),.mv (.t 6),none⟩,
 ⟨(some 35),.indexAddr 1 (.t 33) (.t 34),none⟩,
 ⟨(some 36),.load none (.t 35),none⟩,
 ⟨(some 37),.qcall 186 [(.t 36)],none⟩,
 ⟨(some 32),.mv (.t 37),none⟩,
 ⟨(some 38),.extract 0 (.t 32),none⟩,
 ⟨(some 39),.extract 1 (.t 32),none⟩,
 ⟨(some 7),.alloc [(.d (.int .i64 0)),(.d (.int .i64 0)),(.d (.str [])),(.full []),(.full [])],none⟩,
 ⟨none,.store 5 (.t 7) (.t 38),none⟩,
 ⟨(some 8),.mv (.t 39),none⟩] [29,32,33,34,35,36,37,38,39])
 (.seq (.seq (.region [⟨(some 40),.mv (.t 8),none⟩,
 ⟨(some 41),.un .not (.t 40),none⟩] [8,40])
 (.cond (.t 41)
 (.seq (.region [⟨(some 42),.buildSlice 5 0 [(.int .i64 0),(.int .i64 0),(.str []),(.sl []),(.sl [])] [],none⟩,
 ⟨(some 2),.mv (.t 42),none⟩,
 ⟨(some 3),.mv (.k (.c (.d (.bool false)))),none⟩] [4,5,6,7,41,42])
 (.ret))
 (.skip)))
 (.region [⟨(some 43),.mv (.t 4),none⟩,
 ⟨(some 44),.load (some 5) (.t 7),none⟩,
 ⟨(some 45),.buildSlice 5 1 [(.int .i64 0),(.int .i64 0),(.str []),(.sl []),(.sl [])] [(0,(.t 44))],none⟩,
 ⟨(some 46),.append false 5 (.t 43) (.t 45),none⟩,
 ⟨(some 4),.mv (.t 46),none⟩] [2,3,7,41,43,44,45,46]))))
 (.region [⟨(some 30),.mv (.t 6),none⟩,
 ⟨(some 31),.bin .add (.t 30) (.k (.c (.d (.int .i64 1)))),none⟩,
 ⟨(some 6),.mv (.t 31),none⟩] [30,31]))))))
 (.seq (.region [⟨(some 47),.mv (.t 4),none⟩,
 ⟨(some 2),.mv (.t 47),none⟩,
 ⟨(some 3),.mv (.k (.c (.d (.bool true)))),none⟩] [4,47])
 (.ret))))))
theorem ac153_ok : cFunc Tryz.prog [1000056,1000186] [(0,[2,3],[]),(1,[9],[]),(2,[0,10,11],[]),(3,[12,13,14,15,16,17,18,19,20,21,22],[]),(4,[4,5,23,24],[]),(5,[2,3,23],[]),(6,[25,26,27,28],[]),(8,[29,32,33,34,35,36,37,38,39],[]),(9,[8,40],[]),(10,[4,5,6,7,41,42],[]),(11,[2,3,7,41,43,44,45,46],[]),(7,[30,31],[]),(12,[4,47],[])] Tryz.f153 = some (ac153,[.tmp 2,.tmp 3],48) := by kernel_rfl
theorem linesR_cons (W : Tm → List UInt8) (a b : List UInt8) (l : List (List UInt8)) : linesR W (a :: b :: l) = match clauseR W a, linesR W (b :: l) with | some c, some p => some (c :: p) | _, _ => none := rfl
def progA (x : List Cl × Bool) : A := .tup [.c (.d (.sl (x.1.map Cl.row))), .c (.d (.bool x.2))]
def pre (out : List Cl) : Option (List Cl) → List Cl × Bool
  | some p => (out ++ p, true)
  | none => ([], false)
theorem cut_mem (c : UInt8) : ∀ s : List UInt8, ∀ l ∈ cutAt c s, l.length ≤ s.length
  | [], l, h => by
    simp [cutAt] at h
    subst h
    simp
  | b :: s, l, h => by
    have ih := cut_mem c s
    rw [cutAt] at h
    split at h
    · rcases List.mem_cons.1 h with rfl | h
      · simp
      · have := ih l h; simp; omega
    · cases hc : cutAt c s with
      | nil => exact absurd hc (cutAt_ne c s)
      | cons x r =>
        rw [hc] at h ih
        rcases List.mem_cons.1 h with rfl | h
        · have := ih x (by simp); simp; omega
        · have := ih l (by simp [h]); simp; omega
theorem cutAt_len (c : UInt8) : ∀ s : List UInt8, (cutAt c s).length ≤ s.length + 1
  | [] => by simp [cutAt]
  | b :: s => by
    have ih := cutAt_len c s
    rw [cutAt]
    split
    · simp; omega
    · cases hc : cutAt c s with
      | nil => simp
      | cons x r => rw [hc] at ih; simp at ih ⊢; omega
set_option maxHeartbeats 1600000 in
theorem ppSpec_calls (s : List UInt8) (hs : s.length ≤ 1000000) (H : Heap) : ACalls Tryz.prog 153 [.c (.d (.str s))] H (fun r H' => H' = H ∧ r = progA (progR Tm.wr s)) := by
  refine acalls Tryz.func153 (by kernel_rfl) ac153_ok fun hf => ?_
  have c1 := cut_calls s (by omega) 10
  have e10 : ((10 : UInt8).toNat : Int) = 10 := rfl
  rw [e10] at c1
  have hmem := cut_mem 10 s
  have hlen := cutAt_len 10 s
  have hne := cutAt_ne 10 s
  unfold progR
  generalize cutAt 10 s = L at *
  have hll : inR .i64 (L.length : Int) := small_i64 (by omega) (by omega)
  have hl1 : inR .i64 ((L.length : Int) - 1) := small_i64 (by omega) (by omega)
  have hlp : 1 ≤ L.length := by cases L with
    | nil => exact absurd rfl hne
    | cons a l => simp
  simp -implicitDefEqProofs [ac153, go_sem, -List.set_cons_succ, -List.set_cons_zero]
  refine qcall_pure c1 hf rfl ?_
  by_cases h21 : 21 < L.length
  · have h21' : (21 : Int) < L.length := by omega
    simp -implicitDefEqProofs [hll, hl1, h21, h21', progA, hf, go_sem, -List.set_cons_succ, -List.set_cons_zero]
    refine row_off [.str []] ?_
    simp -implicitDefEqProofs [hf, go_sem, -List.set_cons_succ, -List.set_cons_zero]
  · have h21' : ¬ (21 : Int) < L.length := by omega
    simp -implicitDefEqProofs [hll, hl1, h21, h21', hf, go_sem, -List.set_cons_succ, -List.set_cons_zero]
    have hlast : L[L.length - 1]? = some (L.getLastD []) := by
      cases L with
      | nil => exact absurd rfl hne
      | cons a l => rw [← List.getLast?_eq_getElem?]; simp [List.getLastD_eq_getLast?, List.getLast?_cons]
    refine row_int [.str (L.getLastD [])] (by omega) (by rw [show ((L.length : Int) - 1).toNat = L.length - 1 by omega, List.getElem?_map, hlast]; rfl) rfl ?_
    cases hlx : L.getLastD [] with
    | cons y ys =>
      have hlx2 : ¬ L.getLast?.getD [] = [] := by rw [List.getLastD_eq_getLast?] at hlx; rw [hlx]; simp
      simp -implicitDefEqProofs [progA, hlx, hlx2, hf, go_sem, -List.set_cons_succ, -List.set_cons_zero]
    | nil =>
      have hlx2 : L.getLast?.getD [] = [] := by rw [List.getLastD_eq_getLast?] at hlx; exact hlx
      simp -implicitDefEqProofs [hlx2, hf, go_sem, -List.set_cons_succ, -List.set_cons_zero]
      refine loop_enter (St.le_token 4 5 rfl) ?_
      have hres : linesR Tm.wr L = linesR Tm.wr (L.drop 0) := rfl
      refine loop_set (σ := Nat × List Cl) (fun x => [(6, .c (.d (.int .i64 x.1))), (4, .c (.own (.l 0) x.2.length (x.2.map Cl.row)))]) (fun _ => H) (fun x => [.grow x.2.length 5])
        (fun x => x.1 + 1 ≤ L.length ∧ x.2.length = x.1 ∧ pre x.2 (linesR Tm.wr (L.drop x.1)) = pre [] (linesR Tm.wr L)) (fun x => L.length - x.1) (0, []) (by simp [setAll]) ⟨hlp, rfl, rfl⟩ ?_
      rintro ⟨i, out⟩ ⟨hi, hol, hpre⟩
      simp only at hi hol hpre
      have hadd : inR .i64 ((i : Int) + 1) := small_i64 (by omega) (by omega)
      have hgoal : (match linesR Tm.wr L with | some p => (p, true) | none => ([], false)) = pre [] (linesR Tm.wr L) := by
        cases linesR Tm.wr L <;> rfl
      have hg2 : ∀ r, r = progA (pre [] (linesR Tm.wr L)) → r = progA (match linesR Tm.wr L with | some p => (p, true) | none => ([], false)) := fun r h => by rw [hgoal]; exact h
      simp -implicitDefEqProofs [setAll, hll, hadd, go_sem, -List.set_cons_succ, -List.set_cons_zero]
      refine ⟨fun hlt => ?_, fun hge => ?_⟩
      · have hlt2 : i < L.length := by omega
        have hdr : L.drop i = L[i] :: L[i + 1] :: L.drop (i + 2) := by
          rw [List.drop_eq_getElem_cons hlt2, List.drop_eq_getElem_cons (by omega : i + 1 < L.length)]
        have hdr2 : L.drop (i + 1) = L[i + 1] :: L.drop (i + 2) := List.drop_eq_getElem_cons (by omega)
        rw [hdr, linesR_cons, ← hdr2] at hpre
        have hll2 : (L[i]).length ≤ 1000000 := by
          have := hmem _ (List.getElem_mem hlt2)
          omega
        refine row_of hlt2 rfl ?_
        simp -implicitDefEqProofs [strRow, hf, go_sem, -List.set_cons_succ, -List.set_cons_zero]
        refine qcall_pure (pcSpec_calls L[i] hll2) hf (by cases clauseR Tm.wr L[i] <;> simp [clA, A.re, A.res, C.re, re_d]) ?_
        cases hc : clauseR Tm.wr L[i] with
        | none =>
          simp -implicitDefEqProofs [clA, zCl, Cl.row, Tm.k, Tm.n, Tm.s, Tm.kids, hf, go_sem, -List.set_cons_succ, -List.set_cons_zero]
          refine hg2 _ ?_
          rw [← hpre, hc]
          cases linesR Tm.wr (L.drop (i + 1)) <;> rfl
        | some c =>
          rw [hc] at hpre
          simp -implicitDefEqProofs [clA, crow_len, take_crow, toDs_map, hadd, hf, go_sem, -List.set_cons_succ, -List.set_cons_zero]
          refine ⟨allLen_map crow_len, by unfold maxApp; omega, ?_⟩
          refine loop_less (i + 1, out ++ [c]) (St.le_cut [_] ?_ (by simp [Sl.le, A.le_refl_iff, A.le_u_iff, As.lo, A.lo, C.lo, Ref.lo, Cs.lo, Obs.lo, Ob.lo, setAll, and_true, true_and, List.length_nil, List.length_cons]) (by simp; rfl) (by simp [Sl.le, A.le_refl_iff, A.le_u_iff, As.lo, A.lo, C.lo, Ref.lo, Cs.lo, Obs.lo, Ob.lo, setAll, and_true, true_and, List.length_nil, List.length_cons])) ⟨by dsimp only; omega, by simp; omega, ?_⟩ (by show L.length - (i + 1) < L.length - i; omega)
          · simp [setAll, Sl.le, A.le_refl_iff, A.le_u_iff, As.lo, A.lo, C.lo, Ref.lo, Cs.lo, Obs.lo, Ob.lo, setAll, and_true, true_and, List.length_nil, List.length_cons]
          · rw [← hpre]
            simp only
            cases linesR Tm.wr (L.drop (i + 1)) with
            | none => rfl
            | some p => simp [pre]
      · refine hg2 _ ?_
        obtain rfl : i = L.length - 1 := by omega
        have hd1 : L.drop (L.length - 1) = [L.getLastD []] := by
          rw [List.drop_eq_getElem_cons (by omega)]
          have := hlast
          rw [List.getElem?_eq_getElem (by omega)] at this
          rw [Option.some.inj this, List.drop_eq_nil_of_le (by omega)]
        rw [← hpre, hd1]
        simp [linesR, pre, progA]
end Go.Proofs.YtbblefjbgbocoaaGreatDoor

/-
  Terms that are drawn: copies that are changed.
  Conditions: none.
-/
open Go Go.AM Go.Proofs
namespace Go.Proofs.YtbblefjbgbocoaaGreatDoor
open Go.ChangeShapes Go.WideShapes Go.ChangeAt Go.RowKit
set_option linter.unusedVariables false
set_option linter.unusedSimpArgs false
set_option maxRecDepth 100000
-- 123 loop.example/prologserver/spec.l1Some params 1 ntmps 8
def ac123 : Cd := .seq (.region [⟨(some 2),.alloc [(.d (.int .i64 0)),(.d (.int .i64 0)),(.d (.str [])),(.full [])],none⟩] [])
 (.seq (.region [⟨(some 3),.mv (.t 0),none⟩,
 ⟨(some 4),.mv (.t 0),none⟩,
 ⟨(some 5),.buildSlice 1 4 [(.int .i64 0)] [(0,(.k (.c (.d (.int .i64 3))))),(1,(.k (.c (.d (.int .i64 2))))),(2,(.k (.c (.d (.int .i64 4))))),(3,(.k (.c (.d (.int .i64 1)))))],none⟩,
 ⟨(some 6),.call false 90 [(.t 4),(.t 5)],none⟩,
 ⟨(some 7),.call false 73 [(.t 3),(.t 6)],none⟩,
 ⟨none,.store 4 (.t 2) (.t 7),none⟩] [0,3,4,5,6,7])
 (.ret))
theorem ac123_ok : cFunc Tryz.prog [] [(0,[],[]),(1,[0,3,4,5,6,7],[])] Tryz.f123 = some (ac123,[.cell 2 (some 4)],8) := by kernel_rfl
-- 122 loop.example/prologserver/spec.l1Mutate params 2 ntmps 51
-- loop head live: [4,5]
-- loop head live: [4,5,6]
def ac122 : Cd := .seq (.region [⟨(some 3),.box (.t 1),none⟩,
 ⟨(some 4),.alloc [(.d (.int .i64 0)),(.d (.int .i64 0)),(.d (.str [])),(.full [])],none⟩] [1])
 (.seq (.region [⟨(some 7),.load (some 4) (.t 3),none⟩,
 ⟨(some 8),.call false 59 [(.t 7)],none⟩,
 ⟨(some 5),.alloc [(.d (.int .i64 0)),(.d (.int .i64 0)),(.d (.str [])),(.full [])],none⟩,
 ⟨none,.store 4 (.t 5) (.t 8),none⟩] [3,7,8])
 (.seq (.seq (.region [⟨(some 9),.mv (.t 0),none⟩,
 ⟨(some 10),.call false 43 [(.t 9),(.k (.c (.d (.int .i64 50))))],none⟩] [9])
 (.block 0 (.seq (.region [⟨(some 12),.bin .eql (.t 10) (.k (.c (.d (.int .i64 0)))),none⟩,
 ⟨(some 11),.mv (.t 12),none⟩] [12])
 (.cond (.t 11)
 (.region [⟨(some 13),.mv (.t 0),none⟩,
 ⟨(some 14),.buildSlice 1 5 [(.int .i64 0)] [(0,(.k (.c (.d (.int .i64 0))))),(1,(.k (.c (.d (.int .i64 4))))),(2,(.k (.c (.d (.int .i64 1))))),(3,(.k (.c (.d (.int .i64 2))))),(4,(.k (.c (.d (.int .i64 3)))))],none⟩,
 ⟨(some 15),.call false 90 [(.t 13),(.t 14)],none⟩,
 ⟨(some 16),.fieldAddr 0 (.t 5),none⟩,
 ⟨none,.store 1 (.t 16) (.t 15),none⟩] [0,10,11,13,14,15,16])
 (.seq (.region [⟨(some 18),.bin .eql (.t 10) (.k (.c (.d (.int .i64 1)))),none⟩,
 ⟨(some 17),.mv (.t 18),none⟩] [11,18])
 (.cond (.t 17)
 (.region [⟨(some 19),.mv (.t 0),none⟩,
 ⟨(some 20),.buildSlice 1 5 [(.int .i64 0)] [(0,(.k (.c (.d (.int .i64 26))))),(1,(.k (.c (.d (.int .i64 1000))))),(2,(.k (.c (.d (.int .i64 (-1000)))))),(3,(.k (.c (.d (.int .i64 (-1)))))),(4,(.k (.c (.d (.int .i64 1)))))],none⟩,
 ⟨(some 21),.call false 90 [(.t 19),(.t 20)],none⟩,
 ⟨(some 22),.fieldAddr 1 (.t 5),none⟩,
 ⟨none,.store 1 (.t 22) (.t 21),none⟩] [0,10,17,19,20,21,22])
 (.seq (.region [⟨(some 24),.bin .eql (.t 10) (.k (.c (.d (.int .i64 2)))),none⟩,
 ⟨(some 23),.mv (.t 24),none⟩] [17,24])
 (.cond (.t 23)
 (.region [⟨(some 25),.mv (.t 0),none⟩,
 ⟨(some 26),.buildSlice 1 5 [(.str [])] [(0,(.k (.c (.d (.str []))))),(1,(.k (.c (.d (.str [88]))))),(2,(.k (.c (.d (.str [116,111,111,108,111,110,103]))))),(3,(.k (.c (.d (.str [195,169]))))),(4,(.k (.c (.d (.str [97])))))],none⟩,
 ⟨(some 27),.call false 91 [(.t 25),(.t 26)],none⟩,
 ⟨(some 28),.fieldAddr 2 (.t 5),none⟩,
 ⟨none,.store 1 (.t 28) (.t 27),none⟩] [0,10,23,25,26,27,28])
 (.seq (.region [⟨(some 30),.bin .eql (.t 10) (.k (.c (.d (.int .i64 3)))),none⟩,
 ⟨(some 29),.mv (.t 30),none⟩] [0,23,30])
 (.cond (.t 29)
 (.block 1 (.loop (.seq (.seq (.region [⟨(some 31),.fieldAddr 3 (.t 5),none⟩,
 ⟨(some 32),.load none (.t 31),none⟩,
 ⟨(some 33),.len 1 (.t 32),none⟩,
 ⟨(some 34),.bin .leq (.t 33) (.k (.c (.d (.int .i64 4)))),none⟩] [31,32,33])
 (.cond (.t 34)
 (.skip)
 (.exit 1)))
 (.block 2 (.region [⟨(some 35),.fieldAddr 3 (.t 5),none⟩,
 ⟨(some 36),.load none (.t 35),none⟩,
 ⟨(some 37),.qcall 125 [(.k (.c (.d (.int .i64 1))))],none⟩,
 ⟨(some 38),.buildSlice 4 1 [(.int .i64 0),(.int .i64 0),(.str []),(.sl [])] [(0,(.t 37))],none⟩,
 ⟨(some 39),.append false 4 (.t 36) (.t 38),none⟩,
 ⟨(some 40),.fieldAddr 3 (.t 5),none⟩,
 ⟨none,.store 1 (.t 40) (.t 39),none⟩] [34,35,36,37,38,39,40])))))
 (.seq (.region [⟨(some 42),.bin .eql (.t 10) (.k (.c (.d (.int .i64 4)))),none⟩,
 ⟨(some 41),.mv (.t 42),none⟩] [10,29,42])
 (.cond (.t 41)
 (.seq (.region [⟨(some 6),.mv (.k (.c (.d (.int .i64 0)))),none⟩] [41])
 (.block 3 (.loop (.seq (.seq (.region [⟨(some 43),.mv (.t 6),none⟩,
 ⟨(some 44),.bin .lss (.t 43) (.k (.c (.d (.int .i64 30)))),none⟩] [43])
 (.cond (.t 44)
 (.skip)
 (.exit 3)))
 (.seq (.block 4 (.region [⟨(some 47),.load (some 4) (.t 5),none⟩,
 ⟨(some 48),.buildSlice 4 1 [(.int .i64 0),(.int .i64 0),(.str []),(.sl [])] [(0,(.t 47))],none⟩,
 ⟨(some 49),.qcall 96 [(.k (.c (.d (.str [115])))),(.t 48)],none⟩,
 ⟨none,.store 4 (.t 5) (.t 49),none⟩] [44,47,48,49]))
 (.region [⟨(some 45),.mv (.t 6),none⟩,
 ⟨(some 46),.bin .add (.t 45) (.k (.c (.d (.int .i64 1)))),none⟩,
 ⟨(some 6),.mv (.t 46),none⟩] [45,46]))))))
 (.skip)))))))))))))
 (.seq (.region [⟨(some 50),.load (some 4) (.t 5),none⟩,
 ⟨none,.store 4 (.t 4) (.t 50),none⟩] [5,41,50])
 (.ret))))
theorem ac122_ok : cFunc Tryz.prog [1000096,1000125] [(0,[1],[]),(1,[3,7,8],[]),(2,[9],[]),(3,[12],[]),(4,[0,10,11,13,14,15,16],[]),(5,[11,18],[]),(6,[0,10,17,19,20,21,22],[]),(7,[17,24],[]),(8,[0,10,23,25,26,27,28],[]),(9,[0,23,30],[]),(10,[31,32,33],[]),(11,[34,35,36,37,38,39,40],[0,1,2,3,4,5,6]),(12,[10,29,42],[]),(13,[41],[]),(14,[43],[]),(16,[44,47,48,49],[]),(15,[45,46],[]),(17,[5,41,50],[])] Tryz.f122 = some (ac122,[.cell 4 (some 4)],51) := by kernel_rfl
theorem Draws.mono {f : FuncId} {xs : List A} {N N' : Int} {R : A → Prop} (h : Draws f xs N R) (hN : N ≤ N') : Draws f xs N' R := fun c p H i hc hp hp1 hi =>
  (h c p H i hc hp (by omega) hi).mono fun r H' ⟨h1, p', h2, h3, h4⟩ => ⟨h1, p', h2, by omega, h4⟩
theorem l1Some_draws : Draws 123 [] 1281 TmR := fun c p H i hc hp hp1 hi => by
  refine acalls Tryz.func123 (by kernel_rfl) ac123_ok fun hf => ?_
  simp only [List.length_set] at hf
  have hf0 : ∀ q, Obs.fits H.length 0 (H.set i (Rd c q)) := fun q => fits_reset (b := Rd c q) hf ⟨trivial, trivial, trivial⟩
  simp -implicitDefEqProofs [ac123, hf0, go_sem, -List.set_cons_succ, -List.set_cons_zero]
  refine call_drawE (num_draws [3, 2, 4, 1] (by decide)) hc (by omega) (by omega) hi (by simp [Ob.re, C.re]) (fun r ⟨n, _, hn⟩ => by subst hn; rfl) (hf0 _) ?_
  rintro _ p1 ⟨n, hn, rfl⟩ h1 h2
  obtain ⟨d, rfl, hd⟩ : ∃ d : Nat, n = (d : Int) ∧ d ≤ 4 := ⟨n.toNat, by simp at hn; omega, by simp at hn; omega⟩
  have hdr : Draws 73 [.c (.d (.int .i64 d))] 1280 TmR := (l1Draw_draws d (by omega)).mono (by
    have : 4 ^ d ≤ 4 ^ 4 := Nat.pow_le_pow_right (by omega) hd
    omega)
  simp -implicitDefEqProofs [hf0, go_sem, -List.set_cons_succ, -List.set_cons_zero]
  refine call_drawE hdr hc (by omega) (by omega) hi (by simp [Ob.re, C.re]) (fun r => TmR.re) (hf0 _) ?_
  rintro _ p2 ⟨t, rfl, ht⟩ h3 h4
  rw [row_eq]
  simp -implicitDefEqProofs [hf0, go_sem, -List.set_cons_succ, -List.set_cons_zero]
  exact ⟨⟨t, by rw [row_eq]; rfl, ht⟩, p2, by omega, by omega, rfl⟩
theorem copy_own (k n : Int) (s : List UInt8) (l : List Tm) (hfits : (Tm.mk k n s l).fits) (H : Heap) : ACalls Tryz.prog 59 [.agg ((Tm.mk k n s l).row.map .d)] H (fun r H' =>
    H' = H ++ [.cells [.d (.int .i64 k), .d (.int .i64 n), .d (.str s), .d (.sl (l.map Tm.row))], .cells [.d (.int .i64 k), .d (.int .i64 n), .d (.str s), .own (.e (H.length + 3)) l.length (l.map Tm.row)], .cells [.d (.int .i64 k), .d (.int .i64 n), .d (.str s), .own (.e (H.length + 3)) l.length (l.map Tm.row)], .grow l.length 4] ∧
    r = .agg [.d (.int .i64 k), .d (.int .i64 n), .d (.str s), .own (.e (H.length + 3)) l.length (l.map Tm.row)]) := by
  obtain ⟨hk, hn, hs, hl, hkids⟩ := hfits
  refine acallsK Tryz.func59 (by kernel_rfl) ac59_ok fun hf => ?_
  have hli : inR .i64 (l.length : Int) := small_i64 (by omega) (by omega)
  simp -implicitDefEqProofs [ac59, row_mk, hf, hli, go_sem, -List.set_cons_succ, -List.set_cons_zero]
  refine loop_enter (St.le_tokenC 2 3 4 rfl rfl) ?_
  refine loop_set (σ := Nat) (fun i => [(4, .c (.d (.int .i64 i)))]) (fun _ => H) (fun i => [.cells [.d (.int .i64 k), .d (.int .i64 n), .d (.str s), .d (.sl (l.map Tm.row))], .cells [.d (.int .i64 0), .d (.int .i64 0), .d (.str []), .full []], .cells [.d (.int .i64 k), .d (.int .i64 n), .d (.str s), .own (.l 3) i ((l.map Tm.row).take i)], .grow i 4])
    (fun i => i ≤ l.length) (fun i => l.length - i) 0 rfl (Nat.zero_le _) ?_
  intro i hi
  simp -implicitDefEqProofs [setAll, hli, go_sem, -List.set_cons_succ, -List.set_cons_zero]
  refine ⟨fun hlt => ?_, fun hge => ?_⟩
  · have hadd : inR .i64 ((i : Int) + 1) := small_i64 (by omega) (by omega)
    refine row_of hlt (row_len _) ?_
    simp -implicitDefEqProofs [row_len, take_row, pure_d, re_d, go_sem, -List.set_cons_succ, -List.set_cons_zero]
    refine qcall_pure (copy_calls l[i] (hkids _ (List.getElem_mem hlt))) hf (by simp [A.re, re_d]) ?_
    simp -implicitDefEqProofs [row_len, toDs_map, hadd, hf, Nat.min_eq_left hi, go_sem, -List.set_cons_succ, -List.set_cons_zero]
    refine ⟨fun r hr => allLen_map row_len r (List.mem_of_mem_take hr), by unfold maxApp; omega, ?_⟩
    refine loop_back (i + 1) ?_ hlt (by show l.length - (i + 1) < l.length - i; omega)
    simp [setAll, take_map_succ hlt]
  · have hil : i = l.length := by omega
    subst hil
    rw [show (l.map Tm.row).take l.length = l.map Tm.row from List.take_of_length_le (by simp)]
    simp -implicitDefEqProofs [hf, go_sem, -List.set_cons_succ, -List.set_cons_zero]
    refine finK_ret _ ⟨trivial, trivial⟩ rfl ?_
    simp [Ob.re, C.re, A.re, Ref.re]
theorem l1Mutate_draws (t : Tm) (ht : t.fits) : Draws 122 [.agg (t.row.map .d)] 2 TmR := fun c p H i hc hp hp1 hi => by
  obtain ⟨k, n, s, l⟩ := t
  refine acalls Tryz.func122 (by kernel_rfl) ac122_ok fun hf => ?_
  simp only [List.length_set] at hf
  have hf0 : ∀ q, Obs.fits H.length 0 (H.set i (Rd c q)) := fun q => fits_reset (b := Rd c q) hf ⟨trivial, trivial, trivial⟩
  have hf1 : ∀ q, Obs.fits (H.set i (Rd c q)).length 0 (H.set i (Rd c q)) := fun q => by simpa using hf0 q
  have hcopy := copy_own k n s l ht
  obtain ⟨hk, hn, hs, hl, hkids⟩ := ht
  rw [row_mk] at hcopy ⊢
  simp -implicitDefEqProofs [ac122, hf0, go_sem, -List.set_cons_succ, -List.set_cons_zero]
  have done : ∀ (t : Tm) (q : Int), p ≤ q → q ≤ p + 2 → t.fits → ∀ r, r = .agg (t.row.map .d) → Drew TmR 2 c p H i r (H.set i (Rd c q)) := fun t q a1 a2 a3 r hr => ⟨⟨t, hr, a3⟩, q, a1, a2, rfl⟩
  refine (hcopy _).mono fun r H' ⟨g1, g2⟩ => ⟨H.set i (Rd c p), [.cells [.d (.int .i64 k), .d (.int .i64 n), .d (.str s), .d (.sl (l.map Tm.row))], .cells [.d (.int .i64 0), .d (.int .i64 0), .d (.str []), .full []], .cells [.d (.int .i64 k), .d (.int .i64 n), .d (.str s), .d (.sl (l.map Tm.row))], .cells [.d (.int .i64 k), .d (.int .i64 n), .d (.str s), .own (.l 5) l.length (l.map Tm.row)], .cells [.d (.int .i64 k), .d (.int .i64 n), .d (.str s), .own (.l 5) l.length (l.map Tm.row)], .grow l.length 4],
    .agg [.d (.int .i64 k), .d (.int .i64 n), .d (.str s), .own (.l 5) l.length (l.map Tm.row)], by rw [g1]; simp [Ob.re, C.re, Ref.re], by simp, by simp, by simpa using hf0 p, by rw [g2]; simp [A.re, C.re, Ref.re], ?_⟩
  clear hcopy
  simp -implicitDefEqProofs [hf0, go_sem, -List.set_cons_succ, -List.set_cons_zero]
  refine call_drawE (pick_draws 50 (by omega)) hc (by omega) (by omega) hi (by simp [Ob.re, C.re, Ref.re]) (fun r => IntIn.re) (hf0 _) ?_
  rintro _ p1 ⟨m, rfl, m0, m1⟩ h1 h2
  simp -implicitDefEqProofs [hf0, go_sem, -List.set_cons_succ, -List.set_cons_zero]
  refine ⟨fun _ => ?_, fun _ => ⟨fun _ => ?_, fun _ => ⟨fun _ => ?_, fun _ => ⟨fun _ => ?_, fun _ => ⟨fun _ => ?_, fun _ => ?_⟩⟩⟩⟩⟩
  · refine call_drawE (num_draws [0, 4, 1, 2, 3] (by decide)) hc (by omega) (by omega) hi (by simp [Ob.re, C.re]) (fun r ⟨n, _, hn⟩ => by subst hn; rfl) (hf0 _) ?_
    rintro _ p2 ⟨x, hx, rfl⟩ h3 h4
    have hx : -1000 ≤ x ∧ x ≤ 1000 := by simp at hx; omega
    simp -implicitDefEqProofs [hf0, go_sem, -List.set_cons_succ, -List.set_cons_zero]
    exact done (.mk x n s l) p2 (by omega) (by omega) (.mk (small_i64 (by omega) (by omega)) hn hs hl hkids) _ (by simp [row_mk])
  · refine call_drawE (num_draws [26, 1000, -1000, -1, 1] (by decide)) hc (by omega) (by omega) hi (by simp [Ob.re, C.re]) (fun r ⟨n, _, hn⟩ => by subst hn; rfl) (hf0 _) ?_
    rintro _ p2 ⟨x, hx, rfl⟩ h3 h4
    have hx : -1000 ≤ x ∧ x ≤ 1000 := by simp at hx; omega
    simp -implicitDefEqProofs [hf0, go_sem, -List.set_cons_succ, -List.set_cons_zero]
    exact done (.mk k x s l) p2 (by omega) (by omega) (.mk hk (small_i64 (by omega) (by omega)) hs hl hkids) _ (by simp [row_mk])
  · refine call_drawE (of_draws [[], [88], [116, 111, 111, 108, 111, 110, 103], [195, 169], [97]] (by decide)) hc (by omega) (by omega) hi (by simp [Ob.re, C.re]) (fun r ⟨n, _, hn⟩ => by subst hn; rfl) (hf0 _) ?_
    rintro _ p2 ⟨x, hx, rfl⟩ h3 h4
    have hx : x.length ≤ 1000 := by simp at hx; rcases hx with rfl | rfl | rfl | rfl | rfl <;> decide
    simp -implicitDefEqProofs [hf0, go_sem, -List.set_cons_succ, -List.set_cons_zero]
    exact done (.mk k n x l) p2 (by omega) (by omega) (.mk hk hn (by omega) hl hkids) _ (by simp [row_mk])
  · refine loop_set (σ := List Tm) (fun _ => []) (fun _ => H.set i (Rd c p1)) (fun y => [.cells [.d (.int .i64 k), .d (.int .i64 n), .d (.str s), .d (.sl (l.map Tm.row))], .cells [.d (.int .i64 0), .d (.int .i64 0), .d (.str []), .full []], .cells [.d (.int .i64 k), .d (.int .i64 n), .d (.str s), .d (.sl (l.map Tm.row))], .cells [.d (.int .i64 k), .d (.int .i64 n), .d (.str s), .own (.l 5) l.length (l.map Tm.row)], .cells [.d (.int .i64 k), .d (.int .i64 n), .d (.str s), .own (.l 5) l.length (l.map Tm.row)], .grow y.length 4, .cells [.d (.int .i64 k), .d (.int .i64 n), .d (.str s), .own (.l 5) y.length (y.map Tm.row)]])
      (fun y => y.length ≤ 1048576 ∧ ∀ t ∈ y, t.fits) (fun y => 5 - y.length) l rfl ⟨hl, hkids⟩ ?_
    rintro y ⟨hy, hyf⟩
    have hly : inR .i64 (y.length : Int) := small_i64 (by omega) (by omega)
    simp -implicitDefEqProofs [setAll, hf0, hly, go_sem, -List.set_cons_succ, -List.set_cons_zero]
    refine ⟨fun hlt => ?_, fun hge => ?_⟩
    · refine qcall_pure (int_calls 1) (hf1 _) (by simp [A.re, re_d]) ?_
      simp -implicitDefEqProofs [hf0, row_mk, go_sem, -List.set_cons_succ, -List.set_cons_zero]
      refine ⟨allLen_map row_len, by unfold maxApp; omega, ?_⟩
      refine loop_back (y ++ [Tm.mk 2 1 [] []]) (by simp [setAll, row_mk]) ⟨by simp; omega, fun t ht => ?_⟩ (by show 5 - (y ++ [Tm.mk 2 1 [] []]).length < 5 - y.length; simp; omega)
      rcases List.mem_append.1 ht with ht | ht
      · exact hyf t ht
      · simp at ht; subst ht; exact .mk (small_i64 (by omega) (by omega)) (small_i64 (by omega) (by omega)) (by simp) (by simp) (by simp)
    · exact done (.mk k n s y) p1 (by omega) (by omega) (.mk hk hn hs hy hyf) _ (by simp [row_mk])
  · refine loop_set (σ := Nat × Tm) (fun x => [(6, .c (.d (.int .i64 x.1)))]) (fun _ => H.set i (Rd c p1)) (fun x => [.cells [.d (.int .i64 k), .d (.int .i64 n), .d (.str s), .d (.sl (l.map Tm.row))], .cells [.d (.int .i64 0), .d (.int .i64 0), .d (.str []), .full []], .cells [.d (.int .i64 k), .d (.int .i64 n), .d (.str s), .d (.sl (l.map Tm.row))], .cells [.d (.int .i64 k), .d (.int .i64 n), .d (.str s), .own (.l 5) l.length (l.map Tm.row)], .cells [.d (.int .i64 k), .d (.int .i64 n), .d (.str s), .own (.l 5) l.length (l.map Tm.row)], .grow l.length 4, .cells (if x.1 = 0 then [.d (.int .i64 k), .d (.int .i64 n), .d (.str s), .own (.l 5) l.length (l.map Tm.row)] else x.2.row.map .d)])
      (fun x => x.1 ≤ 30 ∧ x.2.fits ∧ (x.1 = 0 → x.2 = .mk k n s l)) (fun x => 30 - x.1) (0, Tm.mk k n s l) rfl ⟨by omega, .mk hk hn hs hl hkids, fun _ => rfl⟩ ?_
    rintro ⟨j, u⟩ ⟨hj, hu, hj0⟩
    simp only at hj hu hj0
    have hadd : inR .i64 ((j : Int) + 1) := small_i64 (by omega) (by omega)
    have hone : (Tm.mk 3 0 [115] [u]).fits := .mk (small_i64 (by omega) (by omega)) (small_i64 (by omega) (by omega)) (by simp) (by simp) (by simpa using hu)
    have hst := struct_calls [115] [u] (by simp)
    simp only [List.map_cons, List.map_nil] at hst
    by_cases hz : j = 0
    · subst hz
      have hu := hj0 rfl
      subst hu
      have h1 : inR .i64 1 := small_i64 (by omega) (by omega)
      simp -implicitDefEqProofs [setAll, hf0, go_sem, -List.set_cons_succ, -List.set_cons_zero]
      rw [row_mk] at hst
      refine qcall_pure hst (hf1 _) (by simp [A.re, re_d]) ?_
      simp -implicitDefEqProofs [hf0, h1, row_len, take_row, go_sem, -List.set_cons_succ, -List.set_cons_zero]
      exact loop_back (1, Tm.mk 3 0 [115] [Tm.mk k n s l]) (by simp [setAll]) ⟨by simp, hone, fun h => by simp at h⟩ (by show 30 - 1 < 30 - 0; omega)
    · simp -implicitDefEqProofs [setAll, hf0, hz, hadd, row_len, take_row, toDs_map, go_sem, -List.set_cons_succ, -List.set_cons_zero]
      refine ⟨fun hlt => ?_, fun hge => ?_⟩
      · refine qcall_pure hst (hf1 _) (by simp [A.re, re_d, row_len]) ?_
        simp -implicitDefEqProofs [hf0, hadd, row_len, take_row, go_sem, -List.set_cons_succ, -List.set_cons_zero]
        exact loop_back (j + 1, Tm.mk 3 0 [115] [u]) (by simp [setAll, row_len]) ⟨by show j + 1 ≤ 30; omega, hone, fun h => by simp at h⟩ (by show 30 - (j + 1) < 30 - j; omega)
      · simp [thaw_d, fits_map]
        exact done u p1 (by omega) (by omega) hu _ rfl
  · exact done (.mk k n s l) p1 (by omega) (by omega) (.mk hk hn hs hl hkids) _ (by simp [row_mk])
end Go.Proofs.YtbblefjbgbocoaaGreatDoor

/-
  Programs and clauses that are drawn.
  Conditions: none.
-/
open Go Go.AM Go.Proofs
namespace Go.Proofs.YtbblefjbgbocoaaGreatDoor
open Go.ChangeShapes Go.WideShapes Go.ChangeAt Go.RowKit
set_option linter.unusedVariables false
set_option linter.unusedSimpArgs false
set_option maxRecDepth 100000
-- 152 loop.example/prologserver/spec.l4Texts params 0 ntmps 2
def ac152 : Cd := .seq (.region [⟨(some 0),.mv (.k (.c (.full []))),none⟩] [0])
 (.seq (.region [⟨(some 1),.buildSlice 1 11 [(.str [])] [(0,(.k (.c (.d (.str [97,112,112,40,91,93,44,65,44,65,41,46,10,97,112,112,40,91,65,124,66,93,44,67,44,91,65,124,68,93,41,58,45,97,112,112,40,66,44,67,44,68,41,46,10]))))),(1,(.k (.c (.d (.str [109,101,109,40,65,44,91,65,124,66,93,41,46,10,109,101,109,40,65,44,91,66,124,67,93,41,58,45,109,101,109,40,65,44,67,41,46,10]))))),(2,(.k (.c (.d (.str [112,40,49,41,46,10,112,40,50,41,46,10,112,40,51,41,46,10,113,40,65,41,58,45,112,40,65,41,44,65,62,49,44,33,46,10,114,40,65,44,66,41,58,45,112,40,65,41,44,112,40,66,41,46,10]))))),(3,(.k (.c (.d (.str [108,101,110,40,91,93,44,48,41,46,10,108,101,110,40,91,65,124,66,93,44,67,41,58,45,108,101,110,40,66,44,68,41,44,67,32,105,115,32,68,43,49,46,10]))))),(4,(.k (.c (.d (.str [109,97,120,40,65,44,66,44,65,41,58,45,65,62,61,66,44,33,46,10,109,97,120,40,65,44,66,44,66,41,46,10]))))),(5,(.k (.c (.d (.str [101,40,97,44,98,41,46,10,101,40,98,44,99,41,46,10,101,40,99,44,100,41,46,10,116,40,65,44,66,41,58,45,101,40,65,44,66,41,46,10,116,40,65,44,66,41,58,45,101,40,65,44,67,41,44,116,40,67,44,66,41,46,10]))))),(6,(.k (.c (.d (.str [108,111,111,112,58,45,108,111,111,112,46,10,111,107,46,10]))))),(7,(.k (.c (.d (.str [102,97,99,40,48,44,49,41,58,45,33,46,10,102,97,99,40,65,44,66,41,58,45,65,62,48,44,67,32,105,115,32,65,45,49,44,102,97,99,40,67,44,68,41,44,66,32,105,115,32,65,42,68,46,10]))))),(8,(.k (.c (.d (.str [115,40,65,41,58,45,65,61,102,40,66,41,44,97,114,103,40,49,44,65,44,66,41,44,66,61,49,46,10,115,40,65,41,58,45,118,97,114,40,65,41,44,65,61,110,111,110,101,46,10]))))),(9,(.k (.c (.d (.str [114,101,118,40,91,93,44,65,44,65,41,46,10,114,101,118,40,91,65,124,66,93,44,67,44,68,41,58,45,114,101,118,40,66,44,91,65,124,67,93,44,68,41,46,10]))))),(10,(.k (.c (.d (.str [98,97,100,40,65,41,58,45,66,32,105,115,32,65,43,102,111,111,44,67,61,66,46,10,98,105,103,40,65,41,58,45,65,32,105,115,32,57,57,57,43,49,46,10,117,110,40,65,41,58,45,110,111,115,117,99,104,40,65,41,46,10])))))],none⟩,
 ⟨(some 0),.mv (.t 1),none⟩] [1])
 (.ret))
theorem ac152_ok : cFunc Tryz.prog [] [(0,[0],[]),(1,[1],[])] Tryz.f152 = some (ac152,[.tmp 0],2) := by kernel_rfl
-- 95 loop.example/prologserver/spec.l4Program params 1 ntmps 19
def ac95 : Cd := .seq (.region [⟨(some 2),.mv (.k (.c (.full []))),none⟩] [2])
 (.seq (.region [⟨(some 6),.qcall 152 [],none⟩,
 ⟨(some 3),.mv (.t 6),none⟩] [6])
 (.seq (.region [⟨(some 8),.mv (.t 3),none⟩,
 ⟨(some 9),.mv (.t 0),none⟩,
 ⟨(some 10),.mv (.t 3),none⟩,
 ⟨(some 11),.len 1 (.t 10),none⟩,
 ⟨(some 12),.call false 43 [(.t 9),(.t 11)],none⟩,
 ⟨(some 13),.indexAddr 1 (.t 8) (.t 12),none⟩,
 ⟨(some 14),.load none (.t 13),none⟩,
 ⟨(some 15),.qcall 153 [(.t 14)],none⟩,
 ⟨(some 7),.mv (.t 15),none⟩,
 ⟨(some 16),.extract 0 (.t 7),none⟩,
 ⟨(some 17),.extract 1 (.t 7),none⟩,
 ⟨(some 4),.mv (.t 16),none⟩,
 ⟨(some 5),.mv (.t 17),none⟩] [0,3,5,7,8,9,10,11,12,13,14,15,16,17])
 (.seq (.region [⟨(some 18),.mv (.t 4),none⟩,
 ⟨(some 2),.mv (.t 18),none⟩] [4,18])
 (.ret))))
theorem ac95_ok : cFunc Tryz.prog [1000152,1000153] [(0,[2],[]),(1,[6],[]),(2,[0,3,5,7,8,9,10,11,12,13,14,15,16,17],[]),(3,[4,18],[])] Tryz.f95 = some (ac95,[.tmp 2],19) := by kernel_rfl
-- 42 loop.example/prologserver/spec.l4Clause params 1 ntmps 47
-- loop head live: [0,2,4,5]
def ac42 : Cd := .seq (.region [⟨(some 2),.alloc [(.d (.int .i64 0)),(.d (.int .i64 0)),(.d (.str [])),(.full []),(.full [])],none⟩] [])
 (.seq (.region [⟨(some 6),.mv (.t 0),none⟩,
 ⟨(some 7),.call false 95 [(.t 6)],none⟩,
 ⟨(some 3),.mv (.t 7),none⟩] [6,7])
 (.seq (.seq (.region [⟨(some 8),.mv (.t 0),none⟩,
 ⟨(some 9),.call false 43 [(.t 8),(.k (.c (.d (.int .i64 4))))],none⟩,
 ⟨(some 10),.bin .gtr (.t 9) (.k (.c (.d (.int .i64 0)))),none⟩] [8,9])
 (.cond (.t 10)
 (.seq (.region [⟨(some 11),.mv (.t 3),none⟩,
 ⟨(some 12),.mv (.t 0),none⟩,
 ⟨(some 13),.mv (.t 3),none⟩,
 ⟨(some 14),.len 1 (.t 13),none⟩,
 ⟨(some 15),.call false 43 [(.t 12),(.t 14)],none⟩,
 ⟨(some 16),.indexAddr 5 (.t 11) (.t 15),none⟩,
 ⟨(some 17),.load (some 5) (.t 16),none⟩,
 ⟨none,.store 5 (.t 2) (.t 17),none⟩] [0,3,10,11,12,13,14,15,16,17])
 (.ret))
 (.skip)))
 (.seq (.region [⟨(some 18),.mv (.t 0),none⟩,
 ⟨(some 19),.buildSlice 1 3 [(.str [])] [(0,(.k (.c (.d (.str [112]))))),(1,(.k (.c (.d (.str [113]))))),(2,(.k (.c (.d (.str [102,111,111])))))],none⟩,
 ⟨(some 20),.callL false false 91 [(.t 18),(.t 19)],none⟩,
 ⟨(some 21),.mv (.t 0),none⟩,
 ⟨(some 22),.callL false false 73 [(.t 21),(.k (.c (.d (.int .i64 2))))],none⟩,
 ⟨(some 23),.buildSlice 4 1 [(.int .i64 0),(.int .i64 0),(.str []),(.sl [])] [(0,(.t 22))],none⟩,
 ⟨(some 24),.qcall 96 [(.t 20),(.t 23)],none⟩,
 ⟨(some 25),.build [(.d (.int .i64 0)),(.d (.int .i64 0)),(.d (.str [])),(.full []),(.full [])] [(0,4,(.t 24))],none⟩,
 ⟨(some 4),.alloc [(.d (.int .i64 0)),(.d (.int .i64 0)),(.d (.str [])),(.full []),(.full [])],none⟩,
 ⟨none,.store 5 (.t 4) (.t 25),none⟩] [3,10,18,19,20,21,22,23,24,25])
 (.seq (.seq (.region [⟨(some 26),.mv (.t 0),none⟩,
 ⟨(some 27),.call false 43 [(.t 26),(.k (.c (.d (.int .i64 3))))],none⟩,
 ⟨(some 5),.mv (.t 27),none⟩] [26,27])
 (.block 0 (.loop (.seq (.seq (.region [⟨(some 28),.mv (.t 5),none⟩,
 ⟨(some 29),.bin .gtr (.t 28) (.k (.c (.d (.int .i64 0)))),none⟩] [28])
 (.cond (.t 29)
 (.skip)
 (.exit 0)))
 (.seq (.block 1 (.region [⟨(some 32),.fieldAddr 4 (.t 4),none⟩,
 ⟨(some 34),.mv (.t 0),none⟩,
 ⟨(some 35),.buildSlice 1 4 [(.str [])] [(0,(.k (.c (.d (.str [112]))))),(1,(.k (.c (.d (.str [61]))))),(2,(.k (.c (.d (.str [60]))))),(3,(.k (.c (.d (.str [113])))))],none⟩,
 ⟨(some 37),.mv (.t 0),none⟩,
 ⟨(some 39),.mv (.t 0),none⟩,
 ⟨(some 33),.loadL false none (.t 32),none⟩,
 ⟨(some 36),.callL false false 91 [(.t 34),(.t 35)],none⟩,
 ⟨(some 38),.callL false false 73 [(.t 37),(.k (.c (.d (.int .i64 2))))],none⟩,
 ⟨(some 40),.callL false false 73 [(.t 39),(.k (.c (.d (.int .i64 2))))],none⟩,
 ⟨(some 41),.buildSlice 4 2 [(.int .i64 0),(.int .i64 0),(.str []),(.sl [])] [(0,(.t 38)),(1,(.t 40))],none⟩,
 ⟨(some 42),.qcall 96 [(.t 36),(.t 41)],none⟩,
 ⟨(some 43),.buildSlice 4 1 [(.int .i64 0),(.int .i64 0),(.str []),(.sl [])] [(0,(.t 42))],none⟩,
 ⟨(some 44),.append false 4 (.t 33) (.t 43),none⟩,
 ⟨(some 45),.fieldAddr 4 (.t 4),none⟩,
 ⟨none,.store 1 (.t 45) (.t 44),none⟩] [29,32,33,34,35,36,37,38,39,40,41,42,43,44,45]))
 (.region [⟨(some 30),.mv (.t 5),none⟩,
 ⟨(some 31),.bin .sub (.t 30) (.k (.c (.d (.int .i64 1)))),none⟩,
 ⟨(some 5),.mv (.t 31),none⟩] [30,31]))))))
 (.seq (.region [⟨(some 46),.load (some 5) (.t 4),none⟩,
 ⟨none,.store 5 (.t 2) (.t 46),none⟩] [4,46])
 (.ret))))))
theorem ac42_ok : cFunc Tryz.prog [1000096,5000032,6000091,6000073] [(0,[],[]),(1,[6,7],[]),(2,[8,9],[]),(3,[0,3,10,11,12,13,14,15,16,17],[]),(4,[3,10,18,19,20,21,22,23,24,25],[]),(5,[26,27],[]),(6,[28],[]),(8,[29,32,33,34,35,36,37,38,39,40,41,42,43,44,45],[0,2,3,5,7,1,4,6,8,9,10,11,12,13,14]),(7,[30,31],[]),(9,[4,46],[])] Tryz.f42 = some (ac42,[.cell 2 (some 5)],47) := by kernel_rfl
-- 177 loop.example/prologserver/spec.l4Mutate params 2 ntmps 48
-- loop head live: [4,5]
def progTexts : List (List UInt8) := [[97, 112, 112, 40, 91, 93, 44, 65, 44, 65, 41, 46, 10, 97, 112, 112, 40, 91, 65, 124, 66, 93, 44, 67, 44, 91, 65, 124, 68, 93, 41, 58, 45, 97, 112, 112, 40, 66, 44, 67, 44, 68, 41, 46, 10], [109, 101, 109, 40, 65, 44, 91, 65, 124, 66, 93, 41, 46, 10, 109, 101, 109, 40, 65, 44, 91, 66, 124, 67, 93, 41, 58, 45, 109, 101, 109, 40, 65, 44, 67, 41, 46, 10], [112, 40, 49, 41, 46, 10, 112, 40, 50, 41, 46, 10, 112, 40, 51, 41, 46, 10, 113, 40, 65, 41, 58, 45, 112, 40, 65, 41, 44, 65, 62, 49, 44, 33, 46, 10, 114, 40, 65, 44, 66, 41, 58, 45, 112, 40, 65, 41, 44, 112, 40, 66, 41, 46, 10], [108, 101, 110, 40, 91, 93, 44, 48, 41, 46, 10, 108, 101, 110, 40, 91, 65, 124, 66, 93, 44, 67, 41, 58, 45, 108, 101, 110, 40, 66, 44, 68, 41, 44, 67, 32, 105, 115, 32, 68, 43, 49, 46, 10], [109, 97, 120, 40, 65, 44, 66, 44, 65, 41, 58, 45, 65, 62, 61, 66, 44, 33, 46, 10, 109, 97, 120, 40, 65, 44, 66, 44, 66, 41, 46, 10], [101, 40, 97, 44, 98, 41, 46, 10, 101, 40, 98, 44, 99, 41, 46, 10, 101, 40, 99, 44, 100, 41, 46, 10, 116, 40, 65, 44, 66, 41, 58, 45, 101, 40, 65, 44, 66, 41, 46, 10, 116, 40, 65, 44, 66, 41, 58, 45, 101, 40, 65, 44, 67, 41, 44, 116, 40, 67, 44, 66, 41, 46, 10], [108, 111, 111, 112, 58, 45, 108, 111, 111, 112, 46, 10, 111, 107, 46, 10], [102, 97, 99, 40, 48, 44, 49, 41, 58, 45, 33, 46, 10, 102, 97, 99, 40, 65, 44, 66, 41, 58, 45, 65, 62, 48, 44, 67, 32, 105, 115, 32, 65, 45, 49, 44, 102, 97, 99, 40, 67, 44, 68, 41, 44, 66, 32, 105, 115, 32, 65, 42, 68, 46, 10], [115, 40, 65, 41, 58, 45, 65, 61, 102, 40, 66, 41, 44, 97, 114, 103, 40, 49, 44, 65, 44, 66, 41, 44, 66, 61, 49, 46, 10, 115, 40, 65, 41, 58, 45, 118, 97, 114, 40, 65, 41, 44, 65, 61, 110, 111, 110, 101, 46, 10], [114, 101, 118, 40, 91, 93, 44, 65, 44, 65, 41, 46, 10, 114, 101, 118, 40, 91, 65, 124, 66, 93, 44, 67, 44, 68, 41, 58, 45, 114, 101, 118, 40, 66, 44, 91, 65, 124, 67, 93, 44, 68, 41, 46, 10], [98, 97, 100, 40, 65, 41, 58, 45, 66, 32, 105, 115, 32, 65, 43, 102, 111, 111, 44, 67, 61, 66, 46, 10, 98, 105, 103, 40, 65, 41, 58, 45, 65, 32, 105, 115, 32, 57, 57, 57, 43, 49, 46, 10, 117, 110, 40, 65, 41, 58, 45, 110, 111, 115, 117, 99, 104, 40, 65, 41, 46, 10]]
theorem texts_calls (H : Heap) : ACalls Tryz.prog 152 [] H (fun r H' => H' = H ∧ r = .c (.d (.sl (progTexts.map strRow)))) := by
  refine acalls Tryz.func152 (by kernel_rfl) ac152_ok fun hf => ?_
  simp -implicitDefEqProofs [ac152, progTexts, strRow, go_sem, -List.set_cons_succ, -List.set_cons_zero]
theorem linesR_fits : ∀ (L : List (List UInt8)), (∀ l ∈ L, l.length ≤ 1000000) → ∀ p, linesR Tm.wr L = some p → ∀ c ∈ p, c.fits ∧ c.validB = true
  | [], _, p, h => by cases h; simp
  | [a], _, p, h => by cases h; simp
  | a :: b :: L, hl, p, h => by
    rw [linesR_cons] at h
    cases hc : clauseR Tm.wr a with
    | none => rw [hc] at h; cases h
    | some c =>
      cases hr : linesR Tm.wr (b :: L) with
      | none => rw [hc, hr] at h; cases h
      | some q =>
        rw [hc, hr] at h
        cases h
        intro d hd
        rcases List.mem_cons.1 hd with rfl | hd
        · exact clauseR_fits a (hl a (by simp)) hc
        · exact linesR_fits (b :: L) (fun l hm => hl l (by simp [List.mem_cons.1 hm])) q hr d hd
theorem progR_fits (s : List UInt8) (hs : s.length ≤ 1000000) : ∀ c ∈ (progR Tm.wr s).1, c.fits ∧ c.validB = true := by
  unfold progR
  split
  · simp
  · cases hr : linesR Tm.wr (cutAt 10 s) with
    | none => simp
    | some p =>
      exact linesR_fits _ (fun l hl => by have := cut_mem 10 s l hl; omega) p hr
theorem progs_len : (progTexts.map fun t => (progR Tm.wr3 t).1.length) = [2, 2, 5, 2, 2, 5, 2, 2, 2, 2, 3] := by kernel_rfl
theorem prog_len {m : Nat} (h : m < progTexts.length) : 1 ≤ (progR Tm.wr progTexts[m]).1.length ∧ (progR Tm.wr progTexts[m]).1.length ≤ 5 := by
  rw [← progR_eq]
  have h1 : ((progTexts.map fun t => (progR Tm.wr3 t).1.length)[m]?) = some (progR Tm.wr3 progTexts[m]).1.length := by simp [h]
  rw [progs_len] at h1
  have h2 := List.mem_of_getElem? h1
  have key : ∀ x ∈ [2, 2, 5, 2, 2, 5, 2, 2, 2, 2, 3], 1 ≤ x ∧ x ≤ 5 := by decide
  exact key _ h2
/-- a clause, somewhere -/
def ClR (n : Nat) (r : A) : Prop := ∃ c : Cl, r = .agg (c.row.map .d) ∧ c.fits ∧ c.body.length ≤ n
theorem ClR.re {m n : Nat} {r : A} (h : ClR m r) : A.re n r = r := by
  obtain ⟨c, rfl, _⟩ := h
  simp [A.re, re_d]
def PgR (r : A) : Prop := ∃ p : List Cl, r = .c (.d (.sl (p.map Cl.row))) ∧ 1 ≤ p.length ∧ p.length ≤ 5 ∧ ∀ c ∈ p, c.fits ∧ c.validB = true
theorem PgR.re {n : Nat} {r : A} (h : PgR r) : A.re n r = r := by
  obtain ⟨l, rfl, _⟩ := h
  rfl
theorem program_draws : Draws 95 [] 1 PgR := fun c p H i hc hp hp1 hi => by
  refine acalls Tryz.func95 (by kernel_rfl) ac95_ok fun hf => ?_
  simp only [List.length_set] at hf
  have hf0 : ∀ q, Obs.fits H.length 0 (H.set i (Rd c q)) := fun q => fits_reset (b := Rd c q) hf ⟨trivial, trivial, trivial⟩
  have hf1 : ∀ q, Obs.fits (H.set i (Rd c q)).length 0 (H.set i (Rd c q)) := fun q => by simpa using hf0 q
  have hql : progTexts.length = 11 := rfl
  have h11 : inR .i64 (11 : Int) := small_i64 (by omega) (by omega)
  simp -implicitDefEqProofs [ac95, hf0, go_sem, -List.set_cons_succ, -List.set_cons_zero]
  refine qcall_pure texts_calls (hf1 _) rfl ?_
  simp -implicitDefEqProofs [hql, h11, hf0, go_sem, -List.set_cons_succ, -List.set_cons_zero]
  refine call_drawE (pick_draws 11 (by omega)) hc (by omega) (by omega) hi (by simp [Ob.re, C.re]) (fun r => IntIn.re) (hf0 _) ?_
  rintro _ p1 ⟨m, rfl, m0, m1⟩ h1 h2
  have hmlt : m.toNat < progTexts.length := by rw [hql]; omega
  have hql2 : (progTexts[m.toNat]).length ≤ 1000000 := by
    have : ∀ q ∈ progTexts, q.length ≤ 1000 := by decide
    have := this _ (List.getElem_mem hmlt)
    omega
  obtain ⟨g1, g2⟩ := prog_len hmlt
  have g3 := progR_fits _ hql2
  simp -implicitDefEqProofs [hf0, go_sem, -List.set_cons_succ, -List.set_cons_zero]
  refine row_int [.str progTexts[m.toNat]] m0 (by simp [hmlt, strRow]) rfl ?_
  simp -implicitDefEqProofs [hf0, go_sem, -List.set_cons_succ, -List.set_cons_zero]
  refine qcall_pure (ppSpec_calls progTexts[m.toNat] hql2) (hf1 _) (by simp [progA, A.re, A.res, C.re]) ?_
  simp -implicitDefEqProofs [progA, hf0, go_sem, -List.set_cons_succ, -List.set_cons_zero]
  exact ⟨⟨_, rfl, g1, g2, g3⟩, p1, h1, h2, rfl⟩
/-- what is drawn is well-formed -/
theorem drawV : Draws 73 [.c (.d (.int .i64 2))] 80 (TmP (VP 2)) :=
  l1DrawP_draws VP (fun d n h0 h1 => ⟨by simp [Tm.shape, Tm.ownB, shapes, h0, h1], leaf_size d⟩)
    (fun d n h0 h1 => ⟨by simp [Tm.shape, Tm.ownB, shapes, h0, h1], leaf_size d⟩)
    (fun s hs => ⟨struct_shape (names_ok s hs) (by simp) (by simp), by simp [Tm.size, sizes]⟩)
    (fun d s hs l hl h => ⟨struct_shape (names_ok s hs) (by omega) fun t ht => (h t ht).1, by
      have h1 := sizes_of (l := l) fun t ht => (h t ht).2
      have h2 : l.length * 4 ^ d ≤ 3 * 4 ^ d := Nat.mul_le_mul_right _ hl
      have h3 : 0 < 4 ^ d := Nat.pos_of_ne_zero (by simp)
      rw [Tm.size, Nat.pow_succ]
      omega⟩) 2 (by omega)
theorem shape_mono : ∀ t : Tm, ∀ d e : Nat, d ≤ e → t.shape d = true → t.shape e = true := by
  refine Tm.ind fun k n s l ih d e hde h => ?_
  simp only [Tm.shape, Bool.and_eq_true, decide_eq_true_eq] at h ⊢
  obtain ⟨h1, h2, h3⟩ := h
  refine ⟨by omega, h2, ?_⟩
  rw [shapes_all, List.all_eq_true] at h3 ⊢
  exact fun t ht => ih t ht (d - 1) (e - 1) (by omega) (h3 t ht)
theorem VP.valid {s : List UInt8} {l : List Tm} (hs : nameB s = true) (hl : l.length ≤ 4) (h : ∀ t ∈ l, VP 2 t) : (Tm.mk 3 0 s l).valid = true := by
  have h1 := sizes_of (l := l) fun t ht => (h t ht).2
  have h2 : l.length * 4 ^ 2 ≤ 4 * 4 ^ 2 := Nat.mul_le_mul_right _ hl
  have h3 : (Tm.mk 3 0 s l).shape 30 = true := shape_mono _ 4 30 (by omega) (struct_shape hs hl fun t ht => (h t ht).1)
  show ((Tm.mk 3 0 s l).shape 30 && decide ((Tm.mk 3 0 s l).size ≤ 120)) = true
  rw [h3, Bool.true_and, decide_eq_true_eq, Tm.size]
  omega
/-- a valid clause, somewhere -/
def ClT (r : A) : Prop := ∃ c : Cl, r = .agg (c.row.map .d) ∧ c.fits ∧ c.body.length ≤ 6 ∧ c.validB = true
theorem ClT.re {n : Nat} {r : A} (h : ClT r) : A.re n r = r := by
  obtain ⟨c, rfl, _⟩ := h
  simp [A.re, re_d]
theorem clause_draws : Draws 42 [] 600 ClT := fun c p H i hc hp hp1 hi => by
  refine acalls Tryz.func42 (by kernel_rfl) ac42_ok fun hf => ?_
  simp only [List.length_set] at hf
  have hf0 : ∀ q, Obs.fits H.length 0 (H.set i (Rd c q)) := fun q => fits_reset (b := Rd c q) hf ⟨trivial, trivial, trivial⟩
  have hf1 : ∀ q, Obs.fits (H.set i (Rd c q)).length 0 (H.set i (Rd c q)) := fun q => by simpa using hf0 q
  have done : ∀ (d : Cl) (q : Int), p ≤ q → q ≤ p + 600 → d.fits → d.body.length ≤ 6 → d.validB = true → ∀ r, r = .agg (d.row.map .d) → Drew ClT 600 c p H i r (H.set i (Rd c q)) := fun d q a1 a2 a3 a4 a5 r hr => ⟨⟨d, hr, a3, a4, a5⟩, q, a1, a2, rfl⟩
  have hdr := drawV
  simp -implicitDefEqProofs [ac42, hf0, go_sem, -List.set_cons_succ, -List.set_cons_zero]
  refine call_drawE program_draws hc (by omega) (by omega) hi (by simp [Ob.re, C.re]) (fun r => PgR.re) (hf0 _) ?_
  rintro _ p1 ⟨P, rfl, hP1, hP5, hPf⟩ h1 h2
  have hPl : inR .i64 (P.length : Int) := small_i64 (by omega) (by omega)
  simp -implicitDefEqProofs [hf0, go_sem, -List.set_cons_succ, -List.set_cons_zero]
  refine call_drawE (pick_draws 4 (by omega)) hc (by omega) (by omega) hi (by simp [Ob.re, C.re]) (fun r => IntIn.re) (hf0 _) ?_
  rintro _ p2 ⟨m, rfl, m0, m1⟩ h3 h4
  simp -implicitDefEqProofs [hPl, hf0, go_sem, -List.set_cons_succ, -List.set_cons_zero]
  refine ⟨fun hm => ?_, fun hm => ?_⟩
  · refine call_drawE (pick_draws P.length (by omega)) hc (by omega) (by omega) hi (by simp [Ob.re, C.re]) (fun r => IntIn.re) (hf0 _) ?_
    rintro _ p3 ⟨j, rfl, j0, j1⟩ h5 h6
    have hjl : j.toNat < P.length := by omega
    simp -implicitDefEqProofs [hf0, go_sem, -List.set_cons_succ, -List.set_cons_zero]
    refine row_int (P[j.toNat]).row j0 (by simp [hjl]) (crow_len _) ?_
    simp -implicitDefEqProofs [crow_len, take_crow, thaw_d, fits_map, hf0, go_sem, -List.set_cons_succ, -List.set_cons_zero]
    obtain ⟨g1, g2⟩ := hPf _ (List.getElem_mem hjl)
    have g3 := (Cl.validB.parts g2).2.1
    exact done P[j.toNat] p3 (by omega) (by omega) g1 (by omega) g2 _ rfl
  · refine call_drawE (of_draws [[112], [113], [102, 111, 111]] (by decide)) hc (by omega) (by omega) hi (by simp [Ob.re, C.re]) (fun r ⟨n, _, hn⟩ => by subst hn; rfl) (hf0 _) ?_
    rintro _ p3 ⟨s, hs, rfl⟩ h5 h6
    have hsp : nameB s = true ∧ lettersB s = true ∧ levelN s = 0 ∧ builtB s 1 = false := by simp at hs; rcases hs with rfl | rfl | rfl <;> decide
    have hs : s.length ≤ 3 := by simp at hs; rcases hs with rfl | rfl | rfl <;> decide
    refine ⟨LocSame.refl _, ?_⟩
    simp -implicitDefEqProofs [hf0, go_sem, -List.set_cons_succ, -List.set_cons_zero]
    refine call_drawE hdr hc (by omega) (by omega) hi (by simp [Ob.re, C.re]) (fun r => TmP.re) (hf0 _) ?_
    rintro _ p4 ⟨a, rfl, ha, haV⟩ h7 h8
    refine ⟨LocSame.refl _, ?_⟩
    simp -implicitDefEqProofs [row_len, take_row, toDs_map, hf0, go_sem, -List.set_cons_succ, -List.set_cons_zero]
    have hst := struct_calls s [a] (by simp)
    simp only [List.map_cons, List.map_nil] at hst
    refine qcall_pure hst (hf1 _) (by simp [A.re, re_d]) ?_
    have hhd : (Tm.mk 3 0 s [a]).fits := fits_st (by omega) (by simp) (by simpa using ha)
    simp -implicitDefEqProofs [row_mk, hf0, go_sem, -List.set_cons_succ, -List.set_cons_zero]
    refine call_drawE (pick_draws 3 (by omega)) hc (by omega) (by omega) hi (by simp [Ob.re, C.re]) (fun r => IntIn.re) (hf0 _) ?_
    rintro _ p5 ⟨m, rfl, m0, m1⟩ h9 h10
    simp -implicitDefEqProofs [hf0, go_sem, -List.set_cons_succ, -List.set_cons_zero]
    refine loop_enter (St.le_tokenC 1 4 4 rfl rfl) ?_
    refine loop_set (σ := Int × List Tm × Int) (fun x => [(5, .c (.d (.int .i64 x.1)))]) (fun x => H.set i (Rd c x.2.2)) (fun x => [.cells [.d (.int .i64 0), .d (.int .i64 0), .d (.str []), .full [], .full []], .cells [.d (.int .i64 3), .d (.int .i64 0), .d (.str s), .d (.sl [a.row]), .own (.l 2) x.2.1.length (x.2.1.map Tm.row)], .grow x.2.1.length 4])
      (fun x => 0 ≤ x.1 ∧ x.1 + x.2.1.length ≤ 2 ∧ p ≤ x.2.2 ∧ x.2.2 + x.1 * 161 ≤ p + 600 ∧ (∀ t ∈ x.2.1, t.fits) ∧ ∀ t ∈ x.2.1, t.goal = true) (fun x => x.1.toNat) (m, [], p5) rfl ⟨m0, by simp; omega, by simp; omega, by simp; omega, by simp, by simp⟩ ?_
    rintro ⟨m, l, q⟩ ⟨i0, i1, i2, i3, i4, i5⟩
    simp only at i0 i1 i2 i3 i4 i5
    have hsubm : inR .i64 (m - 1) := small_i64 (by omega) (by omega)
    simp -implicitDefEqProofs [setAll, hf0, hsubm, go_sem, -List.set_cons_succ, -List.set_cons_zero]
    refine ⟨fun hlt => ?_, fun hge => ?_⟩
    · refine call_drawE (of_draws [[112], [61], [60], [113]] (by decide)) hc (by omega) (by omega) hi (by simp [Ob.re, C.re]) (fun r ⟨n, _, hn⟩ => by subst hn; rfl) (hf0 _) ?_
      rintro _ q1 ⟨s2, hs2, rfl⟩ k1 k2
      have hsq : nameB s2 = true ∧ ((lettersB s2 && (levelN s2 == 0 && !builtB s2 2)) || builtB s2 2) = true := by simp at hs2; rcases hs2 with rfl | rfl | rfl | rfl <;> decide
      have hs2 : s2.length ≤ 3 := by simp at hs2; rcases hs2 with rfl | rfl | rfl | rfl <;> decide
      refine ⟨LocSame.refl _, ?_⟩
      simp -implicitDefEqProofs [hf0, go_sem, -List.set_cons_succ, -List.set_cons_zero]
      refine call_drawE hdr hc (by omega) (by omega) hi (by simp [Ob.re, C.re]) (fun r => TmP.re) (hf0 _) ?_
      rintro _ q2 ⟨u, rfl, hu, huV⟩ k3 k4
      refine ⟨LocSame.refl _, ?_⟩
      simp -implicitDefEqProofs [hf0, go_sem, -List.set_cons_succ, -List.set_cons_zero]
      refine call_drawE hdr hc (by omega) (by omega) hi (by simp [Ob.re, C.re]) (fun r => TmP.re) (hf0 _) ?_
      rintro _ q3 ⟨w, rfl, hw, hwV⟩ k5 k6
      refine ⟨LocSame.refl _, ?_⟩
      simp -implicitDefEqProofs [row_len, take_row, toDs_map, hf0, go_sem, -List.set_cons_succ, -List.set_cons_zero]
      have hst2 := struct_calls s2 [u, w] (by simp)
      simp only [List.map_cons, List.map_nil] at hst2
      refine qcall_pure hst2 (hf1 _) (by simp [A.re, re_d]) ?_
      simp -implicitDefEqProofs [row_len, take_row, toDs_map, hf0, hsubm, go_sem, -List.set_cons_succ, -List.set_cons_zero]
      refine ⟨allLen_map row_len, by unfold maxApp; omega, ?_⟩
      refine loop_back (m - 1, l ++ [.mk 3 0 s2 [u, w]], q3) (by simp [setAll]) ⟨by simp; omega, by simp; omega, by simp; omega, by simp; omega, fun t ht => ?_, fun t ht => ?_⟩ (by show (m - 1).toNat < m.toNat; omega)
      · rcases List.mem_append.1 ht with ht | ht
        · exact i4 t ht
        · simp at ht; subst ht; exact fits_st (by omega) (by simp) (by simp [hu, hw])
      · rcases List.mem_append.1 ht with ht | ht
        · exact i5 t ht
        · simp at ht; subst ht
          have hv2 : (Tm.mk 3 0 s2 [u, w]).valid = true := VP.valid hsq.1 (by simp) (by simp [huV, hwV])
          have h5 := hsq.2
          simp only [Tm.goal, hv2, Tm.plain, Tm.built, Tm.k, Tm.s, Tm.kids, List.length_cons, List.length_nil, Bool.true_and]
          have e2 : ((0 + 1 + 1 : Nat) : Int) = 2 := rfl
          simp only [decide_true, Bool.true_and]
          rw [e2, h5, Bool.true_or]
    · exact done ⟨.mk 3 0 s [a], l⟩ q i2 (by omega) ⟨hhd, by show l.length ≤ 1048576; omega, i4⟩ (by show l.length ≤ 6; omega) (by
      have hv1 : (Tm.mk 3 0 s [a]).valid = true := VP.valid hsp.1 (by simp) (by simpa using haV)
      simp [Cl.validB, goalsB, hv1, Tm.plain, Tm.k, Tm.s, Tm.kids, hsp.2.1, hsp.2.2.1, hsp.2.2.2]
      exact ⟨by omega, i5⟩) _ (by simp [Cl.row, Tm.k, Tm.n, Tm.s, Tm.kids])
end Go.Proofs.YtbblefjbgbocoaaGreatDoor

/-
  What is drawn for the law of first keys.
  Conditions: none.
-/
open Go Go.AM Go.Proofs
namespace Go.Proofs.YtbblefjbgbocoaaGreatDoor
open Go.ChangeShapes Go.WideShapes Go.ChangeAt Go.RowKit
set_option linter.unusedVariables false
set_option linter.unusedSimpArgs false
set_option maxRecDepth 100000
-- 146 loop.example/prologserver/spec.l3Shift params 2 ntmps 42
-- loop head live: [1,2,4,5,6]
def ac146 : Cd := .seq (.region [⟨(some 2),.box (.t 0),none⟩,
 ⟨(some 4),.alloc [(.d (.int .i64 0)),(.d (.int .i64 0)),(.d (.str [])),(.full [])],none⟩] [0])
 (.seq (.region [⟨(some 7),.fieldAddr 0 (.t 2),none⟩,
 ⟨(some 8),.load none (.t 7),none⟩,
 ⟨(some 9),.fieldAddr 1 (.t 2),none⟩,
 ⟨(some 10),.load none (.t 9),none⟩,
 ⟨(some 11),.fieldAddr 2 (.t 2),none⟩,
 ⟨(some 12),.load none (.t 11),none⟩,
 ⟨(some 13),.build [(.d (.int .i64 0)),(.d (.int .i64 0)),(.d (.str [])),(.full [])] [(0,1,(.t 8)),(1,1,(.t 10)),(2,1,(.t 12))],none⟩,
 ⟨(some 5),.alloc [(.d (.int .i64 0)),(.d (.int .i64 0)),(.d (.str [])),(.full [])],none⟩,
 ⟨none,.store 4 (.t 5) (.t 13),none⟩] [7,8,9,10,11,12,13])
 (.seq (.seq (.region [⟨(some 14),.fieldAddr 0 (.t 2),none⟩,
 ⟨(some 15),.load none (.t 14),none⟩,
 ⟨(some 16),.bin .eql (.t 15) (.k (.c (.d (.int .i64 1)))),none⟩] [14,15])
 (.cond (.t 16)
 (.region [⟨(some 17),.fieldAddr 1 (.t 2),none⟩,
 ⟨(some 18),.load none (.t 17),none⟩,
 ⟨(some 19),.mv (.t 1),none⟩,
 ⟨(some 20),.bin .add (.t 18) (.t 19),none⟩,
 ⟨(some 21),.fieldAddr 1 (.t 5),none⟩,
 ⟨none,.store 1 (.t 21) (.t 20),none⟩] [16,17,18,19,20,21])
 (.skip)))
 (.seq (.seq (.region [⟨(some 6),.mv (.k (.c (.d (.int .i64 0)))),none⟩] [16])
 (.block 0 (.loop (.seq (.seq (.region [⟨(some 22),.mv (.t 6),none⟩,
 ⟨(some 23),.fieldAddr 3 (.t 2),none⟩,
 ⟨(some 24),.load none (.t 23),none⟩,
 ⟨(some 25),.len 1 (.t 24),none⟩,
 ⟨(some 26),.bin .lss (.t 22) (.t 25),none⟩] [22,23,24,25])
 (.cond (.t 26)
 (.skip)
 (.exit 0)))
 (.seq (.block 1 (.region [⟨(some 29),.fieldAddr 3 (.t 5),none⟩,
 ⟨(some 31),.fieldAddr 3 (.t 2),none⟩,
 ⟨(some 33),.mv (.t 6),none⟩,
 ⟨(some 36),.mv (.t 1),none⟩,
 ⟨(some 30),.load none (.t 29),none⟩,
 ⟨(some 32),.load none (.t 31),none⟩,
 ⟨(some 34),.indexAddr 4 (.t 32) (.t 33),none⟩,
 ⟨(some 35),.load (some 4) (.t 34),none⟩,
 ⟨(some 37),.qcall 146 [(.t 35),(.t 36)],none⟩,
 ⟨(some 38),.buildSlice 4 1 [(.int .i64 0),(.int .i64 0),(.str []),(.sl [])] [(0,(.t 37))],none⟩,
 ⟨(some 39),.append false 4 (.t 30) (.t 38),none⟩,
 ⟨(some 40),.fieldAddr 3 (.t 5),none⟩,
 ⟨none,.store 1 (.t 40) (.t 39),none⟩] [26,29,30,31,32,33,34,35,36,37,38,39,40]))
 (.region [⟨(some 27),.mv (.t 6),none⟩,
 ⟨(some 28),.bin .add (.t 27) (.k (.c (.d (.int .i64 1)))),none⟩,
 ⟨(some 6),.mv (.t 28),none⟩] [27,28]))))))
 (.seq (.region [⟨(some 41),.load (some 4) (.t 5),none⟩,
 ⟨none,.store 4 (.t 4) (.t 41),none⟩] [5,41])
 (.ret)))))
theorem ac146_ok : cFunc Tryz.prog [1000146] [(0,[0],[]),(1,[7,8,9,10,11,12,13],[]),(2,[14,15],[]),(3,[16,17,18,19,20,21],[]),(4,[16],[]),(5,[22,23,24,25],[]),(7,[26,29,30,31,32,33,34,35,36,37,38,39,40],[0,2,4,7,1,3,5,6,8,9,10,11,12]),(6,[27,28],[]),(8,[5,41],[])] Tryz.f146 = some (ac146,[.cell 4 (some 4)],42) := by kernel_rfl
-- 87 loop.example/prologserver/spec.l3Two params 1 ntmps 43
def ac87 : Cd := .seq (.region [⟨(some 2),.alloc [(.d (.int .i64 0)),(.d (.int .i64 0)),(.d (.str [])),(.full [])],none⟩,
 ⟨(some 3),.alloc [(.d (.int .i64 0)),(.d (.int .i64 0)),(.d (.str [])),(.full [])],none⟩] [])
 (.seq (.region [⟨(some 8),.mv (.t 0),none⟩,
 ⟨(some 9),.call false 39 [(.t 8)],none⟩,
 ⟨(some 4),.mv (.t 9),none⟩] [0,8,9])
 (.seq (.region [⟨(some 10),.mv (.t 4),none⟩,
 ⟨(some 11),.call false 123 [(.t 10)],none⟩,
 ⟨(some 5),.alloc [(.d (.int .i64 0)),(.d (.int .i64 0)),(.d (.str [])),(.full [])],none⟩,
 ⟨none,.store 4 (.t 5) (.t 11),none⟩] [10,11])
 (.seq (.region [⟨(some 12),.mv (.t 4),none⟩,
 ⟨(some 13),.call false 73 [(.t 12),(.k (.c (.d (.int .i64 2))))],none⟩,
 ⟨(some 14),.build [(.d (.int .i64 0)),(.d (.int .i64 0)),(.d (.int .i64 0)),(.d (.str [])),(.full [])] [(0,1,(.k (.c (.d (.int .i64 0))))),(1,4,(.t 13))],none⟩,
 ⟨(some 15),.mv (.t 4),none⟩,
 ⟨(some 16),.call false 73 [(.t 15),(.k (.c (.d (.int .i64 1))))],none⟩,
 ⟨(some 17),.build [(.d (.int .i64 0)),(.d (.int .i64 0)),(.d (.int .i64 0)),(.d (.str [])),(.full [])] [(0,1,(.k (.c (.d (.int .i64 1))))),(1,4,(.t 16))],none⟩,
 ⟨(some 18),.mv (.t 4),none⟩,
 ⟨(some 19),.call false 73 [(.t 18),(.k (.c (.d (.int .i64 2))))],none⟩,
 ⟨(some 20),.build [(.d (.int .i64 0)),(.d (.int .i64 0)),(.d (.int .i64 0)),(.d (.str [])),(.full [])] [(0,1,(.k (.c (.d (.int .i64 2))))),(1,4,(.t 19))],none⟩,
 ⟨(some 21),.buildSlice 5 3 [(.int .i64 0),(.int .i64 0),(.int .i64 0),(.str []),(.sl [])] [(0,(.t 14)),(1,(.t 17)),(2,(.t 20))],none⟩,
 ⟨(some 6),.mv (.t 21),none⟩] [12,13,14,15,16,17,18,19,20,21])
 (.seq (.region [⟨(some 22),.load (some 4) (.t 5),none⟩,
 ⟨(some 23),.mv (.t 6),none⟩,
 ⟨(some 24),.qcall 145 [(.t 22),(.t 23)],none⟩,
 ⟨(some 7),.alloc [(.d (.int .i64 0)),(.d (.int .i64 0)),(.d (.str [])),(.full [])],none⟩,
 ⟨none,.store 4 (.t 7) (.t 24),none⟩] [6,22,23,24])
 (.seq (.seq (.region [⟨(some 25),.mv (.t 4),none⟩,
 ⟨(some 26),.callL false false 43 [(.t 25),(.k (.c (.d (.int .i64 4))))],none⟩] [25])
 (.block 0 (.seq (.region [⟨(some 28),.bin .eql (.t 26) (.k (.c (.d (.int .i64 0)))),none⟩,
 ⟨(some 27),.mv (.t 28),none⟩] [28])
 (.cond (.t 27)
 (.region [⟨(some 29),.mv (.t 4),none⟩,
 ⟨(some 30),.call false 123 [(.t 29)],none⟩,
 ⟨none,.store 4 (.t 7) (.t 30),none⟩] [26,27,29,30])
 (.seq (.region [⟨(some 32),.bin .eql (.t 26) (.k (.c (.d (.int .i64 1)))),none⟩,
 ⟨(some 31),.mv (.t 32),none⟩] [26,27,32])
 (.cond (.t 31)
 (.region [⟨(some 34),.mv (.t 4),none⟩,
 ⟨(some 33),.loadL false (some 4) (.t 7),none⟩,
 ⟨(some 35),.callL false false 43 [(.t 34),(.k (.c (.d (.int .i64 3))))],none⟩,
 ⟨(some 36),.qcall 146 [(.t 33),(.t 35)],none⟩,
 ⟨none,.store 4 (.t 7) (.t 36),none⟩] [31,33,34,35,36])
 (.skip)))))))
 (.seq (.region [⟨(some 37),.mv (.t 4),none⟩,
 ⟨(some 40),.mv (.t 4),none⟩,
 ⟨(some 38),.load (some 4) (.t 5),none⟩,
 ⟨(some 41),.loadL false (some 4) (.t 7),none⟩,
 ⟨(some 39),.callL false false 122 [(.t 37),(.t 38)],none⟩,
 ⟨(some 42),.callL false false 122 [(.t 40),(.t 41)],none⟩,
 ⟨none,.store 4 (.t 2) (.t 39),none⟩,
 ⟨none,.store 4 (.t 3) (.t 42),none⟩] [4,5,7,31,37,38,39,40,41,42])
 (.ret)))))))
theorem ac87_ok : cFunc Tryz.prog [1000145,1000146,5000007,6000043,6000122] [(0,[],[]),(1,[0,8,9],[]),(2,[10,11],[]),(3,[12,13,14,15,16,17,18,19,20,21],[]),(4,[6,22,23,24],[]),(5,[25],[]),(6,[28],[]),(7,[26,27,29,30],[]),(8,[26,27,32],[]),(9,[31,33,34,35,36],[1,0,2,3,4]),(10,[4,5,7,31,37,38,39,40,41,42],[0,3,1,4,2,5,6,7])] Tryz.f87 = some (ac87,[.cell 2 (some 4),.cell 3 (some 4)],43) := by kernel_rfl
-- 36 loop.example/prologserver/spec.DrawUnifyTerms params 1 ntmps 8
def ac36 : Cd := .seq (.region [⟨(some 2),.alloc [(.d (.int .i64 0)),(.d (.int .i64 0)),(.d (.str [])),(.full [])],none⟩,
 ⟨(some 3),.alloc [(.d (.int .i64 0)),(.d (.int .i64 0)),(.d (.str [])),(.full [])],none⟩] [])
 (.seq (.region [⟨(some 4),.mv (.t 0),none⟩,
 ⟨(some 5),.call false 87 [(.t 4)],none⟩,
 ⟨(some 6),.extract 0 (.t 5),none⟩,
 ⟨(some 7),.extract 1 (.t 5),none⟩,
 ⟨none,.store 4 (.t 2) (.t 6),none⟩,
 ⟨none,.store 4 (.t 3) (.t 7),none⟩] [0,4,5,6,7])
 (.ret))
theorem ac36_ok : cFunc Tryz.prog [] [(0,[],[]),(1,[0,4,5,6,7],[])] Tryz.f36 = some (ac36,[.cell 2 (some 4),.cell 3 (some 4)],8) := by kernel_rfl
-- 88 loop.example/prologserver/spec.DrawGoalValid params 1 ntmps 32
def ac88 : Cd := .seq (.region [⟨(some 2),.alloc [(.d (.int .i64 0)),(.d (.int .i64 0)),(.d (.str [])),(.full [])],none⟩] [])
 (.seq (.region [⟨(some 5),.mv (.t 0),none⟩,
 ⟨(some 6),.call false 39 [(.t 5)],none⟩,
 ⟨(some 3),.mv (.t 6),none⟩] [0,5,6])
 (.seq (.seq (.region [⟨(some 7),.mv (.t 3),none⟩,
 ⟨(some 8),.call false 43 [(.t 7),(.k (.c (.d (.int .i64 2))))],none⟩,
 ⟨(some 9),.bin .eql (.t 8) (.k (.c (.d (.int .i64 0)))),none⟩] [7,8])
 (.cond (.t 9)
 (.seq (.region [⟨(some 10),.mv (.t 3),none⟩,
 ⟨(some 11),.call false 42 [(.t 10)],none⟩,
 ⟨(some 4),.alloc [(.d (.int .i64 0)),(.d (.int .i64 0)),(.d (.str [])),(.full []),(.full [])],none⟩,
 ⟨none,.store 5 (.t 4) (.t 11),none⟩] [9,10,11])
 (.seq (.region [⟨(some 12),.mv (.t 3),none⟩,
 ⟨(some 13),.fieldAddr 0 (.t 4),none⟩,
 ⟨(some 16),.fieldAddr 4 (.t 4),none⟩,
 ⟨(some 19),.mv (.t 3),none⟩,
 ⟨(some 20),.fieldAddr 4 (.t 4),none⟩,
 ⟨(some 14),.load (some 4) (.t 13),none⟩,
 ⟨(some 15),.buildSlice 4 1 [(.int .i64 0),(.int .i64 0),(.str []),(.sl [])] [(0,(.t 14))],none⟩,
 ⟨(some 17),.load none (.t 16),none⟩,
 ⟨(some 21),.load none (.t 20),none⟩,
 ⟨(some 22),.len 1 (.t 21),none⟩,
 ⟨(some 23),.bin .add (.t 22) (.k (.c (.d (.int .i64 1)))),none⟩,
 ⟨(some 18),.append false 4 (.t 15) (.t 17),none⟩,
 ⟨(some 24),.call false 43 [(.t 19),(.t 23)],none⟩,
 ⟨(some 25),.indexAddr 4 (.t 18) (.t 24),none⟩,
 ⟨(some 26),.load (some 4) (.t 25),none⟩,
 ⟨(some 27),.call false 122 [(.t 12),(.t 26)],none⟩,
 ⟨none,.store 4 (.t 2) (.t 27),none⟩] [3,4,12,13,14,15,16,17,18,19,20,21,22,23,24,25,26,27])
 (.ret)))
 (.skip)))
 (.seq (.region [⟨(some 28),.mv (.t 3),none⟩,
 ⟨(some 29),.mv (.t 3),none⟩,
 ⟨(some 30),.call false 123 [(.t 29)],none⟩,
 ⟨(some 31),.call false 122 [(.t 28),(.t 30)],none⟩,
 ⟨none,.store 4 (.t 2) (.t 31),none⟩] [3,9,28,29,30,31])
 (.ret))))
theorem ac88_ok : cFunc Tryz.prog [] [(0,[],[]),(1,[0,5,6],[]),(2,[7,8],[]),(3,[9,10,11],[]),(4,[3,4,12,13,14,15,16,17,18,19,20,21,22,23,24,25,26,27],[0,1,4,7,8,2,3,5,9,10,11,6,12,13,14,15,16]),(5,[3,9,28,29,30,31],[])] Tryz.f88 = some (ac88,[.cell 2 (some 4)],32) := by kernel_rfl
-- 37 loop.example/prologserver/spec.DrawFirstKey params 1 ntmps 5
def ac37 : Cd := .seq (.region [⟨(some 2),.alloc [(.d (.int .i64 0)),(.d (.int .i64 0)),(.d (.str [])),(.full [])],none⟩] [])
 (.seq (.region [⟨(some 3),.mv (.t 0),none⟩,
 ⟨(some 4),.call false 88 [(.t 3)],none⟩,
 ⟨none,.store 4 (.t 2) (.t 4),none⟩] [0,3,4])
 (.ret))
theorem ac37_ok : cFunc Tryz.prog [] [(0,[],[]),(1,[0,3,4],[])] Tryz.f37 = some (ac37,[.cell 2 (some 4)],5) := by kernel_rfl
/-- variables of small numbers -/
inductive Tm.low : Tm → Prop
  | mk {k n : Int} {s : List UInt8} {l : List Tm} : -1000 ≤ n → n ≤ 1000 → (∀ t ∈ l, t.low) → (Tm.mk k n s l).low
theorem good_low : ∀ t : Tm, t.good → t.low := by
  refine Tm.ind fun k n s l ih h => ?_
  cases h with
  | mk ho hk =>
    rcases own_cases ho with ⟨rfl, h1, h2, rfl, rfl⟩ | ⟨rfl, h1, h2, rfl, rfl⟩ | ⟨rfl, rfl, h1, h2⟩
    · exact .mk (by omega) (by omega) (by simp)
    · exact .mk (by omega) (by omega) (by simp)
    · exact .mk (by omega) (by omega) fun t ht => ih t ht (hk t ht)
theorem sub1_low (f : Int → Tm) (hf : ∀ n, -1000 ≤ n → n ≤ 1000 → (f n).low) : ∀ t : Tm, t.low → (t.sub1 f).low := by
  refine Tm.ind fun k n s l ih h => ?_
  cases h with
  | mk h1 h2 h3 =>
    rw [sub1_mk]
    split
    · exact hf n h1 h2
    · refine .mk h1 h2 fun t ht => ?_
      obtain ⟨x, hx, rfl⟩ := List.mem_map.1 ht
      exact ih x hx (h3 x hx)
mutual
def Tm.sh (d : Int) : Tm → Tm
  | .mk k n s l => .mk k (if k = 1 then n + d else n) s (shL d l)
def shL (d : Int) : List Tm → List Tm
  | [] => []
  | t :: l => t.sh d :: shL d l
end
theorem shL_map (d : Int) : ∀ l : List Tm, shL d l = l.map (Tm.sh d)
  | [] => by rw [shL]; rfl
  | t :: l => by rw [shL, shL_map d l]; rfl
theorem sh_mk (d k n : Int) (s : List UInt8) (l : List Tm) : (Tm.mk k n s l).sh d = .mk k (if k = 1 then n + d else n) s (l.map (Tm.sh d)) := by rw [Tm.sh, shL_map]
theorem sh_fits (d : Int) (h0 : 0 ≤ d) (h1 : d ≤ 1000) : ∀ t : Tm, t.fits → t.low → (t.sh d).fits := by
  refine Tm.ind fun k n s l ih h hw => ?_
  obtain ⟨hk, hn, hs, hl, hkids⟩ := h
  obtain ⟨w1, w2, w3⟩ := hw
  rw [sh_mk]
  refine .mk hk (by split; exact small_i64 (by omega) (by omega); exact hn) hs (by simpa using hl) fun t ht => ?_
  obtain ⟨x, hx, rfl⟩ := List.mem_map.1 ht
  exact ih x hx (hkids x hx) (w3 x hx)
theorem drop_rowK (t : Tm) : List.drop 4 (t.row.map C.d) = [] := List.drop_of_length_le (by simp [row_len])
theorem take_sh {α β : Type} {f : α → β} {l : List α} {i : Nat} (h : i < l.length) : (l.map f).take i ++ [f l[i]] = (l.map f).take (i + 1) := by
  rw [List.take_succ_eq_append_getElem (by simpa using h)]; simp
theorem shift_calls (d : Int) (h0 : 0 ≤ d) (h1 : d ≤ 1000) : ∀ t : Tm, t.fits → t.low → ∀ H, ACalls Tryz.prog 146 [.agg (t.row.map .d), .c (.d (.int .i64 d))] H (fun r H' => H' = H ∧ r = .agg ((t.sh d).row.map .d)) := by
  refine Tm.ind fun k n s l ih hfits hw H => ?_
  obtain ⟨hk, hn, hs, hl, hkids⟩ := hfits
  obtain ⟨w1, w2, w3⟩ := hw
  refine acalls Tryz.func146 (by kernel_rfl) ac146_ok fun hf => ?_
  have hli : inR .i64 (l.length : Int) := small_i64 (by omega) (by omega)
  have hnd : inR .i64 (n + d) := small_i64 (by omega) (by omega)
  rw [sh_mk]
  by_cases hk1 : k = 1
  · subst hk1
    simp -implicitDefEqProofs [ac146, row_mk, hf, hli, hnd, go_sem, -List.set_cons_succ, -List.set_cons_zero]
    refine loop_enter (St.le_tokenC 2 3 4 rfl rfl) ?_
    refine loop_set (σ := Nat) (fun i => [(6, .c (.d (.int .i64 i)))]) (fun _ => H) (fun i => [.cells [.d (.int .i64 1), .d (.int .i64 n), .d (.str s), .d (.sl (l.map Tm.row))], .cells [.d (.int .i64 0), .d (.int .i64 0), .d (.str []), .full []], .cells [.d (.int .i64 1), .d (.int .i64 (n + d)), .d (.str s), .own (.l 3) i ((l.map (Tm.row ∘ Tm.sh d)).take i)], .grow i 4])
      (fun i => i ≤ l.length) (fun i => l.length - i) 0 rfl (Nat.zero_le _) ?_
    intro i hi
    simp -implicitDefEqProofs [setAll, hli, go_sem, -List.set_cons_succ, -List.set_cons_zero]
    refine ⟨fun hlt => ?_, fun hge => ?_⟩
    · have hadd : inR .i64 ((i : Int) + 1) := small_i64 (by omega) (by omega)
      refine row_of hlt (row_len _) ?_
      simp -implicitDefEqProofs [row_len, take_row, pure_d, re_d, go_sem, -List.set_cons_succ, -List.set_cons_zero]
      refine qcall_pure (ih l[i] (List.getElem_mem hlt) (hkids _ (List.getElem_mem hlt)) (w3 _ (List.getElem_mem hlt))) hf (by simp [A.re, re_d]) ?_
      simp -implicitDefEqProofs [row_len, toDs_map, hadd, hf, Nat.min_eq_left hi, go_sem, -List.set_cons_succ, -List.set_cons_zero]
      refine ⟨fun r hr => allLen_map (f := Tm.row ∘ Tm.sh d) (fun x => row_len _) r (List.mem_of_mem_take hr), by unfold maxApp; omega, ?_⟩
      refine loop_back (i + 1) ?_ hlt (by show l.length - (i + 1) < l.length - i; omega)
      simp [setAll]
      exact take_sh hlt
    · have hil : i = l.length := by omega
      subst hil
      rw [show (l.map (Tm.row ∘ Tm.sh d)).take l.length = l.map (Tm.row ∘ Tm.sh d) from List.take_of_length_le (by simp)]
      simp -implicitDefEqProofs [hf, go_sem, -List.set_cons_succ, -List.set_cons_zero]
  · simp -implicitDefEqProofs [ac146, row_mk, hf, hli, hk1, go_sem, -List.set_cons_succ, -List.set_cons_zero]
    refine loop_enter (St.le_tokenC 2 3 4 rfl rfl) ?_
    refine loop_set (σ := Nat) (fun i => [(6, .c (.d (.int .i64 i)))]) (fun _ => H) (fun i => [.cells [.d (.int .i64 k), .d (.int .i64 n), .d (.str s), .d (.sl (l.map Tm.row))], .cells [.d (.int .i64 0), .d (.int .i64 0), .d (.str []), .full []], .cells [.d (.int .i64 k), .d (.int .i64 n), .d (.str s), .own (.l 3) i ((l.map (Tm.row ∘ Tm.sh d)).take i)], .grow i 4])
      (fun i => i ≤ l.length) (fun i => l.length - i) 0 rfl (Nat.zero_le _) ?_
    intro i hi
    simp -implicitDefEqProofs [setAll, hli, go_sem, -List.set_cons_succ, -List.set_cons_zero]
    refine ⟨fun hlt => ?_, fun hge => ?_⟩
    · have hadd : inR .i64 ((i : Int) + 1) := small_i64 (by omega) (by omega)
      refine row_of hlt (row_len _) ?_
      simp -implicitDefEqProofs [row_len, take_row, pure_d, re_d, go_sem, -List.set_cons_succ, -List.set_cons_zero]
      refine qcall_pure (ih l[i] (List.getElem_mem hlt) (hkids _ (List.getElem_mem hlt)) (w3 _ (List.getElem_mem hlt))) hf (by simp [A.re, re_d]) ?_
      simp -implicitDefEqProofs [row_len, toDs_map, hadd, hf, Nat.min_eq_left hi, go_sem, -List.set_cons_succ, -List.set_cons_zero]
      refine ⟨fun r hr => allLen_map (f := Tm.row ∘ Tm.sh d) (fun x => row_len _) r (List.mem_of_mem_take hr), by unfold maxApp; omega, ?_⟩
      refine loop_back (i + 1) ?_ hlt (by show l.length - (i + 1) < l.length - i; omega)
      simp [setAll]
      exact take_sh hlt
    · have hil : i = l.length := by omega
      subst hil
      rw [show (l.map (Tm.row ∘ Tm.sh d)).take l.length = l.map (Tm.row ∘ Tm.sh d) from List.take_of_length_le (by simp)]
      simp -implicitDefEqProofs [hf, go_sem, -List.set_cons_succ, -List.set_cons_zero]
theorem Draws.weaken {f : FuncId} {xs : List A} {N N' : Int} {R R' : A → Prop} (h : Draws f xs N R) (hN : N ≤ N') (hR : ∀ r, R r → R' r) : Draws f xs N' R' := fun c p H i hc hp hp1 hi =>
  (h c p H i hc hp (by omega) hi).mono fun r H' ⟨h1, p', h2, h3, h4⟩ => ⟨hR r h1, p', h2, by omega, h4⟩
theorem drawG (d : Nat) (hd : d ≤ 4) : Draws 73 [.c (.d (.int .i64 d))] 1280 (TmP Tm.good) :=
  (drawW d (by omega)).weaken (by
    have : 4 ^ d ≤ 4 ^ 4 := Nat.pow_le_pow_right (by omega) hd
    omega) fun r ⟨t, h1, h2, h3⟩ => ⟨t, h1, h2, shape_good t _ h3.1⟩
theorem l1SomeG : Draws 123 [] 1281 (TmP Tm.good) := fun c p H i hc hp hp1 hi => by
  refine acalls Tryz.func123 (by kernel_rfl) ac123_ok fun hf => ?_
  simp only [List.length_set] at hf
  have hf0 : ∀ q, Obs.fits H.length 0 (H.set i (Rd c q)) := fun q => fits_reset (b := Rd c q) hf ⟨trivial, trivial, trivial⟩
  simp -implicitDefEqProofs [ac123, hf0, go_sem, -List.set_cons_succ, -List.set_cons_zero]
  refine call_drawE (num_draws [3, 2, 4, 1] (by decide)) hc (by omega) (by omega) hi (by simp [Ob.re, C.re]) (fun r ⟨n, _, hn⟩ => by subst hn; rfl) (hf0 _) ?_
  rintro _ p1 ⟨n, hn, rfl⟩ h1 h2
  obtain ⟨d, rfl, hd⟩ : ∃ d : Nat, n = (d : Int) ∧ d ≤ 4 := ⟨n.toNat, by simp at hn; omega, by simp at hn; omega⟩
  simp -implicitDefEqProofs [hf0, go_sem, -List.set_cons_succ, -List.set_cons_zero]
  refine call_drawE (drawG d hd) hc (by omega) (by omega) hi (by simp [Ob.re, C.re]) (fun r => TmP.re) (hf0 _) ?_
  rintro _ p2 ⟨t, rfl, ht, hg⟩ h3 h4
  rw [row_eq]
  simp -implicitDefEqProofs [hf0, go_sem, -List.set_cons_succ, -List.set_cons_zero]
  exact ⟨⟨t, by rw [row_eq]; rfl, ht, hg⟩, p2, by omega, by omega, rfl⟩
/-- two terms -/
def TmTm (r : A) : Prop := ∃ t u : Tm, r = .tup [.agg (t.row.map .d), .agg (u.row.map .d)] ∧ t.fits ∧ u.fits
theorem TmTm.re {n : Nat} {r : A} (h : TmTm r) : A.re n r = r := by
  obtain ⟨t, u, rfl, _⟩ := h
  simp [A.re, A.res, re_d]
theorem good_bare : ∀ t : Tm, t.good → t.bare := by
  refine Tm.ind fun k n s l ih h => ?_
  cases h with
  | mk ho hk =>
    refine .mk (fun e => ?_) fun t ht => ih t ht (hk t ht)
    rcases own_cases ho with ⟨_, _, _, rfl, rfl⟩ | ⟨rfl, _⟩ | ⟨rfl, _⟩
    · exact ⟨rfl, rfl⟩
    · cases e
    · cases e
theorem two_calls (c : List UInt8) (hc : c.length ≤ 1048576) (H : Heap) : ACalls Tryz.prog 87 [.c (.d (.sl (bytesRows c)))] H (fun r H' => H' = H ∧ TmTm r) := by
  refine acalls Tryz.func87 (by kernel_rfl) ac87_ok fun hf => ?_
  simp -implicitDefEqProofs [ac87, hf, go_sem, -List.set_cons_succ, -List.set_cons_zero]
  refine (open_calls c hc _).mono fun r H' ⟨h1, c', hc', h2⟩ => ⟨H, [.cells [.d (.int .i64 0), .d (.int .i64 0), .d (.str []), .full []], .cells [.d (.int .i64 0), .d (.int .i64 0), .d (.str []), .full []], Rd c' 0], .c (.ptr (.l 2) 0), by rw [h2]; simp [Rd, Ob.re, C.re], rfl, by simp, hf, by rw [h1]; simp [A.re, C.re, Ref.re], ?_⟩
  simp -implicitDefEqProofs [hf, go_sem, -List.set_cons_succ, -List.set_cons_zero]
  refine call_drawL (j := 2) l1SomeG hc' (by omega) (by omega) rfl (by simp [Rd, Ob.re, C.re]) (fun r => TmP.re) hf ?_
  rintro _ p1 ⟨a, rfl, ha, hga⟩ h3 h4
  simp -implicitDefEqProofs [row_len, take_row, pure_d, re_d, drop_rowK, splice_all, cut_all, hf, go_sem, -List.set_cons_succ, -List.set_cons_zero]
  refine call_drawL (j := 2) (drawG 2 (by omega)) hc' (by omega) (by omega) rfl (by simp [Rd, Ob.re, C.re, re_d]) (fun r => TmP.re) hf ?_
  rintro _ p2 ⟨x, rfl, hx, hgx⟩ h5 h6
  simp -implicitDefEqProofs [row_len, take_row, pure_d, re_d, drop_rowK, splice_all, cut_all, hf, toDs_map, go_sem, -List.set_cons_succ, -List.set_cons_zero]
  refine call_drawL (j := 2) (drawG 1 (by omega)) hc' (by omega) (by omega) rfl (by simp [Rd, Ob.re, C.re, re_d]) (fun r => TmP.re) hf ?_
  rintro _ p3 ⟨y, rfl, hy, hgy⟩ h7 h8
  simp -implicitDefEqProofs [row_len, take_row, pure_d, re_d, drop_rowK, splice_all, cut_all, hf, toDs_map, go_sem, -List.set_cons_succ, -List.set_cons_zero]
  refine call_drawL (j := 2) (drawG 2 (by omega)) hc' (by omega) (by omega) rfl (by simp [Rd, Ob.re, C.re, re_d]) (fun r => TmP.re) hf ?_
  rintro _ p4 ⟨z, rfl, hz, hgz⟩ h9 h10
  simp -implicitDefEqProofs [row_len, take_row, pure_d, re_d, drop_rowK, splice_all, cut_all, hf, toDs_map, go_sem, -List.set_cons_succ, -List.set_cons_zero]
  have hbs : FitsB [⟨0, x⟩, ⟨1, y⟩, ⟨2, z⟩] := ⟨by simp, fun b hb => by
    simp at hb
    rcases hb with rfl | rfl | rfl
    · exact ⟨small_i64 (by simp only; omega) (by simp only; omega), hx⟩
    · exact ⟨small_i64 (by simp only; omega) (by simp only; omega), hy⟩
    · exact ⟨small_i64 (by simp only; omega) (by simp only; omega), hz⟩⟩
  have hrow : ([⟨0, x⟩, ⟨1, y⟩, ⟨2, z⟩] : List Bd).map Bd.row = [D.int .i64 0 :: x.row, D.int .i64 1 :: y.row, D.int .i64 2 :: z.row] := by simp [bdrow_eq]
  have c1 := l3Apply_calls _ hbs a ha (good_bare a hga)
  rw [hrow] at c1
  have hlow : (a.sub1 (bdTo [⟨0, x⟩, ⟨1, y⟩, ⟨2, z⟩])).low := sub1_low _ (fun n n0 n1 => by
    unfold bdTo
    cases hfd : bdFind [⟨0, x⟩, ⟨1, y⟩, ⟨2, z⟩] n with
    | none => exact .mk n0 n1 (by simp)
    | some u =>
      unfold bdFind at hfd
      obtain ⟨b, q1, q2⟩ := Option.map_eq_some_iff.1 hfd
      have hm := List.mem_of_find?_eq_some q1
      simp at hm
      rcases hm with rfl | rfl | rfl
      · rw [← q2]; exact good_low _ hgx
      · rw [← q2]; exact good_low _ hgy
      · rw [← q2]; exact good_low _ hgz) a (good_low a hga)
  have hbf : (a.sub1 (bdTo [⟨0, x⟩, ⟨1, y⟩, ⟨2, z⟩])).fits := sub1_fits _ (fun n hn => bdTo_fits hbs.2 n hn) a ha
  generalize a.sub1 (bdTo [⟨0, x⟩, ⟨1, y⟩, ⟨2, z⟩]) = b at c1 hlow hbf
  refine qcall_pure c1 hf (by simp [A.re, re_d]) ?_
  simp -implicitDefEqProofs [row_len, take_row, pure_d, re_d, drop_rowK, splice_all, cut_all, hf, toDs_map, go_sem, -List.set_cons_succ, -List.set_cons_zero]
  refine call_drawL (j := 2) (pick_draws 4 (by omega)) hc' (by omega) (by omega) rfl (by simp [Rd, Ob.re, C.re, re_d]) (fun r => IntIn.re) hf ?_
  rintro _ p5 ⟨m, rfl, m0, m1⟩ g1 g2
  refine ⟨LocSame.set (j := 2) rfl (by simp [b0_, Rd]), ?_⟩
  simp -implicitDefEqProofs [row_len, take_row, pure_d, re_d, drop_rowK, splice_all, cut_all, hf, toDs_map, go_sem, -List.set_cons_succ, -List.set_cons_zero]
  refine ⟨fun _ => ?_, fun _ => ⟨fun _ => ?_, fun _ => ?_⟩⟩
  · refine call_drawL (j := 2) l1Some_draws hc' (by omega) (by omega) rfl (by simp [Rd, Ob.re, C.re, re_d]) (fun r => TmR.re) hf ?_
    rintro _ p6 ⟨w, rfl, hw⟩ g3 g4
    simp -implicitDefEqProofs [row_len, take_row, pure_d, re_d, thaw_d, fits_map, drop_rowK, splice_all, cut_all, hf, toDs_map, go_sem, -List.set_cons_succ, -List.set_cons_zero]
    refine call_drawL (j := 2) (l1Mutate_draws a ha) hc' (by omega) (by omega) rfl (by simp [Rd, Ob.re, C.re, re_d]) (fun r => TmR.re) hf ?_
    rintro _ q1 ⟨u, rfl, hu⟩ k1 k2
    refine ⟨LocSame.set (j := 2) rfl (by simp [b0_, Rd]), ?_⟩
    simp -implicitDefEqProofs [row_len, take_row, pure_d, re_d, thaw_d, fits_map, drop_rowK, splice_all, cut_all, hf, toDs_map, go_sem, -List.set_cons_succ, -List.set_cons_zero]
    refine call_drawL (j := 2) (l1Mutate_draws w hw) hc' (by omega) (by omega) rfl (by simp [Rd, Ob.re, C.re, re_d]) (fun r => TmR.re) hf ?_
    rintro _ q2 ⟨v, rfl, hv⟩ k3 k4
    refine ⟨LocSame.set (j := 2) rfl (by simp [b0_, Rd]), ?_⟩
    simp -implicitDefEqProofs [row_len, take_row, pure_d, re_d, thaw_d, fits_map, drop_rowK, splice_all, cut_all, hf, toDs_map, go_sem, -List.set_cons_succ, -List.set_cons_zero]
    exact ⟨u, v, rfl, hu, hv⟩
  · refine call_drawL (j := 2) (pick_draws 3 (by omega)) hc' (by omega) (by omega) rfl (by simp [Rd, Ob.re, C.re, re_d]) (fun r => IntIn.re) hf ?_
    rintro _ p6 ⟨e, rfl, e0, e1⟩ g3 g4
    refine ⟨LocSame.set (j := 2) rfl (by simp [b0_, Rd]), ?_⟩
    simp -implicitDefEqProofs [row_len, take_row, pure_d, re_d, thaw_d, fits_map, drop_rowK, splice_all, cut_all, hf, toDs_map, go_sem, -List.set_cons_succ, -List.set_cons_zero]
    refine qcall_pure (shift_calls e (by omega) (by omega) b hbf hlow) hf (by simp [A.re, re_d]) ?_
    have hsf := sh_fits e (by omega) (by omega) b hbf hlow
    simp -implicitDefEqProofs [row_len, take_row, pure_d, re_d, thaw_d, fits_map, drop_rowK, splice_all, cut_all, hf, toDs_map, go_sem, -List.set_cons_succ, -List.set_cons_zero]
    refine call_drawL (j := 2) (l1Mutate_draws a ha) hc' (by omega) (by omega) rfl (by simp [Rd, Ob.re, C.re, re_d]) (fun r => TmR.re) hf ?_
    rintro _ q1 ⟨u, rfl, hu⟩ k1 k2
    refine ⟨LocSame.set (j := 2) rfl (by simp [b0_, Rd]), ?_⟩
    simp -implicitDefEqProofs [row_len, take_row, pure_d, re_d, thaw_d, fits_map, drop_rowK, splice_all, cut_all, hf, toDs_map, go_sem, -List.set_cons_succ, -List.set_cons_zero]
    refine call_drawL (j := 2) (l1Mutate_draws (b.sh e) hsf) hc' (by omega) (by omega) rfl (by simp [Rd, Ob.re, C.re, re_d]) (fun r => TmR.re) hf ?_
    rintro _ q2 ⟨v, rfl, hv⟩ k3 k4
    refine ⟨LocSame.set (j := 2) rfl (by simp [b0_, Rd]), ?_⟩
    simp -implicitDefEqProofs [row_len, take_row, pure_d, re_d, thaw_d, fits_map, drop_rowK, splice_all, cut_all, hf, toDs_map, go_sem, -List.set_cons_succ, -List.set_cons_zero]
    exact ⟨u, v, rfl, hu, hv⟩
  · refine call_drawL (j := 2) (l1Mutate_draws a ha) hc' (by omega) (by omega) rfl (by simp [Rd, Ob.re, C.re, re_d]) (fun r => TmR.re) hf ?_
    rintro _ q1 ⟨u, rfl, hu⟩ k1 k2
    refine ⟨LocSame.set (j := 2) rfl (by simp [b0_, Rd]), ?_⟩
    simp -implicitDefEqProofs [row_len, take_row, pure_d, re_d, thaw_d, fits_map, drop_rowK, splice_all, cut_all, hf, toDs_map, go_sem, -List.set_cons_succ, -List.set_cons_zero]
    refine call_drawL (j := 2) (l1Mutate_draws b hbf) hc' (by omega) (by omega) rfl (by simp [Rd, Ob.re, C.re, re_d]) (fun r => TmR.re) hf ?_
    rintro _ q2 ⟨v, rfl, hv⟩ k3 k4
    refine ⟨LocSame.set (j := 2) rfl (by simp [b0_, Rd]), ?_⟩
    simp -implicitDefEqProofs [row_len, take_row, pure_d, re_d, thaw_d, fits_map, drop_rowK, splice_all, cut_all, hf, toDs_map, go_sem, -List.set_cons_succ, -List.set_cons_zero]
    exact ⟨u, v, rfl, hu, hv⟩
theorem drawUt_calls (c : List UInt8) (hc : c.length ≤ 1048576) (H : Heap) : ACalls Tryz.prog 36 [.c (.d (.sl (bytesRows c)))] H (fun r H' => H' = H ∧ TmTm r) := by
  refine acalls Tryz.func36 (by kernel_rfl) ac36_ok fun hf => ?_
  simp -implicitDefEqProofs [ac36, hf, go_sem, -List.set_cons_succ, -List.set_cons_zero]
  refine call_some (two_calls c hc _) (by simp [Ob.re, C.re]) (fun r => TmTm.re) hf ?_
  rintro _ ⟨t, u, rfl, ht, hu⟩
  simp -implicitDefEqProofs [row_len, take_row, pure_d, re_d, thaw_d, fits_map, drop_rowK, splice_all, cut_all, hf, toDs_map, go_sem, -List.set_cons_succ, -List.set_cons_zero]
  exact ⟨t, u, rfl, ht, hu⟩
theorem drawGv_calls (c : List UInt8) (hc : c.length ≤ 1048576) (H : Heap) : ACalls Tryz.prog 88 [.c (.d (.sl (bytesRows c)))] H (fun r H' => H' = H ∧ TmR r) := by
  refine acalls Tryz.func88 (by kernel_rfl) ac88_ok fun hf => ?_
  simp -implicitDefEqProofs [ac88, hf, go_sem, -List.set_cons_succ, -List.set_cons_zero]
  refine (open_calls c hc _).mono fun r H' ⟨h1, c', hc', h2⟩ => ⟨H, [.cells [.d (.int .i64 0), .d (.int .i64 0), .d (.str []), .full []], Rd c' 0], .c (.ptr (.l 1) 0), by rw [h2]; simp [Rd, Ob.re, C.re], rfl, by simp, hf, by rw [h1]; simp [A.re, C.re, Ref.re], ?_⟩
  simp -implicitDefEqProofs [hf, go_sem, -List.set_cons_succ, -List.set_cons_zero]
  refine call_drawL (j := 1) (pick_draws 2 (by omega)) hc' (by omega) (by omega) rfl (by simp [Rd, Ob.re, C.re, re_d]) (fun r => IntIn.re) hf ?_
  rintro _ p1 ⟨m, rfl, m0, m1⟩ g1 g2
  simp -implicitDefEqProofs [row_len, take_row, pure_d, re_d, thaw_d, fits_map, drop_rowK, splice_all, cut_all, hf, toDs_map, go_sem, -List.set_cons_succ, -List.set_cons_zero]
  refine ⟨fun _ => ?_, fun _ => ?_⟩
  · refine call_drawL (j := 1) clause_draws hc' (by omega) (by omega) rfl (by simp [Rd, Ob.re, C.re, re_d]) (fun r => ClT.re) hf ?_
    rintro _ p2 ⟨⟨hd, bd⟩, rfl, ⟨hfh, hbl, hbf⟩, hdl, _⟩ h3 h4
    simp only at hfh hbl hbf hdl
    have hbi : inR .i64 (bd.length : Int) := small_i64 (by omega) (by omega)
    have hbi1 : inR .i64 ((bd.length : Int) + 1) := small_i64 (by omega) (by omega)
    simp -implicitDefEqProofs [Cl.row, hbi, hbi1, row_len, take_row, pure_d, re_d, thaw_d, fits_map, drop_rowK, splice_all, cut_all, hf, toDs_map, go_sem, -List.set_cons_succ, -List.set_cons_zero]
    refine ⟨allLen_map row_len, by unfold maxApp; omega, ?_⟩
    rw [show ([D.int .i64 hd.k, .int .i64 hd.n, .str hd.s, .sl (hd.kids.map Tm.row)] : List D) = hd.row from (row_eq hd).symm]
    generalize posF [hd.row] (bd.map Tm.row) = pf
    refine call_drawL (j := 1) (pick_draws ((bd.length : Int) + 1) (by omega)) hc' (by omega) (by omega) rfl (by simp [Rd, Ob.re, C.re, re_d, Ref.re]) (fun r => IntIn.re) hf ?_
    rintro _ p3 ⟨e, rfl, e0, e1⟩ g3 g4
    simp -implicitDefEqProofs [row_len, take_row, pure_d, re_d, thaw_d, fits_map, drop_rowK, splice_all, cut_all, hf, toDs_map, go_sem, -List.set_cons_succ, -List.set_cons_zero]
    have hel : e.toNat < (hd :: bd).length := by simp; omega
    have hfx : ((hd :: bd)[e.toNat]).fits := by
      rcases List.mem_cons.1 (List.getElem_mem hel) with h | h
      · rw [h]; exact hfh
      · exact hbf _ h
    refine row_int ((hd :: bd)[e.toNat]).row (by omega) (by rw [← List.map_cons, List.getElem?_map, List.getElem?_eq_getElem hel]; rfl) (row_len _) ?_
    generalize (hd :: bd)[e.toNat] = w at hfx
    simp -implicitDefEqProofs [row_len, take_row, pure_d, re_d, thaw_d, fits_map, drop_rowK, splice_all, cut_all, hf, toDs_map, go_sem, -List.set_cons_succ, -List.set_cons_zero]
    refine call_drawL (j := 1) (l1Mutate_draws w hfx) hc' (by omega) (by omega) rfl (by simp [Rd, Ob.re, C.re, re_d, Ref.re]) (fun r => TmR.re) hf ?_
    rintro _ p4 ⟨u, rfl, hu⟩ g5 g6
    simp -implicitDefEqProofs [row_len, take_row, pure_d, re_d, thaw_d, fits_map, drop_rowK, splice_all, cut_all, hf, toDs_map, go_sem, -List.set_cons_succ, -List.set_cons_zero]
    exact ⟨u, rfl, hu⟩
  · refine call_drawL (j := 1) l1Some_draws hc' (by omega) (by omega) rfl (by simp [Rd, Ob.re, C.re, re_d]) (fun r => TmR.re) hf ?_
    rintro _ p2 ⟨w, rfl, hw⟩ g3 g4
    simp -implicitDefEqProofs [row_len, take_row, pure_d, re_d, thaw_d, fits_map, drop_rowK, splice_all, cut_all, hf, toDs_map, go_sem, -List.set_cons_succ, -List.set_cons_zero]
    refine call_drawL (j := 1) (l1Mutate_draws w hw) hc' (by omega) (by omega) rfl (by simp [Rd, Ob.re, C.re, re_d]) (fun r => TmR.re) hf ?_
    rintro _ p3 ⟨u, rfl, hu⟩ g5 g6
    simp -implicitDefEqProofs [row_len, take_row, pure_d, re_d, thaw_d, fits_map, drop_rowK, splice_all, cut_all, hf, toDs_map, go_sem, -List.set_cons_succ, -List.set_cons_zero]
    exact ⟨u, rfl, hu⟩
theorem drawFk_calls (c : List UInt8) (hc : c.length ≤ 1048576) (H : Heap) : ACalls Tryz.prog 37 [.c (.d (.sl (bytesRows c)))] H (fun r H' => H' = H ∧ TmR r) := by
  refine acalls Tryz.func37 (by kernel_rfl) ac37_ok fun hf => ?_
  simp -implicitDefEqProofs [ac37, go_sem, -List.set_cons_succ, -List.set_cons_zero]
  refine call_some (drawGv_calls c hc _) (by simp [Ob.re, C.re]) (fun r => TmR.re) hf ?_
  rintro _ ⟨t, rfl, ht⟩
  simp -implicitDefEqProofs [hf, row_len, take_row, pure_d, re_d, thaw_d, fits_map, drop_rowK, splice_all, cut_all, go_sem, -List.set_cons_succ, -List.set_cons_zero]
  exact ⟨t, rfl, ht⟩
end Go.Proofs.YtbblefjbgbocoaaGreatDoor

/-
  Unification, in plain Lean: what variables stand for, and that it ends.
  Conditions: none.
-/
open Go Go.AM Go.Proofs
namespace Go.Proofs.YtbblefjbgbocoaaGreatDoor
set_option linter.unusedVariables false
set_option linter.unusedSimpArgs false
set_option maxRecDepth 100000
theorem good_fits : ∀ t : Tm, t.good → t.fits := by
  refine Tm.ind fun k n s l ih h => ?_
  cases h with
  | mk ho hk =>
    rcases own_cases ho with ⟨rfl, h1, h2, rfl, rfl⟩ | ⟨rfl, h1, h2, rfl, rfl⟩ | ⟨rfl, rfl, h1, h2⟩
    · exact .mk (small_i64 (by omega) (by omega)) (small_i64 (by omega) (by omega)) (by simp) (by simp) (by simp)
    · exact .mk (small_i64 (by omega) (by omega)) (small_i64 (by omega) (by omega)) (by simp) (by simp) (by simp)
    · have := name_len h1
      exact .mk (small_i64 (by omega) (by omega)) (small_i64 (by omega) (by omega)) (by omega) (by omega) fun t ht => ih t ht (hk t ht)
theorem good_kids {t : Tm} (h : t.good) : ∀ x ∈ t.kids, x.good := by
  cases h with
  | mk ho hk => exact hk
theorem good_var {t : Tm} (h : t.good) (hk : t.k = 1) : 0 ≤ t.n ∧ t.n ≤ 25 ∧ t.kids = [] ∧ t = .mk 1 t.n [] [] := by
  cases h with
  | mk ho _ =>
    rcases own_cases ho with ⟨rfl, h1, h2, rfl, rfl⟩ | ⟨rfl, h1, h2, rfl, rfl⟩ | ⟨rfl, rfl, h1, h2⟩
    · exact ⟨h1, h2, rfl, rfl⟩
    · cases hk
    · cases hk
/-! ### what variables stand for -/
abbrev Sto := List (Int × Tm)
def look : Sto → Int → Option Tm
  | [], _ => none
  | (k, t) :: l, n => if k = n then some t else look l n
theorem look_snoc : ∀ (σ : Sto) (n : Int) (t : Tm) (m : Int), look (σ ++ [(n, t)]) m = match look σ m with | some u => some u | none => if n = m then some t else none
  | [], n, t, m => by simp [look]
  | (k, u) :: σ, n, t, m => by
    simp only [List.cons_append, look]
    by_cases h : k = m
    · simp [h]
    · simp [h, look_snoc σ n t m]
theorem look_mem : ∀ {σ : Sto} {n : Int} {t : Tm}, look σ n = some t → (n, t) ∈ σ
  | (k, u) :: σ, n, t, h => by
    simp only [look] at h
    split at h
    · rename_i e; subst e; cases h; simp
    · exact List.mem_cons_of_mem _ (look_mem h)
/-! ### weights -/
mutual
def Tm.tw (W : Int → Nat) : Tm → Nat
  | .mk k n s l => if k = 1 then W n else 1 + twL W l
def twL (W : Int → Nat) : List Tm → Nat
  | [] => 0
  | t :: l => t.tw W + twL W l
end
theorem tw_mk (W : Int → Nat) (k n : Int) (s : List UInt8) (l : List Tm) : (Tm.mk k n s l).tw W = if k = 1 then W n else 1 + twL W l := by rw [Tm.tw]
theorem tw_var {W : Int → Nat} {t : Tm} (h : t.k = 1) : t.tw W = W t.n := by
  obtain ⟨k, n, s, l⟩ := t
  exact (tw_mk W k n s l).trans (if_pos h)
theorem tw_kids {W : Int → Nat} {t : Tm} (h : t.k ≠ 1) : t.tw W = 1 + twL W t.kids := by
  obtain ⟨k, n, s, l⟩ := t
  exact (tw_mk W k n s l).trans (if_neg h)
theorem twL_mem {W : Int → Nat} : ∀ {l : List Tm} {x : Tm}, x ∈ l → x.tw W ≤ twL W l
  | t :: l, x, h => by
    rw [twL]
    rcases List.mem_cons.1 h with rfl | h
    · omega
    · have := twL_mem (W := W) h; omega
theorem tw_kid {W : Int → Nat} {t x : Tm} (h : t.k ≠ 1) (hx : x ∈ t.kids) : x.tw W < t.tw W := by
  rw [tw_kids h]
  have := twL_mem (W := W) hx
  omega
/-! variables of a term -/
mutual
def Tm.vin (v : Int) : Tm → Prop
  | .mk k n s l => if k = 1 then n = v else vinL v l
def vinL (v : Int) : List Tm → Prop
  | [] => False
  | t :: l => t.vin v ∨ vinL v l
end
theorem vinL_iff {v : Int} : ∀ {l : List Tm}, vinL v l ↔ ∃ x ∈ l, x.vin v
  | [] => by simp [vinL]
  | t :: l => by rw [vinL, vinL_iff]; simp
theorem vin_var {v : Int} {t : Tm} (h : t.k = 1) : t.vin v ↔ t.n = v := by
  obtain ⟨k, n, s, l⟩ := t
  rw [Tm.vin]
  exact iff_of_eq (if_pos h)
theorem vin_kids {v : Int} {t : Tm} (h : t.k ≠ 1) : t.vin v ↔ ∃ x ∈ t.kids, x.vin v := by
  obtain ⟨k, n, s, l⟩ := t
  rw [Tm.vin]
  exact (iff_of_eq (if_neg h)).trans vinL_iff
theorem tw_congr {W W' : Int → Nat} : ∀ t : Tm, (∀ v, t.vin v → W v = W' v) → t.tw W = t.tw W' := by
  refine Tm.ind fun k n s l ih h => ?_
  rw [tw_mk, tw_mk]
  split
  · rename_i hk
    exact h n ((vin_var (t := .mk k n s l) hk).2 rfl)
  · rename_i hk
    have h2 : ∀ x ∈ l, ∀ v, x.vin v → W v = W' v := fun x hx v hv => h v ((vin_kids (t := .mk k n s l) hk).2 ⟨x, hx, hv⟩)
    clear h
    congr 1
    induction l with
    | nil => rfl
    | cons t l ih2 =>
      rw [twL, twL, ih t (by simp) (h2 t (by simp)), ih2 (fun x hx => ih x (by simp [hx])) (fun x hx => h2 x (by simp [hx]))]
theorem tw_mul {W W' : Int → Nat} {C : Nat} (hC : 1 ≤ C) (h : ∀ v, W' v ≤ C * W v) : ∀ t : Tm, t.tw W' ≤ C * t.tw W := by
  refine Tm.ind fun k n s l ih => ?_
  rw [tw_mk, tw_mk]
  split
  · exact h n
  · have : twL W' l ≤ C * twL W l := by
      induction l with
      | nil => simp [twL]
      | cons t l ih2 =>
        have h1 := ih t (by simp)
        have h2 := ih2 fun x hx => ih x (by simp [hx])
        rw [twL, twL, Nat.mul_add]
        omega
    rw [Nat.mul_add]
    omega
theorem vin_tw {W : Int → Nat} {v : Int} : ∀ t : Tm, t.vin v → W v ≤ t.tw W := by
  refine Tm.ind fun k n s l ih h => ?_
  by_cases hk : k = 1
  · rw [vin_var (t := .mk k n s l) hk] at h
    rw [tw_mk, if_pos hk, ← h]
    exact Nat.le_refl _
  · obtain ⟨x, hx, hv⟩ := (vin_kids (t := .mk k n s l) hk).1 h
    have h1 := ih x hx hv
    have h2 := tw_kid (W := W) (t := .mk k n s l) hk hx
    omega
/-- weights under which what a variable stands for is lighter than the variable -/
structure Wt (σ : Sto) (W : Int → Nat) : Prop where
  pos : ∀ n, 1 ≤ W n
  lt : ∀ n u, look σ n = some u → u.tw W < W n
/-! ### walks -/
def wkF : Nat → Sto → Tm → Tm
  | 0, _, t => t
  | f + 1, σ, t => if t.k = 1 then match look σ t.n with | some u => wkF f σ u | none => t else t
theorem wkF_eq {σ : Sto} {W : Int → Nat} (hW : Wt σ W) : ∀ (f g : Nat) (t : Tm), t.tw W ≤ f → t.tw W ≤ g → wkF f σ t = wkF g σ t := by
  intro f
  induction f with
  | zero =>
    intro g t hf hg
    by_cases hk : t.k = 1
    · rw [tw_var hk] at hf
      have := hW.pos t.n
      omega
    · cases g with
      | zero => rfl
      | succ g => simp [wkF, hk]
  | succ f ih =>
    intro g t hf hg
    cases g with
    | zero =>
      by_cases hk : t.k = 1
      · rw [tw_var hk] at hg
        have := hW.pos t.n
        omega
      · simp [wkF, hk]
    | succ g =>
      by_cases hk : t.k = 1
      · simp only [wkF, hk, if_true]
        cases hl : look σ t.n with
        | none => rfl
        | some u =>
          have := hW.lt _ _ hl
          rw [tw_var hk] at hf hg
          exact ih g u (by omega) (by omega)
      · simp [wkF, hk]
open Classical in
/-- a term, or what it stands for -/
noncomputable def wk (σ : Sto) (t : Tm) : Tm := if h : ∃ W, Wt σ W then wkF (t.tw h.choose) σ t else t
theorem wk_some {σ : Sto} (h : ∃ W, Wt σ W) {t u : Tm} (hk : t.k = 1) (hl : look σ t.n = some u) : wk σ t = wk σ u := by
  have hW := h.choose_spec
  unfold wk
  rw [dif_pos h, dif_pos h]
  have h1 := hW.lt _ _ hl
  have h2 := tw_var (W := h.choose) hk
  obtain ⟨m, hm⟩ : ∃ m, t.tw h.choose = m + 1 := ⟨t.tw h.choose - 1, by have := hW.pos t.n; omega⟩
  rw [hm]
  simp only [wkF, hk, if_true, hl]
  exact wkF_eq hW _ _ u (by omega) (Nat.le_refl _)
theorem wk_none {σ : Sto} {t : Tm} (hl : look σ t.n = none) : wk σ t = t := by
  unfold wk
  split
  · rename_i h
    generalize t.tw h.choose = f
    cases f with
    | zero => rfl
    | succ f => simp [wkF, hl]
  · rfl
theorem wk_nonvar {σ : Sto} {t : Tm} (hk : t.k ≠ 1) : wk σ t = t := by
  unfold wk
  split
  · rename_i h
    generalize t.tw h.choose = f
    cases f with
    | zero => rfl
    | succ f => simp [wkF, hk]
  · rfl
theorem wk_ind {σ : Sto} {W : Int → Nat} (hW : Wt σ W) {M : Tm → Tm → Prop} (h1 : ∀ t, t.k ≠ 1 → M t t) (h2 : ∀ t, t.k = 1 → look σ t.n = none → M t t) (h3 : ∀ t u, t.k = 1 → look σ t.n = some u → M u (wk σ u) → M t (wk σ u)) : ∀ t, M t (wk σ t) := by
  have key : ∀ (f : Nat) t, t.tw W ≤ f → M t (wk σ t) := by
    intro f
    induction f with
    | zero =>
      intro t hf
      by_cases hk : t.k = 1
      · rw [tw_var hk] at hf
        have := hW.pos t.n
        omega
      · rw [wk_nonvar hk]; exact h1 t hk
    | succ f ih =>
      intro t hf
      by_cases hk : t.k = 1
      · cases hl : look σ t.n with
        | none => rw [wk_none hl]; exact h2 t hk hl
        | some u =>
          rw [wk_some ⟨W, hW⟩ hk hl]
          have := hW.lt _ _ hl
          rw [tw_var hk] at hf
          exact h3 t u hk hl (ih u (by omega))
      · rw [wk_nonvar hk]; exact h1 t hk
  exact fun t => key _ t (Nat.le_refl _)
theorem wk_tw {σ : Sto} {W : Int → Nat} (hW : Wt σ W) (t : Tm) : (wk σ t).tw W ≤ t.tw W :=
  wk_ind hW (M := fun t u => u.tw W ≤ t.tw W) (fun t _ => Nat.le_refl _) (fun t _ _ => Nat.le_refl _) (fun t u hk hl h => by have := hW.lt _ _ hl; rw [tw_var hk]; omega) t
theorem wk_end {σ : Sto} {W : Int → Nat} (hW : Wt σ W) (t : Tm) : (wk σ t).k = 1 → look σ (wk σ t).n = none :=
  wk_ind hW (M := fun t u => u.k = 1 → look σ u.n = none) (fun t h h' => absurd h' h) (fun t _ h _ => h) (fun t u _ _ h => h) t
theorem wk_good {σ : Sto} {W : Int → Nat} (hW : Wt σ W) (hg : ∀ x ∈ σ, x.2.good) (t : Tm) (ht : t.good) : (wk σ t).good :=
  wk_ind hW (M := fun t u => t.good → u.good) (fun t _ h => h) (fun t _ _ h => h) (fun t u _ hl h _ => h (hg _ (look_mem hl))) t ht
end Go.Proofs.YtbblefjbgbocoaaGreatDoor

/-
  Unification, in plain Lean: it ends, and what it tells of keys.
  Conditions: none.
-/
open Go Go.AM Go.Proofs
namespace Go.Proofs.YtbblefjbgbocoaaGreatDoor
set_option linter.unusedVariables false
set_option linter.unusedSimpArgs false
set_option maxRecDepth 100000
/-! ### a variable in a term -/
noncomputable def occF : Nat → Sto → Int → Tm → List Int → Bool × List Int
  | 0, _, _, _, M => (false, M)
  | f + 1, σ, n, t, M =>
    if t.k = 1 then
      if t.n ∈ M then (false, M)
      else if (wk σ t).k = 1 then (decide ((wk σ t).n = n), M ++ [t.n])
      else occF f σ n (wk σ t) (M ++ [t.n])
    else anyS (fun M x => occF f σ n x M) t.kids M
theorem wk_lt {σ : Sto} {W : Int → Nat} (hW : Wt σ W) {t : Tm} (hk : t.k = 1) (hu : (wk σ t).k ≠ 1) : (wk σ t).tw W < t.tw W := by
  cases hl : look σ t.n with
  | none => rw [wk_none hl] at hu; exact absurd hk hu
  | some u =>
    rw [wk_some ⟨W, hW⟩ hk hl]
    have h1 := wk_tw hW u
    have h2 := hW.lt _ _ hl
    rw [tw_var hk]
    omega
def varT (v : Int) : Tm := .mk 1 v [] []
/-- what is known of a variable that has been met -/
def Pw (σ : Sto) (n : Int) (M : List Int) (v : Int) : Prop := ((wk σ (varT v)).k = 1 → (wk σ (varT v)).n ≠ n) ∧ ((wk σ (varT v)).k ≠ 1 → ∀ y, (wk σ (varT v)).vin y → y ∈ M)
theorem Pw.mono {σ : Sto} {n : Int} {M M' : List Int} {v : Int} (h : Pw σ n M v) (hM : ∀ y ∈ M, y ∈ M') : Pw σ n M' v := ⟨h.1, fun hk y hy => hM y (h.2 hk y hy)⟩
def OccS (σ : Sto) (n : Int) (V : Int → Prop) (M M' : List Int) : Prop := (∀ y ∈ M, y ∈ M') ∧ (∀ y, V y → y ∈ M') ∧ ∀ v ∈ M', v ∈ M ∨ Pw σ n M' v
theorem occL_spec {σ : Sto} {n : Int} (step : List Int → Tm → Bool × List Int) : ∀ (l : List Tm) (M : List Int), (∀ x ∈ l, ∀ M, (step M x).1 = false → OccS σ n (fun y => x.vin y) M (step M x).2) → (anyS step l M).1 = false → OccS σ n (fun y => ∃ x ∈ l, x.vin y) M (anyS step l M).2
  | [], M, _, _ => ⟨fun y h => h, fun y ⟨x, hx, _⟩ => by simp at hx, fun v hv => .inl hv⟩
  | t :: l, M, h, hb => by
    simp only [anyS] at hb ⊢
    cases h1 : (step M t).1 with
    | true => rw [h1] at hb; simp at hb
    | false =>
      rw [h1] at hb
      simp only [Bool.false_eq_true, if_false] at hb ⊢
      obtain ⟨a1, a2, a3⟩ := h t (by simp) M h1
      obtain ⟨b1, b2, b3⟩ := occL_spec step l (step M t).2 (fun x hx => h x (by simp [hx])) hb
      refine ⟨fun y hy => b1 y (a1 y hy), fun y ⟨x, hx, hv⟩ => ?_, fun v hv => ?_⟩
      · rcases List.mem_cons.1 hx with rfl | hx
        · exact b1 y (a2 y hv)
        · exact b2 y ⟨x, hx, hv⟩
      · rcases b3 v hv with h2 | h2
        · rcases a3 v h2 with h3 | h3
          · exact .inl h3
          · exact .inr (h3.mono b1)
        · exact .inr h2
theorem occF_spec {σ : Sto} {W : Int → Nat} (hW : Wt σ W) (hg : ∀ x ∈ σ, x.2.good) (n : Int) : ∀ (f : Nat) (t : Tm) (M : List Int), t.good → t.tw W < f → (occF f σ n t M).1 = false → OccS σ n (fun y => t.vin y) M (occF f σ n t M).2 := by
  intro f
  induction f with
  | zero => intro t M _ h; omega
  | succ f ih =>
    intro t M ht hf hb
    by_cases hk : t.k = 1
    · have hv := (good_var ht hk).2.2.2
      have hvt : wk σ (varT t.n) = wk σ t := by
        show wk σ (.mk 1 t.n [] []) = _
        rw [← hv]
      simp only [occF, hk, if_true] at hb ⊢
      by_cases hm : t.n ∈ M
      · rw [if_pos hm] at hb ⊢
        exact ⟨fun y h => h, fun y h => by rw [← (vin_var hk).1 h]; exact hm, fun v hv => .inl hv⟩
      · rw [if_neg hm] at hb ⊢
        by_cases hu : (wk σ t).k = 1
        · rw [if_pos hu] at hb ⊢
          refine ⟨fun y h => by simp [h], fun y h => by rw [← (vin_var hk).1 h]; simp, fun v hv => ?_⟩
          rcases List.mem_append.1 hv with h | h
          · exact .inl h
          · rw [List.mem_singleton.1 h]
            refine .inr ⟨fun _ => ?_, fun h => ?_⟩
            · rw [hvt]; simpa using hb
            · rw [hvt] at h; exact absurd hu h
        · rw [if_neg hu] at hb ⊢
          obtain ⟨a1, a2, a3⟩ := ih (wk σ t) (M ++ [t.n]) (wk_good hW hg t ht) (by have := wk_lt hW hk hu; omega) hb
          refine ⟨fun y h => a1 y (by simp [h]), fun y h => by rw [← (vin_var hk).1 h]; exact a1 _ (by simp), fun v hv => ?_⟩
          rcases a3 v hv with h | h
          · rcases List.mem_append.1 h with h | h
            · exact .inl h
            · rw [List.mem_singleton.1 h]
              refine .inr ⟨fun h => ?_, fun _ y hy => ?_⟩
              · rw [hvt] at h; exact absurd h hu
              · rw [hvt] at hy; exact a2 y hy
          · exact .inr h
    · simp only [occF, hk, if_false] at hb ⊢
      obtain ⟨a1, a2, a3⟩ := occL_spec (fun M x => occF f σ n x M) t.kids M (fun x hx M h => ih x M (good_kids ht x hx) (by have := tw_kid (W := W) hk hx; omega) h) hb
      exact ⟨a1, fun y hy => a2 y ((vin_kids hk).1 hy), a3⟩
inductive Rch (σ : Sto) (n : Int) : Int → Prop
  | refl : Rch σ n n
  | step {v : Int} {u : Tm} {y : Int} : look σ v = some u → u.vin y → Rch σ n y → Rch σ n v
theorem not_rch {σ : Sto} {W : Int → Nat} (hW : Wt σ W) (hg : ∀ x ∈ σ, x.2.good) {n : Int} (hn : look σ n = none) {M : List Int} (hM : ∀ v ∈ M, Pw σ n M v) : ∀ (f : Nat) (v : Int), W v ≤ f → Pw σ n M v → ¬ Rch σ n v := by
  intro f
  induction f with
  | zero => intro v h; have := hW.pos v; omega
  | succ f ih =>
    intro v hf hp hr
    cases hr with
    | refl =>
      have e : wk σ (varT n) = varT n := wk_none hn
      have := hp.1 (by rw [e]; rfl)
      rw [e] at this
      exact this rfl
    | @step _ u y hl hy hr =>
      have e : wk σ (varT v) = wk σ u := wk_some ⟨W, hW⟩ rfl hl
      have hlt := hW.lt _ _ hl
      have h1 := vin_tw (W := W) u hy
      by_cases hk : u.k = 1
      · have hv := (good_var (hg _ (look_mem hl)) hk).2.2.2
        rw [vin_var hk] at hy
        subst hy
        have e2 : wk σ (varT u.n) = wk σ u := by
          show wk σ (.mk 1 u.n [] []) = _
          rw [← hv]
        refine ih u.n (by omega) ?_ hr
        unfold Pw
        rw [e2, ← e]
        exact hp
      · refine ih y (by omega) (hM y (hp.2 ?_ y ?_)) hr
        · rw [e, wk_nonvar hk]; exact hk
        · rw [e, wk_nonvar hk]; exact hy
open Classical in
/-- does a variable occur in a term? -/
noncomputable def occ (σ : Sto) (n : Int) (t : Tm) : Bool := if h : ∃ W, Wt σ W then (occF (t.tw h.choose + 1) σ n t []).1 else false
open Classical in
theorem bind_wt {σ : Sto} (hw : ∃ W, Wt σ W) (hg : ∀ x ∈ σ, x.2.good) {n : Int} {t : Tm} (hn : look σ n = none) (ht : t.good) (ho : occ σ n t = false) : ∃ W, Wt (σ ++ [(n, t)]) W := by
  unfold occ at ho
  rw [dif_pos hw] at ho
  have hW := hw.choose_spec
  generalize hw.choose = W at hW ho
  obtain ⟨a1, a2, a3⟩ := occF_spec hW hg n (t.tw W + 1) t [] ht (by omega) ho
  generalize (occF (t.tw W + 1) σ n t []).2 = M at a1 a2 a3
  have hM : ∀ v ∈ M, Pw σ n M v := fun v hv => (a3 v hv).resolve_left (by simp)
  have hno : ∀ y, t.vin y → ¬ Rch σ n y := fun y hy => not_rch hW hg hn hM (W y) y (Nat.le_refl _) (hM y (a2 y hy))
  refine ⟨fun v => if Rch σ n v then (t.tw W + 1) * W v else W v, fun v => ?_, fun m u hl => ?_⟩
  · have h1 := hW.pos v
    show 1 ≤ if Rch σ n v then _ else _
    split
    · exact Nat.le_trans h1 (Nat.le_mul_of_pos_left _ (by omega))
    · exact h1
  · rw [look_snoc] at hl
    cases hlm : look σ m with
    | some u' =>
      rw [hlm] at hl
      obtain rfl := Option.some.inj hl
      have hlt := hW.lt _ _ hlm
      show u'.tw _ < if Rch σ n m then _ else _
      split
      · refine Nat.lt_of_le_of_lt (tw_mul (C := t.tw W + 1) (W := W) (by omega) (fun v => ?_) u') (Nat.mul_lt_mul_of_pos_left hlt (by omega))
        show (if Rch σ n v then _ else _) ≤ _
        split
        · exact Nat.le_refl _
        · exact Nat.le_mul_of_pos_left _ (by omega)
      · rename_i hr
        rw [← tw_congr (W := W) u' fun v hv => ?_]
        · exact hlt
        · show W v = if Rch σ n v then _ else _
          rw [if_neg fun h => hr (.step hlm hv h)]
    | none =>
      rw [hlm] at hl
      simp only at hl
      split at hl
      · rename_i e
        subst e
        obtain rfl := Option.some.inj hl
        show t.tw _ < if Rch σ n n then _ else _
        rw [if_pos .refl, ← tw_congr (W := W) t fun v hv => ?_]
        · have := hW.pos n
          exact Nat.lt_of_lt_of_le (Nat.lt_succ_self _) (Nat.le_mul_of_pos_right _ this)
        · show W v = if Rch σ n v then _ else _
          rw [if_neg (hno v hv)]
      · cases hl
/-! ### how many variables stand for nothing -/
def free (σ : Sto) : Nat := (List.range 26).countP fun i : Nat => (look σ (i : Int)).isNone
theorem countP_lt {p q : Nat → Bool} : ∀ {l : List Nat}, (∀ x ∈ l, q x = true → p x = true) → (∃ x ∈ l, p x = true ∧ q x = false) → l.countP q < l.countP p
  | [], _, ⟨x, hx, _⟩ => by simp at hx
  | a :: l, h, ⟨x, hx, h1, h2⟩ => by
    have hle : l.countP q ≤ l.countP p := List.countP_mono_left fun x hx => h x (by simp [hx])
    rw [List.countP_cons, List.countP_cons]
    rcases List.mem_cons.1 hx with rfl | hx
    · rw [h1, h2]; simp; omega
    · have := countP_lt (l := l) (fun x hx => h x (by simp [hx])) ⟨x, hx, h1, h2⟩
      have h3 := h a (by simp)
      cases ha : q a with
      | true => rw [h3 ha]; simp; omega
      | false => simp; omega
theorem free_bind {σ : Sto} {n : Int} {t : Tm} (hn : look σ n = none) (h0 : 0 ≤ n) (h1 : n ≤ 25) : free (σ ++ [(n, t)]) < free σ := by
  refine countP_lt (fun x _ h => ?_) ⟨n.toNat, by simp; omega, ?_, ?_⟩
  · rw [look_snoc] at h
    cases hx : look σ (x : Int) with
    | none => rfl
    | some u => rw [hx] at h; cases h
  · rw [Int.toNat_of_nonneg h0, hn]; rfl
  · rw [Int.toNat_of_nonneg h0, look_snoc, hn]; simp
structure Sok (σ : Sto) : Prop where
  wt : ∃ W, Wt σ W
  good : ∀ x ∈ σ, x.2.good
  cnt : σ.length + free σ ≤ 26
theorem sok_nil : Sok [] := ⟨⟨fun _ => 1, fun _ => Nat.le_refl _, fun n u h => by cases h⟩, fun x h => by simp at h, by
  have h : free [] ≤ (List.range 26).length := List.countP_le_length
  simpa using h⟩
def Nx (σ σ' : Sto) : Prop := Sok σ' ∧ (σ' = σ ∨ free σ' < free σ)
theorem Nx.refl {σ : Sto} (h : Sok σ) : Nx σ σ := ⟨h, .inl rfl⟩
theorem Nx.trans {a b c : Sto} (h : Nx a b) (h' : Nx b c) : Nx a c := by
  refine ⟨h'.1, ?_⟩
  rcases h.2 with rfl | h1
  · exact h'.2
  · rcases h'.2 with rfl | h2
    · exact .inr h1
    · exact .inr (by omega)
theorem bind_nx {σ : Sto} (hs : Sok σ) {n : Int} {t : Tm} (hn : look σ n = none) (h0 : 0 ≤ n) (h1 : n ≤ 25) (ht : t.good) (ho : occ σ n t = false) : Nx σ (σ ++ [(n, t)]) := by
  have hf := free_bind (t := t) hn h0 h1
  refine ⟨⟨bind_wt hs.wt hs.good hn ht ho, fun x hx => ?_, by have := hs.cnt; simp; omega⟩, .inr hf⟩
  rcases List.mem_append.1 hx with h | h
  · exact hs.good x h
  · rw [List.mem_singleton.1 h]; exact ht
/-! ### unification -/
inductive UJ where
  | tm (a b : Tm)
  | ls (xs ys : List Tm)
def same3 (a b : Tm) : Prop := a.k = b.k ∧ a.n = b.n ∧ a.s = b.s ∧ a.kids.length = b.kids.length
inductive Uni : Sto → UJ → Bool → Sto → Prop
  | same {σ : Sto} {a b : Tm} : (wk σ a).k = 1 → (wk σ b).k = 1 → (wk σ a).n = (wk σ b).n → Uni σ (.tm a b) true σ
  | lno {σ : Sto} {a b : Tm} : (wk σ a).k = 1 → ¬ ((wk σ b).k = 1 ∧ (wk σ a).n = (wk σ b).n) → occ σ (wk σ a).n (wk σ b) = true → Uni σ (.tm a b) false σ
  | lyes {σ : Sto} {a b : Tm} : (wk σ a).k = 1 → ¬ ((wk σ b).k = 1 ∧ (wk σ a).n = (wk σ b).n) → occ σ (wk σ a).n (wk σ b) = false → Uni σ (.tm a b) true (σ ++ [((wk σ a).n, wk σ b)])
  | rno {σ : Sto} {a b : Tm} : (wk σ a).k ≠ 1 → (wk σ b).k = 1 → occ σ (wk σ b).n (wk σ a) = true → Uni σ (.tm a b) false σ
  | ryes {σ : Sto} {a b : Tm} : (wk σ a).k ≠ 1 → (wk σ b).k = 1 → occ σ (wk σ b).n (wk σ a) = false → Uni σ (.tm a b) true (σ ++ [((wk σ b).n, wk σ a)])
  | clash {σ : Sto} {a b : Tm} : (wk σ a).k ≠ 1 → (wk σ b).k ≠ 1 → ¬ same3 (wk σ a) (wk σ b) → Uni σ (.tm a b) false σ
  | kids {σ σ' : Sto} {a b : Tm} {r : Bool} : (wk σ a).k ≠ 1 → (wk σ b).k ≠ 1 → same3 (wk σ a) (wk σ b) → Uni σ (.ls (wk σ a).kids (wk σ b).kids) r σ' → Uni σ (.tm a b) r σ'
  | nil {σ : Sto} : Uni σ (.ls [] []) true σ
  | stop {σ σ' : Sto} {x y : Tm} {xs ys : List Tm} : Uni σ (.tm x y) false σ' → Uni σ (.ls (x :: xs) (y :: ys)) false σ'
  | go {σ σ₁ σ' : Sto} {x y : Tm} {xs ys : List Tm} {r : Bool} : Uni σ (.tm x y) true σ₁ → Uni σ₁ (.ls xs ys) r σ' → Uni σ (.ls (x :: xs) (y :: ys)) r σ'
theorem uni_list {σ : Sto} {P : Tm → Prop} (h : ∀ σ₁, Nx σ σ₁ → ∀ (x y : Tm) , x.good → y.good → (σ₁ = σ → P x) → ∃ r σ', Uni σ₁ (.tm x y) r σ' ∧ Nx σ₁ σ') :
    ∀ (xs ys : List Tm) σ₁, Nx σ σ₁ → xs.length = ys.length → (∀ x ∈ xs, x.good ∧ P x) → (∀ y ∈ ys, y.good) → ∃ r σ', Uni σ₁ (.ls xs ys) r σ' ∧ Nx σ₁ σ'
  | [], [], σ₁, hn, _, _, _ => ⟨true, σ₁, .nil, .refl hn.1⟩
  | [], _ :: _, _, _, hl, _, _ => by simp at hl
  | _ :: _, [], _, _, hl, _, _ => by simp at hl
  | x :: xs, y :: ys, σ₁, hn, hl, hx, hy => by
    obtain ⟨r, σ₂, h1, h2⟩ := h σ₁ hn x y (hx x (by simp)).1 (hy y (by simp)) fun _ => (hx x (by simp)).2
    cases r with
    | false => exact ⟨false, σ₂, .stop h1, h2⟩
    | true =>
      obtain ⟨r, σ₃, h3, h4⟩ := uni_list h xs ys σ₂ (hn.trans h2) (by simpa using hl) (fun x hx' => hx x (by simp [hx'])) (fun y hy' => hy y (by simp [hy']))
      exact ⟨r, σ₃, .go h1 h3, h2.trans h4⟩
/-- unification ends -/
theorem uni_ends : ∀ (u : Nat) (σ : Sto), free σ ≤ u → Sok σ → ∀ (W : Int → Nat), Wt σ W → ∀ (w : Nat) (a b : Tm), a.good → b.good → a.tw W ≤ w → ∃ r σ', Uni σ (.tm a b) r σ' ∧ Nx σ σ' := by
  intro u
  induction u with
  | zero => ?_
  | succ u ihu => ?_
  all_goals
    intro σ hu hs W hW w
    induction w with
    | zero => ?_
    | succ w ihw => ?_
    all_goals
      intro a b ha hb hw
      have hwa := wk_good hW hs.good a ha
      have hwb := wk_good hW hs.good b hb
      by_cases ka : (wk σ a).k = 1
      · by_cases hsm : (wk σ b).k = 1 ∧ (wk σ a).n = (wk σ b).n
        · exact ⟨_, _, .same ka hsm.1 hsm.2, .refl hs⟩
        · cases ho : occ σ (wk σ a).n (wk σ b) with
          | true => exact ⟨_, _, .lno ka hsm ho, .refl hs⟩
          | false =>
            have hv := good_var hwa ka
            exact ⟨_, _, .lyes ka hsm ho, bind_nx hs (wk_end hW a ka) hv.1 hv.2.1 hwb ho⟩
      · by_cases kb : (wk σ b).k = 1
        · cases ho : occ σ (wk σ b).n (wk σ a) with
          | true => exact ⟨_, _, .rno ka kb ho, .refl hs⟩
          | false =>
            have hv := good_var hwb kb
            exact ⟨_, _, .ryes ka kb ho, bind_nx hs (wk_end hW b kb) hv.1 hv.2.1 hwa ho⟩
        · by_cases hsm : same3 (wk σ a) (wk σ b)
          · have hwk := wk_tw hW a
            have htk := tw_kids (W := W) ka
            first
            | omega
            | (obtain ⟨r, σ', h1, h2⟩ := uni_list (σ := σ) (P := fun x => x.tw W ≤ w) (fun σ₁ hn x y hx hy hP => by
                  rcases hn.2 with rfl | hlt
                  · exact ihw x y hx hy (hP rfl)
                  · obtain ⟨W₁, hW₁⟩ := hn.1.wt
                    first
                    | exact ihu σ₁ (by omega) hn.1 W₁ hW₁ _ x y hx hy (Nat.le_refl _)
                    | omega) (wk σ a).kids (wk σ b).kids σ (.refl hs) hsm.2.2.2 (fun x hx => ⟨good_kids hwa x hx, by have := tw_kid (W := W) ka hx; omega⟩) (good_kids hwb)
               exact ⟨r, σ', .kids ka kb hsm h1, h2⟩)
          · exact ⟨_, _, .clash ka kb hsm, .refl hs⟩
theorem wk_nil (t : Tm) : wk [] t = t := wk_none rfl
theorem uni_top {a b : Tm} {σ' : Sto} (h : Uni [] (.tm a b) true σ') (ka : a.k ≠ 1) (kb : b.k ≠ 1) : same3 a b ∧ Uni [] (.ls a.kids b.kids) true σ' := by
  cases h with
  | same h => rw [wk_nil] at h; exact absurd h ka
  | lyes h => rw [wk_nil] at h; exact absurd h ka
  | ryes _ h => rw [wk_nil] at h; exact absurd h kb
  | kids _ _ h1 h2 => rw [wk_nil, wk_nil] at h1 h2; exact ⟨h1, h2⟩
theorem uni_first {a b x y : Tm} {xs ys : List Tm} {σ' : Sto} (h : Uni [] (.tm a b) true σ') (ka : a.k ≠ 1) (kb : b.k ≠ 1) (hx : a.kids = x :: xs) (hy : b.kids = y :: ys) (kx : x.k ≠ 1) (ky : y.k ≠ 1) : same3 x y := by
  have h2 := (uni_top h ka kb).2
  rw [hx, hy] at h2
  cases h2 with
  | go h3 _ => exact (uni_top h3 kx ky).1
end Go.Proofs.YtbblefjbgbocoaaGreatDoor

/-
  Unification, of the program: what variables stand for, and walks.
  Conditions: none.
-/
open Go Go.AM Go.Proofs
namespace Go.Proofs.YtbblefjbgbocoaaGreatDoor
open Go.ChangeShapes Go.WideShapes Go.ChangeAt Go.RowKit
set_option linter.unusedVariables false
set_option linter.unusedSimpArgs false
set_option maxRecDepth 100000
-- 142 (*loop.example/prologserver/impl.store).walk params 2 ntmps 24
-- loop head live: [0,3,4]
def ac142 : Cd := .seq (.region [⟨(some 3),.box (.t 1),none⟩,
 ⟨(some 4),.alloc [(.d (.int .i64 0)),(.d (.int .i64 0)),(.d (.str [])),(.full [])],none⟩] [1])
 (.seq (.block 0 (.loop (.seq (.seq (.region [⟨(some 7),.fieldAddr 0 (.t 3),none⟩,
 ⟨(some 8),.load none (.t 7),none⟩,
 ⟨(some 9),.bin .eql (.t 8) (.k (.c (.d (.int .i64 1)))),none⟩] [7,8])
 (.cond (.t 9)
 (.skip)
 (.exit 0)))
 (.block 1 (.seq (.region [⟨(some 11),.mv (.t 0),none⟩,
 ⟨(some 12),.nilCheck (.t 11),none⟩,
 ⟨(some 13),.fieldAddr 0 (.t 12),none⟩,
 ⟨(some 15),.fieldAddr 1 (.t 3),none⟩,
 ⟨(some 14),.load none (.t 13),none⟩,
 ⟨(some 16),.load none (.t 15),none⟩,
 ⟨(some 17),.mapGet (some 4) [(.int .i64 0),(.int .i64 0),(.str []),(.sl [])] true (.t 14) (.t 16),none⟩,
 ⟨(some 10),.mv (.t 17),none⟩,
 ⟨(some 18),.extract 0 (.t 10),none⟩,
 ⟨(some 19),.extract 1 (.t 10),none⟩,
 ⟨(some 5),.alloc [(.d (.int .i64 0)),(.d (.int .i64 0)),(.d (.str [])),(.full [])],none⟩,
 ⟨none,.store 4 (.t 5) (.t 18),none⟩,
 ⟨(some 6),.mv (.t 19),none⟩] [9,10,11,12,13,14,15,16,17,18,19])
 (.seq (.seq (.region [⟨(some 20),.mv (.t 6),none⟩,
 ⟨(some 21),.un .not (.t 20),none⟩] [6,20])
 (.cond (.t 21)
 (.exit 0)
 (.skip)))
 (.region [⟨(some 22),.load (some 4) (.t 5),none⟩,
 ⟨none,.store 4 (.t 3) (.t 22),none⟩] [5,21,22])))))))
 (.seq (.region [⟨(some 23),.load (some 4) (.t 3),none⟩,
 ⟨none,.store 4 (.t 4) (.t 23),none⟩] [3,23])
 (.ret)))
theorem ac142_ok : cFunc Tryz.prog [] [(0,[1],[]),(1,[7,8],[]),(2,[9,10,11,12,13,14,15,16,17,18,19],[0,1,2,4,3,5,6,7,8,9,10,11,12]),(3,[6,20],[]),(4,[5,21,22],[]),(5,[3,23],[])] Tryz.f142 = some (ac142,[.cell 4 (some 4)],24) := by kernel_rfl
def stoM (σ : Sto) : List (Int × List D) := σ.map fun x => (x.1, x.2.row)
theorem stoM_row : ∀ (σ : Sto) (n : Int), V_ (stoM σ) n = (look σ n).map Tm.row
  | [], n => rfl
  | (k, t) :: σ, n => by
    show V_ ((k, t.row) :: stoM σ) n = _
    simp only [V_, look]
    split
    · rfl
    · exact stoM_row σ n
theorem stoM_put : ∀ (σ : Sto) (n : Int) (t : Tm), look σ n = none → W_ (stoM σ) n t.row = stoM (σ ++ [(n, t)])
  | [], n, t, _ => rfl
  | (k, u) :: σ, n, t, h => by
    show W_ ((k, u.row) :: stoM σ) n t.row = _
    simp only [look] at h
    simp only [W_]
    split at h
    · cases h
    · rename_i hk
      rw [if_neg hk, stoM_put σ n t h]
      rfl
def trR (σ : Sto) : List (List D) := intRows (σ.map Prod.fst)
theorem trR_len (σ : Sto) : (trR σ).length = σ.length := by simp [trR, intRows]
theorem trR_snoc (σ : Sto) (n : Int) (t : Tm) : trR (σ ++ [(n, t)]) = trR σ ++ [[.int .i64 n]] := by simp [trR, intRows]
def sdM (σ : Sto) : Ob := .map (stoM σ)
def sdC (i : Nat) (σ : Sto) : Ob := .cells [.map (.e i), .own (.e (i + 2)) σ.length (trR σ)]
def sdG (σ : Sto) : Ob := .grow σ.length 1
/-- the store in the heap: the map, the record, the trail's array -/
def sd (H : Heap) (i : Nat) (σ : Sto) : Heap := ((H.set i (sdM σ)).set (i + 1) (sdC i σ)).set (i + 2) (sdG σ)
theorem sd_len (H : Heap) (i : Nat) (σ : Sto) : (sd H i σ).length = H.length := by simp [sd]
theorem sd_0 {H : Heap} {i : Nat} (σ : Sto) (h : i + 2 < H.length) : (sd H i σ)[i]? = some (.map (stoM σ)) := by
  simp [sd, sdM, List.getElem?_set]; omega
theorem sd_1 {H : Heap} {i : Nat} (σ : Sto) (h : i + 2 < H.length) : (sd H i σ)[i + 1]? = some (.cells [.map (.e i), .own (.e (i + 2)) σ.length (trR σ)]) := by
  simp [sd, sdC, List.getElem?_set]; omega
theorem sd_2 {H : Heap} {i : Nat} (σ : Sto) (h : i + 2 < H.length) : (sd H i σ)[i + 2]? = some (.grow σ.length 1) := by
  simp [sd, sdG, List.getElem?_set]; omega
theorem sd_bind (H : Heap) (i : Nat) (σ σ' : Sto) : (((sd H i σ).set i (.map (stoM σ'))).set (i + 2) (.grow σ'.length 1)).set (i + 1) (.cells [.map (.e i), .own (.e (i + 2)) σ'.length (trR σ')]) = sd H i σ' := by
  refine List.ext_getElem? fun j => ?_
  simp only [sd, sdM, sdC, sdG, List.getElem?_set, List.length_set]
  by_cases e0 : i = j <;> by_cases e1 : i + 1 = j <;> by_cases e2 : i + 2 = j <;> simp [e0, e1, e2] <;> omega
theorem sd_append {H L : Heap} {i : Nat} (σ : Sto) (h : i + 2 < H.length) : sd H i σ ++ L = sd (H ++ L) i σ := by
  simp only [sd]
  rw [List.set_append_left _ _ (by omega), List.set_append_left _ _ (by simp; omega), List.set_append_left _ _ (by simp; omega)]
theorem sd_fits {H : Heap} {i : Nat} {σ σ' : Sto} (h : Obs.fits H.length 0 (sd H i σ)) (hi : i + 2 < H.length) : Obs.fits H.length 0 (sd H i σ') := by
  have e : sd H i σ' = ((((sd H i σ).set i (sdM σ')).set (i + 1) (sdC i σ')).set (i + 2) (sdG σ')) := by
    refine List.ext_getElem? fun j => ?_
    simp only [sd, List.getElem?_set, List.length_set]
    by_cases e0 : i = j <;> by_cases e1 : i + 1 = j <;> by_cases e2 : i + 2 = j <;> simp [e0, e1, e2]
  rw [e]
  refine Obs_fits_set (Obs_fits_set (Obs_fits_set h ?_) ?_) ?_
  · exact trivial
  · exact ⟨by show i < H.length + 0; omega, by show i + 2 < H.length + 0; omega, trivial⟩
  · exact trivial
theorem grown_at {ext loc ext' loc' : Heap} {i : Nat} {o : Ob} (hg : Grown ext loc ext' loc') (h : ext[i]? = some o) (h1 : o ≠ .dead) (h2 : ∀ p s, o ≠ .grow p s) : (ext' ++ loc'.map (Ob.re ext.length))[i]? = some o := by
  have hi := (List.getElem?_eq_some_iff.1 h).1
  have := hg.2.2 [] [] (.e i) o (by simp [z_, List.getD, h]) h1 h2
  simp only [z_, List.getD] at this
  rw [List.getElem?_append_left (by rw [hg.1]; exact hi)]
  rw [List.getElem?_eq_getElem (by rw [hg.1]; exact hi)] at this ⊢
  simpa using this
/-- a quiet call that reads two told objects -/
theorem qcall_two {P : Program} {f : FuncId} {xs : List A} {K : A → St → Prop} {st : St} {r : A} {a b : Nat} {x y : Ob} (hc : ∀ H : Heap, H[a]? = some x → H[b]? = some y → ACalls P f xs H (fun r' H' => H' = H ∧ r' = r))
    (hf : Obs.fits st.ext.length 0 st.ext) (ha : st.ext[a]? = some x) (hb : st.ext[b]? = some y) (hx : x ≠ .dead ∧ ∀ p s, x ≠ .grow p s) (hy : y ≠ .dead ∧ ∀ p s, y ≠ .grow p s) (hr : A.re st.ext.length r = r) (hk : K r st) : QCallK P f xs st K :=
  ⟨hf, r, hr, fun st' hg => hc _ (grown_at hg ha hx.1 hx.2) (grown_at hg hb hy.1 hy.2), hk⟩
theorem sl_keep : ∀ l : List A, Sl.le l l
  | [] => trivial
  | a :: l => ⟨.refl a, sl_keep l⟩
def zeroO : Ob := .cells [.d (.int .i64 0), .d (.int .i64 0), .d (.str []), .full []]
theorem walk_calls {σ : Sto} {W : Int → Nat} (hW : Wt σ W) (hg : ∀ x ∈ σ, x.2.good) (t : Tm) (ht : t.good) (H : Heap) (a b : Nat) (c2 : C) (ha : H[a]? = some (.map (stoM σ))) (hb : H[b]? = some (.cells [.map (.e a), c2])) :
    ACalls Tryz.prog 142 [.c (.ptr (.e b) 0), .agg (t.row.map .d)] H (fun r H' => H' = H ∧ r = .agg ((wk σ t).row.map .d)) := by
  have hga : H[a]?.getD .dead = .map (stoM σ) := by simp [ha]
  have hgb : H[b]?.getD .dead = .cells [.map (.e a), c2] := by simp [hb]
  have hbl := (List.getElem?_eq_some_iff.1 hb).1
  refine acalls Tryz.func142 (by kernel_rfl) ac142_ok fun hf => ?_
  simp -implicitDefEqProofs [ac142, row_len, take_row, pure_d, re_d, hf, go_sem, -List.set_cons_succ, -List.set_cons_zero]
  refine loop_set (σ := Tm) (fun _ => []) (fun _ => H) (fun u => [.cells (u.row.map .d), zeroO]) (fun u => u.good ∧ wk σ u = wk σ t) (fun u => u.tw W) t rfl ⟨ht, rfl⟩ ?_
  rintro u ⟨hu, hwu⟩
  obtain ⟨k, n, s, l⟩ := u
  by_cases hk : k = 1
  · subst hk
    cases hl : look σ n with
    | none =>
      have e1 : wk σ (.mk 1 n s l) = .mk 1 n s l := wk_none hl
      simp -implicitDefEqProofs [setAll, row_mk, hf, zeroO, ha, hga, hb, hgb, stoM_row, hl, go_sem, -List.set_cons_succ, -List.set_cons_zero]
      rw [← hwu, e1]
      simp -implicitDefEqProofs [row_mk, hf, go_sem, -List.set_cons_succ, -List.set_cons_zero]
    | some u =>
      have hlt := hW.lt _ _ hl
      have e1 : wk σ (.mk 1 n s l) = wk σ u := wk_some ⟨W, hW⟩ rfl hl
      simp -implicitDefEqProofs [setAll, row_mk, hf, zeroO, ha, hga, hb, hgb, stoM_row, hl, row_len, take_row, pure_d, re_d, toDs_map, go_sem, -List.set_cons_succ, -List.set_cons_zero]
      exact loop_less u (St.le_cut [_] (sl_keep _) (by simp [hbl, Sl.le, A.le_refl_iff, A.le_u_iff, As.lo, A.lo, C.lo, Ref.lo, Cs.lo, Obs.lo, Ob.lo, setAll, and_true, true_and, List.length_nil, List.length_cons]) rfl (by simp [lo_map, zeroO, Sl.le, A.le_refl_iff, A.le_u_iff, As.lo, A.lo, C.lo, Ref.lo, Cs.lo, Obs.lo, Ob.lo, setAll, and_true, true_and, List.length_nil, List.length_cons])) ⟨hg _ (look_mem hl), by rw [← hwu, e1]⟩ (by rw [tw_mk, if_pos rfl]; exact hlt)
  · have e1 : wk σ (.mk k n s l) = .mk k n s l := wk_nonvar hk
    simp -implicitDefEqProofs [setAll, row_mk, hk, hf, zeroO, ha, hga, hb, hgb, go_sem, -List.set_cons_succ, -List.set_cons_zero]
    rw [← hwu, e1]
    simp -implicitDefEqProofs [row_mk, hf, go_sem, -List.set_cons_succ, -List.set_cons_zero]
end Go.Proofs.YtbblefjbgbocoaaGreatDoor
