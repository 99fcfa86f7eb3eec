/-
  Contracts of functions that the law reaches, and plain lemmas: several texts in one.
  Conditions: none.
-/
import Derived.Test.YtbblefjbgbocoaaGreatDoorBundB
import Derived.Test.YtbblefjbgbocoaaGreatDoorBundA
import Derived.Test.YtbblefjbgbocoaaGreatDoorAbsN
open Go Go.AM Go.Proofs
attribute [local go_sem] kw ew sw tw a_ b_ c_ A.ok A.val d_ e_ f_ g_ h_ i_ j_ k_ l_ m_ unA unD n_ AOp.total o_ p_ q_ r_ s_ t_ u_ v_ A.thaw C.thaw A.fits As.fits C.fits evs oks w_ A.pure C.pure A.re C.re x_ y_ cut A.cells C.rows? z_ A_ B_ C_ a0_ b0_ D_ Ob.re Cs.fits E_ F_ G_ H_ I_ J_ K_ L_ M_ N_ O_ C.toD P_ Q_ R_ S_ T_ Obs.fits U_ eqD V_ W_ X_ Y_ Z_
/-
  The reference's parser does what it is said to do: terms, lists, operators.
  Conditions: none.
-/
open Go Go.AM Go.Proofs
namespace Go.Proofs.YtbblefjbgbocoaaGreatDoor
open Go.ChangeShapes Go.WideShapes Go.ChangeAt Go.RowKit
set_option linter.unusedVariables false
set_option linter.unusedSimpArgs false
set_option maxRecDepth 100000
-- 198 loop.example/prologserver/spec.l2Fails params 1 ntmps 7
def ac198 : Cd := .seq (.region [⟨(some 2),.alloc [(.d (.int .i64 0)),(.d (.int .i64 0)),(.d (.str [])),(.full [])],none⟩,
 ⟨(some 3),.mv (.k (.c (.d (.int .i64 0)))),none⟩] [3])
 (.seq (.region [⟨(some 4),.build [(.d (.int .i64 0)),(.d (.int .i64 0)),(.d (.str [])),(.full [])] [],none⟩,
 ⟨(some 5),.mv (.t 0),none⟩,
 ⟨(some 6),.bin .sub (.k (.c (.d (.int .i64 (-1))))) (.t 5),none⟩,
 ⟨none,.store 4 (.t 2) (.t 4),none⟩,
 ⟨(some 3),.mv (.t 6),none⟩] [0,4,5,6])
 (.ret))
theorem ac198_ok : cFunc Tryz.prog [] [(0,[3],[]),(1,[0,4,5,6],[])] Tryz.f198 = some (ac198,[.cell 2 (some 4),.tmp 3],7) := by kernel_rfl
-- 203 loop.example/prologserver/spec.l2Terms params 5 ntmps 50
-- loop head live: [0,1,2,3,4,12]
def ac203 : Cd := .seq (.region [⟨(some 10),.mv (.k (.c (.full []))),none⟩,
 ⟨(some 11),.mv (.k (.c (.d (.int .i64 0)))),none⟩] [10,11])
 (.seq (.region [⟨(some 15),.buildSlice 4 0 [(.int .i64 0),(.int .i64 0),(.str []),(.sl [])] [],none⟩,
 ⟨(some 12),.mv (.t 15),none⟩] [15])
 (.block 0 (.loop (.block 1 (.seq (.region [⟨(some 17),.mv (.t 0),none⟩,
 ⟨(some 18),.mv (.t 1),none⟩,
 ⟨(some 19),.mv (.t 2),none⟩,
 ⟨(some 20),.qcall 108 [(.t 17),(.t 18),(.t 19),(.k (.c (.d (.int .i64 3))))],none⟩,
 ⟨(some 16),.mv (.t 20),none⟩,
 ⟨(some 21),.extract 0 (.t 16),none⟩,
 ⟨(some 22),.extract 1 (.t 16),none⟩,
 ⟨(some 13),.alloc [(.d (.int .i64 0)),(.d (.int .i64 0)),(.d (.str [])),(.full [])],none⟩,
 ⟨none,.store 4 (.t 13) (.t 21),none⟩,
 ⟨(some 14),.mv (.t 22),none⟩] [1,16,17,18,19,20,21,22])
 (.seq (.seq (.region [⟨(some 23),.mv (.t 14),none⟩,
 ⟨(some 24),.bin .lss (.t 23) (.k (.c (.d (.int .i64 0)))),none⟩] [23])
 (.cond (.t 24)
 (.seq (.region [⟨(some 25),.mv (.t 14),none⟩,
 ⟨(some 10),.mv (.k (.c (.full []))),none⟩,
 ⟨(some 11),.mv (.t 25),none⟩] [0,2,3,4,12,13,14,24,25])
 (.ret))
 (.skip)))
 (.seq (.region [⟨(some 26),.mv (.t 12),none⟩,
 ⟨(some 27),.load (some 4) (.t 13),none⟩,
 ⟨(some 28),.buildSlice 4 1 [(.int .i64 0),(.int .i64 0),(.str []),(.sl [])] [(0,(.t 27))],none⟩,
 ⟨(some 29),.append false 4 (.t 26) (.t 28),none⟩,
 ⟨(some 12),.mv (.t 29),none⟩] [10,11,13,24,26,27,28,29])
 (.seq (.seq (.region [⟨(some 30),.mv (.t 0),none⟩,
 ⟨(some 31),.mv (.t 14),none⟩,
 ⟨(some 32),.mv (.t 3),none⟩,
 ⟨(some 33),.qcall 106 [(.t 30),(.t 31),(.t 32)],none⟩,
 ⟨(some 34),.mv (.t 33),none⟩,
 ⟨(some 35),.mv (.t 0),some (34,false)⟩,
 ⟨(some 36),.mv (.t 14),some (34,false)⟩,
 ⟨(some 37),.mv (.t 4),some (34,false)⟩,
 ⟨(some 38),.qcall 106 [(.t 35),(.t 36),(.t 37)],some (34,false)⟩,
 ⟨(some 39),.pick (.t 34) (.k (.c (.d (.bool true)))) (.t 38),none⟩] [30,31,32,33,34,35,36,37,38])
 (.cond (.t 39)
 (.seq (.region [⟨(some 40),.mv (.t 12),none⟩,
 ⟨(some 41),.mv (.t 14),none⟩,
 ⟨(some 10),.mv (.t 40),none⟩,
 ⟨(some 11),.mv (.t 41),none⟩] [0,2,3,4,12,14,39,40,41])
 (.ret))
 (.skip)))
 (.seq (.seq (.region [⟨(some 42),.mv (.t 0),none⟩,
 ⟨(some 43),.mv (.t 14),none⟩,
 ⟨(some 44),.qcall 106 [(.t 42),(.t 43),(.k (.c (.d (.int .u8 44))))],none⟩,
 ⟨(some 45),.un .not (.t 44),none⟩] [10,11,39,42,43,44])
 (.cond (.t 45)
 (.seq (.region [⟨(some 46),.mv (.t 14),none⟩,
 ⟨(some 47),.bin .sub (.k (.c (.d (.int .i64 (-1))))) (.t 46),none⟩,
 ⟨(some 10),.mv (.k (.c (.full []))),none⟩,
 ⟨(some 11),.mv (.t 47),none⟩] [0,2,3,4,12,14,45,46,47])
 (.ret))
 (.skip)))
 (.region [⟨(some 48),.mv (.t 14),none⟩,
 ⟨(some 49),.bin .add (.t 48) (.k (.c (.d (.int .i64 1)))),none⟩,
 ⟨(some 1),.mv (.t 49),none⟩] [10,11,14,45,48,49]))))))))))
theorem ac203_ok : cFunc Tryz.prog [1000106,1000108] [(0,[10,11],[]),(1,[15],[]),(2,[1,16,17,18,19,20,21,22],[]),(3,[23],[]),(4,[0,2,3,4,12,13,14,24,25],[]),(5,[10,11,13,24,26,27,28,29],[]),(6,[30,31,32,33,34,35,36,37,38],[]),(7,[0,2,3,4,12,14,39,40,41],[]),(8,[10,11,39,42,43,44],[]),(9,[0,2,3,4,12,14,45,46,47],[]),(10,[10,11,14,45,48,49],[])] Tryz.f203 = some (ac203,[.tmp 10,.tmp 11],50) := by kernel_rfl
-- 199 loop.example/prologserver/spec.l2Items params 3 ntmps 56
def ac199 : Cd := .seq (.region [⟨(some 6),.alloc [(.d (.int .i64 0)),(.d (.int .i64 0)),(.d (.str [])),(.full [])],none⟩,
 ⟨(some 7),.mv (.k (.c (.d (.int .i64 0)))),none⟩] [7])
 (.seq (.region [⟨(some 13),.mv (.t 0),none⟩,
 ⟨(some 14),.mv (.t 1),none⟩,
 ⟨(some 15),.mv (.t 2),none⟩,
 ⟨(some 16),.qcall 203 [(.t 13),(.t 14),(.t 15),(.k (.c (.d (.int .u8 93)))),(.k (.c (.d (.int .u8 124))))],none⟩,
 ⟨(some 12),.mv (.t 16),none⟩,
 ⟨(some 17),.extract 0 (.t 12),none⟩,
 ⟨(some 18),.extract 1 (.t 12),none⟩,
 ⟨(some 8),.mv (.t 17),none⟩,
 ⟨(some 9),.mv (.t 18),none⟩] [1,12,13,14,15,16,17,18])
 (.seq (.seq (.region [⟨(some 19),.mv (.t 9),none⟩,
 ⟨(some 20),.bin .lss (.t 19) (.k (.c (.d (.int .i64 0)))),none⟩] [19])
 (.cond (.t 20)
 (.seq (.region [⟨(some 21),.build [(.d (.int .i64 0)),(.d (.int .i64 0)),(.d (.str [])),(.full [])] [],none⟩,
 ⟨(some 22),.mv (.t 9),none⟩,
 ⟨none,.store 4 (.t 6) (.t 21),none⟩,
 ⟨(some 7),.mv (.t 22),none⟩] [0,2,8,9,20,21,22])
 (.ret))
 (.skip)))
 (.seq (.seq (.region [⟨(some 23),.mv (.t 0),none⟩,
 ⟨(some 24),.mv (.t 9),none⟩,
 ⟨(some 25),.qcall 106 [(.t 23),(.t 24),(.k (.c (.d (.int .u8 93))))],none⟩] [7,20,23,24])
 (.cond (.t 25)
 (.seq (.region [⟨(some 26),.mv (.t 8),none⟩,
 ⟨(some 27),.qcall 96 [(.k (.c (.d (.str [91,93])))),(.k (.c (.full [])))],none⟩,
 ⟨(some 28),.qcall 230 [(.t 26),(.t 27)],none⟩,
 ⟨(some 29),.mv (.t 9),none⟩,
 ⟨(some 30),.bin .add (.t 29) (.k (.c (.d (.int .i64 1)))),none⟩,
 ⟨none,.store 4 (.t 6) (.t 28),none⟩,
 ⟨(some 7),.mv (.t 30),none⟩] [0,2,8,9,25,26,27,28,29,30])
 (.ret))
 (.skip)))
 (.seq (.region [⟨(some 32),.mv (.t 0),none⟩,
 ⟨(some 33),.mv (.t 9),none⟩,
 ⟨(some 34),.bin .add (.t 33) (.k (.c (.d (.int .i64 1)))),none⟩,
 ⟨(some 35),.mv (.t 2),none⟩,
 ⟨(some 36),.qcall 108 [(.t 32),(.t 34),(.t 35),(.k (.c (.d (.int .i64 3))))],none⟩,
 ⟨(some 31),.mv (.t 36),none⟩,
 ⟨(some 37),.extract 0 (.t 31),none⟩,
 ⟨(some 38),.extract 1 (.t 31),none⟩,
 ⟨(some 10),.alloc [(.d (.int .i64 0)),(.d (.int .i64 0)),(.d (.str [])),(.full [])],none⟩,
 ⟨none,.store 4 (.t 10) (.t 37),none⟩,
 ⟨(some 11),.mv (.t 38),none⟩] [2,7,9,25,31,32,33,34,35,36,37,38])
 (.seq (.seq (.region [⟨(some 39),.mv (.t 11),none⟩,
 ⟨(some 40),.bin .lss (.t 39) (.k (.c (.d (.int .i64 0)))),none⟩] [39])
 (.cond (.t 40)
 (.seq (.region [⟨(some 41),.build [(.d (.int .i64 0)),(.d (.int .i64 0)),(.d (.str [])),(.full [])] [],none⟩,
 ⟨(some 42),.mv (.t 11),none⟩,
 ⟨none,.store 4 (.t 6) (.t 41),none⟩,
 ⟨(some 7),.mv (.t 42),none⟩] [0,8,10,11,40,41,42])
 (.ret))
 (.skip)))
 (.seq (.seq (.region [⟨(some 43),.mv (.t 0),none⟩,
 ⟨(some 44),.mv (.t 11),none⟩,
 ⟨(some 45),.qcall 106 [(.t 43),(.t 44),(.k (.c (.d (.int .u8 93))))],none⟩,
 ⟨(some 46),.un .not (.t 45),none⟩] [0,7,40,43,44,45])
 (.cond (.t 46)
 (.seq (.region [⟨(some 47),.mv (.t 11),none⟩,
 ⟨(some 48),.qcall 198 [(.t 47)],none⟩,
 ⟨(some 49),.extract 0 (.t 48),none⟩,
 ⟨(some 50),.extract 1 (.t 48),none⟩,
 ⟨none,.store 4 (.t 6) (.t 49),none⟩,
 ⟨(some 7),.mv (.t 50),none⟩] [8,10,11,46,47,48,49,50])
 (.ret))
 (.skip)))
 (.seq (.region [⟨(some 51),.mv (.t 8),none⟩,
 ⟨(some 52),.load (some 4) (.t 10),none⟩,
 ⟨(some 53),.qcall 230 [(.t 51),(.t 52)],none⟩,
 ⟨(some 54),.mv (.t 11),none⟩,
 ⟨(some 55),.bin .add (.t 54) (.k (.c (.d (.int .i64 1)))),none⟩,
 ⟨none,.store 4 (.t 6) (.t 53),none⟩,
 ⟨(some 7),.mv (.t 55),none⟩] [8,10,11,46,51,52,53,54,55])
 (.ret))))))))
theorem ac199_ok : cFunc Tryz.prog [1000096,1000106,1000108,1000198,1000203,1000230] [(0,[7],[]),(1,[1,12,13,14,15,16,17,18],[]),(2,[19],[]),(3,[0,2,8,9,20,21,22],[]),(4,[7,20,23,24],[]),(5,[0,2,8,9,25,26,27,28,29,30],[]),(6,[2,7,9,25,31,32,33,34,35,36,37,38],[]),(7,[39],[]),(8,[0,8,10,11,40,41,42],[]),(9,[0,7,40,43,44,45],[]),(10,[8,10,11,46,47,48,49,50],[]),(11,[8,10,11,46,51,52,53,54,55],[])] Tryz.f199 = some (ac199,[.cell 6 (some 4),.tmp 7],56) := by kernel_rfl
-- 166 loop.example/prologserver/spec.l2Prime params 3 ntmps 158
def ac166 : Cd := .seq (.region [⟨(some 6),.alloc [(.d (.int .i64 0)),(.d (.int .i64 0)),(.d (.str [])),(.full [])],none⟩,
 ⟨(some 7),.mv (.k (.c (.d (.int .i64 0)))),none⟩] [7])
 (.seq (.seq (.region [⟨(some 16),.mv (.t 2),none⟩,
 ⟨(some 17),.bin .lss (.t 16) (.k (.c (.d (.int .i64 1)))),none⟩,
 ⟨(some 18),.mv (.t 17),none⟩,
 ⟨(some 19),.mv (.t 1),some (18,false)⟩,
 ⟨(some 20),.mv (.t 0),some (18,false)⟩,
 ⟨(some 21),.len 0 (.t 20),some (18,false)⟩,
 ⟨(some 22),.bin .geq (.t 19) (.t 21),some (18,false)⟩,
 ⟨(some 23),.pick (.t 18) (.k (.c (.d (.bool true)))) (.t 22),none⟩] [16,17,18,19,20,21,22])
 (.cond (.t 23)
 (.seq (.region [⟨(some 24),.mv (.t 1),none⟩,
 ⟨(some 25),.qcall 198 [(.t 24)],none⟩,
 ⟨(some 26),.extract 0 (.t 25),none⟩,
 ⟨(some 27),.extract 1 (.t 25),none⟩,
 ⟨none,.store 4 (.t 6) (.t 26),none⟩,
 ⟨(some 7),.mv (.t 27),none⟩] [0,1,2,23,24,25,26,27])
 (.ret))
 (.skip)))
 (.seq (.seq (.region [⟨(some 28),.mv (.t 0),none⟩,
 ⟨(some 29),.mv (.t 1),none⟩,
 ⟨(some 30),.index (.t 28) (.t 29),none⟩,
 ⟨(some 31),.bin .eql (.t 30) (.k (.c (.d (.int .u8 40)))),none⟩] [7,23,28,29,30])
 (.cond (.t 31)
 (.seq (.region [⟨(some 33),.mv (.t 0),none⟩,
 ⟨(some 34),.mv (.t 1),none⟩,
 ⟨(some 35),.bin .add (.t 34) (.k (.c (.d (.int .i64 1)))),none⟩,
 ⟨(some 36),.mv (.t 2),none⟩,
 ⟨(some 37),.qcall 108 [(.t 33),(.t 35),(.t 36),(.k (.c (.d (.int .i64 3))))],none⟩,
 ⟨(some 32),.mv (.t 37),none⟩,
 ⟨(some 38),.extract 0 (.t 32),none⟩,
 ⟨(some 39),.extract 1 (.t 32),none⟩,
 ⟨(some 8),.alloc [(.d (.int .i64 0)),(.d (.int .i64 0)),(.d (.str [])),(.full [])],none⟩,
 ⟨none,.store 4 (.t 8) (.t 38),none⟩,
 ⟨(some 9),.mv (.t 39),none⟩] [1,2,31,32,33,34,35,36,37,38,39])
 (.seq (.seq (.region [⟨(some 40),.mv (.t 9),none⟩,
 ⟨(some 41),.bin .lss (.t 40) (.k (.c (.d (.int .i64 0)))),none⟩] [40])
 (.cond (.t 41)
 (.seq (.region [⟨(some 42),.build [(.d (.int .i64 0)),(.d (.int .i64 0)),(.d (.str [])),(.full [])] [],none⟩,
 ⟨(some 43),.mv (.t 9),none⟩,
 ⟨none,.store 4 (.t 6) (.t 42),none⟩,
 ⟨(some 7),.mv (.t 43),none⟩] [0,8,9,41,42,43])
 (.ret))
 (.skip)))
 (.seq (.seq (.region [⟨(some 44),.mv (.t 0),none⟩,
 ⟨(some 45),.mv (.t 9),none⟩,
 ⟨(some 46),.qcall 106 [(.t 44),(.t 45),(.k (.c (.d (.int .u8 41))))],none⟩,
 ⟨(some 47),.un .not (.t 46),none⟩] [0,7,41,44,45,46])
 (.cond (.t 47)
 (.seq (.region [⟨(some 48),.mv (.t 9),none⟩,
 ⟨(some 49),.qcall 198 [(.t 48)],none⟩,
 ⟨(some 50),.extract 0 (.t 49),none⟩,
 ⟨(some 51),.extract 1 (.t 49),none⟩,
 ⟨none,.store 4 (.t 6) (.t 50),none⟩,
 ⟨(some 7),.mv (.t 51),none⟩] [8,9,47,48,49,50,51])
 (.ret))
 (.skip)))
 (.seq (.region [⟨(some 52),.load (some 4) (.t 8),none⟩,
 ⟨(some 53),.mv (.t 9),none⟩,
 ⟨(some 54),.bin .add (.t 53) (.k (.c (.d (.int .i64 1)))),none⟩,
 ⟨none,.store 4 (.t 6) (.t 52),none⟩,
 ⟨(some 7),.mv (.t 54),none⟩] [8,9,47,52,53,54])
 (.ret)))))
 (.skip)))
 (.seq (.seq (.region [⟨(some 55),.mv (.t 0),none⟩,
 ⟨(some 56),.mv (.t 1),none⟩,
 ⟨(some 57),.index (.t 55) (.t 56),none⟩,
 ⟨(some 58),.bin .eql (.t 57) (.k (.c (.d (.int .u8 91)))),none⟩,
 ⟨(some 59),.mv (.t 58),none⟩,
 ⟨(some 60),.mv (.t 0),some (59,true)⟩,
 ⟨(some 61),.mv (.t 1),some (59,true)⟩,
 ⟨(some 62),.bin .add (.t 61) (.k (.c (.d (.int .i64 1)))),some (59,true)⟩,
 ⟨(some 63),.qcall 106 [(.t 60),(.t 62),(.k (.c (.d (.int .u8 93))))],some (59,true)⟩,
 ⟨(some 64),.un .not (.t 63),some (59,true)⟩,
 ⟨(some 65),.pick (.t 59) (.t 64) (.k (.c (.d (.bool false)))),none⟩] [7,31,55,56,57,58,59,60,61,62,63,64])
 (.cond (.t 65)
 (.seq (.region [⟨(some 66),.mv (.t 0),none⟩,
 ⟨(some 67),.mv (.t 1),none⟩,
 ⟨(some 68),.bin .add (.t 67) (.k (.c (.d (.int .i64 1)))),none⟩,
 ⟨(some 69),.mv (.t 2),none⟩,
 ⟨(some 70),.bin .sub (.t 69) (.k (.c (.d (.int .i64 1)))),none⟩,
 ⟨(some 71),.qcall 199 [(.t 66),(.t 68),(.t 70)],none⟩,
 ⟨(some 72),.extract 0 (.t 71),none⟩,
 ⟨(some 73),.extract 1 (.t 71),none⟩,
 ⟨none,.store 4 (.t 6) (.t 72),none⟩,
 ⟨(some 7),.mv (.t 73),none⟩] [0,1,2,65,66,67,68,69,70,71,72,73])
 (.ret))
 (.skip)))
 (.seq (.seq (.region [⟨(some 74),.mv (.t 0),none⟩,
 ⟨(some 75),.mv (.t 1),none⟩,
 ⟨(some 76),.index (.t 74) (.t 75),none⟩,
 ⟨(some 77),.bin .geq (.t 76) (.k (.c (.d (.int .u8 65)))),none⟩,
 ⟨(some 78),.mv (.t 77),none⟩,
 ⟨(some 79),.mv (.t 0),some (78,true)⟩,
 ⟨(some 80),.mv (.t 1),some (78,true)⟩,
 ⟨(some 81),.index (.t 79) (.t 80),some (78,true)⟩,
 ⟨(some 82),.bin .leq (.t 81) (.k (.c (.d (.int .u8 90)))),some (78,true)⟩,
 ⟨(some 83),.pick (.t 78) (.t 82) (.k (.c (.d (.bool false)))),none⟩] [7,65,74,75,76,77,78,79,80,81,82])
 (.cond (.t 83)
 (.seq (.region [⟨(some 84),.mv (.t 0),none⟩,
 ⟨(some 85),.mv (.t 1),none⟩,
 ⟨(some 86),.index (.t 84) (.t 85),none⟩,
 ⟨(some 87),.bin .sub (.t 86) (.k (.c (.d (.int .u8 65)))),none⟩,
 ⟨(some 88),.cvInt .i64 (.t 87),none⟩,
 ⟨(some 89),.qcall 124 [(.t 88)],none⟩,
 ⟨(some 90),.mv (.t 1),none⟩,
 ⟨(some 91),.bin .add (.t 90) (.k (.c (.d (.int .i64 1)))),none⟩,
 ⟨none,.store 4 (.t 6) (.t 89),none⟩,
 ⟨(some 7),.mv (.t 91),none⟩] [0,1,2,83,84,85,86,87,88,89,90,91])
 (.ret))
 (.skip)))
 (.seq (.seq (.region [⟨(some 92),.mv (.t 0),none⟩,
 ⟨(some 93),.mv (.t 1),none⟩,
 ⟨(some 94),.qcall 200 [(.t 92),(.t 93)],none⟩,
 ⟨(some 95),.mv (.t 94),none⟩,
 ⟨(some 96),.mv (.t 0),some (95,false)⟩,
 ⟨(some 97),.mv (.t 1),some (95,false)⟩,
 ⟨(some 98),.index (.t 96) (.t 97),some (95,false)⟩,
 ⟨(some 99),.bin .eql (.t 98) (.k (.c (.d (.int .u8 45)))),some (95,false)⟩,
 ⟨(some 100),.mv (.t 99),some (95,false)⟩,
 ⟨(some 101),.mv (.t 0),some (100,true)⟩,
 ⟨(some 102),.mv (.t 1),some (100,true)⟩,
 ⟨(some 103),.bin .add (.t 102) (.k (.c (.d (.int .i64 1)))),some (100,true)⟩,
 ⟨(some 104),.qcall 200 [(.t 101),(.t 103)],some (100,true)⟩,
 ⟨(some 105),.pick (.t 100) (.t 104) (.k (.c (.d (.bool false)))),some (95,false)⟩,
 ⟨(some 106),.pick (.t 95) (.k (.c (.d (.bool true)))) (.t 105),none⟩] [7,83,92,93,94,95,96,97,98,99,100,101,102,103,104,105])
 (.cond (.t 106)
 (.seq (.region [⟨(some 108),.mv (.t 0),none⟩,
 ⟨(some 109),.mv (.t 1),none⟩,
 ⟨(some 110),.qcall 201 [(.t 108),(.t 109)],none⟩,
 ⟨(some 107),.mv (.t 110),none⟩,
 ⟨(some 111),.extract 0 (.t 107),none⟩,
 ⟨(some 112),.extract 1 (.t 107),none⟩,
 ⟨(some 10),.alloc [(.d (.int .i64 0)),(.d (.int .i64 0)),(.d (.str [])),(.full [])],none⟩,
 ⟨none,.store 4 (.t 10) (.t 111),none⟩,
 ⟨(some 11),.mv (.t 112),none⟩] [0,2,106,107,108,109,110,111,112])
 (.seq (.seq (.region [⟨(some 113),.mv (.t 11),none⟩,
 ⟨(some 114),.bin .lss (.t 113) (.k (.c (.d (.int .i64 0)))),none⟩] [113])
 (.cond (.t 114)
 (.seq (.region [⟨(some 115),.mv (.t 1),none⟩,
 ⟨(some 116),.qcall 198 [(.t 115)],none⟩,
 ⟨(some 117),.extract 0 (.t 116),none⟩,
 ⟨(some 118),.extract 1 (.t 116),none⟩,
 ⟨none,.store 4 (.t 6) (.t 117),none⟩,
 ⟨(some 7),.mv (.t 118),none⟩] [1,10,11,114,115,116,117,118])
 (.ret))
 (.skip)))
 (.seq (.region [⟨(some 119),.load (some 4) (.t 10),none⟩,
 ⟨(some 120),.mv (.t 11),none⟩,
 ⟨none,.store 4 (.t 6) (.t 119),none⟩,
 ⟨(some 7),.mv (.t 120),none⟩] [1,10,11,114,119,120])
 (.ret))))
 (.skip)))
 (.seq (.region [⟨(some 122),.mv (.t 0),none⟩,
 ⟨(some 123),.mv (.t 1),none⟩,
 ⟨(some 124),.qcall 202 [(.t 122),(.t 123)],none⟩,
 ⟨(some 121),.mv (.t 124),none⟩,
 ⟨(some 125),.extract 0 (.t 121),none⟩,
 ⟨(some 126),.extract 1 (.t 121),none⟩,
 ⟨(some 12),.mv (.t 125),none⟩,
 ⟨(some 13),.mv (.t 126),none⟩] [7,106,121,122,123,124,125,126])
 (.seq (.seq (.region [⟨(some 127),.mv (.t 13),none⟩,
 ⟨(some 128),.bin .lss (.t 127) (.k (.c (.d (.int .i64 0)))),none⟩] [127])
 (.cond (.t 128)
 (.seq (.region [⟨(some 129),.mv (.t 1),none⟩,
 ⟨(some 130),.qcall 198 [(.t 129)],none⟩,
 ⟨(some 131),.extract 0 (.t 130),none⟩,
 ⟨(some 132),.extract 1 (.t 130),none⟩,
 ⟨none,.store 4 (.t 6) (.t 131),none⟩,
 ⟨(some 7),.mv (.t 132),none⟩] [0,1,2,12,13,128,129,130,131,132])
 (.ret))
 (.skip)))
 (.seq (.seq (.region [⟨(some 133),.mv (.t 0),none⟩,
 ⟨(some 134),.mv (.t 13),none⟩,
 ⟨(some 135),.qcall 106 [(.t 133),(.t 134),(.k (.c (.d (.int .u8 40))))],none⟩,
 ⟨(some 136),.un .not (.t 135),none⟩] [1,7,128,133,134,135])
 (.cond (.t 136)
 (.seq (.region [⟨(some 137),.mv (.t 12),none⟩,
 ⟨(some 138),.qcall 96 [(.t 137),(.k (.c (.full [])))],none⟩,
 ⟨(some 139),.mv (.t 13),none⟩,
 ⟨none,.store 4 (.t 6) (.t 138),none⟩,
 ⟨(some 7),.mv (.t 139),none⟩] [0,2,12,13,136,137,138,139])
 (.ret))
 (.skip)))
 (.seq (.region [⟨(some 141),.mv (.t 0),none⟩,
 ⟨(some 142),.mv (.t 13),none⟩,
 ⟨(some 143),.bin .add (.t 142) (.k (.c (.d (.int .i64 1)))),none⟩,
 ⟨(some 144),.mv (.t 2),none⟩,
 ⟨(some 145),.bin .sub (.t 144) (.k (.c (.d (.int .i64 1)))),none⟩,
 ⟨(some 146),.qcall 203 [(.t 141),(.t 143),(.t 145),(.k (.c (.d (.int .u8 41)))),(.k (.c (.d (.int .u8 41))))],none⟩,
 ⟨(some 140),.mv (.t 146),none⟩,
 ⟨(some 147),.extract 0 (.t 140),none⟩,
 ⟨(some 148),.extract 1 (.t 140),none⟩,
 ⟨(some 14),.mv (.t 147),none⟩,
 ⟨(some 15),.mv (.t 148),none⟩] [0,2,7,13,136,140,141,142,143,144,145,146,147,148])
 (.seq (.seq (.region [⟨(some 149),.mv (.t 15),none⟩,
 ⟨(some 150),.bin .lss (.t 149) (.k (.c (.d (.int .i64 0)))),none⟩] [149])
 (.cond (.t 150)
 (.seq (.region [⟨(some 151),.build [(.d (.int .i64 0)),(.d (.int .i64 0)),(.d (.str [])),(.full [])] [],none⟩,
 ⟨(some 152),.mv (.t 15),none⟩,
 ⟨none,.store 4 (.t 6) (.t 151),none⟩,
 ⟨(some 7),.mv (.t 152),none⟩] [12,14,15,150,151,152])
 (.ret))
 (.skip)))
 (.seq (.region [⟨(some 153),.mv (.t 12),none⟩,
 ⟨(some 154),.mv (.t 14),none⟩,
 ⟨(some 155),.build [(.d (.int .i64 0)),(.d (.int .i64 0)),(.d (.str [])),(.full [])] [(0,1,(.k (.c (.d (.int .i64 3))))),(2,1,(.t 153)),(3,1,(.t 154))],none⟩,
 ⟨(some 156),.mv (.t 15),none⟩,
 ⟨(some 157),.bin .add (.t 156) (.k (.c (.d (.int .i64 1)))),none⟩,
 ⟨none,.store 4 (.t 6) (.t 155),none⟩,
 ⟨(some 7),.mv (.t 157),none⟩] [12,14,15,150,153,154,155,156,157])
 (.ret))))))))))))
theorem ac166_ok : cFunc Tryz.prog [1000096,1000106,1000108,1000124,1000198,1000199,1000200,1000201,1000202,1000203] [(0,[7],[]),(1,[16,17,18,19,20,21,22],[]),(2,[0,1,2,23,24,25,26,27],[]),(3,[7,23,28,29,30],[]),(4,[1,2,31,32,33,34,35,36,37,38,39],[]),(5,[40],[]),(6,[0,8,9,41,42,43],[]),(7,[0,7,41,44,45,46],[]),(8,[8,9,47,48,49,50,51],[]),(9,[8,9,47,52,53,54],[]),(10,[7,31,55,56,57,58,59,60,61,62,63,64],[]),(11,[0,1,2,65,66,67,68,69,70,71,72,73],[]),(12,[7,65,74,75,76,77,78,79,80,81,82],[]),(13,[0,1,2,83,84,85,86,87,88,89,90,91],[]),(14,[7,83,92,93,94,95,96,97,98,99,100,101,102,103,104,105],[]),(15,[0,2,106,107,108,109,110,111,112],[]),(16,[113],[]),(17,[1,10,11,114,115,116,117,118],[]),(18,[1,10,11,114,119,120],[]),(19,[7,106,121,122,123,124,125,126],[]),(20,[127],[]),(21,[0,1,2,12,13,128,129,130,131,132],[]),(22,[1,7,128,133,134,135],[]),(23,[0,2,12,13,136,137,138,139],[]),(24,[0,2,7,13,136,140,141,142,143,144,145,146,147,148],[]),(25,[149],[]),(26,[12,14,15,150,151,152],[]),(27,[12,14,15,150,153,154,155,156,157],[])] Tryz.f166 = some (ac166,[.cell 6 (some 4),.tmp 7],158) := by kernel_rfl
-- 108 loop.example/prologserver/spec.l2Read params 4 ntmps 76
-- loop head live: [0,2,3,8,10,11]
def ac108 : Cd := .seq (.region [⟨(some 8),.alloc [(.d (.int .i64 0)),(.d (.int .i64 0)),(.d (.str [])),(.full [])],none⟩,
 ⟨(some 9),.mv (.k (.c (.d (.int .i64 0)))),none⟩] [9])
 (.seq (.seq (.region [⟨(some 16),.mv (.t 3),none⟩,
 ⟨(some 17),.bin .eql (.t 16) (.k (.c (.d (.int .i64 0)))),none⟩] [16])
 (.cond (.t 17)
 (.seq (.region [⟨(some 18),.mv (.t 0),none⟩,
 ⟨(some 19),.mv (.t 1),none⟩,
 ⟨(some 20),.mv (.t 2),none⟩,
 ⟨(some 21),.qcall 166 [(.t 18),(.t 19),(.t 20)],none⟩,
 ⟨(some 22),.extract 0 (.t 21),none⟩,
 ⟨(some 23),.extract 1 (.t 21),none⟩,
 ⟨none,.store 4 (.t 8) (.t 22),none⟩,
 ⟨(some 9),.mv (.t 23),none⟩] [0,1,2,3,17,18,19,20,21,22,23])
 (.ret))
 (.skip)))
 (.seq (.region [⟨(some 25),.mv (.t 0),none⟩,
 ⟨(some 26),.mv (.t 1),none⟩,
 ⟨(some 27),.mv (.t 2),none⟩,
 ⟨(some 28),.mv (.t 3),none⟩,
 ⟨(some 29),.bin .sub (.t 28) (.k (.c (.d (.int .i64 1)))),none⟩,
 ⟨(some 30),.qcall 108 [(.t 25),(.t 26),(.t 27),(.t 29)],none⟩,
 ⟨(some 24),.mv (.t 30),none⟩,
 ⟨(some 31),.extract 0 (.t 24),none⟩,
 ⟨(some 32),.extract 1 (.t 24),none⟩,
 ⟨(some 10),.alloc [(.d (.int .i64 0)),(.d (.int .i64 0)),(.d (.str [])),(.full [])],none⟩,
 ⟨none,.store 4 (.t 10) (.t 31),none⟩,
 ⟨(some 11),.mv (.t 32),none⟩] [1,9,17,24,25,26,27,28,29,30,31,32])
 (.seq (.block 0 (.loop (.seq (.seq (.region [⟨(some 33),.mv (.t 11),none⟩,
 ⟨(some 34),.bin .geq (.t 33) (.k (.c (.d (.int .i64 0)))),none⟩] [33])
 (.cond (.t 34)
 (.skip)
 (.exit 0)))
 (.block 1 (.seq (.region [⟨(some 36),.mv (.t 0),none⟩,
 ⟨(some 37),.mv (.t 11),none⟩,
 ⟨(some 38),.qcall 167 [(.t 36),(.t 37)],none⟩,
 ⟨(some 35),.mv (.t 38),none⟩,
 ⟨(some 39),.extract 0 (.t 35),none⟩,
 ⟨(some 40),.extract 1 (.t 35),none⟩,
 ⟨(some 12),.mv (.t 39),none⟩,
 ⟨(some 13),.mv (.t 40),none⟩] [34,35,36,37,38,39,40])
 (.seq (.seq (.region [⟨(some 41),.mv (.t 12),none⟩,
 ⟨(some 42),.bin .eql (.t 41) (.k (.c (.d (.str [])))),none⟩,
 ⟨(some 43),.mv (.t 42),none⟩,
 ⟨(some 44),.mv (.t 12),some (43,false)⟩,
 ⟨(some 45),.qcall 139 [(.t 44)],some (43,false)⟩,
 ⟨(some 46),.mv (.t 3),some (43,false)⟩,
 ⟨(some 47),.bin .neq (.t 45) (.t 46),some (43,false)⟩,
 ⟨(some 48),.pick (.t 43) (.k (.c (.d (.bool true)))) (.t 47),none⟩] [41,42,43,44,45,46,47])
 (.cond (.t 48)
 (.seq (.region [⟨(some 49),.load (some 4) (.t 10),none⟩,
 ⟨(some 50),.mv (.t 11),none⟩,
 ⟨none,.store 4 (.t 8) (.t 49),none⟩,
 ⟨(some 9),.mv (.t 50),none⟩] [0,2,3,10,11,12,13,48,49,50])
 (.ret))
 (.skip)))
 (.seq (.region [⟨(some 52),.mv (.t 0),none⟩,
 ⟨(some 53),.mv (.t 13),none⟩,
 ⟨(some 54),.mv (.t 2),none⟩,
 ⟨(some 55),.mv (.t 3),none⟩,
 ⟨(some 56),.bin .sub (.t 55) (.k (.c (.d (.int .i64 1)))),none⟩,
 ⟨(some 57),.qcall 108 [(.t 52),(.t 53),(.t 54),(.t 56)],none⟩,
 ⟨(some 51),.mv (.t 57),none⟩,
 ⟨(some 58),.extract 0 (.t 51),none⟩,
 ⟨(some 59),.extract 1 (.t 51),none⟩,
 ⟨(some 14),.alloc [(.d (.int .i64 0)),(.d (.int .i64 0)),(.d (.str [])),(.full [])],none⟩,
 ⟨none,.store 4 (.t 14) (.t 58),none⟩,
 ⟨(some 15),.mv (.t 59),none⟩] [9,11,13,48,51,52,53,54,55,56,57,58,59])
 (.seq (.seq (.region [⟨(some 60),.mv (.t 15),none⟩,
 ⟨(some 61),.bin .lss (.t 60) (.k (.c (.d (.int .i64 0)))),none⟩] [60])
 (.cond (.t 61)
 (.seq (.region [⟨(some 62),.build [(.d (.int .i64 0)),(.d (.int .i64 0)),(.d (.str [])),(.full [])] [],none⟩,
 ⟨(some 63),.mv (.t 15),none⟩,
 ⟨none,.store 4 (.t 8) (.t 62),none⟩,
 ⟨(some 9),.mv (.t 63),none⟩] [0,2,3,10,12,14,15,61,62,63])
 (.ret))
 (.skip)))
 (.seq (.region [⟨(some 64),.mv (.t 12),none⟩,
 ⟨(some 65),.load (some 4) (.t 10),none⟩,
 ⟨(some 66),.load (some 4) (.t 14),none⟩,
 ⟨(some 67),.buildSlice 4 2 [(.int .i64 0),(.int .i64 0),(.str []),(.sl [])] [(0,(.t 65)),(1,(.t 66))],none⟩,
 ⟨(some 68),.qcall 96 [(.t 64),(.t 67)],none⟩,
 ⟨none,.store 4 (.t 10) (.t 68),none⟩] [9,12,14,61,64,65,66,67,68])
 (.seq (.region [⟨(some 69),.mv (.t 15),none⟩,
 ⟨(some 11),.mv (.t 69),none⟩] [15,69])
 (.seq (.region [⟨(some 70),.mv (.t 3),none⟩,
 ⟨(some 71),.bin .eql (.t 70) (.k (.c (.d (.int .i64 3)))),none⟩] [70])
 (.cond (.t 71)
 (.seq (.region [⟨(some 72),.load (some 4) (.t 10),none⟩,
 ⟨(some 73),.mv (.t 11),none⟩,
 ⟨none,.store 4 (.t 8) (.t 72),none⟩,
 ⟨(some 9),.mv (.t 73),none⟩] [0,2,3,10,11,71,72,73])
 (.ret))
 (.skip)))))))))))))
 (.seq (.region [⟨(some 74),.build [(.d (.int .i64 0)),(.d (.int .i64 0)),(.d (.str [])),(.full [])] [],none⟩,
 ⟨(some 75),.mv (.t 11),none⟩,
 ⟨none,.store 4 (.t 8) (.t 74),none⟩,
 ⟨(some 9),.mv (.t 75),none⟩] [11,74,75])
 (.ret)))))
theorem ac108_ok : cFunc Tryz.prog [1000096,1000108,1000139,1000166,1000167] [(0,[9],[]),(1,[16],[]),(2,[0,1,2,3,17,18,19,20,21,22,23],[]),(3,[1,9,17,24,25,26,27,28,29,30,31,32],[]),(4,[33],[]),(5,[34,35,36,37,38,39,40],[]),(6,[41,42,43,44,45,46,47],[]),(7,[0,2,3,10,11,12,13,48,49,50],[]),(8,[9,11,13,48,51,52,53,54,55,56,57,58,59],[]),(9,[60],[]),(10,[0,2,3,10,12,14,15,61,62,63],[]),(11,[9,12,14,61,64,65,66,67,68],[]),(12,[15,69],[]),(13,[70],[]),(14,[0,2,3,10,11,71,72,73],[]),(15,[11,74,75],[])] Tryz.f108 = some (ac108,[.cell 8 (some 4),.tmp 9],76) := by kernel_rfl
theorem fails_calls (i : Nat) (hi : i ≤ 2000000) (H : Heap) : ACalls Tryz.prog 198 [.c (.d (.int .i64 i))] H (fun r H' => H' = H ∧ r = .tup [.agg ((Tm.mk 0 0 [] []).row.map .d), .c (.d (.int .i64 (-1 - (i : Int))))]) := by
  refine acalls Tryz.func198 (by kernel_rfl) ac198_ok fun hf => ?_
  have h1 : inR .i64 (-1 - (i : Int)) := small_i64 (by omega) (by omega)
  simp -implicitDefEqProofs [ac198, h1, row_mk, hf, go_sem, -List.set_cons_succ, -List.set_cons_zero]
def readA : Rs → A
  | .ok ts j => .tup [.agg ((Rs.tm ts).row.map .d), .c (.d (.int .i64 j))]
  | .bad e => .tup [.agg ((Tm.mk 0 0 [] []).row.map .d), .c (.d (.int .i64 (-1 - (e : Int))))]
def termsA : Rs → A
  | .ok ts j => .tup [.c (.d (.sl (ts.map Tm.row))), .c (.d (.int .i64 j))]
  | .bad e => .tup [.c (.d (.sl [])), .c (.d (.int .i64 (-1 - (e : Int))))]
theorem readA_re (r : Rs) (n : Nat) : A.re n (readA r) = readA r := by cases r <;> simp [readA, A.re, A.res, C.re, re_d]
theorem termsA_re (r : Rs) (n : Nat) : A.re n (termsA r) = termsA r := by cases r <;> simp [termsA, A.re, A.res, C.re]
/-- the parser's functions at so many steps -/
structure Par (s : List UInt8) (f : Nat) : Prop where
  read : ∀ (i d l : Nat) (r : Rs), i ≤ s.length → d ≤ 1000 → l ≤ 3 → rd s f (.read i d l) = some r → ∀ H : Heap, ACalls Tryz.prog 108 [.c (.d (.str s)), .c (.d (.int .i64 i)), .c (.d (.int .i64 d)), .c (.d (.int .i64 l))] H (fun r' H' => H' = H ∧ r' = readA r)
  prime : ∀ (i d : Nat) (r : Rs), i ≤ s.length → d ≤ 1000 → rd s f (.prime i d) = some r → ∀ H : Heap, ACalls Tryz.prog 166 [.c (.d (.str s)), .c (.d (.int .i64 i)), .c (.d (.int .i64 d))] H (fun r' H' => H' = H ∧ r' = readA r)
  terms : ∀ (i d : Nat) (e o : UInt8) (r : Rs), i ≤ s.length → d ≤ 1000 → rd s f (.terms i d e o) = some r → ∀ H : Heap, ACalls Tryz.prog 203 [.c (.d (.str s)), .c (.d (.int .i64 i)), .c (.d (.int .i64 d)), .c (.d (.int .u8 e.toNat)), .c (.d (.int .u8 o.toNat))] H (fun r' H' => H' = H ∧ r' = termsA r)
section
variable {s : List UInt8} (hs : s.length ≤ 1000000) {f : Nat}
include hs
theorem items_step (h : Par s f) (i d : Nat) (hi : i ≤ s.length) (hd : d ≤ 1000) (r : Rs) (hr : (match rd s f (.terms i d 93 124) with
        | none => none
        | some (.bad e) => some (.bad e)
        | some (.ok ts j) => if sgn s j 93 then some (.ok [chainT ts nilT] (j + 1))
          else match rd s f (.read (j + 1) d 3) with
            | none => none
            | some (.bad e) => some (.bad e)
            | some (.ok us k) => if sgn s k 93 then some (.ok [chainT ts (Rs.tm us)] (k + 1)) else some (.bad k)) = some r) (H : Heap) :
    ACalls Tryz.prog 199 [.c (.d (.str s)), .c (.d (.int .i64 i)), .c (.d (.int .i64 d))] H (fun r' H' => H' = H ∧ r' = readA r) := by
  refine acalls Tryz.func199 (by kernel_rfl) ac199_ok fun hf => ?_
  cases hx : rd s f (.terms i d 93 124) with
  | none => rw [hx] at hr; cases hr
  | some v =>
    rw [hx] at hr
    have c1 := h.terms i d 93 124 v hi hd hx
    have p1 := rd_post hs (j := .terms i d 93 124) hi hx
    simp -implicitDefEqProofs [ac199, go_sem, -List.set_cons_succ, -List.set_cons_zero]
    refine qcall_pure c1 hf (termsA_re _ _) ?_
    cases v with
    | bad e =>
      have he : e ≤ s.length := p1
      cases hr
      have hneg : (-1 - (e : Int)) < 0 := by omega
      simp -implicitDefEqProofs [termsA, readA, hneg, row_mk, hf, go_sem, -List.set_cons_succ, -List.set_cons_zero]
    | ok ts j =>
      obtain ⟨g1, g2, g3, g4, g5⟩ := p1
      simp only at hr
      have hj0 : ¬ (j : Int) < 0 := by omega
      simp -implicitDefEqProofs [termsA, hj0, hf, go_sem, -List.set_cons_succ, -List.set_cons_zero]
      refine qcall_pure (sign_calls s hs j (by omega) 93) hf rfl ?_
      have hj1 : inR .i64 ((j : Int) + 1) := small_i64 (by omega) (by omega)
      cases hsg : sgn s j 93 with
      | true =>
        rw [hsg] at hr
        simp only [if_true, Option.some.injEq] at hr
        subst hr
        have hst := struct_calls [91, 93] [] (by simp)
        simp only [List.map_nil] at hst
        have hch := chainSpec_calls ts (by omega) nilT
        simp -implicitDefEqProofs [hf, go_sem, -List.set_cons_succ, -List.set_cons_zero]
        refine qcall_pure hst hf (by simp [A.re, re_d]) ?_
        simp -implicitDefEqProofs [row_len, take_row, pure_d, re_d, hf, go_sem, -List.set_cons_succ, -List.set_cons_zero]
        refine qcall_pure hch hf (by simp [A.re, re_d]) ?_
        simp -implicitDefEqProofs [hj1, readA, Rs.tm, row_len, take_row, pure_d, re_d, thaw_d, fits_map, hf, go_sem, -List.set_cons_succ, -List.set_cons_zero]
      | false =>
        rw [hsg] at hr
        simp only [Bool.false_eq_true, if_false] at hr
        have hjl : j < s.length := by
          rw [Bool.or_eq_true] at g5
          rcases g5 with g5 | g5 <;> exact sgn_lt g5
        cases hy : rd s f (.read (j + 1) d 3) with
        | none => rw [hy] at hr; cases hr
        | some w =>
          rw [hy] at hr
          have c2 := h.read (j + 1) d 3 w (by omega) hd (by omega) hy
          have p2 := rd_post hs (j := .read (j + 1) d 3) ⟨by omega, by omega⟩ hy
          simp only [Int.natCast_add, Int.cast_ofNat_Int] at c2
          simp -implicitDefEqProofs [hj1, hf, go_sem, -List.set_cons_succ, -List.set_cons_zero]
          refine qcall_pure c2 hf (readA_re _ _) ?_
          cases w with
          | bad e =>
            have he : e ≤ s.length := p2
            cases hr
            have hneg : (-1 - (e : Int)) < 0 := by omega
            simp -implicitDefEqProofs [readA, hneg, row_mk, hf, go_sem, -List.set_cons_succ, -List.set_cons_zero]
          | ok us k =>
            obtain ⟨q1, q2, u, rfl, q3⟩ := p2
            simp only at hr
            have hk0 : ¬ (k : Int) < 0 := by omega
            have hk1 : inR .i64 ((k : Int) + 1) := small_i64 (by omega) (by omega)
            have hch := chainSpec_calls ts (by omega) u
            simp -implicitDefEqProofs [readA, Rs.tm, hk0, row_len, take_row, pure_d, re_d, hf, go_sem, -List.set_cons_succ, -List.set_cons_zero]
            refine qcall_pure (sign_calls s hs k (by omega) 93) hf rfl ?_
            cases hsk : sgn s k 93 with
            | true =>
              rw [hsk] at hr
              simp only [if_true, Option.some.injEq] at hr
              subst hr
              simp -implicitDefEqProofs [row_len, take_row, pure_d, re_d, hf, go_sem, -List.set_cons_succ, -List.set_cons_zero]
              refine qcall_pure hch hf (by simp [A.re, re_d]) ?_
              simp -implicitDefEqProofs [hk1, readA, Rs.tm, row_len, take_row, pure_d, re_d, thaw_d, fits_map, hf, go_sem, -List.set_cons_succ, -List.set_cons_zero]
            | false =>
              rw [hsk] at hr
              simp only [Bool.false_eq_true, if_false, Option.some.injEq] at hr
              subst hr
              simp -implicitDefEqProofs [row_len, take_row, pure_d, re_d, hf, go_sem, -List.set_cons_succ, -List.set_cons_zero]
              refine qcall_pure (fails_calls k (by omega)) hf (by simp [A.re, A.res, C.re, re_d]) ?_
              simp -implicitDefEqProofs [readA, row_mk, hf, go_sem, -List.set_cons_succ, -List.set_cons_zero]
theorem prime_step (h : Par s f) (i d : Nat) (hi : i ≤ s.length) (hd : d ≤ 1000) (r : Rs) (hr : rd s (f + 1) (.prime i d) = some r) (H : Heap) :
    ACalls Tryz.prog 166 [.c (.d (.str s)), .c (.d (.int .i64 i)), .c (.d (.int .i64 d))] H (fun r' H' => H' = H ∧ r' = readA r) := by
  have hit := items_step hs h
  have hr : step s (rd s f) (.prime i d) = some r := hr
  simp only [step] at hr
  refine acalls Tryz.func166 (by kernel_rfl) ac166_ok fun hf => ?_
  have hli : inR .i64 (s.length : Int) := small_i64 (by omega) (by omega)
  have hi1 : inR .i64 ((i : Int) + 1) := small_i64 (by omega) (by omega)
  have bad : ∀ (K : A → St → Prop) (st : St), Obs.fits st.ext.length 0 st.ext → K (.tup [.agg ((Tm.mk 0 0 [] []).row.map .d), .c (.d (.int .i64 (-1 - (i : Int))))]) st → QCallK Tryz.prog 198 [.c (.d (.int .i64 i))] st K := fun K st h1 h2 => qcall_pure (fails_calls i (by omega)) h1 (by simp [A.re, A.res, C.re, re_d]) h2
  cases hb : s[i]? with
  | none =>
    rw [hb] at hr
    simp only [Option.some.injEq] at hr
    subst hr
    have hge : ¬ i < s.length := fun h => by simp [h] at hb
    have hge' : (s.length : Int) ≤ (i : Int) := by omega
    by_cases hd1 : (d : Int) < 1
    · simp -implicitDefEqProofs [ac166, hd1, hli, go_sem, -List.set_cons_succ, -List.set_cons_zero]
      refine bad _ _ hf ?_
      simp -implicitDefEqProofs [readA, row_mk, hf, go_sem, -List.set_cons_succ, -List.set_cons_zero]
    · simp -implicitDefEqProofs [ac166, hd1, hge', hli, go_sem, -List.set_cons_succ, -List.set_cons_zero]
      refine bad _ _ hf ?_
      simp -implicitDefEqProofs [readA, row_mk, hf, go_sem, -List.set_cons_succ, -List.set_cons_zero]
  | some b =>
    rw [hb] at hr
    have hlt : i < s.length := (List.getElem?_eq_some_iff.1 hb).1
    have hsb : s[i] = b := by have := List.getElem?_eq_getElem hlt; rw [hb] at this; exact (Option.some.inj this).symm
    have hge' : ¬ (s.length : Int) ≤ (i : Int) := by omega
    have byte : ∀ (K : A → St → Prop) (st : St), K (.c (.d (.int .u8 b.toNat))) st → ByteK true s (i : Int) K st := fun K st h1 => byte_nat hlt (by rw [hsb]; exact h1)
    have boff : ∀ (K : A → St → Prop) (st : St), K (.c (.d (.int .u8 b.toNat))) st → ByteK false s (i : Int) K st := fun K st h1 => byte_off b h1
    simp only at hr
    by_cases hd1 : d < 1
    · rw [if_pos hd1] at hr
      cases hr
      have hd1' : (d : Int) < 1 := by omega
      simp -implicitDefEqProofs [ac166, hd1', hli, go_sem, -List.set_cons_succ, -List.set_cons_zero]
      refine bad _ _ hf ?_
      simp -implicitDefEqProofs [readA, row_mk, hf, go_sem, -List.set_cons_succ, -List.set_cons_zero]
    · rw [if_neg hd1] at hr
      have hd1' : ¬ (d : Int) < 1 := by omega
      have hdd : inR .i64 ((d : Int) - 1) := small_i64 (by omega) (by omega)
      have hdn : ((d : Int) - 1) = ((d - 1 : Nat) : Int) := by omega
      simp -implicitDefEqProofs [ac166, hd1', hge', hli, go_sem, -List.set_cons_succ, -List.set_cons_zero]
      refine byte _ _ ?_
      by_cases h40 : b = 40
      · rw [if_pos h40] at hr
        have h40' : (b.toNat : Int) = 40 := by rw [h40]; rfl
        simp -implicitDefEqProofs [h40', hi1, hf, go_sem, -List.set_cons_succ, -List.set_cons_zero]
        cases hx : rd s f (.read (i + 1) d 3) with
        | none => rw [hx] at hr; cases hr
        | some v =>
          rw [hx] at hr
          have c1 := h.read (i + 1) d 3 v (by omega) hd (by omega) hx
          have p1 := rd_post hs (j := .read (i + 1) d 3) ⟨by omega, by omega⟩ hx
          simp only [Int.natCast_add, Int.cast_ofNat_Int] at c1
          refine qcall_pure c1 hf (readA_re _ _) ?_
          cases v with
          | bad e =>
            have he : e ≤ s.length := p1
            cases hr
            have hneg : (-1 - (e : Int)) < 0 := by omega
            simp -implicitDefEqProofs [readA, hneg, row_mk, hf, go_sem, -List.set_cons_succ, -List.set_cons_zero]
          | ok ts j =>
            obtain ⟨g1, g2, t, rfl, g3⟩ := p1
            simp only at hr
            have hj0 : ¬ (j : Int) < 0 := by omega
            have hj1 : inR .i64 ((j : Int) + 1) := small_i64 (by omega) (by omega)
            simp -implicitDefEqProofs [readA, Rs.tm, hj0, row_len, take_row, pure_d, re_d, hf, go_sem, -List.set_cons_succ, -List.set_cons_zero]
            refine qcall_pure (sign_calls s hs j (by omega) 41) hf rfl ?_
            cases hsg : sgn s j 41 with
            | true =>
              rw [hsg] at hr
              simp only [if_true, Option.some.injEq] at hr
              subst hr
              simp -implicitDefEqProofs [hj1, readA, Rs.tm, row_len, take_row, pure_d, re_d, thaw_d, fits_map, hf, go_sem, -List.set_cons_succ, -List.set_cons_zero]
            | false =>
              rw [hsg] at hr
              simp only [Bool.false_eq_true, if_false, Option.some.injEq] at hr
              subst hr
              simp -implicitDefEqProofs [row_len, take_row, pure_d, re_d, hf, go_sem, -List.set_cons_succ, -List.set_cons_zero]
              refine qcall_pure (fails_calls j (by omega)) hf (by simp [A.re, A.res, C.re, re_d]) ?_
              simp -implicitDefEqProofs [readA, row_mk, hf, go_sem, -List.set_cons_succ, -List.set_cons_zero]
      · rw [if_neg h40] at hr
        have h40' : ¬ (b.toNat : Int) = 40 := fun h => h40 (UInt8.toNat_inj.1 (by have : (40 : UInt8).toNat = 40 := rfl; omega))
        simp -implicitDefEqProofs [h40', hi1, hf, go_sem, -List.set_cons_succ, -List.set_cons_zero]
        refine byte _ _ ?_
        refine (fun (key : (if bigB b then some (Rs.ok [.mk 1 (b.toNat - 65 : Nat) [] []] (i + 1))
      else if digB b || b == 45 && digAt s (i + 1) then match numR s i with
        | none => some (.bad i)
        | some (n, j) => some (.ok [.mk 2 n [] []] j)
      else match nameR s i with
        | none => some (.bad i)
        | some (n, j) => if sgn s j 40 then match rd s f (.terms (j + 1) (d - 1) 41 41) with
            | none => none
            | some (.bad e) => some (.bad e)
            | some (.ok ts k) => some (.ok [.mk 3 0 n ts] (k + 1))
          else some (.ok [.mk 3 0 n []] j)) = some r → (?tail : Prop)) => ?main) ?rest
        case main =>
          by_cases h91 : b = 91
          · have h91' : (b.toNat : Int) = 91 := by rw [h91]; rfl
            have cs := sign_calls s hs (i + 1) (by omega) 93
            simp only [Int.natCast_add, Int.cast_ofNat_Int] at cs
            simp -implicitDefEqProofs [h91', hi1, hf, go_sem, -List.set_cons_succ, -List.set_cons_zero]
            refine qcall_pure cs hf rfl ?_
            cases hsg : sgn s (i + 1) 93 with
            | false =>
              rw [if_pos ⟨h91, hsg⟩] at hr
              have c1 := hit (i + 1) (d - 1) (by omega) (by omega) r hr
              rw [← hdn] at c1
              simp only [Int.natCast_add, Int.cast_ofNat_Int] at c1
              simp -implicitDefEqProofs [hi1, hdd, hf, go_sem, -List.set_cons_succ, -List.set_cons_zero]
              refine qcall_pure c1 hf (readA_re _ _) ?_
              cases r with
              | bad e => simp -implicitDefEqProofs [readA, row_mk, hf, go_sem, -List.set_cons_succ, -List.set_cons_zero]
              | ok ts j => simp -implicitDefEqProofs [readA, row_len, take_row, pure_d, re_d, thaw_d, fits_map, hf, go_sem, -List.set_cons_succ, -List.set_cons_zero]
            | true =>
              rw [if_neg (fun h => by rw [hsg] at h; exact absurd h.2 (by simp))] at hr
              simp -implicitDefEqProofs [hf, go_sem, -List.set_cons_succ, -List.set_cons_zero]
              exact key hr
          · have h91' : ¬ (b.toNat : Int) = 91 := fun h => h91 (UInt8.toNat_inj.1 (by have : (91 : UInt8).toNat = 91 := rfl; omega))
            have h91'' : ((b.toNat : Int) == 91) = false := by simp; omega
            rw [if_neg (fun h => h91 h.1)] at hr
            simp -implicitDefEqProofs [h91', h91'', hi1, hf, go_sem, -List.set_cons_succ, -List.set_cons_zero]
            exact key hr
        case rest =>
          intro hr
          refine byte _ _ ?_
          refine (fun (key : (if digB b || b == 45 && digAt s (i + 1) then match numR s i with
        | none => some (.bad i)
        | some (n, j) => some (.ok [.mk 2 n [] []] j)
      else match nameR s i with
        | none => some (.bad i)
        | some (n, j) => if sgn s j 40 then match rd s f (.terms (j + 1) (d - 1) 41 41) with
            | none => none
            | some (.bad e) => some (.bad e)
            | some (.ok ts k) => some (.ok [.mk 3 0 n ts] (k + 1))
          else some (.ok [.mk 3 0 n []] j)) = some r → (?tail2 : Prop)) => ?main2) ?rest2
          case main2 =>
            by_cases h65 : (65 : Int) ≤ b.toNat
            · simp -implicitDefEqProofs [h65, go_sem, -List.set_cons_succ, -List.set_cons_zero]
              refine byte _ _ ?_
              by_cases h90 : (b.toNat : Int) ≤ 90
              · have hbg : bigB b = true := by simp [bigB]; omega
                rw [if_pos hbg] at hr
                cases hr
                have hsub : inR .u8 ((b.toNat : Int) - 65) := by simp [inR, IntKind.min, IntKind.max, IntKind.signed, IntKind.bits]; omega
                have hw : IntKind.i64.wrap ((b.toNat : Int) - 65) = ((b.toNat - 65 : Nat) : Int) := by rw [IntKind.wrap_i64]; omega
                simp -implicitDefEqProofs [h90, go_sem, -List.set_cons_succ, -List.set_cons_zero]
                refine byte _ _ ?_
                simp -implicitDefEqProofs [hsub, hw, hi1, go_sem, -List.set_cons_succ, -List.set_cons_zero]
                refine qcall_pure (var_calls ((b.toNat - 65 : Nat) : Int)) hf (by simp [A.re, re_d]) ?_
                simp -implicitDefEqProofs [hi1, readA, Rs.tm, row_len, take_row, pure_d, re_d, thaw_d, fits_map, hf, go_sem, -List.set_cons_succ, -List.set_cons_zero]
              · have hbg : ¬ bigB b = true := by simp [bigB]; omega
                rw [if_neg hbg] at hr
                simp -implicitDefEqProofs [h90, go_sem, -List.set_cons_succ, -List.set_cons_zero]
                exact key hr
            · have hbg : ¬ bigB b = true := by simp [bigB]; omega
              rw [if_neg hbg] at hr
              simp -implicitDefEqProofs [h65, go_sem, -List.set_cons_succ, -List.set_cons_zero]
              refine boff _ _ ?_
              simp -implicitDefEqProofs [go_sem, -List.set_cons_succ, -List.set_cons_zero]
              exact key hr
          case rest2 =>
            intro hr
            have hda : digAt s i = digB b := by simp [digAt, hb]
            have cdg := digit_calls s hs i (by omega)
            rw [hda] at cdg
            refine qcall_pure cdg hf rfl ?_
            refine (fun (key1 : (match numR s i with
        | none => some (.bad i)
        | some (n, j) => some (.ok [.mk 2 n [] []] j)) = some r → (?num : Prop)) (key2 : (match nameR s i with
        | none => some (.bad i)
        | some (n, j) => if sgn s j 40 then match rd s f (.terms (j + 1) (d - 1) 41 41) with
            | none => none
            | some (.bad e) => some (.bad e)
            | some (.ok ts k) => some (.ok [.mk 3 0 n ts] (k + 1))
          else some (.ok [.mk 3 0 n []] j)) = some r → (?name : Prop)) => ?main3) ?rest3 ?rest4
            case main3 =>
              cases hdb : digB b with
              | true =>
                rw [hdb] at hr
                simp only [Bool.true_or, if_true] at hr
                have hb2 : 48 ≤ b.toNat ∧ b.toNat ≤ 57 := by simpa [digB] using hdb
                have h45' : ((b.toNat : Int) == 45) = false := by simp; omega
                simp -implicitDefEqProofs [go_sem, -List.set_cons_succ, -List.set_cons_zero]
                refine boff _ _ ?_
                simp -implicitDefEqProofs [h45', hi1, go_sem, -List.set_cons_succ, -List.set_cons_zero]
                exact key1 hr
              | false =>
                rw [hdb] at hr
                simp only [Bool.false_or] at hr
                simp -implicitDefEqProofs [go_sem, -List.set_cons_succ, -List.set_cons_zero]
                refine byte _ _ ?_
                by_cases h45 : b = 45
                · have h45' : (b.toNat : Int) = 45 := by rw [h45]; rfl
                  have cd2 := digit_calls s hs (i + 1) (by omega)
                  simp only [Int.natCast_add, Int.cast_ofNat_Int] at cd2
                  simp -implicitDefEqProofs [h45', hi1, go_sem, -List.set_cons_succ, -List.set_cons_zero]
                  refine qcall_pure cd2 hf rfl ?_
                  cases hd2 : digAt s (i + 1) with
                  | true =>
                    rw [if_pos (by rw [hd2, h45]; rfl)] at hr
                    simp -implicitDefEqProofs [go_sem, -List.set_cons_succ, -List.set_cons_zero]
                    exact key1 hr
                  | false =>
                    rw [if_neg (by rw [hd2]; simp)] at hr
                    simp -implicitDefEqProofs [go_sem, -List.set_cons_succ, -List.set_cons_zero]
                    exact key2 hr
                · have h45' : ((b.toNat : Int) == 45) = false := by
                    simp
                    exact fun h => h45 (UInt8.toNat_inj.1 (by have : (45 : UInt8).toNat = 45 := rfl; omega))
                  rw [if_neg (by simp [h45])] at hr
                  simp -implicitDefEqProofs [h45', hi1, go_sem, -List.set_cons_succ, -List.set_cons_zero]
                  exact key2 hr
            case rest3 =>
              intro hr
              have cn := number_calls s hs i hi
              cases hn : numR s i with
              | none =>
                rw [hn] at hr cn
                cases hr
                refine qcall_pure cn hf (by simp [numA, A.re, A.res, C.re, re_d]) ?_
                simp -implicitDefEqProofs [numA, row_mk, hf, go_sem, -List.set_cons_succ, -List.set_cons_zero]
                refine bad _ _ hf ?_
                simp -implicitDefEqProofs [readA, row_mk, hf, go_sem, -List.set_cons_succ, -List.set_cons_zero]
              | some q =>
                obtain ⟨x, j⟩ := q
                rw [hn] at hr cn
                cases hr
                have hj0 : ¬ (j : Int) < 0 := by omega
                refine qcall_pure cn hf (by simp [numA, A.re, A.res, C.re, re_d]) ?_
                simp -implicitDefEqProofs [numA, hj0, row_mk, hf, go_sem, -List.set_cons_succ, -List.set_cons_zero]
                simp -implicitDefEqProofs [readA, Rs.tm, row_mk, hf, go_sem, -List.set_cons_succ, -List.set_cons_zero]
            case rest4 =>
              intro hr
              have cn := name_calls s hs i hi
              cases hn : nameR s i with
              | none =>
                rw [hn] at hr cn
                cases hr
                refine qcall_pure cn hf (by simp [nameA, A.re, A.res, C.re]) ?_
                simp -implicitDefEqProofs [nameA, hf, go_sem, -List.set_cons_succ, -List.set_cons_zero]
                refine bad _ _ hf ?_
                simp -implicitDefEqProofs [readA, row_mk, hf, go_sem, -List.set_cons_succ, -List.set_cons_zero]
              | some q =>
                obtain ⟨w, j⟩ := q
                rw [hn] at hr cn
                have ho := nameR_ok hi hn
                have hj0 : ¬ (j : Int) < 0 := by omega
                have hj1 : inR .i64 ((j : Int) + 1) := small_i64 (by omega) (by omega)
                refine qcall_pure cn hf (by simp [nameA, A.re, A.res, C.re]) ?_
                simp -implicitDefEqProofs [nameA, hj0, hf, go_sem, -List.set_cons_succ, -List.set_cons_zero]
                refine qcall_pure (sign_calls s hs j (by omega) 40) hf rfl ?_
                simp only at hr
                cases hsg : sgn s j 40 with
                | false =>
                  rw [hsg] at hr
                  simp only [Bool.false_eq_true, if_false, Option.some.injEq] at hr
                  subst hr
                  have hst := struct_calls w [] (by simp)
                  simp only [List.map_nil] at hst
                  simp -implicitDefEqProofs [hf, go_sem, -List.set_cons_succ, -List.set_cons_zero]
                  refine qcall_pure hst hf (by simp [A.re, re_d]) ?_
                  simp -implicitDefEqProofs [readA, Rs.tm, row_mk, hf, go_sem, -List.set_cons_succ, -List.set_cons_zero]
                | true =>
                  rw [hsg] at hr
                  simp only [if_true] at hr
                  have hjl := sgn_lt hsg
                  simp -implicitDefEqProofs [hj1, hdd, hf, go_sem, -List.set_cons_succ, -List.set_cons_zero]
                  cases hx : rd s f (.terms (j + 1) (d - 1) 41 41) with
                  | none => rw [hx] at hr; cases hr
                  | some v =>
                    rw [hx] at hr
                    have c1 := h.terms (j + 1) (d - 1) 41 41 v (by omega) (by omega) hx
                    have p1 := rd_post hs (j := .terms (j + 1) (d - 1) 41 41) (by show j + 1 ≤ s.length; omega) hx
                    rw [← hdn] at c1
                    simp only [Int.natCast_add, Int.cast_ofNat_Int] at c1
                    refine qcall_pure c1 hf (termsA_re _ _) ?_
                    cases v with
                    | bad e =>
                      cases hr
                      have hneg : (-1 - (e : Int)) < 0 := by omega
                      simp -implicitDefEqProofs [termsA, readA, hneg, row_mk, hf, go_sem, -List.set_cons_succ, -List.set_cons_zero]
                    | ok ts k =>
                      cases hr
                      obtain ⟨g1, g2, g3, g4, g5⟩ := p1
                      have hk0 : ¬ (k : Int) < 0 := by omega
                      have hk1 : inR .i64 ((k : Int) + 1) := small_i64 (by omega) (by omega)
                      simp -implicitDefEqProofs [termsA, readA, Rs.tm, hk0, hk1, row_mk, hf, go_sem, -List.set_cons_succ, -List.set_cons_zero]
end
end Go.Proofs.YtbblefjbgbocoaaGreatDoor

/-
  The reference's parser does what it is said to do: the whole.
  Conditions: none.
-/
open Go Go.AM Go.Proofs
namespace Go.Proofs.YtbblefjbgbocoaaGreatDoor
open Go.ChangeShapes Go.WideShapes Go.ChangeAt Go.RowKit
set_option linter.unusedVariables false
set_option linter.unusedSimpArgs false
set_option maxRecDepth 100000
def Rs.app (out : List Tm) : Rs → Rs
  | .ok us k => .ok (out ++ us) k
  | .bad e => .bad e
theorem opR_lv {s : List UInt8} {i j : Nat} {n : List UInt8} (h : opR s i = some (n, j)) : ¬ levelN n = 0 := by
  unfold opR at h
  generalize (if sgn s i 32 then i + 1 else i) = p at h
  split at h
  · cases h
  · cases hn : nameR s p with
    | none => rw [hn] at h; cases h
    | some q =>
      obtain ⟨m, k⟩ := q
      rw [hn] at h
      simp only at h
      split at h
      · cases h
      · rename_i hl
        split at h
        · cases h
        · simp only [Option.some.injEq, Prod.mk.injEq] at h
          rw [← h.1]; exact hl
section
variable {s : List UInt8} (hs : s.length ≤ 1000000) {f : Nat} (h : ∀ g, g ≤ f → Par s g)
include hs h
theorem terms_step (i d : Nat) (e o : UInt8) (r : Rs) (hi : i ≤ s.length) (hd : d ≤ 1000) (hr : rd s (f + 1) (.terms i d e o) = some r) (H : Heap) :
    ACalls Tryz.prog 203 [.c (.d (.str s)), .c (.d (.int .i64 i)), .c (.d (.int .i64 d)), .c (.d (.int .u8 e.toNat)), .c (.d (.int .u8 o.toNat))] H (fun r' H' => H' = H ∧ r' = termsA r) := by
  refine acalls Tryz.func203 (by kernel_rfl) ac203_ok fun hf => ?_
  simp -implicitDefEqProofs [ac203, go_sem, -List.set_cons_succ, -List.set_cons_zero]
  refine loop_enter (St.le_token 12 4 rfl) ?_
  refine loop_set (σ := Nat × List Tm × Nat × Rs) (fun x => [(1, .c (.d (.int .i64 x.1))), (12, .c (.own (.l 0) x.2.1.length (x.2.1.map Tm.row)))]) (fun _ => H) (fun x => [.grow x.2.1.length 4])
    (fun x => x.1 ≤ s.length ∧ x.2.1.length ≤ x.1 ∧ x.2.2.1 ≤ f + 1 ∧ rd s x.2.2.1 (.terms x.1 d e o) = some x.2.2.2 ∧ x.2.2.2.app x.2.1 = r) (fun x => x.2.2.1) (i, [], f + 1, r) (by simp [setAll]) ⟨hi, by simp, Nat.le_refl _, hr, by cases r <;> rfl⟩ ?_
  rintro ⟨p, out, g, q⟩ ⟨hp, hol, hg, hq, happ⟩
  simp only at hp hol hg hq happ
  cases g with
  | zero => cases hq
  | succ g =>
    have hq : step s (rd s g) (.terms p d e o) = some q := hq
    simp only [step] at hq
    have hpar := h g (by omega)
    simp -implicitDefEqProofs [setAll, hf, go_sem, -List.set_cons_succ, -List.set_cons_zero]
    cases hx : rd s g (.read p d 3) with
    | none => rw [hx] at hq; cases hq
    | some v =>
      rw [hx] at hq
      have c1 := hpar.read p d 3 v hp hd (by omega) hx
      have p1 := rd_post hs (j := .read p d 3) ⟨hp, by omega⟩ hx
      refine qcall_pure c1 hf (readA_re _ _) ?_
      cases v with
      | bad x =>
        cases hq
        have hx2 : x ≤ s.length := p1
        have hneg : (-1 - (x : Int)) < 0 := by omega
        subst happ
        simp -implicitDefEqProofs [readA, termsA, Rs.app, hneg, row_mk, hf, go_sem, -List.set_cons_succ, -List.set_cons_zero]
      | ok ts j =>
        obtain ⟨g1, g2, t, rfl, g3⟩ := p1
        simp only at hq
        have hj0 : ¬ (j : Int) < 0 := by omega
        have hj1 : inR .i64 ((j : Int) + 1) := small_i64 (by omega) (by omega)
        have hjm : inR .i64 (-1 - (j : Int)) := small_i64 (by omega) (by omega)
        simp -implicitDefEqProofs [readA, Rs.tm, hj0, row_len, take_row, pure_d, re_d, toDs_map, hf, go_sem, -List.set_cons_succ, -List.set_cons_zero]
        refine ⟨allLen_map row_len, by unfold maxApp; omega, ?_⟩
        refine qcall_pure (sign_calls s hs j (by omega) e) hf rfl ?_
        refine (fun (key1 : some (Rs.ok [t] j) = some q → (?done : Prop)) (key2 : (if sgn s j 44 then match rd s g (.terms (j + 1) d e o) with
        | none => none
        | some (.bad x) => some (.bad x)
        | some (.ok us k) => some (.ok (t :: us) k)
      else some (.bad j)) = some q → (?more : Prop)) => ?main) ?rest1 ?rest2
        case main =>
          cases he : sgn s j e with
          | true =>
            rw [he] at hq
            simp only [Bool.true_or, if_true] at hq
            simp -implicitDefEqProofs [hf, go_sem, -List.set_cons_succ, -List.set_cons_zero]
            exact key1 hq
          | false =>
            rw [he] at hq
            simp only [Bool.false_or] at hq
            simp -implicitDefEqProofs [hf, go_sem, -List.set_cons_succ, -List.set_cons_zero]
            refine qcall_pure (sign_calls s hs j (by omega) o) hf rfl ?_
            cases ho : sgn s j o with
            | true =>
              rw [ho] at hq
              simp only [if_true] at hq
              simp -implicitDefEqProofs [hf, go_sem, -List.set_cons_succ, -List.set_cons_zero]
              exact key1 hq
            | false =>
              rw [ho] at hq
              simp only [Bool.false_eq_true, if_false] at hq
              simp -implicitDefEqProofs [hf, go_sem, -List.set_cons_succ, -List.set_cons_zero]
              exact key2 hq
        case rest1 =>
          intro hq
          cases hq
          subst happ
          simp [termsA, Rs.app]
        case rest2 =>
          intro hq
          refine qcall_pure (sign_calls s hs j (by omega) 44) hf rfl ?_
          cases hsg : sgn s j 44 with
          | false =>
            rw [hsg] at hq
            simp only [Bool.false_eq_true, if_false] at hq
            cases hq
            subst happ
            simp -implicitDefEqProofs [hjm, termsA, Rs.app, hf, go_sem, -List.set_cons_succ, -List.set_cons_zero]
          | true =>
            rw [hsg] at hq
            simp only [if_true] at hq
            have hjl := sgn_lt hsg
            simp -implicitDefEqProofs [hj1, hf, go_sem, -List.set_cons_succ, -List.set_cons_zero]
            have hq2 : ∃ w, rd s g (.terms (j + 1) d e o) = some w ∧ w.app (out ++ [t]) = r := by
              cases hy : rd s g (.terms (j + 1) d e o) with
              | none => rw [hy] at hq; cases hq
              | some w =>
                rw [hy] at hq
                refine ⟨w, rfl, ?_⟩
                cases w with
                | bad x => cases hq; exact happ
                | ok us k => cases hq; rw [← happ]; simp [Rs.app]
            obtain ⟨w, hw, hwa⟩ := hq2
            refine loop_less (j + 1, out ++ [t], g, w) (St.le_cut [_] ?_ (by simp [Sl.le, A.le_refl_iff, A.le_u_iff, As.lo, A.lo, C.lo, Ref.lo, Cs.lo, Obs.lo, Ob.lo, setAll, and_true, true_and, List.length_nil, List.length_cons]) (by simp; rfl) (by simp [Sl.le, A.le_refl_iff, A.le_u_iff, As.lo, A.lo, C.lo, Ref.lo, Cs.lo, Obs.lo, Ob.lo, setAll, and_true, true_and, List.length_nil, List.length_cons])) ⟨by dsimp only; omega, by simp; omega, by dsimp only; omega, hw, hwa⟩ (by show g < g + 1; omega)
            simp [setAll, Sl.le, A.le_refl_iff, A.le_u_iff, As.lo, A.lo, C.lo, Ref.lo, Cs.lo, Obs.lo, Ob.lo, setAll, and_true, true_and, List.length_nil, List.length_cons]
theorem read_step (i d l : Nat) (r : Rs) (hi : i ≤ s.length) (hd : d ≤ 1000) (hl : l ≤ 3) (hr : rd s (f + 1) (.read i d l) = some r) (H : Heap) :
    ACalls Tryz.prog 108 [.c (.d (.str s)), .c (.d (.int .i64 i)), .c (.d (.int .i64 d)), .c (.d (.int .i64 l))] H (fun r' H' => H' = H ∧ r' = readA r) := by
  refine acalls Tryz.func108 (by kernel_rfl) ac108_ok fun hf => ?_
  have hpar := h f (Nat.le_refl _)
  have hr : step s (rd s f) (.read i d l) = some r := hr
  cases l with
  | zero =>
    have c1 := hpar.prime i d r hi hd hr
    simp -implicitDefEqProofs [ac108, go_sem, -List.set_cons_succ, -List.set_cons_zero]
    refine qcall_pure c1 hf (readA_re _ _) ?_
    cases r with
    | bad e => simp -implicitDefEqProofs [readA, row_mk, hf, go_sem, -List.set_cons_succ, -List.set_cons_zero]
    | ok ts j => simp -implicitDefEqProofs [readA, row_len, take_row, pure_d, re_d, thaw_d, fits_map, hf, go_sem, -List.set_cons_succ, -List.set_cons_zero]
  | succ l =>
    simp only [step] at hr
    have hl1 : ¬ ((l : Int) + 1 = 0) := by omega
    have hl2 : ((l : Int) + 1 == 0) = false := by simp; omega
    have hl3 : inR .i64 ((l : Int) + 1 - 1) := small_i64 (by omega) (by omega)
    have hl4 : (l : Int) + 1 - 1 = l := by omega
    cases hx : rd s f (.read i d l) with
    | none => rw [hx] at hr; cases hr
    | some v =>
      rw [hx] at hr
      have c1 := hpar.read i d l v hi hd (by omega) hx
      have p1 := rd_post hs (j := .read i d l) ⟨hi, by omega⟩ hx
      have hli : inR .i64 (l : Int) := small_i64 (by omega) (by omega)
      simp -implicitDefEqProofs [ac108, hl1, hl2, hl3, hl4, hli, go_sem, -List.set_cons_succ, -List.set_cons_zero]
      refine qcall_pure c1 hf (readA_re _ _) ?_
      cases v with
      | bad e =>
        cases hr
        have he : e ≤ s.length := p1
        have hneg : ¬ (0 : Int) ≤ -1 - (e : Int) := by omega
        simp -implicitDefEqProofs [readA, row_mk, hf, go_sem, -List.set_cons_succ, -List.set_cons_zero]
        refine loop_set (σ := Unit) (fun _ => []) (fun _ => H) (fun _ => [.cells [.d (.int .i64 0), .d (.int .i64 0), .d (.str []), .full []], .cells [.d (.int .i64 0), .d (.int .i64 0), .d (.str []), .d (.sl [])]]) (fun _ => True) (fun _ => 0) () rfl trivial ?_
        intro _ _
        simp -implicitDefEqProofs [setAll, hneg, row_mk, hf, go_sem, -List.set_cons_succ, -List.set_cons_zero]
        intro he2
        omega
      | ok ts j =>
        obtain ⟨g1, g2, t0, rfl, g3⟩ := p1
        simp only at hr
        simp -implicitDefEqProofs [readA, Rs.tm, row_len, take_row, pure_d, re_d, hf, go_sem, -List.set_cons_succ, -List.set_cons_zero]
        refine loop_set (σ := Nat × Tm × Nat) (fun x => [(11, .c (.d (.int .i64 x.1)))]) (fun _ => H) (fun x => [.cells [.d (.int .i64 0), .d (.int .i64 0), .d (.str []), .full []], .cells (x.2.1.row.map .d)])
          (fun x => x.1 ≤ s.length ∧ x.2.1.fits ∧ x.2.2 ≤ f ∧ rd s x.2.2 (.ops x.2.1 x.1 d (l + 1)) = some r) (fun x => x.2.2) (j, t0, f) (by simp [setAll]) ⟨g2, g3, Nat.le_refl _, hr⟩ ?_
        rintro ⟨p, t, g⟩ ⟨hp, htf, hg, hq⟩
        simp only at hp htf hg hq
        cases g with
        | zero => cases hq
        | succ g =>
          have hq : step s (rd s g) (.ops t p d (l + 1)) = some r := hq
          simp only [step] at hq
          have hp0 : (0 : Int) ≤ (p : Int) := by omega
          have co := op_calls s hs p hp
          simp -implicitDefEqProofs [setAll, hp0, hf, go_sem, -List.set_cons_succ, -List.set_cons_zero]
          cases ho : opR s p with
          | none =>
            rw [ho] at hq co
            cases hq
            refine qcall_pure co hf (by simp [opA, A.re, A.res, C.re]) ?_
            simp -implicitDefEqProofs [opA, readA, Rs.tm, row_len, take_row, pure_d, re_d, thaw_d, fits_map, hf, go_sem, -List.set_cons_succ, -List.set_cons_zero]
          | some q =>
            obtain ⟨n, k⟩ := q
            rw [ho] at hq co
            have hlv := opR_lv ho
            have hok := opR_ok hp ho
            have hne : n ≠ [] := fun e => hlv (by rw [e]; rfl)
            have hne2 : (n == []) = false := by simp [hne]
            simp only at hq
            refine qcall_pure co hf (by simp [opA, A.re, A.res, C.re]) ?_
            simp -implicitDefEqProofs [opA, hne, hne2, hf, go_sem, -List.set_cons_succ, -List.set_cons_zero]
            refine qcall_pure (level_calls n) hf rfl ?_
            by_cases hll : levelN n = (l + 1 : Nat)
            · rw [if_pos hll] at hq
              have hll1 : levelN n = (l : Int) + 1 := by rw [hll]; simp
              simp only [Nat.add_sub_cancel] at hq
              simp -implicitDefEqProofs [hll1, hl3, hl4, hli, hf, go_sem, -List.set_cons_succ, -List.set_cons_zero]
              cases hy : rd s g (.read k d l) with
              | none => rw [hy] at hq; cases hq
              | some w =>
                rw [hy] at hq
                have hpg := h g (by omega)
                have c2 := hpg.read k d l w hok.2.1 hd (by omega) hy
                have p2 := rd_post hs (j := .read k d l) ⟨hok.2.1, by omega⟩ hy
                refine qcall_pure c2 hf (readA_re _ _) ?_
                cases w with
                | bad e =>
                  cases hq
                  have he : e ≤ s.length := p2
                  have hneg : (-1 - (e : Int)) < 0 := by omega
                  simp -implicitDefEqProofs [readA, hneg, row_mk, hf, go_sem, -List.set_cons_succ, -List.set_cons_zero]
                | ok us m =>
                  obtain ⟨q1, q2, u, rfl, q3⟩ := p2
                  simp only at hq
                  have hm0 : ¬ (m : Int) < 0 := by omega
                  have hst := struct_calls n [t, u] (by simp)
                  simp only [List.map_cons, List.map_nil] at hst
                  simp -implicitDefEqProofs [readA, Rs.tm, hm0, row_len, take_row, pure_d, re_d, toDs_map, hf, go_sem, -List.set_cons_succ, -List.set_cons_zero]
                  refine qcall_pure hst hf (by simp [A.re, re_d]) ?_
                  simp -implicitDefEqProofs [row_len, take_row, pure_d, re_d, hf, go_sem, -List.set_cons_succ, -List.set_cons_zero]
                  by_cases h3 : l + 1 = 3
                  · have h3' : (l : Int) + 1 = 3 := by omega
                    rw [if_pos h3] at hq
                    cases hq
                    simp -implicitDefEqProofs [h3', readA, Rs.tm, row_len, take_row, pure_d, re_d, thaw_d, fits_map, hf, go_sem, -List.set_cons_succ, -List.set_cons_zero]
                  · have h3' : ¬ (l : Int) + 1 = 3 := by omega
                    have h3'' : ((l : Int) + 1 == 3) = false := by simp; omega
                    rw [if_neg h3] at hq
                    simp -implicitDefEqProofs [h3', h3'', row_len, take_row, pure_d, re_d, hf, go_sem, -List.set_cons_succ, -List.set_cons_zero]
                    refine loop_less (m, .mk 3 0 n [t, u], g) (St.le_cut [_] ?_ (by simp [Sl.le, A.le_refl_iff, A.le_u_iff, As.lo, A.lo, C.lo, Ref.lo, Cs.lo, Obs.lo, Ob.lo, setAll, and_true, true_and, List.length_nil, List.length_cons]) (by simp [row_len]; rfl) (by simp [row_mk, Sl.le, A.le_refl_iff, A.le_u_iff, As.lo, A.lo, C.lo, Ref.lo, Cs.lo, Obs.lo, Ob.lo, setAll, and_true, true_and, List.length_nil, List.length_cons])) ⟨q2, fits_st hok.2.2 (by simp) (by simp [htf, q3]), by dsimp only; omega, hq⟩ (by show g < g + 1; omega)
                    simp [setAll, Sl.le, A.le_refl_iff, A.le_u_iff, As.lo, A.lo, C.lo, Ref.lo, Cs.lo, Obs.lo, Ob.lo, setAll, and_true, true_and, List.length_nil, List.length_cons]
            · rw [if_neg hll] at hq
              cases hq
              have hll1 : ¬ levelN n = (l : Int) + 1 := fun e => hll (by rw [e]; simp)
              have hll2 : (levelN n != (l : Int) + 1) = true := by simpa using hll1
              simp -implicitDefEqProofs [hll1, hll2, readA, Rs.tm, row_len, take_row, pure_d, re_d, thaw_d, fits_map, hf, go_sem, -List.set_cons_succ, -List.set_cons_zero]
end
/-- the parser does what it is said to do -/
theorem par (s : List UInt8) (hs : s.length ≤ 1000000) : ∀ f, Par s f := by
  intro f
  induction f using Nat.strongRecOn with
  | ind f ih =>
    cases f with
    | zero => exact ⟨fun _ _ _ _ _ _ _ h => (by cases h), fun _ _ _ _ _ h => (by cases h), fun _ _ _ _ _ _ _ h => (by cases h)⟩
    | succ f =>
      have h : ∀ g, g ≤ f → Par s g := fun g hg => ih g (by omega)
      exact ⟨fun i d l r hi hd hl hr H => read_step hs h i d l r hi hd hl hr H, fun i d r hi hd hr H => prime_step hs (h f (Nat.le_refl _)) i d hi hd r hr H, fun i d e o r hi hd hr H => terms_step hs h i d e o r hi hd hr H⟩
end Go.Proofs.YtbblefjbgbocoaaGreatDoor

/-
  ReadTerm, the program's and the reference's: both read the same.
  Conditions: none.
-/
open Go Go.AM Go.Proofs
namespace Go.Proofs.YtbblefjbgbocoaaGreatDoor
open Go.ChangeShapes Go.WideShapes Go.ChangeAt Go.RowKit
set_option linter.unusedVariables false
set_option linter.unusedSimpArgs false
set_option maxRecDepth 100000
end Go.Proofs.YtbblefjbgbocoaaGreatDoor

/-
  What the calls of the library read, as the rows list it.
  Conditions: none.
-/
open Go Go.AM Go.Proofs
namespace Go.Proofs.YtbblefjbgbocoaaGreatDoor
open Go.Lib Go.RowKit
set_option linter.unusedVariables false
set_option linter.unusedSimpArgs false
set_option maxRecDepth 100000
theorem lib_laid {W : World} (h : laidMetH Tryz.prog laid W) : ∃ ts : List (Nat × Obj), (ts.map Prod.fst).Nodup ∧ (∀ x ∈ ts, W.heap[x.1]? = some x.2) ∧ Lib2 ts := by
  rw [MakeChecks.laidMetH_plain _ _ _ (by kernel_rfl)] at h
  obtain ⟨ps, ⟨_, _, _, _, _, _, _, _, _, _, ⟨_, _, _, _, _, _, _, _, _, _, ⟨g2, t2, cs2, f2, p2, q2, hg2, ht2, hv2, hd2, ⟨g3, t3, cs3, f3, p3, q3, hg3, ht3, hv3, hd3, _, _⟩, _⟩, _⟩, _⟩, _, _⟩ := h
  have n2 : Tryz.prog.globalNamed (laid[2]).1 = some 2 := by kernel_rfl
  have n3 : Tryz.prog.globalNamed (laid[3]).1 = some 1 := by kernel_rfl
  have e1 : g2 = 2 := (Option.some.inj (n2.symm.trans hg2)).symm
  subst e1
  have e2 : t2 = 218 := by
    have ht : (Tryz.prog.globals[2]?).map (·.type) = some 218 := by kernel_rfl
    exact (Option.some.inj (ht.symm.trans ht2)).symm
  subst e2
  have e3 := cells_of_tab (k := .u64) (zs := Lib.pow10Tab) Tryz.underlying218 Tryz.underlying194 (by kernel_rfl) (by kernel_rfl) hd2
  have e4 : cs2 = (Lib.pow10Tab.map fun z => Value.int .u64 z).toArray := by
    rw [← e3]
  have e5 : g3 = 1 := (Option.some.inj (n3.symm.trans hg3)).symm
  subst e5
  have e6 : t3 = 78 := by
    have ht : (Tryz.prog.globals[1]?).map (·.type) = some 78 := by kernel_rfl
    exact (Option.some.inj (ht.symm.trans ht3)).symm
  subst e6
  obtain ⟨_, u, v, e7, _, _⟩ := iface_of_trod Tryz.underlying78 hd3
  have e8 : cs3 = #[.iface u v] := by rw [← Array.toArray_toList (xs := cs3), e7]
  obtain ⟨o, h1, h2⟩ := tab_of_at n2 (show Lib.TabIs Tryz.prog W (laid[2]).1 .u64 Lib.pow10Tab from hv2.trans (congrArg some e4))
  obtain ⟨o2, h3, h4⟩ := one_of_at n3 (hv3.trans (congrArg some e8))
  refine ⟨[(2, o), (1, o2)], (show ([2, 1] : List Nat).Nodup by decide), fun x hx => ?_, o, o2, rfl, fun w hw n h5 h6 => Any.strconv_Itoa Tryz.laysM171 n h5 h6 w (h2 w hw), fun w hw => ⟨u, v, h4 w hw⟩⟩
  rcases List.mem_cons.1 hx with rfl | hx
  · exact h1
  · rw [List.mem_singleton.1 hx]; exact h3
end Go.Proofs.YtbblefjbgbocoaaGreatDoor

/-
  Lists of goals, for the program.
  Conditions: none.
-/
open Go Go.AM Go.Proofs
namespace Go.Proofs.YtbblefjbgbocoaaGreatDoor
open Go.ChangeShapes Go.WideShapes Go.ChangeAt Go.RowKit
set_option linter.unusedVariables false
set_option linter.unusedSimpArgs false
set_option maxRecDepth 100000
-- 116 loop.example/prologserver/impl.goalsValid$1 params 1 ntmps 6
def ac116 : Cd := .seq (.region [⟨(some 1),.box (.t 0),none⟩,
 ⟨(some 2),.mv (.k (.c (.d (.bool false)))),none⟩] [0,2])
 (.seq (.region [⟨(some 3),.load (some 4) (.t 1),none⟩,
 ⟨(some 4),.qcall 117 [(.t 3)],none⟩,
 ⟨(some 5),.un .not (.t 4),none⟩,
 ⟨(some 2),.mv (.t 5),none⟩] [1,3,4,5])
 (.ret))
theorem ac116_ok : cFunc Tryz.prog [1000117] [(0,[0,2],[]),(1,[1,3,4,5],[])] Tryz.f116 = some (ac116,[.tmp 2],6) := by kernel_rfl
-- 68 loop.example/prologserver/impl.goalsValid params 1 ntmps 11
def ac68 : Cd := .seq (.region [⟨(some 2),.mv (.k (.c (.d (.bool false)))),none⟩] [2])
 (.seq (.region [⟨(some 3),.mv (.t 0),none⟩,
 ⟨(some 4),.len 1 (.t 3),none⟩,
 ⟨(some 5),.bin .leq (.t 4) (.k (.c (.d (.int .i64 6)))),none⟩,
 ⟨(some 6),.mv (.t 5),none⟩,
 ⟨(some 7),.mv (.t 0),some (6,true)⟩,
 ⟨(some 8),.qcall 115 [(.t 7),(.k (.c (.fn 116 [])))],some (6,true)⟩,
 ⟨(some 9),.un .not (.t 8),some (6,true)⟩,
 ⟨(some 10),.pick (.t 6) (.t 9) (.k (.c (.d (.bool false)))),none⟩,
 ⟨(some 2),.mv (.t 10),none⟩] [0,3,4,5,6,7,8,9,10])
 (.ret))
theorem ac68_ok : cFunc Tryz.prog [1000115] [(0,[2],[]),(1,[0,3,4,5,6,7,8,9,10],[])] Tryz.f68 = some (ac68,[.tmp 2],11) := by kernel_rfl
/-- as many goals as a body may have -/
def goalsB (l : List Tm) : Bool := decide (l.length ≤ 6) && l.all Tm.goal
theorem any_not (l : List Tm) : (l.any fun t => !t.goal) = !l.all Tm.goal := by
  induction l with
  | nil => rfl
  | cons t l ih => simp only [List.any_cons, List.all_cons, ih, Bool.not_and]
theorem notGoal_calls (t : Tm) (ht : t.fits) (H : Heap) : ACalls Tryz.prog 116 [.agg (t.row.map .d)] H (fun r H' => H' = H ∧ r = .c (.d (.bool (!t.goal)))) := by
  refine acalls Tryz.func116 (by kernel_rfl) ac116_ok fun hf => ?_
  simp -implicitDefEqProofs [ac116, row_len, take_row, pure_d, re_d, go_sem, -List.set_cons_succ, -List.set_cons_zero]
  refine qcall_pure (goalImpl_calls t ht) hf rfl ?_
  simp -implicitDefEqProofs [go_sem, -List.set_cons_succ, -List.set_cons_zero]
theorem goalsImpl_calls (l : List Tm) (hl : l.length ≤ 1048576) (h : ∀ t ∈ l, t.fits) (H : Heap) : ACalls Tryz.prog 68 [.c (.d (.sl (l.map Tm.row)))] H (fun r H' => H' = H ∧ r = .c (.d (.bool (goalsB l)))) := by
  refine acalls Tryz.func68 (by kernel_rfl) ac68_ok fun hf => ?_
  have hli : inR .i64 (l.length : Int) := small_i64 (by omega) (by omega)
  by_cases h6 : l.length ≤ 6
  · have h6' : (l.length : Int) ≤ 6 := by omega
    simp -implicitDefEqProofs [ac68, hli, h6', go_sem, -List.set_cons_succ, -List.set_cons_zero]
    refine qcall_pure (tmF_any 116 (fun t => !t.goal) l hl fun t ht => notGoal_calls t (h t ht)) hf rfl ?_
    rw [any_not]
    simp -implicitDefEqProofs [h6, goalsB, go_sem, -List.set_cons_succ, -List.set_cons_zero]
  · have h6' : ¬ (l.length : Int) ≤ 6 := by omega
    simp -implicitDefEqProofs [ac68, hli, h6', h6, goalsB, go_sem, -List.set_cons_succ, -List.set_cons_zero]
theorem goal_take {l : List Tm} {i : Nat} (h : i < l.length) (ha : ∀ t ∈ l.take i, t.goal = true) (hb : l[i].goal = true) : ∀ t ∈ l.take (i + 1), t.goal = true := by
  intro t h'
  rw [List.take_succ_eq_append_getElem h, List.mem_append] at h'
  rcases h' with h' | h'
  · exact ha t h'
  · simp at h'; subst h'; exact hb
end Go.Proofs.YtbblefjbgbocoaaGreatDoor

/-
  Terms that are handed to a law.
  Conditions: none.
-/
open Go Go.AM Go.Proofs
namespace Go.Proofs.YtbblefjbgbocoaaGreatDoor
open Go.ChangeShapes Go.WideShapes Go.ChangeAt Go.RowKit
set_option linter.unusedVariables false
set_option linter.unusedSimpArgs false
set_option maxRecDepth 100000
end Go.Proofs.YtbblefjbgbocoaaGreatDoor

/-
  Clauses as data: what the laws' sizes, copies and comparisons of clauses answer, and ClauseSame.
  Conditions: none.
-/
open Go Go.AM Go.Proofs
namespace Go.Proofs.YtbblefjbgbocoaaGreatDoor
open Go.ChangeShapes Go.WideShapes Go.ChangeAt Go.RowKit
set_option linter.unusedVariables false
set_option linter.unusedSimpArgs false
set_option maxRecDepth 100000
/-- a clause -/
structure Cl where
  head : Tm
  body : List Tm
noncomputable instance : DecidableEq Cl := fun a b => Classical.propDecidable (a = b)
def Cl.row (c : Cl) : List D := [.int .i64 c.head.k, .int .i64 c.head.n, .str c.head.s, .sl (c.head.kids.map Tm.row), .sl (c.body.map Tm.row)]
structure Cl.fits (c : Cl) : Prop where
  head : c.head.fits
  len : c.body.length ≤ 1048576
  body : ∀ t ∈ c.body, t.fits
end Go.Proofs.YtbblefjbgbocoaaGreatDoor

/-
  Valid clauses and programs.
  Conditions: none.
-/
open Go Go.AM Go.Proofs
namespace Go.Proofs.YtbblefjbgbocoaaGreatDoor
open Go.ChangeShapes Go.WideShapes Go.ChangeAt Go.RowKit
set_option linter.unusedVariables false
set_option linter.unusedSimpArgs false
set_option maxRecDepth 100000
-- 131 loop.example/prologserver/impl.ClauseValid params 1 ntmps 16
end Go.Proofs.YtbblefjbgbocoaaGreatDoor

/-
  Texts, cut at a byte.
  Conditions: none.
-/
open Go Go.AM Go.Proofs
namespace Go.Proofs.YtbblefjbgbocoaaGreatDoor
open Go.ChangeShapes Go.WideShapes Go.ChangeAt Go.RowKit
set_option linter.unusedVariables false
set_option linter.unusedSimpArgs false
set_option maxRecDepth 100000
-- 56 loop.example/prologserver/spec.l18Cut params 2 ntmps 36
-- loop head live: [0,1,5,6,7]
end Go.Proofs.YtbblefjbgbocoaaGreatDoor

/-
  Clauses and programs as they are read, in plain Lean.
  Conditions: none.
-/
open Go Go.AM Go.Proofs
namespace Go.Proofs.YtbblefjbgbocoaaGreatDoor
set_option linter.unusedVariables false
set_option linter.unusedSimpArgs false
set_option maxRecDepth 100000
/-- goals, separated by commas -/
def goalsR (s : List UInt8) : Nat → Nat → Option (List Tm × Nat)
  | 0, _ => none
  | n + 1, i => match rdF s (.read i 30 3) with
    | some (.ok ts j) => if sgn s j 44 then match goalsR s n (j + 1) with
        | some (us, k) => some (Rs.tm ts :: us, k)
        | none => none
      else some ([Rs.tm ts], j)
    | _ => none
end Go.Proofs.YtbblefjbgbocoaaGreatDoor

/-
  Goals, read without a bound on their number: the plain law.
  Conditions: none.
-/
open Go Go.AM Go.Proofs
namespace Go.Proofs.YtbblefjbgbocoaaGreatDoor
set_option linter.unusedVariables false
set_option linter.unusedSimpArgs false
set_option maxRecDepth 100000
/-- goals behind goals that were read -/
def appGs (ts : List Tm) : Option (List Tm × Nat) → Option (List Tm × Nat)
  | some (us, k) => some (ts ++ us, k)
  | none => none
/-- so many goals are read, and the next stands there -/
def Gst (s : List UInt8) (ts : List Tm) (a : Nat) : Prop := (∀ n, goalsR s (ts.length + n) 0 = appGs ts (goalsR s n a)) ∧ ∀ n, n ≤ ts.length → goalsR s n 0 = none
theorem Gst.start (s : List UInt8) : Gst s [] 0 := by
  refine ⟨fun n => ?_, fun n hn => ?_⟩
  · rw [List.length_nil, Nat.zero_add]
    cases goalsR s n 0 with
    | none => rfl
    | some q => obtain ⟨us, k⟩ := q; rfl
  · obtain rfl : n = 0 := by simpa using hn
    rfl
theorem Gst.next {s : List UInt8} {ts : List Tm} {a j : Nat} {us : List Tm} (h : Gst s ts a) (hr : rdF s (.read a 30 3) = some (.ok us j)) (hg : sgn s j 44 = true) : Gst s (ts ++ [Rs.tm us]) (j + 1) := by
  have hstep : ∀ n, goalsR s (n + 1) a = appGs [Rs.tm us] (goalsR s n (j + 1)) := fun n => by
    rw [goalsR, hr]
    simp only
    rw [if_pos hg]
    cases goalsR s n (j + 1) with
    | none => rfl
    | some q => obtain ⟨x, k⟩ := q; rfl
  refine ⟨fun n => ?_, fun n hn => ?_⟩
  · have := h.1 (n + 1)
    rw [hstep] at this
    rw [show (ts ++ [Rs.tm us]).length + n = ts.length + (n + 1) by simp; omega, this]
    cases goalsR s n (j + 1) with
    | none => rfl
    | some q => obtain ⟨x, k⟩ := q; simp [appGs]
  · by_cases hle : n ≤ ts.length
    · exact h.2 n hle
    · obtain rfl : n = ts.length + 1 := by simp at hn; omega
      rw [h.1 1, hstep]
      rfl
/-- all goals were read -/
def Gend (s : List UInt8) (ts : List Tm) (k : Nat) : Prop := ∀ n, goalsR s n 0 = if ts.length ≤ n then some (ts, k) else none
theorem Gst.last {s : List UInt8} {ts : List Tm} {a j : Nat} {us : List Tm} (h : Gst s ts a) (hr : rdF s (.read a 30 3) = some (.ok us j)) (hg : sgn s j 44 = false) : Gend s (ts ++ [Rs.tm us]) j := by
  intro n
  by_cases hle : n ≤ ts.length
  · rw [h.2 n hle, if_neg (by simp only [List.length_append, List.length_cons, List.length_nil]; omega)]
  · obtain ⟨m, rfl⟩ : ∃ m, n = ts.length + (m + 1) := ⟨n - ts.length - 1, by omega⟩
    rw [h.1, if_pos (by simp only [List.length_append, List.length_cons, List.length_nil]; omega), goalsR, hr]
    simp only
    rw [if_neg (by rw [hg]; simp)]
    rfl
/-- some goal was not read -/
def Gbad (s : List UInt8) : Prop := ∀ n l k, goalsR s n 0 = some (l, k) → goalsB l = false
theorem Gst.bad {s : List UInt8} {ts : List Tm} {a : Nat} (h : Gst s ts a) (hr : ∀ us k, rdF s (.read a 30 3) = some (.ok us k) → (Rs.tm us).shape 30 = false) : Gbad s := by
  intro n l k hl
  by_cases hle : n ≤ ts.length
  · rw [h.2 n hle] at hl; cases hl
  · obtain ⟨m, rfl⟩ : ∃ m, n = ts.length + (m + 1) := ⟨n - ts.length - 1, by omega⟩
    rw [h.1, goalsR] at hl
    cases hq : rdF s (.read a 30 3) with
    | none => rw [hq] at hl; cases hl
    | some r =>
      rw [hq] at hl
      cases r with
      | bad e => cases hl
      | ok us j =>
        have hsh := hr us j hq
        simp only at hl
        have hin : Rs.tm us ∈ l := by
          split at hl
          · cases hq2 : goalsR s m (j + 1) with
            | none => rw [hq2] at hl; cases hl
            | some q => obtain ⟨x, k2⟩ := q; rw [hq2] at hl; simp only [appGs, Option.some.injEq, Prod.mk.injEq] at hl; rw [← hl.1]; simp
          · simp only [appGs, Option.some.injEq, Prod.mk.injEq] at hl; rw [← hl.1]; simp
        cases hv : goalsB l with
        | false => rfl
        | true =>
          simp only [goalsB, Bool.and_eq_true, decide_eq_true_eq, List.all_eq_true] at hv
          have := hv.2 _ hin
          simp only [Tm.goal, Tm.valid, Bool.and_eq_true] at this
          rw [hsh] at this
          simp at this
end Go.Proofs.YtbblefjbgbocoaaGreatDoor

/-
  QueryValid of the program and of the reference.
  Conditions: none.
-/
open Go Go.AM Go.Proofs
namespace Go.Proofs.YtbblefjbgbocoaaGreatDoor
open Go.ChangeShapes Go.WideShapes Go.ChangeAt Go.RowKit
set_option linter.unusedVariables false
set_option linter.unusedSimpArgs false
set_option maxRecDepth 100000
-- 25 loop.example/prologserver/impl.QueryValid params 1 ntmps 5
def ac25 : Cd := .seq (.region [⟨(some 2),.mv (.k (.c (.d (.bool false)))),none⟩] [2])
 (.seq (.region [⟨(some 3),.mv (.t 0),none⟩,
 ⟨(some 4),.qcall 68 [(.t 3)],none⟩,
 ⟨(some 2),.mv (.t 4),none⟩] [0,3,4])
 (.ret))
theorem ac25_ok : cFunc Tryz.prog [1000068] [(0,[2],[]),(1,[0,3,4],[])] Tryz.f25 = some (ac25,[.tmp 2],5) := by kernel_rfl
-- 26 loop.example/prologserver/spec.QueryValid params 1 ntmps 23
-- loop head live: [0,3]
def ac26 : Cd := .seq (.region [⟨(some 2),.mv (.k (.c (.d (.bool false)))),none⟩] [2])
 (.seq (.seq (.region [⟨(some 3),.mv (.k (.c (.d (.int .i64 0)))),none⟩] [])
 (.block 0 (.loop (.seq (.seq (.region [⟨(some 4),.mv (.t 3),none⟩,
 ⟨(some 5),.mv (.t 0),none⟩,
 ⟨(some 6),.len 1 (.t 5),none⟩,
 ⟨(some 7),.bin .lss (.t 4) (.t 6),none⟩,
 ⟨(some 8),.mv (.t 7),none⟩,
 ⟨(some 9),.mv (.t 3),some (8,true)⟩,
 ⟨(some 10),.bin .leq (.t 9) (.k (.c (.d (.int .i64 6)))),some (8,true)⟩,
 ⟨(some 11),.pick (.t 8) (.t 10) (.k (.c (.d (.bool false)))),none⟩] [4,5,6,7,8,9,10])
 (.cond (.t 11)
 (.skip)
 (.exit 0)))
 (.seq (.block 1 (.seq (.region [⟨(some 14),.mv (.t 0),none⟩,
 ⟨(some 15),.mv (.t 3),none⟩,
 ⟨(some 16),.indexAddr 4 (.t 14) (.t 15),none⟩,
 ⟨(some 17),.load (some 4) (.t 16),none⟩,
 ⟨(some 18),.qcall 69 [(.t 17)],none⟩,
 ⟨(some 19),.un .not (.t 18),none⟩] [11,14,15,16,17,18])
 (.cond (.t 19)
 (.seq (.region [⟨(some 2),.mv (.k (.c (.d (.bool false)))),none⟩] [0,3,19])
 (.ret))
 (.skip))))
 (.region [⟨(some 12),.mv (.t 3),none⟩,
 ⟨(some 13),.bin .add (.t 12) (.k (.c (.d (.int .i64 1)))),none⟩,
 ⟨(some 3),.mv (.t 13),none⟩] [2,12,13,19]))))))
 (.seq (.region [⟨(some 20),.mv (.t 0),none⟩,
 ⟨(some 21),.len 1 (.t 20),none⟩,
 ⟨(some 22),.bin .leq (.t 21) (.k (.c (.d (.int .i64 6)))),none⟩,
 ⟨(some 2),.mv (.t 22),none⟩] [0,20,21,22])
 (.ret)))
theorem ac26_ok : cFunc Tryz.prog [1000069] [(0,[2],[]),(1,[],[]),(2,[4,5,6,7,8,9,10],[]),(4,[11,14,15,16,17,18],[]),(5,[0,3,19],[]),(3,[2,12,13,19],[]),(6,[0,20,21,22],[])] Tryz.f26 = some (ac26,[.tmp 2],23) := by kernel_rfl
theorem qvImpl_calls (l : List Tm) (hl : l.length ≤ 1048576) (h : ∀ t ∈ l, t.fits) (H : Heap) : ACalls Tryz.prog 25 [.c (.d (.sl (l.map Tm.row)))] H (fun r H' => H' = H ∧ r = .c (.d (.bool (goalsB l)))) := by
  refine acalls Tryz.func25 (by kernel_rfl) ac25_ok fun hf => ?_
  simp -implicitDefEqProofs [ac25, go_sem, -List.set_cons_succ, -List.set_cons_zero]
  refine qcall_pure (goalsImpl_calls l hl h) hf rfl ?_
  simp -implicitDefEqProofs [go_sem, -List.set_cons_succ, -List.set_cons_zero]
theorem qvSpec_calls (l : List Tm) (hl : l.length ≤ 1048576) (h : ∀ t ∈ l, t.fits) (H : Heap) : ACalls Tryz.prog 26 [.c (.d (.sl (l.map Tm.row)))] H (fun r H' => H' = H ∧ r = .c (.d (.bool (goalsB l)))) := by
  refine acalls Tryz.func26 (by kernel_rfl) ac26_ok fun hf => ?_
  have hli : inR .i64 (l.length : Int) := small_i64 (by omega) (by omega)
  simp -implicitDefEqProofs [ac26, hli, go_sem, -List.set_cons_succ, -List.set_cons_zero]
  refine loop_set (σ := Nat) (fun i => [(3, .c (.d (.int .i64 i)))]) (fun _ => H) (fun _ => []) (fun i => i ≤ l.length ∧ ∀ t ∈ l.take i, t.goal = true) (fun i => l.length - i) 0 rfl ⟨Nat.zero_le _, by simp⟩ ?_
  rintro i ⟨hi, hall⟩
  by_cases hlt : i < l.length
  · by_cases hi6 : i ≤ 6
    · have hi6' : (i : Int) ≤ 6 := by omega
      simp -implicitDefEqProofs [setAll, hli, hlt, hi6, hi6', go_sem, -List.set_cons_succ, -List.set_cons_zero]
      refine row_of hlt (row_len _) ?_
      simp -implicitDefEqProofs [row_len, take_row, pure_d, re_d, go_sem, -List.set_cons_succ, -List.set_cons_zero]
      refine qcall_pure (goalSpec_calls l[i] (h _ (List.getElem_mem hlt))) hf rfl ?_
      have hadd : inR .i64 ((i : Int) + 1) := small_i64 (by omega) (by omega)
      simp -implicitDefEqProofs [hadd, go_sem, -List.set_cons_succ, -List.set_cons_zero]
      refine ⟨fun hg => ?_, fun hg => loop_back (i + 1) (by simp [setAll]) ⟨hlt, goal_take hlt hall hg⟩ (by show l.length - (i + 1) < l.length - i; omega)⟩
      have : l.all Tm.goal = false := by
        rw [List.all_eq_false]
        exact ⟨l[i], List.getElem_mem hlt, by simp [hg]⟩
      simp [goalsB, this]
    · have hl6 : ¬ l.length ≤ 6 := by omega
      have hl6' : ¬ (l.length : Int) ≤ 6 := by omega
      have hi6' : ¬ (i : Int) ≤ 6 := by omega
      simp -implicitDefEqProofs [setAll, hli, hlt, hi6, hi6', hl6, hl6', goalsB, go_sem, -List.set_cons_succ, -List.set_cons_zero]
  · have hil : i = l.length := by omega
    subst hil
    rw [List.take_length] at hall
    have hal : l.all Tm.goal = true := List.all_eq_true.2 hall
    simp -implicitDefEqProofs [setAll, hli, goalsB, hal, go_sem, -List.set_cons_succ, -List.set_cons_zero]
    all_goals omega
end Go.Proofs.YtbblefjbgbocoaaGreatDoor

/-
  TermSame of the program.
  Conditions: none.
-/
open Go Go.AM Go.Proofs
namespace Go.Proofs.YtbblefjbgbocoaaGreatDoor
open Go.ChangeShapes Go.WideShapes Go.ChangeAt Go.RowKit
set_option linter.unusedVariables false
set_option linter.unusedSimpArgs false
set_option maxRecDepth 100000
-- 66 loop.example/prologserver/impl.TermSame params 2 ntmps 31
end Go.Proofs.YtbblefjbgbocoaaGreatDoor

/-
  TermSame of the reference.
  Conditions: none.
-/
open Go Go.AM Go.Proofs
namespace Go.Proofs.YtbblefjbgbocoaaGreatDoor
open Go.ChangeShapes Go.WideShapes Go.ChangeAt Go.RowKit
set_option linter.unusedVariables false
set_option linter.unusedSimpArgs false
set_option maxRecDepth 100000
end Go.Proofs.YtbblefjbgbocoaaGreatDoor

/-
  Queries as the reference reads them.
  Conditions: none.
-/
open Go Go.AM Go.Proofs
namespace Go.Proofs.YtbblefjbgbocoaaGreatDoor
open Go.ChangeShapes Go.WideShapes Go.ChangeAt Go.RowKit
set_option linter.unusedVariables false
set_option linter.unusedSimpArgs false
set_option maxRecDepth 100000
-- 58 loop.example/prologserver/spec.l4Goals params 2 ntmps 33
-- loop head live: [0,1,6]
def ac58 : Cd := .seq (.region [⟨(some 4),.mv (.k (.c (.full []))),none⟩,
 ⟨(some 5),.mv (.k (.c (.d (.int .i64 0)))),none⟩] [4,5])
 (.seq (.region [⟨(some 9),.buildSlice 4 0 [(.int .i64 0),(.int .i64 0),(.str []),(.sl [])] [],none⟩,
 ⟨(some 6),.mv (.t 9),none⟩] [9])
 (.seq (.block 0 (.loop (.seq (.seq (.region [⟨(some 10),.mv (.t 6),none⟩,
 ⟨(some 11),.len 1 (.t 10),none⟩,
 ⟨(some 12),.bin .leq (.t 11) (.k (.c (.d (.int .i64 6)))),none⟩] [10,11])
 (.cond (.t 12)
 (.skip)
 (.exit 0)))
 (.block 1 (.seq (.region [⟨(some 14),.mv (.t 0),none⟩,
 ⟨(some 15),.mv (.t 1),none⟩,
 ⟨(some 16),.qcall 108 [(.t 14),(.t 15),(.k (.c (.d (.int .i64 30)))),(.k (.c (.d (.int .i64 3))))],none⟩,
 ⟨(some 13),.mv (.t 16),none⟩,
 ⟨(some 17),.extract 0 (.t 13),none⟩,
 ⟨(some 18),.extract 1 (.t 13),none⟩,
 ⟨(some 7),.alloc [(.d (.int .i64 0)),(.d (.int .i64 0)),(.d (.str [])),(.full [])],none⟩,
 ⟨none,.store 4 (.t 7) (.t 17),none⟩,
 ⟨(some 8),.mv (.t 18),none⟩] [1,12,13,14,15,16,17,18])
 (.seq (.seq (.region [⟨(some 19),.mv (.t 8),none⟩,
 ⟨(some 20),.bin .lss (.t 19) (.k (.c (.d (.int .i64 0)))),none⟩] [19])
 (.cond (.t 20)
 (.seq (.region [⟨(some 4),.mv (.k (.c (.full []))),none⟩,
 ⟨(some 5),.mv (.k (.c (.d (.int .i64 (-1))))),none⟩] [0,6,7,8,20])
 (.ret))
 (.skip)))
 (.seq (.region [⟨(some 21),.mv (.t 6),none⟩,
 ⟨(some 22),.load (some 4) (.t 7),none⟩,
 ⟨(some 23),.buildSlice 4 1 [(.int .i64 0),(.int .i64 0),(.str []),(.sl [])] [(0,(.t 22))],none⟩,
 ⟨(some 24),.append false 4 (.t 21) (.t 23),none⟩,
 ⟨(some 6),.mv (.t 24),none⟩] [4,5,7,20,21,22,23,24])
 (.seq (.seq (.region [⟨(some 25),.mv (.t 0),none⟩,
 ⟨(some 26),.mv (.t 8),none⟩,
 ⟨(some 27),.qcall 106 [(.t 25),(.t 26),(.k (.c (.d (.int .u8 44))))],none⟩,
 ⟨(some 28),.un .not (.t 27),none⟩] [25,26,27])
 (.cond (.t 28)
 (.seq (.region [⟨(some 29),.mv (.t 6),none⟩,
 ⟨(some 30),.mv (.t 8),none⟩,
 ⟨(some 4),.mv (.t 29),none⟩,
 ⟨(some 5),.mv (.t 30),none⟩] [0,6,8,28,29,30])
 (.ret))
 (.skip)))
 (.region [⟨(some 31),.mv (.t 8),none⟩,
 ⟨(some 32),.bin .add (.t 31) (.k (.c (.d (.int .i64 1)))),none⟩,
 ⟨(some 1),.mv (.t 32),none⟩] [4,5,8,28,31,32])))))))))
 (.seq (.region [⟨(some 4),.mv (.k (.c (.full []))),none⟩,
 ⟨(some 5),.mv (.k (.c (.d (.int .i64 (-1))))),none⟩] [])
 (.ret))))
theorem ac58_ok : cFunc Tryz.prog [1000106,1000108] [(0,[4,5],[]),(1,[9],[]),(2,[10,11],[]),(3,[1,12,13,14,15,16,17,18],[]),(4,[19],[]),(5,[0,6,7,8,20],[]),(6,[4,5,7,20,21,22,23,24],[]),(7,[25,26,27],[]),(8,[0,6,8,28,29,30],[]),(9,[4,5,8,28,31,32],[]),(10,[],[])] Tryz.f58 = some (ac58,[.tmp 4,.tmp 5],33) := by kernel_rfl
-- 14 loop.example/prologserver/spec.ParseQuery params 1 ntmps 43
-- loop head live: [4,6,7]
def ac14 : Cd := .seq (.region [⟨(some 2),.mv (.k (.c (.full []))),none⟩,
 ⟨(some 3),.mv (.k (.c (.d (.bool false)))),none⟩] [2,3])
 (.seq (.seq (.region [⟨(some 8),.mv (.t 0),none⟩,
 ⟨(some 9),.len 0 (.t 8),none⟩,
 ⟨(some 10),.bin .gtr (.t 9) (.k (.c (.d (.int .i64 1000)))),none⟩] [8,9])
 (.cond (.t 10)
 (.seq (.region [⟨(some 11),.buildSlice 4 0 [(.int .i64 0),(.int .i64 0),(.str []),(.sl [])] [],none⟩,
 ⟨(some 2),.mv (.t 11),none⟩,
 ⟨(some 3),.mv (.k (.c (.d (.bool false)))),none⟩] [0,10,11])
 (.ret))
 (.skip)))
 (.seq (.region [⟨(some 13),.mv (.t 0),none⟩,
 ⟨(some 14),.qcall 58 [(.t 13),(.k (.c (.d (.int .i64 0))))],none⟩,
 ⟨(some 12),.mv (.t 14),none⟩,
 ⟨(some 15),.extract 0 (.t 12),none⟩,
 ⟨(some 16),.extract 1 (.t 12),none⟩,
 ⟨(some 4),.mv (.t 15),none⟩,
 ⟨(some 5),.mv (.t 16),none⟩] [2,3,10,12,13,14,15,16])
 (.seq (.seq (.region [⟨(some 17),.mv (.t 5),none⟩,
 ⟨(some 18),.mv (.t 0),none⟩,
 ⟨(some 19),.len 0 (.t 18),none⟩,
 ⟨(some 20),.bin .neq (.t 17) (.t 19),none⟩,
 ⟨(some 21),.mv (.t 20),none⟩,
 ⟨(some 22),.mv (.t 4),some (21,false)⟩,
 ⟨(some 23),.qcall 26 [(.t 22)],some (21,false)⟩,
 ⟨(some 24),.un .not (.t 23),some (21,false)⟩,
 ⟨(some 25),.pick (.t 21) (.k (.c (.d (.bool true)))) (.t 24),none⟩] [0,5,17,18,19,20,21,22,23,24])
 (.cond (.t 25)
 (.seq (.region [⟨(some 26),.buildSlice 4 0 [(.int .i64 0),(.int .i64 0),(.str []),(.sl [])] [],none⟩,
 ⟨(some 2),.mv (.t 26),none⟩,
 ⟨(some 3),.mv (.k (.c (.d (.bool false)))),none⟩] [4,25,26])
 (.ret))
 (.skip)))
 (.seq (.region [⟨(some 27),.buildSlice 4 0 [(.int .i64 0),(.int .i64 0),(.str []),(.sl [])] [],none⟩,
 ⟨(some 6),.mv (.t 27),none⟩] [2,3,25,27])
 (.seq (.seq (.region [⟨(some 7),.mv (.k (.c (.d (.int .i64 0)))),none⟩] [])
 (.block 0 (.loop (.seq (.seq (.region [⟨(some 28),.mv (.t 7),none⟩,
 ⟨(some 29),.mv (.t 4),none⟩,
 ⟨(some 30),.len 1 (.t 29),none⟩,
 ⟨(some 31),.bin .lss (.t 28) (.t 30),none⟩] [28,29,30])
 (.cond (.t 31)
 (.skip)
 (.exit 0)))
 (.seq (.block 1 (.region [⟨(some 34),.mv (.t 6),none⟩,
 ⟨(some 35),.mv (.t 4),none⟩,
 ⟨(some 36),.mv (.t 7),none⟩,
 ⟨(some 37),.indexAddr 4 (.t 35) (.t 36),none⟩,
 ⟨(some 38),.load (some 4) (.t 37),none⟩,
 ⟨(some 39),.qcall 59 [(.t 38)],none⟩,
 ⟨(some 40),.buildSlice 4 1 [(.int .i64 0),(.int .i64 0),(.str []),(.sl [])] [(0,(.t 39))],none⟩,
 ⟨(some 41),.append false 4 (.t 34) (.t 40),none⟩,
 ⟨(some 6),.mv (.t 41),none⟩] [31,34,35,36,37,38,39,40,41]))
 (.region [⟨(some 32),.mv (.t 7),none⟩,
 ⟨(some 33),.bin .add (.t 32) (.k (.c (.d (.int .i64 1)))),none⟩,
 ⟨(some 7),.mv (.t 33),none⟩] [32,33]))))))
 (.seq (.region [⟨(some 42),.mv (.t 6),none⟩,
 ⟨(some 2),.mv (.t 42),none⟩,
 ⟨(some 3),.mv (.k (.c (.d (.bool true)))),none⟩] [6,42])
 (.ret)))))))
theorem ac14_ok : cFunc Tryz.prog [1000026,1000058,1000059] [(0,[2,3],[]),(1,[8,9],[]),(2,[0,10,11],[]),(3,[2,3,10,12,13,14,15,16],[]),(4,[0,5,17,18,19,20,21,22,23,24],[]),(5,[4,25,26],[]),(6,[2,3,25,27],[]),(7,[],[]),(8,[28,29,30],[]),(10,[31,34,35,36,37,38,39,40,41],[]),(9,[32,33],[]),(11,[6,42],[])] Tryz.f14 = some (ac14,[.tmp 2,.tmp 3],43) := by kernel_rfl
def goalsA : Option (List Tm × Nat) → A
  | some (ts, k) => .tup [.c (.d (.sl (ts.map Tm.row))), .c (.d (.int .i64 k))]
  | none => .tup [.c (.d (.sl [])), .c (.d (.int .i64 (-1)))]
def appG (out : List Tm) : Option (List Tm × Nat) → Option (List Tm × Nat)
  | some (us, k) => some (out ++ us, k)
  | none => none
theorem rdF_ok (s : List UInt8) (hs : s.length ≤ 1000000) (i d : Nat) (hi : i ≤ s.length) : ∃ r, rdF s (.read i d 3) = some r ∧ (Job.read i d 3).post s r :=
  rd_total s hs _ (.read i d 3) (by simp only [Job.m]; omega) ⟨hi, by omega⟩
theorem l4Goals_calls (s : List UInt8) (hs : s.length ≤ 1000000) (i : Nat) (hi : i ≤ s.length) (H : Heap) : ACalls Tryz.prog 58 [.c (.d (.str s)), .c (.d (.int .i64 i))] H (fun r H' => H' = H ∧ r = goalsA (goalsR s 7 i)) := by
  refine acalls Tryz.func58 (by kernel_rfl) ac58_ok fun hf => ?_
  simp -implicitDefEqProofs [ac58, go_sem, -List.set_cons_succ, -List.set_cons_zero]
  refine loop_enter (St.le_token 6 4 rfl) ?_
  obtain ⟨G, hG⟩ : ∃ G, G = goalsR s 7 i := ⟨_, rfl⟩
  rw [← hG]
  refine loop_set (σ := Nat × List Tm × Nat) (fun x => [(1, .c (.d (.int .i64 x.1))), (6, .c (.own (.l 0) x.2.1.length (x.2.1.map Tm.row)))]) (fun _ => H) (fun x => [.grow x.2.1.length 4])
    (fun x => x.1 ≤ s.length ∧ x.2.1.length + x.2.2 = 7 ∧ appG x.2.1 (goalsR s x.2.2 x.1) = G) (fun x => x.2.2) (i, [], 7) (by simp [setAll]) ⟨hi, by simp, by rw [hG]; cases goalsR s 7 i <;> simp [appG]⟩ ?_
  rintro ⟨p, out, n⟩ ⟨hp, hn, h1⟩
  simp only at hp hn h1
  have hol : inR .i64 (out.length : Int) := small_i64 (by omega) (by omega)
  simp -implicitDefEqProofs [setAll, hol, go_sem, -List.set_cons_succ, -List.set_cons_zero]
  cases n with
  | zero =>
    have h6 : ¬ (out.length : Int) ≤ 6 := by omega
    have h7 : (6 : Int) < (out.length : Int) := by omega
    rw [goalsR] at h1
    subst h1
    simp -implicitDefEqProofs [h6, h7, appG, goalsA, hf, go_sem, -List.set_cons_succ, -List.set_cons_zero]
  | succ n =>
    have h6 : (out.length : Int) ≤ 6 := by omega
    have h7 : ¬ (6 : Int) < (out.length : Int) := by omega
    obtain ⟨r, hr, hpost⟩ := rdF_ok s hs p 30 hp
    rw [goalsR, hr] at h1
    have c1 := (par s hs _).read p 30 3 r hp (by omega) (by omega) hr
    simp only [Int.cast_ofNat_Int] at c1
    simp -implicitDefEqProofs [h6, h7, hf, go_sem, -List.set_cons_succ, -List.set_cons_zero]
    refine qcall_pure c1 hf (readA_re _ _) ?_
    cases r with
    | bad e =>
      have he : e ≤ s.length := hpost
      have hneg : (-1 - (e : Int)) < 0 := by omega
      subst h1
      simp -implicitDefEqProofs [readA, hneg, appG, goalsA, row_mk, hf, go_sem, -List.set_cons_succ, -List.set_cons_zero]
    | ok ts j =>
      obtain ⟨g1, g2, t, rfl, g3⟩ := hpost
      simp only [Rs.tm] at h1
      have hj0 : ¬ (j : Int) < 0 := by omega
      have hj1 : inR .i64 ((j : Int) + 1) := small_i64 (by omega) (by omega)
      simp -implicitDefEqProofs [readA, Rs.tm, hj0, row_len, take_row, pure_d, re_d, toDs_map, hf, go_sem, -List.set_cons_succ, -List.set_cons_zero]
      refine ⟨allLen_map row_len, by unfold maxApp; omega, ?_⟩
      refine qcall_pure (sign_calls s hs j (by omega) 44) hf rfl ?_
      cases hsg : sgn s j 44 with
      | false =>
        rw [hsg] at h1
        simp only [Bool.false_eq_true, if_false] at h1
        subst h1
        simp -implicitDefEqProofs [appG, goalsA, hf, go_sem, -List.set_cons_succ, -List.set_cons_zero]
      | true =>
        rw [hsg] at h1
        simp only [if_true] at h1
        have hjl := sgn_lt hsg
        simp -implicitDefEqProofs [hj1, hf, go_sem, -List.set_cons_succ, -List.set_cons_zero]
        refine loop_less (j + 1, out ++ [t], n) (St.le_cut [_] ?_ (by simp [Sl.le, A.le_refl_iff, A.le_u_iff, As.lo, A.lo, C.lo, Ref.lo, Cs.lo, Obs.lo, Ob.lo, setAll, and_true, true_and, List.length_nil, List.length_cons]) (by simp; rfl) (by simp [Sl.le, A.le_refl_iff, A.le_u_iff, As.lo, A.lo, C.lo, Ref.lo, Cs.lo, Obs.lo, Ob.lo, setAll, and_true, true_and, List.length_nil, List.length_cons])) ⟨by dsimp only; omega, by simp; omega, ?_⟩ (by show n < n + 1; omega)
        · simp [setAll, Sl.le, A.le_refl_iff, A.le_u_iff, As.lo, A.lo, C.lo, Ref.lo, Cs.lo, Obs.lo, Ob.lo, setAll, and_true, true_and, List.length_nil, List.length_cons]
        · rw [← h1]
          show appG (out ++ [t]) (goalsR s n (j + 1)) = _
          cases goalsR s n (j + 1) with
          | none => rfl
          | some q => obtain ⟨us, k⟩ := q; simp [appG]
theorem goalsR_ok (s : List UInt8) (hs : s.length ≤ 1000000) : ∀ (n i : Nat) (ts : List Tm) (k : Nat), i ≤ s.length → goalsR s n i = some (ts, k) → k ≤ s.length ∧ ts.length ≤ n ∧ (∀ t ∈ ts, t.fits) ∧ 1 ≤ ts.length
  | 0, i, ts, k, _, h => by cases h
  | n + 1, i, ts, k, hi, h => by
    obtain ⟨r, hr, hpost⟩ := rdF_ok s hs i 30 hi
    rw [goalsR, hr] at h
    cases r with
    | bad e => cases h
    | ok us j =>
      obtain ⟨g1, g2, t, rfl, g3⟩ := hpost
      simp only [Rs.tm] at h
      split at h
      · rename_i hc
        have hjl := sgn_lt hc
        cases hg : goalsR s n (j + 1) with
        | none => rw [hg] at h; cases h
        | some q =>
          obtain ⟨vs, m⟩ := q
          rw [hg] at h
          cases h
          obtain ⟨q1, q2, q3, q4⟩ := goalsR_ok s hs n (j + 1) _ _ (by omega) hg
          exact ⟨q1, by simp; omega, fun u hu => by
            rcases List.mem_cons.1 hu with rfl | hu
            · exact g3
            · exact q3 u hu, by simp⟩
      · cases h
        exact ⟨g2, by simp, by simpa using g3, by simp⟩
/-- what ParseQuery answers -/
def queryR (s : List UInt8) : List Tm × Bool :=
  if 1000 < s.length then ([], false)
  else match goalsR s 7 0 with
    | some (l, k) => if k = s.length ∧ goalsB l = true then (l, true) else ([], false)
    | none => ([], false)
theorem queryR_fits (s : List UInt8) (hs : s.length ≤ 1000000) : (queryR s).1.length ≤ 7 ∧ ∀ t ∈ (queryR s).1, t.fits := by
  unfold queryR
  split
  · simp
  · cases hg : goalsR s 7 0 with
    | none => simp
    | some q =>
      obtain ⟨l, k⟩ := q
      obtain ⟨_, h2, h3, _⟩ := goalsR_ok s hs 7 0 l k (by omega) hg
      simp only
      split
      · exact ⟨h2, h3⟩
      · simp
theorem pqSpec_calls (s : List UInt8) (hs : s.length ≤ 1000000) (H : Heap) : ACalls Tryz.prog 14 [.c (.d (.str s))] H (fun r H' => H' = H ∧ r = .tup [.c (.d (.sl ((queryR s).1.map Tm.row))), .c (.d (.bool (queryR s).2))]) := by
  refine acalls Tryz.func14 (by kernel_rfl) ac14_ok fun hf => ?_
  have hli : inR .i64 (s.length : Int) := small_i64 (by omega) (by omega)
  unfold queryR
  by_cases h1000 : 1000 < s.length
  · have h1 : (1000 : Int) < s.length := by omega
    simp -implicitDefEqProofs [ac14, hli, h1, h1000, go_sem, -List.set_cons_succ, -List.set_cons_zero]
  · have h1 : ¬ (1000 : Int) < s.length := by omega
    rw [if_neg h1000]
    have cg := l4Goals_calls s hs 0 (by omega)
    simp only [Int.cast_ofNat_Int] at cg
    simp -implicitDefEqProofs [ac14, hli, h1, go_sem, -List.set_cons_succ, -List.set_cons_zero]
    cases hg : goalsR s 7 0 with
    | none =>
      rw [hg] at cg
      have hne : ((-1 : Int) != (s.length : Int)) = true := by first | (simp; done) | (simp; omega)
      have hne2 : ¬ (-1 : Int) = (s.length : Int) := by omega
      refine qcall_pure cg hf (by simp [goalsA, A.re, A.res, C.re]) ?_
      simp -implicitDefEqProofs [goalsA, hli, hne, hne2, hf, go_sem, -List.set_cons_succ, -List.set_cons_zero]
    | some q =>
      obtain ⟨l, k⟩ := q
      rw [hg] at cg
      obtain ⟨g1, g2, g3, _⟩ := goalsR_ok s hs 7 0 l k (by omega) hg
      have cq := qvSpec_calls l (by omega) g3
      have hll : inR .i64 (l.length : Int) := small_i64 (by omega) (by omega)
      refine qcall_pure cg hf (by simp [goalsA, A.re, A.res, C.re]) ?_
      by_cases hk : k = s.length
      · subst hk
        simp -implicitDefEqProofs [goalsA, hli, hf, go_sem, -List.set_cons_succ, -List.set_cons_zero]
        refine qcall_pure cq hf rfl ?_
        cases hv : goalsB l with
        | false => simp -implicitDefEqProofs [go_sem, -List.set_cons_succ, -List.set_cons_zero]
        | true =>
          simp -implicitDefEqProofs [go_sem, -List.set_cons_succ, -List.set_cons_zero]
          refine loop_enter (St.le_token 6 4 rfl) ?_
          refine loop_set (σ := Nat) (fun i => [(7, .c (.d (.int .i64 i))), (6, .c (.own (.l 0) i ((l.map Tm.row).take i)))]) (fun _ => H) (fun i => [.grow i 4]) (fun i => i ≤ l.length) (fun i => l.length - i) 0 (by simp [setAll]) (Nat.zero_le _) ?_
          intro i hi
          simp -implicitDefEqProofs [setAll, hll, go_sem, -List.set_cons_succ, -List.set_cons_zero]
          refine ⟨fun hlt => ?_, fun hge => ?_⟩
          · have hadd : inR .i64 ((i : Int) + 1) := small_i64 (by omega) (by omega)
            refine row_of hlt (row_len _) ?_
            simp -implicitDefEqProofs [row_len, take_row, pure_d, re_d, hf, go_sem, -List.set_cons_succ, -List.set_cons_zero]
            refine qcall_pure (copy_calls l[i] (g3 _ (List.getElem_mem hlt))) hf (by simp [A.re, re_d]) ?_
            simp -implicitDefEqProofs [row_len, toDs_map, hadd, hf, Nat.min_eq_left hi, go_sem, -List.set_cons_succ, -List.set_cons_zero]
            refine ⟨fun r hr => allLen_map row_len r (List.mem_of_mem_take hr), by unfold maxApp; omega, ?_⟩
            refine loop_back (i + 1) ?_ hlt (by show l.length - (i + 1) < l.length - i; omega)
            simp [setAll, take_map_succ hlt]
          · obtain rfl : i = l.length := by omega
            rw [show (l.map Tm.row).take l.length = l.map Tm.row from List.take_of_length_le (by simp)]
      · have hk1 : ((k : Int) != (s.length : Int)) = true := by simp; omega
        have hk2 : ¬ (k : Int) = (s.length : Int) := by omega
        have hk3 : ¬ (k = s.length ∧ goalsB l = true) := fun h => hk h.1
        simp -implicitDefEqProofs [goalsA, hli, hk, hk1, hk2, hk3, hf, go_sem, -List.set_cons_succ, -List.set_cons_zero]
end Go.Proofs.YtbblefjbgbocoaaGreatDoor

/-
  The program's reader: goals, and ParseQuery.
  Conditions: none.
-/
open Go Go.AM Go.Proofs
namespace Go.Proofs.YtbblefjbgbocoaaGreatDoor
open Go.ChangeShapes Go.WideShapes Go.ChangeAt Go.RowKit
set_option linter.unusedVariables false
set_option linter.unusedSimpArgs false
set_option maxRecDepth 100000
-- 60 (*loop.example/prologserver/impl.reader).goals params 1 ntmps 23
-- loop head live: [0,3,4]
def ac60 : Cd := .seq (.region [⟨(some 2),.mv (.k (.c (.full []))),none⟩] [2])
 (.seq (.region [⟨(some 3),.mv (.k (.c (.full []))),none⟩] [])
 (.seq (.seq (.region [⟨(some 4),.mv (.k (.c (.d (.bool true)))),none⟩] [])
 (.block 0 (.loop (.seq (.seq (.region [⟨(some 5),.mv (.t 4),none⟩] [4])
 (.cond (.t 5)
 (.skip)
 (.exit 0)))
 (.block 1 (.seq (.region [⟨(some 6),.mv (.t 3),none⟩,
 ⟨(some 7),.mv (.t 0),none⟩,
 ⟨(some 8),.call false 109 [(.t 7),(.k (.c (.d (.int .i64 3)))),(.k (.c (.d (.int .i64 1))))],none⟩,
 ⟨(some 9),.buildSlice 4 1 [(.int .i64 0),(.int .i64 0),(.str []),(.sl [])] [(0,(.t 8))],none⟩,
 ⟨(some 10),.append false 4 (.t 6) (.t 9),none⟩,
 ⟨(some 3),.mv (.t 10),none⟩] [5,6,7,8,9,10])
 (.seq (.region [⟨(some 11),.mv (.t 0),none⟩,
 ⟨(some 12),.call false 110 [(.t 11)],none⟩,
 ⟨(some 13),.bin .eql (.t 12) (.k (.c (.d (.int .u8 44)))),none⟩,
 ⟨(some 4),.mv (.t 13),none⟩] [11,12,13])
 (.seq (.region [⟨(some 14),.mv (.t 4),none⟩] [])
 (.cond (.t 14)
 (.region [⟨(some 15),.mv (.t 0),none⟩,
 ⟨(some 16),.nilCheck (.t 15),none⟩,
 ⟨(some 17),.fieldAddr 1 (.t 16),none⟩,
 ⟨(some 18),.load none (.t 17),none⟩,
 ⟨(some 19),.bin .add (.t 18) (.k (.c (.d (.int .i64 1)))),none⟩,
 ⟨(some 20),.nilCheck (.t 15),none⟩,
 ⟨(some 21),.fieldAddr 1 (.t 20),none⟩,
 ⟨none,.store 1 (.t 21) (.t 19),none⟩] [14,15,16,17,18,19,20,21])
 (.skip))))))))))
 (.seq (.region [⟨(some 22),.mv (.t 3),none⟩,
 ⟨(some 2),.mv (.t 22),none⟩] [3,22])
 (.ret))))
theorem ac60_ok : cFunc Tryz.prog [] [(0,[2],[]),(1,[],[]),(2,[],[]),(3,[4],[]),(4,[5,6,7,8,9,10],[]),(5,[11,12,13],[]),(6,[],[]),(7,[14,15,16,17,18,19,20,21],[]),(8,[3,22],[])] Tryz.f60 = some (ac60,[.tmp 2],23) := by kernel_rfl
-- 15 loop.example/prologserver/impl.ParseQuery params 1 ntmps 34
def ac15 : Cd := .seq (.region [⟨(some 2),.mv (.k (.c (.full []))),none⟩,
 ⟨(some 3),.mv (.k (.c (.d (.bool false)))),none⟩] [2,3])
 (.seq (.seq (.region [⟨(some 6),.mv (.t 0),none⟩,
 ⟨(some 7),.len 0 (.t 6),none⟩,
 ⟨(some 8),.bin .gtr (.t 7) (.k (.c (.d (.int .i64 1000)))),none⟩] [6,7])
 (.cond (.t 8)
 (.seq (.region [⟨(some 2),.mv (.k (.c (.full []))),none⟩,
 ⟨(some 3),.mv (.k (.c (.d (.bool false)))),none⟩] [0,8])
 (.ret))
 (.skip)))
 (.seq (.region [⟨(some 9),.mv (.t 0),none⟩,
 ⟨(some 10),.build [(.d (.str [])),(.d (.int .i64 0)),(.d (.int .i64 0)),(.d (.bool false))] [(0,1,(.t 9)),(2,1,(.k (.c (.d (.int .i64 (-1)))))),(3,1,(.k (.c (.d (.bool true)))))],none⟩,
 ⟨(some 11),.box (.t 10),none⟩,
 ⟨(some 4),.mv (.t 11),none⟩] [2,3,8,9,10,11])
 (.seq (.region [⟨(some 12),.mv (.t 4),none⟩,
 ⟨(some 13),.call false 60 [(.t 12)],none⟩,
 ⟨(some 5),.mv (.t 13),none⟩] [12,13])
 (.seq (.seq (.region [⟨(some 14),.mv (.t 4),none⟩,
 ⟨(some 15),.nilCheck (.t 14),none⟩,
 ⟨(some 16),.fieldAddr 2 (.t 15),none⟩,
 ⟨(some 17),.load none (.t 16),none⟩,
 ⟨(some 18),.bin .geq (.t 17) (.k (.c (.d (.int .i64 0)))),none⟩,
 ⟨(some 19),.mv (.t 18),none⟩,
 ⟨(some 20),.mv (.t 4),some (19,false)⟩,
 ⟨(some 21),.nilCheck (.t 20),some (19,false)⟩,
 ⟨(some 22),.fieldAddr 1 (.t 21),some (19,false)⟩,
 ⟨(some 23),.load none (.t 22),some (19,false)⟩,
 ⟨(some 24),.mv (.t 0),some (19,false)⟩,
 ⟨(some 25),.len 0 (.t 24),some (19,false)⟩,
 ⟨(some 26),.bin .neq (.t 23) (.t 25),some (19,false)⟩,
 ⟨(some 27),.pick (.t 19) (.k (.c (.d (.bool true)))) (.t 26),none⟩,
 ⟨(some 28),.mv (.t 27),none⟩,
 ⟨(some 29),.mv (.t 5),some (28,false)⟩,
 ⟨(some 30),.qcall 25 [(.t 29)],some (28,false)⟩,
 ⟨(some 31),.un .not (.t 30),some (28,false)⟩,
 ⟨(some 32),.pick (.t 28) (.k (.c (.d (.bool true)))) (.t 31),none⟩] [0,4,14,15,16,17,18,19,20,21,22,23,24,25,26,27,28,29,30,31])
 (.cond (.t 32)
 (.seq (.region [⟨(some 2),.mv (.k (.c (.full []))),none⟩,
 ⟨(some 3),.mv (.k (.c (.d (.bool false)))),none⟩] [5,32])
 (.ret))
 (.skip)))
 (.seq (.region [⟨(some 33),.mv (.t 5),none⟩,
 ⟨(some 2),.mv (.t 33),none⟩,
 ⟨(some 3),.mv (.k (.c (.d (.bool true)))),none⟩] [5,32,33])
 (.ret))))))
theorem ac15_ok : cFunc Tryz.prog [1000025] [(0,[2,3],[]),(1,[6,7],[]),(2,[0,8],[]),(3,[2,3,8,9,10,11],[]),(4,[12,13],[]),(5,[0,4,14,15,16,17,18,19,20,21,22,23,24,25,26,27,28,29,30,31],[]),(6,[5,32],[]),(7,[5,32,33],[])] Tryz.f15 = some (ac15,[.tmp 2,.tmp 3],34) := by kernel_rfl
def Gq (s : List UInt8) (ts : List Tm) (a : Nat) (b : Int) : Prop := (b = -1 ∧ 1 ≤ ts.length ∧ Gend s ts a) ∨ ((∃ e : Nat, b = e) ∧ Gbad s)
theorem queryR_some {s : List UInt8} {l : List Tm} {k : Nat} (h : ¬ 1000 < s.length) (hg : goalsR s 7 0 = some (l, k)) (hk : k = s.length) (hv : goalsB l = true) : queryR s = (l, true) := by
  unfold queryR
  rw [if_neg h, hg]
  simp [hk, hv]
theorem queryR_no {s : List UInt8} (h : ¬ 1000 < s.length) (hg : ∀ l k, goalsR s 7 0 = some (l, k) → ¬ (k = s.length ∧ goalsB l = true)) : queryR s = ([], false) := by
  unfold queryR
  rw [if_neg h]
  cases hq : goalsR s 7 0 with
  | none => rfl
  | some q =>
    obtain ⟨l, k⟩ := q
    simp only
    rw [if_neg (hg l k hq)]
end Go.Proofs.YtbblefjbgbocoaaGreatDoor

/-
  Terms: how many there are.
  Conditions: none.
-/
open Go Go.AM Go.Proofs
namespace Go.Proofs.YtbblefjbgbocoaaGreatDoor
open Go.ChangeShapes Go.WideShapes Go.ChangeAt Go.RowKit
set_option linter.unusedVariables false
set_option linter.unusedSimpArgs false
set_option maxRecDepth 100000
mutual
/-- the terms below a term -/
def Tm.sub : Tm → Nat
  | .mk _ _ _ l => Tm.cnt l
def Tm.cnt : List Tm → Nat
  | [] => 0
  | t :: l => 1 + t.sub + Tm.cnt l
end
theorem sub_mk (k n : Int) (s : List UInt8) (l : List Tm) : (Tm.mk k n s l).sub = Tm.cnt l := by rw [Tm.sub]
theorem cnt_nil : Tm.cnt [] = 0 := by rw [Tm.cnt]
theorem cnt_cons (t : Tm) (l : List Tm) : Tm.cnt (t :: l) = 1 + t.sub + Tm.cnt l := by rw [Tm.cnt]
theorem cnt_append (l r : List Tm) : Tm.cnt (l ++ r) = Tm.cnt l + Tm.cnt r := by
  induction l with
  | nil => simp [Tm.cnt]
  | cons t l ih => rw [List.cons_append, cnt_cons, cnt_cons, ih]; omega
theorem cnt_take_succ (l : List Tm) {i : Nat} (h : i < l.length) : Tm.cnt (l.take (i + 1)) = Tm.cnt (l.take i) + 1 + l[i].sub := by
  rw [List.take_succ_eq_append_getElem h, cnt_append, cnt_cons, cnt_nil]; omega
theorem cnt_take_le (l : List Tm) (i : Nat) : Tm.cnt (l.take i) ≤ Tm.cnt l := by
  have := cnt_append (l.take i) (l.drop i)
  rw [List.take_append_drop] at this
  omega
theorem cnt_take_sub (l : List Tm) {i : Nat} (h : i < l.length) : Tm.cnt (l.take i) + 1 + l[i].sub ≤ Tm.cnt l := by
  rw [← cnt_take_succ l h]; exact cnt_take_le l _
/-- what is left, where enough is -/
def LeftW (m : Int) (p : Prop) (w : Nat) (r : A) : Prop := ∃ q : Int, r = .c (.d (.int .i64 q)) ∧ -1 ≤ q ∧ q ≤ m ∧ (0 ≤ q → p ∧ q + w ≤ m)
theorem LeftW.re {n : Nat} {m : Int} {p : Prop} {w : Nat} {r : A} (h : LeftW m p w r) : A.re n r = r := by
  obtain ⟨q, rfl, _⟩ := h
  rfl
theorem LeftW.left {m : Int} {p : Prop} {w : Nat} {r : A} (h : LeftW m p w r) : Left m p r := by
  obtain ⟨q, h1, h2, h3, h4⟩ := h
  exact ⟨q, h1, h2, h3, fun h => (h4 h).1⟩
end Go.Proofs.YtbblefjbgbocoaaGreatDoor

/-
  Rows that are marked one after the other.
  Conditions: none.
-/
open Go Go.AM Go.Proofs
namespace Go.Proofs.YtbblefjbgbocoaaGreatDoor
set_option linter.unusedVariables false
set_option linter.unusedSimpArgs false
/-- the first i rows are new ones -/
def mixed {α : Type} (f : Nat → α) (rows : List α) (i : Nat) : List α := (List.range i).map f ++ rows.drop i
theorem mixed_zero {α : Type} (f : Nat → α) (rows : List α) : mixed f rows 0 = rows := by simp [mixed]
theorem mixed_len {α : Type} (f : Nat → α) (rows : List α) {i : Nat} (h : i ≤ rows.length) : (mixed f rows i).length = rows.length := by simp [mixed]; omega
theorem mixed_get {α : Type} (f : Nat → α) (rows : List α) {i : Nat} (h : i < rows.length) : (mixed f rows i)[i]? = some rows[i] := by
  rw [mixed, List.getElem?_append_right (by simp)]
  simp [h]
theorem mixed_set {α : Type} (f : Nat → α) (rows : List α) {i : Nat} (h : i < rows.length) : (mixed f rows i).set i (f i) = mixed f rows (i + 1) := by
  rw [mixed, mixed, List.set_append_right _ _ (by simp), List.drop_eq_getElem_cons h, List.range_succ]
  simp only [List.length_map, List.length_range, Nat.sub_self, List.set_cons_zero, List.map_append, List.map_cons, List.map_nil, List.append_assoc, List.cons_append, List.nil_append]
theorem mixed_get' {α : Type} (f : Nat → α) (rows : List α) {i j : Nat} (h : i ≤ rows.length) : (mixed f rows i)[j]? = if j < i then some (f j) else rows[j]? := by
  rw [mixed]
  by_cases hj : j < i
  · rw [List.getElem?_append_left (by simpa using hj), if_pos hj]; simp [hj]
  · rw [List.getElem?_append_right (by simp; omega), if_neg hj, List.getElem?_drop]
    congr 1
    simp; omega
end Go.Proofs.YtbblefjbgbocoaaGreatDoor

/-
  The law's text for a mark.
  Conditions: none.
-/
open Go Go.AM Go.Proofs
namespace Go.Proofs.YtbblefjbgbocoaaGreatDoor
open Go.ChangeShapes Go.WideShapes Go.ChangeAt Go.RowKit
set_option linter.unusedVariables false
set_option linter.unusedSimpArgs false
set_option maxRecDepth 100000
-- 62 loop.example/prologserver/laws.markText params 1 ntmps 20
-- loop head live: [0,3]
def ac62 : Cd := .seq (.region [⟨(some 2),.mv (.k (.c (.d (.str [])))),none⟩] [2])
 (.seq (.seq (.region [⟨(some 4),.mv (.t 0),none⟩,
 ⟨(some 5),.bin .leq (.t 4) (.k (.c (.d (.int .i64 0)))),none⟩] [4])
 (.cond (.t 5)
 (.seq (.region [⟨(some 2),.mv (.k (.c (.d (.str [109,48])))),none⟩] [0,5])
 (.ret))
 (.skip)))
 (.seq (.region [⟨(some 3),.mv (.k (.c (.d (.str [])))),none⟩] [2,5])
 (.seq (.block 0 (.loop (.seq (.seq (.region [⟨(some 6),.mv (.t 0),none⟩,
 ⟨(some 7),.bin .gtr (.t 6) (.k (.c (.d (.int .i64 0)))),none⟩] [6])
 (.cond (.t 7)
 (.skip)
 (.exit 0)))
 (.block 1 (.seq (.region [⟨(some 8),.mv (.t 0),none⟩,
 ⟨(some 9),.bin .rem (.t 8) (.k (.c (.d (.int .i64 10)))),none⟩,
 ⟨(some 10),.bin .add (.k (.c (.d (.int .i64 48)))) (.t 9),none⟩,
 ⟨(some 11),.cvInt .u8 (.t 10),none⟩,
 ⟨(some 12),.buildSlice 1 1 [(.int .u8 0)] [(0,(.t 11))],none⟩,
 ⟨(some 13),.cvB2S (.t 12),none⟩,
 ⟨(some 14),.mv (.t 3),none⟩,
 ⟨(some 15),.bin .add (.t 13) (.t 14),none⟩,
 ⟨(some 3),.mv (.t 15),none⟩] [7,8,9,10,11,12,13,14,15])
 (.region [⟨(some 16),.mv (.t 0),none⟩,
 ⟨(some 17),.bin .quo (.t 16) (.k (.c (.d (.int .i64 10)))),none⟩,
 ⟨(some 0),.mv (.t 17),none⟩] [16,17]))))))
 (.seq (.region [⟨(some 18),.mv (.t 3),none⟩,
 ⟨(some 19),.bin .add (.k (.c (.d (.str [109])))) (.t 18),none⟩,
 ⟨(some 2),.mv (.t 19),none⟩] [3,18,19])
 (.ret)))))
theorem ac62_ok : cFunc Tryz.prog [] [(0,[2],[]),(1,[4],[]),(2,[0,5],[]),(3,[2,5],[]),(4,[6],[]),(5,[7,8,9,10,11,12,13,14,15],[]),(6,[16,17],[]),(7,[3,18,19],[])] Tryz.f62 = some (ac62,[.tmp 2],20) := by kernel_rfl
def digs (k : Nat) (out : List UInt8) : List UInt8 := if h : k = 0 then out else digs (k / 10) (UInt8.ofNat (48 + k % 10) :: out)
termination_by k
decreasing_by omega
theorem digs_go {k : Nat} {out : List UInt8} (h : 0 < k) : digs k out = digs (k / 10) (UInt8.ofNat (48 + k % 10) :: out) := by rw [digs, dif_neg (by omega)]
theorem digs_zero (out : List UInt8) : digs 0 out = out := by rw [digs, dif_pos rfl]
def mText (k : Int) : List UInt8 := if k ≤ 0 then [109, 48] else 109 :: digs k.toNat []
theorem markText_calls (k : Int) (hk : k ≤ 1000000000000000) (H : Heap) : ACalls Tryz.prog 62 [.c (.d (.int .i64 k))] H (fun r H' => H' = H ∧ r = .c (.d (.str (mText k)))) := by
  refine acalls Tryz.func62 (by kernel_rfl) ac62_ok fun hf => ?_
  simp -implicitDefEqProofs [ac62, go_sem, -List.set_cons_succ, -List.set_cons_zero]
  refine ⟨fun h => by simp [mText, h], fun h => ?_⟩
  refine loop_set (σ := Nat × List UInt8) (fun x => [(0, .c (.d (.int .i64 x.1))), (3, .c (.d (.str x.2)))]) (fun _ => H) (fun _ => []) (fun x => x.1 + x.2.length ≤ k.toNat ∧ digs x.1 x.2 = digs k.toNat []) (fun x => x.1) (k.toNat, []) (by simp [setAll]; omega) ⟨by simp, rfl⟩ ?_
  rintro ⟨n, out⟩ ⟨h1, h2⟩
  simp only at h1 h2
  have hn : (n : Int) ≤ 1000000000000000 := by omega
  have hm : ((n : Int).tmod 10) = ((n % 10 : Nat) : Int) := by rw [Int.tmod_eq_emod_of_nonneg (by omega)]; omega
  have hd : ((n : Int).tdiv 10) = ((n / 10 : Nat) : Int) := by rw [Int.tdiv_eq_ediv_of_nonneg (by omega)]; omega
  have hr : inR .i64 (((n % 10 : Nat) : Int)) := small_i64 (by omega) (by omega)
  have hr2 : inR .i64 (48 + ((n % 10 : Nat) : Int)) := small_i64 (by omega) (by omega)
  have hq : inR .i64 ((n / 10 : Nat) : Int) := small_i64 (by omega) (by omega)
  have hw : IntKind.u8.wrap (48 + ((n % 10 : Nat) : Int)) = ((UInt8.ofNat (48 + n % 10)).toNat : Int) := by
    rw [UInt8.toNat_ofNat']
    simp [IntKind.wrap, IntKind.signed, IntKind.bits]
  have hb : [[D.int IntKind.u8 (IntKind.u8.wrap (48 + ((n % 10 : Nat) : Int)))]] = bytesRows [UInt8.ofNat (48 + n % 10)] := by rw [hw]; rfl
  simp only [Int.natCast_emod, Int.natCast_ediv, Int.cast_ofNat_Int] at hr hr2 hq hb
  simp -implicitDefEqProofs [setAll, hm, hd, hr, hr2, hq, go_sem, -List.set_cons_succ, -List.set_cons_zero]
  refine ⟨fun hlt => ?_, fun h0 => ⟨by unfold maxStr; omega, ?_⟩⟩
  · rw [hb]
    refine b2s_of ?_
    have hgo := digs_go (out := out) hlt
    simp -implicitDefEqProofs [hm, hd, hr, hr2, hq, go_sem, -List.set_cons_succ, -List.set_cons_zero]
    refine ⟨by unfold maxStr; omega, ?_⟩
    refine loop_back (n / 10, UInt8.ofNat (48 + n % 10) :: out) (by simp [setAll]) ⟨?_, by rw [← hgo]; exact h2⟩ (by show n / 10 < n; omega)
    simp
    omega
  · subst h0
    rw [digs_zero] at h2
    rw [mText, if_neg (by omega), h2]
end Go.Proofs.YtbblefjbgbocoaaGreatDoor

/-
  Terms are marked, and looked at again.
  Conditions: none.
-/
open Go Go.AM Go.Proofs
namespace Go.Proofs.YtbblefjbgbocoaaGreatDoor
open Go.ChangeShapes Go.WideShapes Go.ChangeAt Go.RowKit
set_option linter.unusedVariables false
set_option linter.unusedSimpArgs false
set_option maxRecDepth 100000
mutual
/-- a term that bears marks -/
def mTm (k : Int) : Tm → Tm
  | .mk _ _ _ l => .mk k (k + 1) (mText (k + 2)) (mTms (k + 3) l)
def mTms (k : Int) : List Tm → List Tm
  | [] => []
  | t :: l => mTm k t :: mTms (k + 3 + 3 * t.sub) l
end
theorem mTms_nil (k : Int) : mTms k [] = [] := by rw [mTms]
theorem mTms_cons (k : Int) (t : Tm) (l : List Tm) : mTms k (t :: l) = mTm k t :: mTms (k + 3 + 3 * t.sub) l := by rw [mTms]
theorem mTms_len : ∀ (k : Int) (l : List Tm), (mTms k l).length = l.length
  | k, [] => by rw [mTms]
  | k, t :: l => by rw [mTms_cons, List.length_cons, mTms_len, List.length_cons]
theorem mTms_get : ∀ (k : Int) (l : List Tm) (i : Nat) (h : i < l.length), (mTms k l)[i]? = some (mTm (k + 3 * Tm.cnt (l.take i)) l[i])
  | k, t :: l, 0, h => by rw [mTms_cons]; simp [Tm.cnt]
  | k, t :: l, i + 1, h => by
    rw [mTms_cons, List.getElem?_cons_succ, mTms_get _ l i (by simpa using h)]
    simp only [List.take_succ_cons, cnt_cons, List.getElem_cons_succ]
    congr 2
    simp only [Int.natCast_add]
    omega
theorem mTm_row (k : Int) (t : Tm) : (mTm k t).row = [.int .i64 k, .int .i64 (k + 1), .str (mText (k + 2)), .sl ((mTms (k + 3) t.kids).map Tm.row)] := by
  obtain ⟨a, n, s, l⟩ := t
  rw [mTm, row_mk]
  rfl
/-- a term's cells, its kids cut off -/
def srow (t : Tm) (v : Value) : List D := [.int .i64 t.k, .int .i64 t.n, .str t.s, .v v]
def ktree (t : Tm) (v : Value) : Ob := .tree v (t.kids.map Tm.row)
theorem strip_terms : ∀ (l : List Tm) (vs : List Value), vs.length = l.length → Strip (l.map Tm.row).flatten (List.zipWith srow l vs).flatten (List.zipWith ktree l vs)
  | [], [], _ => ⟨rfl, rfl⟩
  | [], _ :: _, h => by simp at h
  | _ :: _, [], h => by simp at h
  | t :: l, v :: vs, h => by
    simp only [List.map_cons, List.flatten_cons, List.zipWith_cons_cons, row_eq, srow, List.cons_append, List.nil_append]
    exact ⟨_, rfl, _, rfl, _, rfl, _, _, _, rfl, rfl, strip_terms l vs (by simpa using h)⟩
theorem strip_inv : ∀ (l : List Tm) (c : List D) (t : Heap), Strip (l.map Tm.row).flatten c t → ∃ vs : List Value, vs.length = l.length ∧ c = (List.zipWith srow l vs).flatten ∧ t = List.zipWith ktree l vs
  | [], c, t, ⟨h1, h2⟩ => ⟨[], rfl, h1, h2⟩
  | x :: l, c, t, h => by
    simp only [List.map_cons, List.flatten_cons, row_eq, List.cons_append, List.nil_append] at h
    obtain ⟨c1, rfl, c2, rfl, c3, rfl, v, c4, t4, rfl, rfl, h5⟩ := h
    obtain ⟨vs, h6, rfl, rfl⟩ := strip_inv l c4 t4 h5
    exact ⟨v :: vs, by simp [h6], rfl, rfl⟩
theorem zip_lens {l : List Tm} {vs : List Value} (h : vs.length = l.length) : (List.zipWith srow l vs).map List.length = (l.map Tm.row).map List.length := by
  refine List.ext_getElem? fun i => ?_
  rcases Nat.lt_or_ge i l.length with hi | hi
  · simp [List.getElem?_zipWith, hi, h, row_len, srow]
  · rw [List.getElem?_eq_none (by simp [h]; omega), List.getElem?_eq_none (by simp; omega)]
theorem term_rows (l : List Tm) : ∀ r ∈ l.map Tm.row, r.length = 4 := fun r hr => by obtain ⟨t, _, rfl⟩ := List.mem_map.1 hr; exact row_len t
theorem fits_trees {n : Nat} : ∀ {l : Heap}, l.all Ob.isTreeB = true → Obs.fits n 0 l
  | [], _ => trivial
  | o :: l, h => by
    simp only [List.all_cons, Bool.and_eq_true] at h
    refine ⟨?_, fits_trees h.2⟩
    cases o <;> first | trivial | cases h.1
theorem all_mixed {f : Nat → Ob} {l : Heap} {i : Nat} (hf : ∀ j, (f j).isTreeB = true) (hl : l.all Ob.isTreeB = true) : (mixed f l i).all Ob.isTreeB = true := by
  rw [List.all_eq_true] at hl ⊢
  intro o ho
  rcases List.mem_append.1 ho with h | h
  · obtain ⟨j, _, rfl⟩ := List.mem_map.1 h; exact hf j
  · exact hl o (List.mem_of_mem_drop h)
theorem zip_trees (l : List Tm) (vs : List Value) : (List.zipWith ktree l vs).all Ob.isTreeB = true := by
  induction l generalizing vs with
  | nil => rfl
  | cons t l ih =>
    cases vs with
    | nil => rfl
    | cons v vs => simp only [List.zipWith_cons_cons, List.all_cons, ih, Bool.and_true]; rfl
-- 17 loop.example/prologserver/laws.markTermS params 2 ntmps 42
-- loop head live: [0,1,5]
def ac17 : Cd := .seq (.region [⟨(some 4),.mv (.k (.c (.d (.int .i64 0)))),none⟩] [4])
 (.seq (.seq (.region [⟨(some 5),.mv (.k (.c (.d (.int .i64 0)))),none⟩] [])
 (.block 0 (.loop (.seq (.seq (.region [⟨(some 6),.mv (.t 5),none⟩,
 ⟨(some 7),.mv (.t 0),none⟩,
 ⟨(some 8),.len 1 (.t 7),none⟩,
 ⟨(some 9),.bin .lss (.t 6) (.t 8),none⟩] [6,7,8])
 (.cond (.t 9)
 (.skip)
 (.exit 0)))
 (.seq (.block 1 (.seq (.region [⟨(some 12),.mv (.t 0),none⟩,
 ⟨(some 13),.mv (.t 5),none⟩,
 ⟨(some 14),.mv (.t 1),none⟩,
 ⟨(some 15),.indexAddr 4 (.t 12) (.t 13),none⟩,
 ⟨(some 16),.fieldAddr 0 (.t 15),none⟩,
 ⟨none,.store 1 (.t 16) (.t 14),none⟩] [9,12,13,14,15,16])
 (.seq (.region [⟨(some 17),.mv (.t 1),none⟩,
 ⟨(some 18),.bin .add (.t 17) (.k (.c (.d (.int .i64 1)))),none⟩,
 ⟨(some 1),.mv (.t 18),none⟩] [17,18])
 (.seq (.region [⟨(some 19),.mv (.t 0),none⟩,
 ⟨(some 20),.mv (.t 5),none⟩,
 ⟨(some 21),.mv (.t 1),none⟩,
 ⟨(some 22),.indexAddr 4 (.t 19) (.t 20),none⟩,
 ⟨(some 23),.fieldAddr 1 (.t 22),none⟩,
 ⟨none,.store 1 (.t 23) (.t 21),none⟩] [19,20,21,22,23])
 (.seq (.region [⟨(some 24),.mv (.t 1),none⟩,
 ⟨(some 25),.bin .add (.t 24) (.k (.c (.d (.int .i64 1)))),none⟩,
 ⟨(some 1),.mv (.t 25),none⟩] [24,25])
 (.seq (.region [⟨(some 26),.mv (.t 0),none⟩,
 ⟨(some 27),.mv (.t 5),none⟩,
 ⟨(some 28),.mv (.t 1),none⟩,
 ⟨(some 29),.qcall 62 [(.t 28)],none⟩,
 ⟨(some 30),.indexAddr 4 (.t 26) (.t 27),none⟩,
 ⟨(some 31),.fieldAddr 2 (.t 30),none⟩,
 ⟨none,.store 1 (.t 31) (.t 29),none⟩] [26,27,28,29,30,31])
 (.seq (.region [⟨(some 32),.mv (.t 1),none⟩,
 ⟨(some 33),.bin .add (.t 32) (.k (.c (.d (.int .i64 1)))),none⟩,
 ⟨(some 1),.mv (.t 33),none⟩] [32,33])
 (.region [⟨(some 34),.mv (.t 0),none⟩,
 ⟨(some 35),.mv (.t 5),none⟩,
 ⟨(some 36),.indexAddr 4 (.t 34) (.t 35),none⟩,
 ⟨(some 37),.fieldAddr 3 (.t 36),none⟩,
 ⟨(some 38),.load none (.t 37),none⟩,
 ⟨(some 39),.mv (.t 1),none⟩,
 ⟨(some 40),.call false 17 [(.t 38),(.t 39)],none⟩,
 ⟨(some 1),.mv (.t 40),none⟩] [34,35,36,37,38,39,40]))))))))
 (.region [⟨(some 10),.mv (.t 5),none⟩,
 ⟨(some 11),.bin .add (.t 10) (.k (.c (.d (.int .i64 1)))),none⟩,
 ⟨(some 5),.mv (.t 11),none⟩] [10,11]))))))
 (.seq (.region [⟨(some 41),.mv (.t 1),none⟩,
 ⟨(some 4),.mv (.t 41),none⟩] [1,41])
 (.ret)))
theorem ac17_ok : cFunc Tryz.prog [1000062] [(0,[4],[]),(1,[],[]),(2,[6,7,8],[]),(4,[9,12,13,14,15,16],[]),(5,[17,18],[]),(6,[19,20,21,22,23],[]),(7,[24,25],[]),(8,[26,27,28,29,30,31],[]),(9,[32,33],[]),(10,[34,35,36,37,38,39,40],[]),(3,[10,11],[]),(11,[1,41],[])] Tryz.f17 = some (ac17,[.tmp 4],42) := by kernel_rfl
-- 18 loop.example/prologserver/laws.heldTermS params 2 ntmps 50
-- loop head live: [0,1,5]
def ac18 : Cd := .seq (.region [⟨(some 4),.mv (.k (.c (.d (.int .i64 0)))),none⟩] [4])
 (.seq (.seq (.region [⟨(some 5),.mv (.k (.c (.d (.int .i64 0)))),none⟩] [])
 (.block 0 (.loop (.seq (.seq (.region [⟨(some 6),.mv (.t 5),none⟩,
 ⟨(some 7),.mv (.t 0),none⟩,
 ⟨(some 8),.len 1 (.t 7),none⟩,
 ⟨(some 9),.bin .lss (.t 6) (.t 8),none⟩] [6,7,8])
 (.cond (.t 9)
 (.skip)
 (.exit 0)))
 (.seq (.block 1 (.seq (.seq (.region [⟨(some 12),.mv (.t 0),none⟩,
 ⟨(some 13),.mv (.t 5),none⟩,
 ⟨(some 14),.indexAddr 4 (.t 12) (.t 13),none⟩,
 ⟨(some 15),.fieldAddr 0 (.t 14),none⟩,
 ⟨(some 16),.load none (.t 15),none⟩,
 ⟨(some 17),.mv (.t 1),none⟩,
 ⟨(some 18),.bin .neq (.t 16) (.t 17),none⟩] [9,12,13,14,15,16,17])
 (.cond (.t 18)
 (.seq (.region [⟨(some 4),.mv (.k (.c (.d (.int .i64 (-1))))),none⟩] [0,1,5,18])
 (.ret))
 (.skip)))
 (.seq (.region [⟨(some 19),.mv (.t 1),none⟩,
 ⟨(some 20),.bin .add (.t 19) (.k (.c (.d (.int .i64 1)))),none⟩,
 ⟨(some 1),.mv (.t 20),none⟩] [4,18,19,20])
 (.seq (.seq (.region [⟨(some 21),.mv (.t 0),none⟩,
 ⟨(some 22),.mv (.t 5),none⟩,
 ⟨(some 23),.indexAddr 4 (.t 21) (.t 22),none⟩,
 ⟨(some 24),.fieldAddr 1 (.t 23),none⟩,
 ⟨(some 25),.load none (.t 24),none⟩,
 ⟨(some 26),.mv (.t 1),none⟩,
 ⟨(some 27),.bin .neq (.t 25) (.t 26),none⟩] [21,22,23,24,25,26])
 (.cond (.t 27)
 (.seq (.region [⟨(some 4),.mv (.k (.c (.d (.int .i64 (-1))))),none⟩] [0,1,5,27])
 (.ret))
 (.skip)))
 (.seq (.region [⟨(some 28),.mv (.t 1),none⟩,
 ⟨(some 29),.bin .add (.t 28) (.k (.c (.d (.int .i64 1)))),none⟩,
 ⟨(some 1),.mv (.t 29),none⟩] [4,27,28,29])
 (.seq (.seq (.region [⟨(some 30),.mv (.t 0),none⟩,
 ⟨(some 31),.mv (.t 5),none⟩,
 ⟨(some 32),.indexAddr 4 (.t 30) (.t 31),none⟩,
 ⟨(some 33),.fieldAddr 2 (.t 32),none⟩,
 ⟨(some 35),.mv (.t 1),none⟩,
 ⟨(some 34),.load none (.t 33),none⟩,
 ⟨(some 36),.qcall 62 [(.t 35)],none⟩,
 ⟨(some 37),.bin .neq (.t 34) (.t 36),none⟩] [30,31,32,33,34,35,36])
 (.cond (.t 37)
 (.seq (.region [⟨(some 4),.mv (.k (.c (.d (.int .i64 (-1))))),none⟩] [0,1,5,37])
 (.ret))
 (.skip)))
 (.seq (.region [⟨(some 38),.mv (.t 1),none⟩,
 ⟨(some 39),.bin .add (.t 38) (.k (.c (.d (.int .i64 1)))),none⟩,
 ⟨(some 1),.mv (.t 39),none⟩] [4,37,38,39])
 (.seq (.region [⟨(some 40),.mv (.t 0),none⟩,
 ⟨(some 41),.mv (.t 5),none⟩,
 ⟨(some 42),.indexAddr 4 (.t 40) (.t 41),none⟩,
 ⟨(some 43),.fieldAddr 3 (.t 42),none⟩,
 ⟨(some 44),.load none (.t 43),none⟩,
 ⟨(some 45),.mv (.t 1),none⟩,
 ⟨(some 46),.call false 18 [(.t 44),(.t 45)],none⟩,
 ⟨(some 1),.mv (.t 46),none⟩] [40,41,42,43,44,45,46])
 (.seq (.region [⟨(some 47),.mv (.t 1),none⟩,
 ⟨(some 48),.bin .lss (.t 47) (.k (.c (.d (.int .i64 0)))),none⟩] [47])
 (.cond (.t 48)
 (.seq (.region [⟨(some 4),.mv (.k (.c (.d (.int .i64 (-1))))),none⟩] [0,1,5,48])
 (.ret))
 (.skip)))))))))))
 (.region [⟨(some 10),.mv (.t 5),none⟩,
 ⟨(some 11),.bin .add (.t 10) (.k (.c (.d (.int .i64 1)))),none⟩,
 ⟨(some 5),.mv (.t 11),none⟩] [4,10,11,48]))))))
 (.seq (.region [⟨(some 49),.mv (.t 1),none⟩,
 ⟨(some 4),.mv (.t 49),none⟩] [1,49])
 (.ret)))
theorem ac18_ok : cFunc Tryz.prog [1000062] [(0,[4],[]),(1,[],[]),(2,[6,7,8],[]),(4,[9,12,13,14,15,16,17],[]),(5,[0,1,5,18],[]),(6,[4,18,19,20],[]),(7,[21,22,23,24,25,26],[]),(8,[0,1,5,27],[]),(9,[4,27,28,29],[]),(10,[30,31,32,33,34,35,36],[0,1,2,3,5,4,6,7]),(11,[0,1,5,37],[]),(12,[4,37,38,39],[]),(13,[40,41,42,43,44,45,46],[]),(14,[47],[]),(15,[0,1,5,48],[]),(3,[4,10,11,48],[]),(16,[1,49],[])] Tryz.f18 = some (ac18,[.tmp 4],50) := by kernel_rfl
/-- a term's kids are marked -/
def MarkT (t : Tm) : Prop := ∀ (k : Int), 0 ≤ k → k + 3 * t.sub ≤ 500000000000000 → ∀ kv, ACalls Tryz.prog 17 [.c (.d (.v kv)), .c (.d (.int .i64 k))] [.tree kv (t.kids.map Tm.row)]
    (fun r H' => H' = [.tree kv ((mTms k t.kids).map Tm.row)] ∧ r = .c (.d (.int .i64 (k + 3 * t.sub))))
theorem markTermS_of (l : List Tm) (hl : l.length ≤ 1048576) (h : ∀ t ∈ l, MarkT t) (k : Int) (h0 : 0 ≤ k) (h1 : k + 3 * Tm.cnt l ≤ 500000000000000) (kv : Value) :
    ACalls Tryz.prog 17 [.c (.d (.v kv)), .c (.d (.int .i64 k))] [.tree kv (l.map Tm.row)]
    (fun r H' => H' = [.tree kv ((mTms k l).map Tm.row)] ∧ r = .c (.d (.int .i64 (k + 3 * Tm.cnt l)))) := by
  refine (acalls_tree (f := 17) (pre := []) (post := [.c (.d (.int .i64 k))]) (rows := l.map Tm.row) (Q := fun r rows' => r = .c (.d (.int .i64 (k + 3 * Tm.cnt l))) ∧ rows' = (mTms k l).map Tm.row) 4 (term_rows l) rfl rfl (fun he => ?_) (fun hne srows trs hst hlens => ?_) kv).mono fun r H' ⟨rows', h1, _, h2, h3⟩ => ⟨by rw [h1, h3], h2⟩
  · obtain rfl : l = [] := by simpa using he
    have hk0 : inR .i64 k := small_i64 (by simp [cnt_nil] at h1; omega) (by simp [cnt_nil] at h1; omega)
    have hz0 : inR .i64 0 := small_i64 (by omega) (by omega)
    refine acalls Tryz.func17 (by kernel_rfl) ac17_ok fun hf => ?_
    simp -implicitDefEqProofs [ac17, go_sem, -List.set_cons_succ, -List.set_cons_zero]
    refine loop_set (σ := Unit) (fun _ => [(5, .c (.d (.int .i64 0)))]) (fun _ => []) (fun _ => []) (fun _ => True) (fun _ => 0) () rfl trivial ?_
    intro _ _
    simp -implicitDefEqProofs [setAll, hz0, mTms_nil, cnt_nil, A.portT, A.portB, C.portB, D.leaf, go_sem, -List.set_cons_succ, -List.set_cons_zero]
  · obtain ⟨vs, hvl, hc, ht⟩ := strip_inv l _ _ hst
    obtain rfl := flatten_uniq hc (by rw [hlens, zip_lens hvl])
    subst ht
    obtain ⟨kk, hkk⟩ : ∃ kk : Nat → Int, ∀ j, kk j = k + 3 * (Tm.cnt (l.take j) : Int) := ⟨_, fun _ => rfl⟩
    have hvs : ∀ j (hj : j < l.length), vs[j]? = some (vs.getD j undef) := fun j hj => by simp [hvl, hj]
    obtain ⟨fr, hfr⟩ : ∃ fr : Nat → List D, ∀ j, fr j = srow (mTm (kk j) (l.getD j default)) (vs.getD j undef) := ⟨_, fun _ => rfl⟩
    obtain ⟨ft, hft⟩ : ∃ ft : Nat → Ob, ∀ j, ft j = ktree (mTm (kk j) (l.getD j default)) (vs.getD j undef) := ⟨_, fun _ => rfl⟩
    have hzl : (List.zipWith srow l vs).length = l.length := by simp [hvl]
    have hzt : (List.zipWith ktree l vs).length = l.length := by simp [hvl]
    refine acalls Tryz.func17 (by kernel_rfl) ac17_ok fun hf => ?_
    have hli : inR .i64 (l.length : Int) := small_i64 (by omega) (by omega)
    simp -implicitDefEqProofs [ac17, hli, go_sem, -List.set_cons_succ, -List.set_cons_zero]
    refine loop_set (σ := Nat) (fun i => [(5, .c (.d (.int .i64 i))), (1, .c (.d (.int .i64 (kk i))))]) (fun i => .rows (mixed fr (List.zipWith srow l vs) i) :: mixed ft (List.zipWith ktree l vs) i) (fun _ => []) (fun i => i ≤ l.length) (fun i => l.length - i) 0 (by simp [setAll, mixed_zero, hkk, cnt_nil]) (Nat.zero_le _) ?_
    intro i hi
    simp -implicitDefEqProofs [setAll, hli, go_sem, -List.set_cons_succ, -List.set_cons_zero]
    refine ⟨fun hlt => ⟨hlt, ?_⟩, fun hge => ?_⟩
    · have hs := cnt_take_sub l hlt
      have hki := hkk i
      have hlz : i < (List.zipWith srow l vs).length := by omega
      have hlt' : i < (List.zipWith ktree l vs).length := by omega
      have hlm : i < (mixed fr (List.zipWith srow l vs) i).length := by rw [mixed_len _ _ (by omega)]; exact hlz
      have hgs : ∀ r, ((mixed fr (List.zipWith srow l vs) i).set i r)[i]? = some r := fun r => List.getElem?_set_self hlm
      have hget : (mixed fr (List.zipWith srow l vs) i)[i]? = some [.int .i64 l[i].k, .int .i64 l[i].n, .str l[i].s, .v vs[i]] := by rw [mixed_get _ _ hlz]; simp [srow]
      have hgt : (mixed ft (List.zipWith ktree l vs) i)[i]? = some (.tree vs[i] (l[i].kids.map Tm.row)) := by rw [mixed_get _ _ hlt']; simp [ktree]
      have i0 : inR .i64 (kk i) := small_i64 (by omega) (by omega)
      have i1 : inR .i64 (kk i + 1) := small_i64 (by omega) (by omega)
      have i2 : inR .i64 (kk i + 1 + 1) := small_i64 (by omega) (by omega)
      have i3 : inR .i64 (kk i + 1 + 1 + 1) := small_i64 (by omega) (by omega)
      have hadd : inR .i64 ((i : Int) + 1) := small_i64 (by omega) (by omega)
      have hfx : ∀ rs, Obs.fits ((Ob.rows rs :: mixed ft (List.zipWith ktree l vs) i).length) 0 (Ob.rows rs :: mixed ft (List.zipWith ktree l vs) i) := fun rs => ⟨trivial, fits_trees (all_mixed (fun j => by rw [hft]; rfl) (zip_trees l vs))⟩
      simp -implicitDefEqProofs [hget, hgs, i0, i1, i2, i3, hadd, go_sem, -List.set_cons_succ, -List.set_cons_zero]
      refine ⟨hfx _, hlt, hfx _, qcall_pure (markText_calls _ (by omega)) (hfx _) rfl ?_⟩
      simp -implicitDefEqProofs [hget, hgs, hlt, i0, i1, i2, i3, hadd, go_sem, -List.set_cons_succ, -List.set_cons_zero]
      refine ⟨hfx _, call_ext (J := [i + 1]) (h l[i] (List.getElem_mem hlt) (kk i + 1 + 1 + 1) (by omega) (by omega) vs[i]) (fun r H' ⟨h1, h2⟩ => by subst h1; subst h2; exact ⟨⟨rfl, rfl⟩, rfl⟩) (by simp) (.cons (.c .d) (.cons (.c .d) .nil)) (by simp) (by simp [hgt]) rfl (hfx _) ?_⟩
      rintro _ _ ⟨rfl, rfl⟩
      simp -implicitDefEqProofs [putAll, hadd, go_sem, -List.set_cons_succ, -List.set_cons_zero]
      have hk1 : kk (i + 1) = kk i + 1 + 1 + 1 + 3 * (l[i].sub : Int) := by
        have := cnt_take_succ l hlt
        rw [hkk, hkk]; omega
      have hv : vs.getD i undef = vs[i] := by simp [hvl, hlt]
      have e1 := mixed_set fr (List.zipWith srow l vs) hlz
      have e2 := mixed_set ft (List.zipWith ktree l vs) hlt'
      have e3 : l.getD i default = l[i] := by simp [hlt]
      rw [hfr, e3, hv] at e1
      rw [hft, e3, hv] at e2
      have r1 : srow (mTm (kk i) l[i]) vs[i] = [.int .i64 (kk i), .int .i64 (kk i + 1), .str (mText (kk i + 1 + 1)), .v vs[i]] := by
        have := mTm_row (kk i) l[i]
        rw [row_eq] at this
        simp only [List.cons.injEq, D.int.injEq, D.str.injEq, D.sl.injEq, and_true, true_and] at this
        rw [srow, this.1, this.2.1, this.2.2.1, show kk i + 1 + 1 = kk i + 2 by omega]
      have r2 : ktree (mTm (kk i) l[i]) vs[i] = .tree vs[i] ((mTms (kk i + 1 + 1 + 1) l[i].kids).map Tm.row) := by
        have := mTm_row (kk i) l[i]
        rw [row_eq] at this
        simp only [List.cons.injEq, D.int.injEq, D.str.injEq, D.sl.injEq, and_true, true_and] at this
        rw [ktree, this.2.2.2, show kk i + 1 + 1 + 1 = kk i + 3 by omega]
      rw [r1] at e1
      rw [r2] at e2
      refine loop_back (i + 1) ?_ hlt (by show l.length - (i + 1) < l.length - i; omega)
      simp [setAll, hk1, ← e1, ← e2]
    · obtain rfl : i = l.length := by omega
      have e1 : mixed fr (List.zipWith srow l vs) l.length = List.zipWith srow (mTms k l) vs := by
        refine List.ext_getElem? fun j => ?_
        rw [mixed_get' _ _ (by omega)]
        by_cases hj : j < l.length
        · rw [if_pos hj, hfr, List.getElem?_zipWith, mTms_get k l j hj, hvs j hj, hkk]; simp [hj]
        · rw [if_neg hj, List.getElem?_eq_none (by omega), List.getElem?_eq_none (by simp [mTms_len]; omega)]
      have e2 : mixed ft (List.zipWith ktree l vs) l.length = List.zipWith ktree (mTms k l) vs := by
        refine List.ext_getElem? fun j => ?_
        rw [mixed_get' _ _ (by omega)]
        by_cases hj : j < l.length
        · rw [if_pos hj, hft, List.getElem?_zipWith, mTms_get k l j hj, hvs j hj, hkk]; simp [hj]
        · rw [if_neg hj, List.getElem?_eq_none (by omega), List.getElem?_eq_none (by simp [mTms_len]; omega)]
      have hml := mTms_len k l
      exact ⟨_, _, _, strip_terms (mTms k l) vs (by omega), by simp [hml], term_rows _, zip_lens (by omega), by simp [hml], ⟨e1, e2⟩, rfl, by rw [hkk, List.take_length], rfl⟩
theorem markT_calls : ∀ t : Tm, t.fits → MarkT t := by
  refine Tm.ind fun k n s l ih hfits a h0 h1 kv => ?_
  obtain ⟨_, _, _, hl, hkids⟩ := hfits
  rw [sub_mk] at h1 ⊢
  exact markTermS_of l hl (fun t ht => ih t ht (hkids t ht)) a h0 h1 kv
theorem markTermS_calls (l : List Tm) (hl : l.length ≤ 1048576) (h : ∀ t ∈ l, t.fits) (k : Int) (h0 : 0 ≤ k) (h1 : k + 3 * Tm.cnt l ≤ 500000000000000) (kv : Value) :
    ACalls Tryz.prog 17 [.c (.d (.v kv)), .c (.d (.int .i64 k))] [.tree kv (l.map Tm.row)]
    (fun r H' => H' = [.tree kv ((mTms k l).map Tm.row)] ∧ r = .c (.d (.int .i64 (k + 3 * Tm.cnt l)))) := markTermS_of l hl (fun t ht => markT_calls t (h t ht)) k h0 h1 kv
/-- marked kids are looked at -/
def HeldT (t : Tm) : Prop := ∀ (k : Int), 0 ≤ k → k + 3 * t.sub ≤ 500000000000000 → ∀ H, ACalls Tryz.prog 18 [.c (.d (.sl ((mTms k t.kids).map Tm.row))), .c (.d (.int .i64 k))] H
    (fun r H' => H' = H ∧ r = .c (.d (.int .i64 (k + 3 * t.sub))))
theorem heldTermS_of (l : List Tm) (hl : l.length ≤ 1048576) (h : ∀ t ∈ l, HeldT t) (k : Int) (h0 : 0 ≤ k) (h1 : k + 3 * Tm.cnt l ≤ 500000000000000) (H : Heap) :
    ACalls Tryz.prog 18 [.c (.d (.sl ((mTms k l).map Tm.row))), .c (.d (.int .i64 k))] H
    (fun r H' => H' = H ∧ r = .c (.d (.int .i64 (k + 3 * Tm.cnt l)))) := by
  refine acalls Tryz.func18 (by kernel_rfl) ac18_ok fun hf => ?_
  have hli : inR .i64 (l.length : Int) := small_i64 (by omega) (by omega)
  obtain ⟨kk, hkk⟩ : ∃ kk : Nat → Int, ∀ j, kk j = k + 3 * (Tm.cnt (l.take j) : Int) := ⟨_, fun _ => rfl⟩
  simp -implicitDefEqProofs [ac18, hli, mTms_len, go_sem, -List.set_cons_succ, -List.set_cons_zero]
  refine loop_set (σ := Nat) (fun i => [(5, .c (.d (.int .i64 i))), (1, .c (.d (.int .i64 (kk i))))]) (fun i => H) (fun _ => []) (fun i => i ≤ l.length) (fun i => l.length - i) 0 (by simp [setAll, hkk, cnt_nil]) (Nat.zero_le _) ?_
  intro i hi
  simp -implicitDefEqProofs [setAll, hli, mTms_len, go_sem, -List.set_cons_succ, -List.set_cons_zero]
  refine ⟨fun hlt => ?_, fun hge => ?_⟩
  · have hs := cnt_take_sub l hlt
    have hki := hkk i
    have hk1 : kk (i + 1) = kk i + 1 + 1 + 1 + 3 * (l[i].sub : Int) := by
      have := cnt_take_succ l hlt
      rw [hkk, hkk]; omega
    have i0 : inR .i64 (kk i) := small_i64 (by omega) (by omega)
    have i1 : inR .i64 (kk i + 1) := small_i64 (by omega) (by omega)
    have i2 : inR .i64 (kk i + 1 + 1) := small_i64 (by omega) (by omega)
    have i3 : inR .i64 (kk i + 1 + 1 + 1) := small_i64 (by omega) (by omega)
    have hadd : inR .i64 ((i : Int) + 1) := small_i64 (by omega) (by omega)
    have hrow : ((mTms k l).map Tm.row)[i]? = some [.int .i64 (kk i), .int .i64 (kk i + 1), .str (mText (kk i + 1 + 1)), .sl ((mTms (kk i + 1 + 1 + 1) l[i].kids).map Tm.row)] := by
      rw [List.getElem?_map, mTms_get k l i hlt, ← hkk, Option.map_some, mTm_row, show kk i + 1 + 1 + 1 = kk i + 3 by omega, show kk i + 1 + 1 = kk i + 2 by omega]
    have hp : ¬ (kk i + 1 + 1 + 1 + 3 * (l[i].sub : Int) < 0) := by omega
    refine row_nat _ hrow rfl ?_
    simp -implicitDefEqProofs [i0, i1, i2, i3, hadd, go_sem, -List.set_cons_succ, -List.set_cons_zero]
    refine row_nat _ hrow rfl ?_
    simp -implicitDefEqProofs [i0, i1, i2, i3, hadd, go_sem, -List.set_cons_succ, -List.set_cons_zero]
    refine row_nat _ hrow rfl ?_
    simp -implicitDefEqProofs [i0, i1, i2, i3, hadd, go_sem, -List.set_cons_succ, -List.set_cons_zero]
    refine qcall_pure (markText_calls _ (by omega)) hf rfl ?_
    simp -implicitDefEqProofs [i0, i1, i2, i3, hadd, go_sem, -List.set_cons_succ, -List.set_cons_zero]
    refine row_nat _ hrow rfl ?_
    simp -implicitDefEqProofs [i0, i1, i2, i3, hadd, go_sem, -List.set_cons_succ, -List.set_cons_zero]
    refine call_same (h l[i] (List.getElem_mem hlt) (kk i + 1 + 1 + 1) (by omega) (by omega) _) (by simp [Ob.re, C.re]) rfl hf ?_
    simp -implicitDefEqProofs [hp, hadd, go_sem, -List.set_cons_succ, -List.set_cons_zero]
    exact loop_back (i + 1) (by simp [setAll, hk1]) hlt (by show l.length - (i + 1) < l.length - i; omega)
  · obtain rfl : i = l.length := by omega
    rw [hkk, List.take_length]
theorem heldT_calls : ∀ t : Tm, t.fits → HeldT t := by
  refine Tm.ind fun k n s l ih hfits a h0 h1 H => ?_
  obtain ⟨_, _, _, hl, hkids⟩ := hfits
  rw [sub_mk] at h1 ⊢
  exact heldTermS_of l hl (fun t ht => ih t ht (hkids t ht)) a h0 h1 H
theorem heldTermS_calls (l : List Tm) (hl : l.length ≤ 1048576) (h : ∀ t ∈ l, t.fits) (k : Int) (h0 : 0 ≤ k) (h1 : k + 3 * Tm.cnt l ≤ 500000000000000) (H : Heap) :
    ACalls Tryz.prog 18 [.c (.d (.sl ((mTms k l).map Tm.row))), .c (.d (.int .i64 k))] H
    (fun r H' => H' = H ∧ r = .c (.d (.int .i64 (k + 3 * Tm.cnt l)))) := heldTermS_of l hl (fun t ht => heldT_calls t (h t ht)) k h0 h1 H
end Go.Proofs.YtbblefjbgbocoaaGreatDoor

/-
  Copies of terms that stand in arrays of their own.
  Conditions: none.
-/
open Go Go.AM Go.Proofs
namespace Go.Proofs.YtbblefjbgbocoaaGreatDoor
open Go.ChangeShapes Go.WideShapes Go.ChangeAt Go.RowKit
set_option linter.unusedVariables false
set_option linter.unusedSimpArgs false
set_option maxRecDepth 100000
namespace Own
end Own
/-- what is handed out: rows in an array of their own -/
def HandsRows (rows : List (List D)) (r : A) (H : Heap) : Prop := ∃ v : Value, r = .c (.d (.v v)) ∧ H = [.tree v rows]
theorem HandsRows.handed {rows : List (List D)} {r : A} {H : Heap} (h : HandsRows rows r H) : Handed r H := by
  obtain ⟨v, rfl, rfl⟩ := h
  exact ⟨rfl, rfl⟩
/-- .. a term -/
def HandsTm (t : Tm) (r : A) (H : Heap) : Prop := ∃ v : Value, r = .agg [.d (.int .i64 t.k), .d (.int .i64 t.n), .d (.str t.s), .d (.v v)] ∧ H = [.tree v (t.kids.map Tm.row)]
theorem HandsTm.handed {t : Tm} {r : A} {H : Heap} (h : HandsTm t r H) : Handed r H := by
  obtain ⟨v, rfl, rfl⟩ := h
  exact ⟨rfl, rfl⟩
end Go.Proofs.YtbblefjbgbocoaaGreatDoor

/-
  Lists made of terms that stand in arrays of their own: each pair is a new array, and all of them make one tree.
  Conditions: none.
-/
open Go Go.AM Go.Proofs
namespace Go.Proofs.YtbblefjbgbocoaaGreatDoor
open Go.ChangeShapes Go.WideShapes Go.ChangeAt Go.RowKit
set_option linter.unusedVariables false
set_option linter.unusedSimpArgs false
set_option maxRecDepth 100000
namespace Own
-- 241 loop.example/prologserver/impl.pair params 2 ntmps 9
def ac241 : Cd := .seq (.region [⟨(some 2),.box (.t 0),none⟩,
 ⟨(some 3),.box (.t 1),none⟩,
 ⟨(some 4),.alloc [(.d (.int .i64 0)),(.d (.int .i64 0)),(.d (.str [])),(.full [])],none⟩] [0,1])
 (.seq (.region [⟨(some 5),.load (some 4) (.t 2),none⟩,
 ⟨(some 6),.load (some 4) (.t 3),none⟩,
 ⟨(some 7),.buildSliceF 4 2 [(.int .i64 0),(.int .i64 0),(.str []),(.sl [])] [(0,(.t 5)),(1,(.t 6))],none⟩,
 ⟨(some 8),.build [(.d (.int .i64 0)),(.d (.int .i64 0)),(.d (.str [])),(.full [])] [(0,1,(.k (.c (.d (.int .i64 3))))),(2,1,(.k (.c (.d (.str [46]))))),(3,1,(.t 7))],none⟩,
 ⟨none,.store 4 (.t 4) (.t 8),none⟩] [2,3,5,6,7,8])
 (.ret))
theorem ac241_ok : cFunc Tryz.prog [13000005] [(0,[0,1],[]),(1,[2,3,5,6,7,8],[])] Tryz.f241 = some (ac241,[.cell 4 (some 4)],9) := by kernel_rfl
-- 235 loop.example/prologserver/impl.chain params 2 ntmps 20
-- loop head live: [0,3,4,5]
def ac235 : Cd := .seq (.region [⟨(some 3),.box (.t 1),none⟩,
 ⟨(some 4),.alloc [(.d (.int .i64 0)),(.d (.int .i64 0)),(.d (.str [])),(.full [])],none⟩] [1])
 (.seq (.seq (.region [⟨(some 6),.mv (.t 0),none⟩,
 ⟨(some 7),.len 1 (.t 6),none⟩,
 ⟨(some 8),.bin .sub (.t 7) (.k (.c (.d (.int .i64 1)))),none⟩,
 ⟨(some 5),.mv (.t 8),none⟩] [6,7,8])
 (.block 0 (.loop (.seq (.seq (.region [⟨(some 9),.mv (.t 5),none⟩,
 ⟨(some 10),.bin .geq (.t 9) (.k (.c (.d (.int .i64 0)))),none⟩] [9])
 (.cond (.t 10)
 (.skip)
 (.exit 0)))
 (.seq (.block 1 (.region [⟨(some 13),.mv (.t 0),none⟩,
 ⟨(some 14),.mv (.t 5),none⟩,
 ⟨(some 15),.indexAddr 4 (.t 13) (.t 14),none⟩,
 ⟨(some 16),.load (some 4) (.t 15),none⟩,
 ⟨(some 17),.load (some 4) (.t 3),none⟩,
 ⟨(some 18),.call false 241 [(.t 16),(.t 17)],none⟩,
 ⟨none,.store 4 (.t 3) (.t 18),none⟩] [10,13,14,15,16,17,18]))
 (.region [⟨(some 11),.mv (.t 5),none⟩,
 ⟨(some 12),.bin .sub (.t 11) (.k (.c (.d (.int .i64 1)))),none⟩,
 ⟨(some 5),.mv (.t 12),none⟩] [11,12]))))))
 (.seq (.region [⟨(some 19),.load (some 4) (.t 3),none⟩,
 ⟨none,.store 4 (.t 4) (.t 19),none⟩] [3,19])
 (.ret)))
theorem ac235_ok : cFunc Tryz.prog [] [(0,[1],[]),(1,[6,7,8],[]),(2,[9],[]),(4,[10,13,14,15,16,17,18],[0,1,2,3,4,5,6]),(3,[11,12],[]),(5,[3,19],[])] Tryz.f235 = some (ac235,[.cell 4 (some 4)],20) := by kernel_rfl
end Own
/-- a row of data that bear no memory -/
def leafR (r : List D) : Prop := r.length = 4 ∧ ∀ x ∈ r, x.leaf = true
theorem leafR_srow (t : Tm) (v : Value) : leafR (srow t v) := ⟨rfl, by simp [srow, D.leaf]⟩
def pairRow (y : Value) : List D := [.int .i64 3, .int .i64 0, .str [46], .v y]
theorem leafR_pair (y : Value) : leafR (pairRow y) := ⟨rfl, by simp [pairRow, D.leaf]⟩
theorem leafR4 {r : List D} (h : leafR r) : ∃ a b c d, r = [a, b, c, d] ∧ a.leaf = true ∧ b.leaf = true ∧ c.leaf = true ∧ d.leaf = true := by
  obtain ⟨h1, h2⟩ := h
  match r, h1 with
  | [a, b, c, d], _ => exact ⟨a, b, c, d, rfl, h2 a (by simp), h2 b (by simp), h2 c (by simp), h2 d (by simp)⟩
def PairH (a b : List D) (r : A) (H : Heap) : Prop := ∃ y : Value, r = .agg ((pairRow y).map .d) ∧ H = [.tree y [a, b]]
theorem PairH.handed {a b : List D} {r : A} {H : Heap} (h : PairH a b r H) : Handed r H := by
  obtain ⟨y, rfl, rfl⟩ := h
  exact ⟨rfl, rfl⟩
theorem pairOwn_calls (a b : List D) (ha : leafR a) (hb : leafR b) : ACalls Tryz.prog 241 [.agg (a.map .d), .agg (b.map .d)] [] (PairH a b) := by
  obtain ⟨a0, a1, a2, a3, rfl, i0, i1, i2, i3⟩ := leafR4 ha
  obtain ⟨b0, b1, b2, b3, rfl, j0, j1, j2, j3⟩ := leafR4 hb
  refine acallsG Tryz.func241 (by kernel_rfl) Own.ac241_ok fun hf => ?_
  simp -implicitDefEqProofs [Own.ac241, go_sem, -List.set_cons_succ, -List.set_cons_zero]
  refine finG_ret _ ⟨trivial, trivial⟩ ⟨rfl, fun i o o' h => by simp at h⟩ rfl fun kv => ?_
  refine ⟨_, _, _, [], [], .one (.agg (.cons (.leaf rfl) (.cons (.leaf rfl) (.cons (.leaf rfl) (.cons (.leafs (i := 3) rfl ?_) .nil))))), rfl, rfl, by simp, ⟨_, rfl, rfl⟩⟩
  simp [i0, i1, i2, i3, j0, j1, j2, j3]
/-- the pairs of a list: the rows, the tail's row, the arrays of the pairs, the row of the whole -/
inductive ChF : List (List D) → List D → Heap → List D → Prop
  | nil (u : List D) : ChF [] u [] u
  | cons {l : List (List D)} {u v r : List D} {F : Heap} (y : Value) : ChF l u F v → ChF (r :: l) u (F ++ [.tree y [r, v]]) (pairRow y)
theorem ChF.leaf {l : List (List D)} {u v : List D} {F : Heap} (h : ChF l u F v) (hu : leafR u) : leafR v ∧ F.all Ob.isTreeB = true := by
  induction h with
  | nil => exact ⟨hu, rfl⟩
  | cons y h ih => exact ⟨leafR_pair y, by rw [List.all_append, (ih hu).2]; rfl⟩
def ChainH (l : List (List D)) (u : List D) (r : A) (H : Heap) : Prop := ∃ v, ChF l u H v ∧ leafR v ∧ r = .agg (v.map .d)
theorem port_row {v : List D} (h : leafR v) : A.portB (.agg (v.map .d)) = true := by
  obtain ⟨a, b, c, d, rfl, i0, i1, i2, i3⟩ := leafR4 h
  simp [A.portB, C.portB, i0, i1, i2, i3]
theorem ChainH.handed {l : List (List D)} {u : List D} (hu : leafR u) {r : A} {H : Heap} (h : ChainH l u r H) : Handed r H := by
  obtain ⟨v, h1, h2, rfl⟩ := h
  exact ⟨by have := port_row h2; simpa [A.portT] using this, (h1.leaf hu).2⟩
theorem fz_agg {H : Heap} {J : List Nat} (r : List D) : FzA H J (.agg (r.map .d)) (.agg (r.map .d)) := .agg (fzCs_id r)
theorem trees_get (F : Heap) (l1 : Heap) : (List.range F.length).map (fun j => (l1 ++ F)[l1.length + j]?) = F.map some := by
  refine List.ext_getElem? fun i => ?_
  rw [List.getElem?_map, List.getElem?_map]
  by_cases hi : i < F.length
  · rw [List.getElem?_range hi, List.getElem?_eq_getElem hi]; simp [hi]
  · rw [List.getElem?_eq_none (by simp; omega), List.getElem?_eq_none (by omega)]; rfl
set_option maxHeartbeats 1600000 in
theorem chainOwn_calls (l : List (List D)) (hl : l.length ≤ 1048576) (hr : ∀ r ∈ l, leafR r) (u : List D) (hu : leafR u) : ACalls Tryz.prog 235 [.c (.d (.sl l)), .agg (u.map .d)] [] (ChainH l u) := by
  refine acallsG Tryz.func235 (by kernel_rfl) Own.ac235_ok fun hf => ?_
  have hli : inR .i64 (l.length : Int) := small_i64 (by omega) (by omega)
  have hli1 : inR .i64 ((l.length : Int) - 1) := small_i64 (by omega) (by omega)
  simp -implicitDefEqProofs [Own.ac235, hli, hli1, go_sem, -List.set_cons_succ, -List.set_cons_zero]
  refine loop_set (σ := Nat × List D × Heap) (fun x => [(5, .c (.d (.int .i64 ((x.1 : Int) - 1))))]) (fun _ => []) (fun x => [.cells (x.2.1.map .d), .cells [.d (.int .i64 0), .d (.int .i64 0), .d (.str []), .full []]] ++ x.2.2) (fun x => x.1 ≤ l.length ∧ ChF (l.drop x.1) u x.2.2 x.2.1) (fun x => x.1) (l.length, u, []) (by simp [setAll]) ⟨Nat.le_refl _, by simpa using ChF.nil u⟩ ?_
  rintro ⟨k, v, F⟩ ⟨hk, hch⟩
  simp only at hk hch
  obtain ⟨hv, hF⟩ := hch.leaf hu
  obtain ⟨v0, v1, v2, v3, rfl, i0, i1, i2, i3⟩ := leafR4 hv
  simp -implicitDefEqProofs [setAll, go_sem, -List.set_cons_succ, -List.set_cons_zero]
  refine ⟨fun hge => ?_, fun hlt => ?_⟩
  · obtain ⟨k, rfl⟩ : ∃ m, k = m + 1 := ⟨k - 1, by omega⟩
    have hlt : k < l.length := by omega
    have e1 : ((k + 1 : Nat) : Int) - 1 = (k : Int) := by omega
    have hli2 : inR .i64 ((k : Int) - 1) := small_i64 (by omega) (by omega)
    have hrk := hr l[k] (List.getElem_mem hlt)
    obtain ⟨r0, r1, r2, r3, hek, m0, m1, m2, m3⟩ := leafR4 hrk
    simp -implicitDefEqProofs [go_sem, -List.set_cons_succ, -List.set_cons_zero]
    refine row_int [r0, r1, r2, r3] (by omega) (by rw [← hek]; simp) rfl ?_
    simp -implicitDefEqProofs [go_sem, -List.set_cons_succ, -List.set_cons_zero]
    refine call_none (pairOwn_calls [r0, r1, r2, r3] [v0, v1, v2, v3] (hek ▸ hrk) hv) (fun r H' h => h.handed) (by simp [Ob.re, C.re, trees_re hF]) (.cons (fz_agg [r0, r1, r2, r3]) (.cons (fz_agg [v0, v1, v2, v3]) .nil)) hf ?_
    rintro _ _ ⟨y, rfl, rfl⟩
    simp -implicitDefEqProofs [pairRow, e1, hli2, go_sem, -List.set_cons_succ, -List.set_cons_zero]
    refine loop_back (k, pairRow y, F ++ [.tree y [[r0, r1, r2, r3], [v0, v1, v2, v3]]]) (by simp [setAll, pairRow]) ⟨by show k ≤ l.length; omega, ?_⟩ (by show k < k + 1; omega)
    show ChF (l.drop k) u _ _
    rw [List.drop_eq_getElem_cons hlt, hek]
    exact .cons y hch
  · obtain rfl : k = 0 := by omega
    have hg := trees_get F [.cells [.d v0, .d v1, .d v2, .d v3], .cells [.d v0, .d v1, .d v2, .d v3]]
    simp -implicitDefEqProofs [go_sem, -List.set_cons_succ, -List.set_cons_zero]
    refine finG_ret _ ⟨trivial, trivial⟩ ⟨rfl, fun i o o' h => by simp at h⟩ rfl fun kv => ?_
    refine ⟨_, [], [], F, (List.range F.length).map (fun j => 2 + j), .one (.agg (.cons (.leaf i0) (.cons (.leaf i1) (.cons (.leaf i2) (.cons (.leaf i3) .nil))))), ?_, hF, ?_, ⟨_, by simpa using hch, hv, rfl⟩⟩
    · rw [List.map_map]; exact hg
    · rw [List.append_nil]
      exact List.Pairwise.map _ (fun a b h e => h (by omega)) List.nodup_range
/-! ## one tree -/
theorem strip_two (t u : Tm) (x y : Value) : Strip ([t.row, u.row] : List (List D)).flatten ([srow t x, srow u y] : List (List D)).flatten [ktree t x, ktree u y] := by
  have := strip_terms [t, u] [x, y] rfl
  simpa using this
/-- the pairs and the elements make one tree -/
theorem chain_regroup (t : Tm) (x : Value) : ∀ (ts : List Tm) (vs : List Value), vs.length = ts.length → ∀ (F : Heap) (v : List D), ChF (List.zipWith srow ts vs) (srow t x) F v →
    ∃ y, v = srow (chainT ts t) y ∧ Regroup (List.zipWith ktree ts vs ++ (ktree t x :: F)) [ktree (chainT ts t) y]
  | [], vs, hl, F, v, h => by
    obtain rfl : vs = [] := by simpa using hl
    cases h
    exact ⟨x, rfl, .refl rfl⟩
  | a :: ts, [], hl, _, _, _ => by simp at hl
  | a :: ts, b :: vs, hl, F, v, h => by
    simp only [List.zipWith_cons_cons] at h
    cases h with
    | @cons _ _ w _ F' y h =>
      obtain ⟨z, rfl, hg⟩ := chain_regroup t x ts vs (by simpa using hl) F' w h
      refine ⟨y, by rw [chainT]; rfl, ?_⟩
      have h1 : Regroup ([ktree a b] ++ (List.zipWith ktree ts vs ++ (ktree t x :: F')) ++ [.tree y [srow a b, srow (chainT ts t) z]]) ([ktree a b] ++ [ktree (chainT ts t) z] ++ [.tree y [srow a b, srow (chainT ts t) z]]) := by
        have hall : (List.zipWith ktree ts vs ++ (ktree t x :: F')).all Ob.isTreeB = true := by
          rw [List.all_append, List.all_cons, (h.leaf (leafR_srow t x)).2]
          have : (List.zipWith ktree ts vs).all Ob.isTreeB = true := by
            rw [List.all_eq_true]
            intro o ho
            obtain ⟨i, hi⟩ := List.mem_iff_getElem?.1 ho
            rw [List.getElem?_zipWith] at hi
            split at hi
            · cases hi; rfl
            · cases hi
          rw [this]; rfl
        refine Regroup.app ?_ rfl (Regroup.app rfl hall (.refl rfl) hg) (.refl rfl)
        rw [List.all_append, hall]; rfl
      have h2 : Regroup ([ktree a b, ktree (chainT ts t) z] ++ [.tree y [srow a b, srow (chainT ts t) z]]) [.tree y [a.row, (chainT ts t).row]] :=
        Regroup.join (by
          intro d hd
          rcases List.mem_flatten.1 hd with ⟨r, hr, hd⟩
          simp at hr
          rcases hr with rfl | rfl
          · exact (leafR_srow _ _).2 d hd
          · exact (leafR_srow _ _).2 d hd) (strip_two _ _ _ _) (by simp [row_len, srow])
      have h3 := h1.trans h2
      have e : List.zipWith ktree (a :: ts) (b :: vs) ++ (ktree t x :: (F' ++ [.tree y [srow a b, srow (chainT ts t) z]])) = [ktree a b] ++ (List.zipWith ktree ts vs ++ (ktree t x :: F')) ++ [.tree y [srow a b, srow (chainT ts t) z]] := by simp
      rw [e]
      have e2 : ktree (chainT (a :: ts) t) y = .tree y [a.row, (chainT ts t).row] := by rw [chainT]; rfl
      rw [e2]
      exact h3
end Go.Proofs.YtbblefjbgbocoaaGreatDoor

/-
  The program's reader hands out terms that stand in arrays of their own: what is said of its functions, and terms with operators.
  Conditions: none.
-/
open Go Go.AM Go.Proofs
namespace Go.Proofs.YtbblefjbgbocoaaGreatDoor
open Go.ChangeShapes Go.WideShapes Go.ChangeAt Go.RowKit
set_option linter.unusedVariables false
set_option linter.unusedSimpArgs false
set_option maxRecDepth 100000
namespace Own
-- 109 (*loop.example/prologserver/impl.reader).term params 3 ntmps 58
-- loop head live: [0,1,2,6,7,8]
def ac109 : Cd := .seq (.region [⟨(some 6),.alloc [(.d (.int .i64 0)),(.d (.int .i64 0)),(.d (.str [])),(.full [])],none⟩] [])
 (.seq (.region [⟨(some 13),.mv (.t 0),none⟩,
 ⟨(some 14),.mv (.t 2),none⟩,
 ⟨(some 15),.call false 168 [(.t 13),(.t 14)],none⟩,
 ⟨(some 7),.alloc [(.d (.int .i64 0)),(.d (.int .i64 0)),(.d (.str [])),(.full [])],none⟩,
 ⟨none,.store 4 (.t 7) (.t 15),none⟩] [13,14,15])
 (.seq (.region [⟨(some 8),.mv (.k (.c (.d (.int .i64 0)))),none⟩] [])
 (.block 0 (.loop (.block 1 (.seq (.weak (.region [⟨(some 16),.mv (.t 0),none⟩,
 ⟨(some 17),.call false 169 [(.t 16)],none⟩,
 ⟨(some 9),.mv (.t 17),none⟩] [16,17]))
 (.seq (.region [⟨(some 19),.mv (.t 9),none⟩,
 ⟨(some 20),.qcall 170 [(.t 19)],none⟩,
 ⟨(some 18),.mv (.t 20),none⟩,
 ⟨(some 21),.extract 0 (.t 18),none⟩,
 ⟨(some 22),.extract 1 (.t 18),none⟩,
 ⟨(some 10),.mv (.t 21),none⟩,
 ⟨(some 11),.mv (.t 22),none⟩] [11,18,19,20,21,22])
 (.seq (.seq (.region [⟨(some 23),.mv (.t 9),none⟩,
 ⟨(some 24),.bin .eql (.t 23) (.k (.c (.d (.str [])))),none⟩,
 ⟨(some 25),.mv (.t 24),none⟩,
 ⟨(some 26),.mv (.t 10),some (25,false)⟩,
 ⟨(some 27),.mv (.t 1),some (25,false)⟩,
 ⟨(some 28),.bin .gtr (.t 26) (.t 27),some (25,false)⟩,
 ⟨(some 29),.pick (.t 25) (.k (.c (.d (.bool true)))) (.t 28),none⟩,
 ⟨(some 30),.mv (.t 29),none⟩,
 ⟨(some 31),.mv (.t 8),some (30,false)⟩,
 ⟨(some 32),.mv (.t 9),some (30,false)⟩,
 ⟨(some 33),.qcall 171 [(.t 32)],some (30,false)⟩,
 ⟨(some 34),.bin .gtr (.t 31) (.t 33),some (30,false)⟩,
 ⟨(some 35),.pick (.t 30) (.k (.c (.d (.bool true)))) (.t 34),none⟩] [8,23,24,25,26,27,28,29,30,31,32,33,34])
 (.cond (.t 35)
 (.seq (.region [⟨(some 36),.load (some 4) (.t 7),none⟩,
 ⟨none,.store 4 (.t 6) (.t 36),none⟩] [0,1,2,7,9,10,35,36])
 (.ret))
 (.skip)))
 (.seq (.region [⟨(some 37),.mv (.t 0),none⟩,
 ⟨(some 38),.nilCheck (.t 37),none⟩,
 ⟨(some 39),.fieldAddr 1 (.t 38),none⟩,
 ⟨(some 41),.mv (.t 9),none⟩,
 ⟨(some 40),.load none (.t 39),none⟩,
 ⟨(some 42),.qcall 172 [(.t 41)],none⟩,
 ⟨(some 43),.len 0 (.t 42),none⟩,
 ⟨(some 44),.bin .add (.t 40) (.t 43),none⟩,
 ⟨(some 45),.nilCheck (.t 37),none⟩,
 ⟨(some 46),.fieldAddr 1 (.t 45),none⟩,
 ⟨none,.store 1 (.t 46) (.t 44),none⟩] [35,37,38,39,40,41,42,43,44,45,46])
 (.seq (.region [⟨(some 47),.mv (.t 0),none⟩,
 ⟨(some 48),.mv (.t 10),none⟩,
 ⟨(some 49),.bin .sub (.t 48) (.k (.c (.d (.int .i64 1)))),none⟩,
 ⟨(some 50),.mv (.t 2),none⟩,
 ⟨(some 51),.call false 109 [(.t 47),(.t 49),(.t 50)],none⟩,
 ⟨(some 12),.alloc [(.d (.int .i64 0)),(.d (.int .i64 0)),(.d (.str [])),(.full [])],none⟩,
 ⟨none,.store 4 (.t 12) (.t 51),none⟩] [47,48,49,50,51])
 (.region [⟨(some 52),.mv (.t 9),none⟩,
 ⟨(some 53),.load (some 4) (.t 7),none⟩,
 ⟨(some 54),.load (some 4) (.t 12),none⟩,
 ⟨(some 55),.buildSliceF 4 2 [(.int .i64 0),(.int .i64 0),(.str []),(.sl [])] [(0,(.t 53)),(1,(.t 54))],none⟩,
 ⟨(some 56),.build [(.d (.int .i64 0)),(.d (.int .i64 0)),(.d (.str [])),(.full [])] [(0,1,(.k (.c (.d (.int .i64 3))))),(2,1,(.t 52)),(3,1,(.t 55))],none⟩,
 ⟨(some 57),.mv (.t 10),none⟩,
 ⟨none,.store 4 (.t 7) (.t 56),none⟩,
 ⟨(some 8),.mv (.t 57),none⟩] [9,10,12,52,53,54,55,56,57])))))))))))
theorem ac109_ok : cFunc Tryz.prog [1000170,1000171,1000172,13000053,4000003] [(0,[],[]),(1,[13,14,15],[]),(2,[],[]),(3,[16,17],[]),(4,[11,18,19,20,21,22],[]),(5,[8,23,24,25,26,27,28,29,30,31,32,33,34],[]),(6,[0,1,2,7,9,10,35,36],[]),(7,[35,37,38,39,40,41,42,43,44,45,46],[0,1,2,4,3,5,6,7,8,9,10]),(8,[47,48,49,50,51],[]),(9,[9,10,12,52,53,54,55,56,57],[])] Tryz.f109 = some (ac109,[.cell 6 (some 4)],58) := by kernel_rfl
-- 213 (*loop.example/prologserver/impl.reader).part params 2 ntmps 15
def ac213 : Cd := .seq (.region [⟨(some 4),.alloc [(.d (.int .i64 0)),(.d (.int .i64 0)),(.d (.str [])),(.full [])],none⟩] [])
 (.seq (.seq (.region [⟨(some 5),.mv (.t 0),none⟩,
 ⟨(some 6),.nilCheck (.t 5),none⟩,
 ⟨(some 7),.fieldAddr 3 (.t 6),none⟩,
 ⟨(some 8),.load none (.t 7),none⟩] [5,6,7])
 (.cond (.t 8)
 (.seq (.region [⟨(some 9),.mv (.t 0),none⟩,
 ⟨(some 10),.mv (.t 1),none⟩,
 ⟨(some 11),.call false 109 [(.t 9),(.k (.c (.d (.int .i64 3)))),(.t 10)],none⟩,
 ⟨none,.store 4 (.t 4) (.t 11),none⟩] [0,1,8,9,10,11])
 (.ret))
 (.skip)))
 (.seq (.region [⟨(some 12),.mv (.t 0),none⟩,
 ⟨(some 13),.mv (.t 1),none⟩,
 ⟨(some 14),.call false 168 [(.t 12),(.t 13)],none⟩,
 ⟨none,.store 4 (.t 4) (.t 14),none⟩] [0,1,8,12,13,14])
 (.ret)))
theorem ac213_ok : cFunc Tryz.prog [] [(0,[],[]),(1,[5,6,7],[]),(2,[0,1,8,9,10,11],[]),(3,[0,1,8,12,13,14],[])] Tryz.f213 = some (ac213,[.cell 4 (some 4)],15) := by kernel_rfl
end Own
/-- what a reader's function gives for a result, and where it stops -/
def RPo (s : List UInt8) (r : Rs) (t : Tm) (a : Nat) (b : Int) : Prop := t.fits ∧ match r with
  | .ok ts k => t = Rs.tm ts ∧ a = k ∧ b = -1
  | .bad e => a ≤ s.length ∧ b = e
def RQo (H : Heap) (i : Nat) (s : List UInt8) (r : Rs) (v : A) (H' : Heap) : Prop := ∃ t x a b, RPo s r t a b ∧ v = .agg ((srow t x).map .d) ∧ H' = ro H i s a b ++ [ktree t x]
def Rdo (f : FuncId) (xs : List A) (s : List UInt8) (a : Nat) (r : Rs) : Prop := ∀ (H : Heap) (i : Nat), Hp H → H.all Ob.tellB = true → 2 ≤ i → i < H.length → ACalls Tryz.prog f (.c (.ptr (.e i) 0) :: xs) (ro H i s a (-1)) (RQo H i s r)
theorem ro_tell {H : Heap} (h : H.all Ob.tellB = true) (i : Nat) (s : List UInt8) (a : Nat) (b : Int) : (ro H i s a b).all Ob.tellB = true := by
  rw [List.all_eq_true] at h ⊢
  intro o ho
  rcases List.mem_or_eq_of_mem_set ho with ho | rfl
  · exact h o ho
  · rfl
theorem ro_goes {H : Heap} (h : H.all Ob.tellB = true) (i : Nat) (s : List UInt8) (a a' : Nat) (b b' : Int) (hi : i < H.length) : Goes (ro H i s a b) (ro H i s a' b') := by
  have e : ro H i s a' b' = (ro H i s a b).set i (rdO s a' b') := by simp [ro]
  rw [e]
  refine Goes.set (tells_free (ro_tell h i s a b)) i fun o ho => ?_
  rw [ro_get hi] at ho
  cases ho
  rfl
theorem port_srow (t : Tm) (x : Value) : A.portB (.agg ((srow t x).map .d)) = true := port_row (leafR_srow t x)
theorem call_rdo {f : FuncId} {xs : List A} {s : List UInt8} {a : Nat} {r : Rs} (hd : Rdo f xs s a r) (hxs : xs.all A.portB = true) {H : Heap} {i : Nat} {sl : List A} {loc H₂ : Heap} {K : A → St → Prop} (hp : Hp H) (ht : H.all Ob.tellB = true) (h2 : 2 ≤ i) (hi : i < H.length)
    (hH : H₂ = ro H i s a (-1) ++ loc.map (Ob.re H.length)) (hf : Obs.fits H.length 0 (ro H i s a (-1))) (hk : ∀ t x a' b', RPo s r t a' b' → K (.agg ((srow t x).map .d)) ⟨sl, ro H i s a' b', loc ++ [ktree t x]⟩) :
    ACalls Tryz.prog f (.c (.ptr (.e i) 0) :: xs) H₂ (CallK K ⟨sl, ro H i s a (-1), loc⟩) := by
  refine call_head (by rw [ro_len]; exact hi) hxs (ro_tell ht i s a _) (by rw [ro_len]; exact hf) (hd H i hp ht h2 hi) (fun r' H' ⟨t, x, a', b', h1, h3, h4⟩ => ⟨?_, _, _, h4, ro_goes ht i s a a' _ b' hi, rfl⟩) (by rw [ro_len]; exact hH) (fun r' E L ⟨t, x, a', b', h1, h3, h4⟩ hg hl => ?_)
  · rw [h3]; have := port_srow t x; simpa [A.portT] using this
  · obtain ⟨rfl, rfl⟩ := List.append_inj h4 (by rw [hg.1, ro_len, ro_len])
    rw [h3]
    exact ⟨hk t x a' b' h1, by rw [ro_len]; exact ro_fits hf⟩
/-- a term that is told by its tree is handed out -/
theorem fin_tok {H : Heap} {rs : List Rv} {Q : A → Heap → Prop} {st : St} {t : Tm} {x : Value} (j : Nat) (hok : r_ st rs) (hg : Goes H st.ext) (hr : resRaw st rs = some (.agg ((srow t x).map .d))) (hj : st.loc[j]? = some (ktree t x))
    (hq : Q (.agg ((srow t x).map .d)) (st.ext ++ [ktree t x])) : FinG H rs Q .ret st :=
  finG_ret _ hok hg hr fun kv => ⟨_, [], [], [ktree t x], [j], .one (.agg (.cons (.leaf rfl) (.cons (.leaf rfl) (.cons (.leaf rfl) (.cons (.leaf rfl) .nil))))), by simp [hj], rfl, by simp, hq⟩
/-- .. and one without arguments -/
theorem fin_nil {H : Heap} {rs : List Rv} {Q : A → Heap → Prop} {st : St} {t : Tm} (hk : t.kids = []) (hok : r_ st rs) (hg : Goes H st.ext) (hr : resRaw st rs = some (.agg (t.row.map .d)))
    (hq : ∀ x, Q (.agg ((srow t x).map .d)) (st.ext ++ [ktree t x])) : FinG H rs Q .ret st := by
  obtain ⟨k, n, s, l⟩ := t
  obtain rfl : l = [] := hk
  exact finG_ret _ hok hg hr fun kv => ⟨_, _, _, [], [], .one (.agg (.cons (.leaf rfl) (.cons (.leaf rfl) (.cons (.leaf rfl) (.cons .nil .nil))))), rfl, rfl, by simp, hq _⟩
/-- the reader's functions at so many steps -/
structure Pro (s : List UInt8) (f : Nat) : Prop where
  term : ∀ (l d a : Nat) (r : Rs), a ≤ s.length → l ≤ 3 → d ≤ 2000000 → rp s f (.term l d a) = some r → Rdo 109 [.c (.d (.int .i64 l)), .c (.d (.int .i64 d))] s a r
  prime : ∀ (d a : Nat) (r : Rs), a ≤ s.length → d ≤ 2000000 → rp s f (.prime d a) = some r → Rdo 168 [.c (.d (.int .i64 d))] s a r
theorem rqo_ok {H : Heap} {i : Nat} {s : List UInt8} {t : Tm} {k : Nat} {x : Value} (ht : t.fits) : RQo H i s (.ok [t] k) (.agg ((srow t x).map .d)) (ro H i s k (-1) ++ [ktree t x]) := ⟨t, x, k, -1, ⟨ht, rfl, rfl, rfl⟩, rfl, rfl⟩
theorem rqo_bad {H : Heap} {i : Nat} {s : List UInt8} {t : Tm} {a e : Nat} {x : Value} (ht : t.fits) (ha : a ≤ s.length) : RQo H i s (.bad e) (.agg ((srow t x).map .d)) (ro H i s a e ++ [ktree t x]) := ⟨t, x, a, e, ⟨ht, ha, rfl⟩, rfl, rfl⟩
section
variable {s : List UInt8} (hs : s.length ≤ 1000000) {f : Nat}
include hs
omit hs in
theorem partO_of (h : Pro s f) (d a : Nat) (r : Rs) (ha : a ≤ s.length) (hd : d ≤ 2000000) (hr : rp s f (.term 3 d a) = some r) : Rdo 213 [.c (.d (.int .i64 d))] s a r := fun H i hp htl h2 hi => by
  refine acallsG Tryz.func213 (by kernel_rfl) Own.ac213_ok fun hf => ?_
  rw [ro_len] at hf
  have hf1 := fun a' b' => ro_fits (s' := s) (a' := a') (b' := b') hf
  have hfr : ∀ a' b', Obs.fits (ro H i s a' b').length 0 (ro H i s a' b') := fun a' b' => by rw [ro_len]; exact hf1 a' b'
  have c1 := h.term 3 d a r ha (by omega) hd hr
  simp -implicitDefEqProofs [Own.ac213, ro_get hi, ro_len, Ref.re, go_sem, -List.set_cons_succ, -List.set_cons_zero]
  refine call_rdo c1 (by simp [A.portB, C.portB, D.leaf]) hp htl h2 hi (by simp [Ob.re, C.re]) hf ?_
  rintro t x a' b' hm
  simp -implicitDefEqProofs [srow, ro_len, hfr, go_sem, -List.set_cons_succ, -List.set_cons_zero]
  exact ⟨hf1 _ _, fin_tok 1 ⟨trivial, trivial⟩ (ro_goes htl i s a a' _ b' hi) rfl rfl ⟨t, x, a', b', hm, rfl, rfl⟩⟩
omit hs in
theorem strip_srow (t u : Tm) (x y : Value) : Strip ([t.row, u.row] : List (List D)).flatten ([srow t x, srow u y] : List (List D)).flatten [ktree t x, ktree u y] := strip_two t u x y
/-- what a cell says of its term's array -/
def Cv (t : Tm) (c : C) (l2 : Heap) : Prop := ∀ v, ∃ I, OutC (l2.map Ob.lf) v (c.down 2) (.d (.v v)) [ktree t v] I ∧ I.Nodup ∧ ∀ j ∈ I, ∃ o, l2[j]? = some o ∧ o.isRT = true
omit hs in
theorem cv_tok (t : Tm) (x : Value) : Cv t (.d (.v x)) [ktree t x] := fun v => ⟨[0], .tree rfl, by simp, fun j hj => by
  rw [List.mem_singleton.1 hj]; exact ⟨_, rfl, rfl⟩⟩
omit hs in
theorem cv_two (n : List UInt8) (t u : Tm) (x y : Value) (cs : List C) : Cv (.mk 3 0 n [t, u]) (.fsl (.l 5) 2 4) [ktree t x, ktree u y, .cells cs, .rows [srow t x, srow u y]] := fun v => by
  refine ⟨[3, 0, 1], .fsl (i := 3) (rows := [srow t x, srow u y]) (trs := [ktree t x, ktree u y]) (js := [0, 1]) rfl (strip_srow t u x y) (by simp [Tm.kids, row_len, srow]) (fun m hm => ?_), by simp, fun j hj => ?_⟩
  · match m, hm with
    | 0, _ => exact ⟨0, rfl, rfl⟩
    | 1, _ => exact ⟨1, rfl, rfl⟩
  · simp at hj
    rcases hj with rfl | rfl | rfl
    · exact ⟨_, rfl, rfl⟩
    · exact ⟨_, rfl, rfl⟩
    · exact ⟨_, rfl, rfl⟩
omit hs in
theorem slR_of_get {ks : List Nat} : ∀ {l r : List A}, l.length = r.length → (∀ (i : Nat) a b, l[i]? = some a → r[i]? = some b → A.le a (b.ren ks)) → SlR ks l r
  | [], [], _, _ => trivial
  | [], _ :: _, h, _ => by simp at h
  | _ :: _, [], h, _ => by simp at h
  | a :: l, b :: r, h, hg => ⟨hg 0 a b rfl rfl, slR_of_get (by simpa using h) fun i a b h1 h2 => hg (i + 1) a b (by simpa using h1) (by simpa using h2)⟩
omit hs in
theorem ren_low {n : Nat} {ks : List Nat} (h0 : ks[0]? = some 0) : (∀ r : Ref, r.lo n 1 → r.ren ks = r) := fun r hr => by
  cases r with
  | e b => rfl
  | l i =>
    have : i = 0 := by have : i < 1 := hr; omega
    subst this
    simp [Ref.ren, List.getD, h0]
omit hs in
theorem cren_low {n : Nat} {ks : List Nat} (h0 : ks[0]? = some 0) {c : C} (h : c.lo n 1) : c.ren ks = c := by
  have hr := ren_low (n := n) h0
  cases c <;> simp only [C.ren, C.lo] at h ⊢ <;> first | rfl | (rw [hr _ h]) | skip
  rename_i f caps
  congr 1
  conv => rhs; rw [← List.map_id caps]
  exact List.map_congr_left fun x hx => by rw [hr _ (h x hx)]; rfl
omit hs in
theorem csren_low {n : Nat} {ks : List Nat} (h0 : ks[0]? = some 0) : ∀ {cs : List C}, Cs.lo n 1 cs → cs.map (C.ren ks) = cs
  | [], _ => rfl
  | c :: l, h => by rw [List.map_cons, cren_low h0 h.1, csren_low h0 h.2]
omit hs in
mutual
theorem aren_low {n : Nat} {ks : List Nat} (h0 : ks[0]? = some 0) : ∀ {a : A}, a.lo n 1 → a.ren ks = a
  | .u, _ => rfl
  | .c x, h => by rw [A.ren, cren_low h0 h]
  | .agg cs, h => by rw [A.ren, csren_low h0 h]
  | .tup vs, h => by rw [A.ren, asren_low h0 h]
  | .gd g x, h => by
    have := aren_low h0 (a := x) h
    simp only [A.ren, this]
theorem asren_low {n : Nat} {ks : List Nat} (h0 : ks[0]? = some 0) : ∀ {l : List A}, As.lo n 1 l → A.rens ks l = l
  | [], _ => rfl
  | a :: l, h => by rw [A.rens, aren_low h0 h.1, asren_low h0 h.2]
end
omit hs in
theorem aslo_up {n m m' : Nat} (h : m ≤ m') : ∀ {c : C}, c.lo n m → c.lo n m' := fun {c} hc => by
  have hr : ∀ r : Ref, r.lo n m → r.lo n m' := fun r hr => by
    cases r with
    | e b => exact hr
    | l i => have : i < m := hr; show i < m'; omega
  cases c <;> first | exact hr _ hc | trivial | exact fun x hx => hr _ (hc x hx)
omit hs in
theorem cslo_up {n m m' : Nat} (h : m ≤ m') : ∀ {cs : List C}, Cs.lo n m cs → Cs.lo n m' cs
  | [], _ => trivial
  | c :: l, hc => ⟨aslo_up h hc.1, cslo_up h hc.2⟩
omit hs in
mutual
theorem alo_up {n m m' : Nat} (h : m ≤ m') : ∀ {a : A}, a.lo n m → a.lo n m'
  | .u, _ => trivial
  | .c x, hc => aslo_up h hc
  | .agg cs, hc => cslo_up h hc
  | .tup vs, hc => alos_up h hc
  | .gd g x, hc => alo_up h (a := x) hc
theorem alos_up {n m m' : Nat} (h : m ≤ m') : ∀ {l : List A}, As.lo n m l → As.lo n m' l
  | [], _ => trivial
  | a :: l, hc => ⟨alo_up h hc.1, alos_up h hc.2⟩
end
omit hs in
/-- a tree is put behind the cells -/
theorem le_swap {sl : List A} {ext : Heap} {c1 c2 : List C} {v : Value} {d : List (List D)} (p : Nat) (hp : sl[p]? = some (.c (.ptr (.l 2) 0))) (hlo : As.lo ext.length 1 (sl.set p .u)) (h1 : Cs.lo ext.length 1 c1) (h2 : Cs.lo ext.length 1 c2) :
    St.le ⟨sl, ext, [.cells c1, .tree v d, .cells c2]⟩ ⟨sl.set p (.c (.ptr (.l 1) 0)), ext, [.cells c1, .cells c2, .tree v d]⟩ := by
  have hplt := (List.getElem?_eq_some_iff.1 hp).1
  refine St.le_keep [0, 2, 1] (by decide) (by simp) rfl (slR_of_get (by simp) fun i a b ha hb => ?_) ?_ (fun j o ho => ?_) ⟨cslo_up (by simp) h1, cslo_up (by simp) h2, trivial, trivial⟩
  · by_cases hip : i = p
    · subst hip
      rw [hp] at ha
      rw [List.getElem?_set_self hplt] at hb
      cases ha; cases hb
      exact .refl _
    · rw [List.getElem?_set_ne (by omega)] at hb
      rw [ha] at hb; cases hb
      have : (sl.set p .u)[i]? = some a := by rw [List.getElem?_set_ne (by omega)]; exact ha
      rw [aren_low (n := ext.length) rfl (As_lo_get hlo this)]
      exact .refl _
  · have : ∀ (l : List A) (p : Nat), As.lo ext.length 3 (l.set p .u) → As.lo ext.length 3 (l.set p (.c (.ptr (.l 1) 0))) := by
      intro l
      induction l with
      | nil => intro p h; exact h
      | cons a l ih =>
        intro p h
        cases p with
        | zero => exact ⟨show (1 : Nat) < 3 by decide, h.2⟩
        | succ p => exact ⟨h.1, ih p h.2⟩
    exact this sl p (alos_up (by decide) hlo)
  · match j with
    | 0 => simp at ho; subst ho; exact ⟨_, rfl, by rw [Ob.ren, csren_low (n := ext.length) rfl h1]; exact .refl _⟩
    | 1 => simp at ho; subst ho; exact ⟨_, rfl, by rw [Ob.ren, csren_low (n := ext.length) rfl h2]; exact .refl _⟩
    | 2 => simp at ho; subst ho; exact ⟨_, rfl, .refl _⟩
    | j + 3 => simp at ho
omit hs in
/-- the cell's array becomes a tree -/
theorem weak_cv {P : Program} {F : Ex → St → Prop} {fs : List Fr} {cd : Cd} {sl : List A} {ext : Heap} {z : Ob} {t : Tm} {c : C} {l2 : Heap} (hcv : Cv t c l2) (hsl : As.lo ext.length 2 sl) (hz : Ob.lo ext.length 2 z)
    (h' : ∀ v, aw P cd (kq P F fs) ⟨sl, ext, [z, .cells [.d (.int .i64 t.k), .d (.int .i64 t.n), .d (.str t.s), .d (.v v)], ktree t v]⟩) : aw P (.weak cd) (kq P F fs) ⟨sl, ext, z :: .cells [.d (.int .i64 t.k), .d (.int .i64 t.n), .d (.str t.s), c] :: l2⟩ :=
  weak_to (fun st' => ∃ v, st' = ⟨sl, ext, [z, .cells [.d (.int .i64 t.k), .d (.int .i64 t.n), .d (.str t.s), .d (.v v)], ktree t v]⟩)
    (St.leTo_cell (l1 := [z, .cells [.d (.int .i64 t.k), .d (.int .i64 t.n), .d (.str t.s), c]]) (l2 := l2) 1 3 _ c rfl rfl hsl ⟨hz, ⟨trivial, trivial, trivial, trivial, trivial⟩, trivial⟩ fun v => by
      obtain ⟨I, h1, h2, h3⟩ := hcv v
      exact ⟨.d (.v v), [ktree t v], I, [], [], h1, rfl, rfl, by simpa using h2, h3, v, rfl⟩)
    fun st' ⟨v, hv⟩ => by rw [hv]; exact h' v
set_option maxHeartbeats 3200000 in
theorem termO_of (h : ∀ g, g ≤ f → Pro s g) (l d a : Nat) (r : Rs) (ha : a ≤ s.length) (hl : l ≤ 3) (hd : d ≤ 2000000) (hr : rp s (f + 1) (.term l d a) = some r) : Rdo 109 [.c (.d (.int .i64 l)), .c (.d (.int .i64 d))] s a r := fun H i hp htl h2 hi => by
  refine acallsG Tryz.func109 (by kernel_rfl) Own.ac109_ok fun hf => ?_
  rw [ro_len] at hf
  have hf1 := fun a' b' => ro_fits (s' := s) (a' := a') (b' := b') hf
  have hfr : ∀ a' b', Obs.fits (ro H i s a' b').length 0 (ro H i s a' b') := fun a' b' => by rw [ro_len]; exact hf1 a' b'
  have hg0 := fun a' b' => ro_goes htl i s a a' (-1) b' hi
  have hr : thn (rp s f (.prime d a)) (fun ts j => rp s f (.loop (Rs.tm ts) 0 l d j)) = some r := hr
  obtain ⟨w, hw⟩ : ∃ w, rp s f (.prime d a) = some w := by
    rcases thn_some hr with ⟨e, h1, _⟩ | ⟨ts, j, h1, _⟩
    · exact ⟨_, h1⟩
    · exact ⟨_, h1⟩
  have c1 := (h f (Nat.le_refl _)).prime d a w ha hd hw
  have p1 := rp_post hs (j := .prime d a) ha hw
  simp -implicitDefEqProofs [Own.ac109, ro_get hi, ro_len, Ref.re, go_sem, -List.set_cons_succ, -List.set_cons_zero]
  refine call_rdo c1 (by simp [A.portB, C.portB, D.leaf]) hp htl h2 hi (by simp [Ob.re, C.re]) hf ?_
  rintro t x a' b' ⟨ht, hm⟩
  simp -implicitDefEqProofs [srow, ro_len, hf1, hfr, go_sem, -List.set_cons_succ, -List.set_cons_zero]
  refine loop_enter (le_swap 7 rfl (by simp [Sl.le, A.le_refl_iff, A.le_u_iff, As.lo, A.lo, C.lo, Ref.lo, Cs.lo, Obs.lo, Ob.lo, setAll, and_true, true_and, List.length_nil, List.length_cons, hi, ro_len]) (by simp [Sl.le, A.le_refl_iff, A.le_u_iff, As.lo, A.lo, C.lo, Ref.lo, Cs.lo, Obs.lo, Ob.lo, setAll, and_true, true_and, List.length_nil, List.length_cons]) (by simp [Sl.le, A.le_refl_iff, A.le_u_iff, As.lo, A.lo, C.lo, Ref.lo, Cs.lo, Obs.lo, Ob.lo, setAll, and_true, true_and, List.length_nil, List.length_cons])) ?_
  simp -implicitDefEqProofs [go_sem, -List.set_cons_succ, -List.set_cons_zero]
  refine loop_set (σ := Tm × C × Heap × Nat × Nat × Int × Nat) (fun x => [(8, .c (.d (.int .i64 x.2.2.2.1)))]) (fun x => ro H i s x.2.2.2.2.1 x.2.2.2.2.2.1)
    (fun x => [.cells [.d (.int .i64 0), .d (.int .i64 0), .d (.str []), .full []], .cells [.d (.int .i64 x.1.k), .d (.int .i64 x.1.n), .d (.str x.1.s), x.2.1]] ++ x.2.2.1)
    (fun x => x.1.fits ∧ Cv x.1 x.2.1 x.2.2.1 ∧ x.2.2.2.1 ≤ 3 ∧ x.2.2.2.2.1 ≤ s.length ∧ ((x.2.2.2.2.2.1 = -1 ∧ x.2.2.2.2.2.2 ≤ f ∧ rp s x.2.2.2.2.2.2 (.loop x.1 x.2.2.2.1 l d x.2.2.2.2.1) = some r) ∨ ∃ e : Nat, x.2.2.2.2.2.1 = e ∧ r = .bad e))
    (fun x => if x.2.2.2.2.2.1 < 0 then x.2.2.2.2.2.2 + 1 else 0) (t, .d (.v x), [ktree t x], 0, a', b', f) (by simp [setAll, ktree]) ?_ ?_
  · refine ⟨ht, cv_tok t x, Nat.zero_le _, ?_⟩
    rw [hw] at hr
    cases w with
    | bad e =>
      obtain ⟨g1, g2⟩ := hm
      cases hr
      exact ⟨g1, .inr ⟨e, g2, rfl⟩⟩
    | ok ts k =>
      obtain ⟨g1, g2, g3⟩ := hm
      obtain ⟨q1, q2, q3⟩ := p1
      rw [thn_ok, ← g1, ← g2] at hr
      exact ⟨by show a' ≤ s.length; omega, .inl ⟨g3, Nat.le_refl _, hr⟩⟩
  · rintro ⟨t, c, l2, m, p, b, g⟩ ⟨htf, hcv, hm3, hpl, hst⟩
    simp only at htf hcv hm3 hpl hst
    simp -implicitDefEqProofs [setAll, ro_len, go_sem, -List.set_cons_succ, -List.set_cons_zero]
    refine weak_cv hcv (by simp [Sl.le, A.le_refl_iff, A.le_u_iff, As.lo, A.lo, C.lo, Ref.lo, Cs.lo, Obs.lo, Ob.lo, setAll, and_true, true_and, List.length_nil, List.length_cons, hi, ro_len]) (by simp [Sl.le, A.le_refl_iff, A.le_u_iff, As.lo, A.lo, C.lo, Ref.lo, Cs.lo, Obs.lo, Ob.lo, setAll, and_true, true_and, List.length_nil, List.length_cons]) fun v => ?_
    simp -implicitDefEqProofs [ro_len, go_sem, -List.set_cons_succ, -List.set_cons_zero]
    rcases hst with ⟨rfl, hg, hq⟩ | ⟨e, rfl, rfl⟩
    · cases g with
      | zero => cases hq
      | succ g =>
        have hq : pstep s (rp s g) (.loop t m l d p) = some r := hq
        simp only [pstep] at hq
        refine call_mv (operator_mv s hs p hpl) hp h2 hi (by simp [Ob.re, C.re, ktree]) rfl (hf1 _ _) ?_
        have hol := op_law hpl
        cases ho : opR s p with
        | none =>
          rw [ho] at hq
          cases hq
          have hv : opV s p = [] := by simp [opV, ho]
          rw [hv]
          simp -implicitDefEqProofs [ro_len, go_sem, -List.set_cons_succ, -List.set_cons_zero]
          refine qcall_pure (opLevel_calls []) (hfr _ _) rfl ?_
          simp -implicitDefEqProofs [hfr, hf1, go_sem, -List.set_cons_succ, -List.set_cons_zero]
          exact fin_tok 2 ⟨trivial, trivial⟩ (hg0 _ _) rfl rfl (rqo_ok htf)
        | some x =>
          obtain ⟨n, j⟩ := x
          rw [ho] at hq hol
          obtain ⟨o1, o2, o3⟩ := opR_ok hpl ho
          have hlv := opR_level ho
          have hj := hol.2
          have hv : opV s p = n := by simp [opV, ho]
          rw [hv]
          have hne : n ≠ [] := fun e => by rw [e] at hlv; exact absurd hlv.1 (by decide)
          have hne2 : (n == []) = false := by simp [hne]
          simp only at hq
          simp -implicitDefEqProofs [ro_len, hne, hne2, go_sem, -List.set_cons_succ, -List.set_cons_zero]
          refine qcall_pure (opLevel_calls n) (hfr _ _) rfl ?_
          simp -implicitDefEqProofs [ro_len, hne, hne2, go_sem, -List.set_cons_succ, -List.set_cons_zero]
          have hsp : (opSp n).length ≤ 1000 := by
            unfold opSp
            split
            · simp; omega
            · omega
          have hspi : inR .i64 ((opSp n).length : Int) := small_i64 (by omega) (by omega)
          have hpi : inR .i64 ((p : Int) + ((opSp n).length : Int)) := small_i64 (by omega) (by omega)
          refine ⟨fun h1 => ⟨h1, ?_⟩, fun h1 => ?_⟩
          · refine qcall_pure (leftMost_calls n) (hfr _ _) rfl ?_
            by_cases hlm : leftMost n < (m : Int)
            · rw [if_pos (.inr hlm)] at hq
              cases hq
              have h1' : ¬ (l : Int) < levelN n := by omega
              simp -implicitDefEqProofs [ro_len, hne, hne2, h1', hlm, hfr, hf1, go_sem, -List.set_cons_succ, -List.set_cons_zero]
              exact fin_tok 2 ⟨trivial, trivial⟩ (hg0 _ _) rfl rfl (rqo_ok htf)
            · have h1' : ¬ (l : Int) < levelN n := by omega
              rw [if_neg (by omega)] at hq
              simp -implicitDefEqProofs [ro_len, ro_get hi, hne, hne2, h1', hlm, hfr, go_sem, -List.set_cons_succ, -List.set_cons_zero]
              refine qcall_pure (opText_calls n (by omega)) (hfr _ _) rfl ?_
              simp -implicitDefEqProofs [ro_len, ro_get hi, ro_set1, hspi, hpi, Ref.re, hf1, hfr, go_sem, -List.set_cons_succ, -List.set_cons_zero]
              refine ⟨small_i64 (by omega) (by omega), ?_⟩
              obtain ⟨w2, hw2⟩ : ∃ w2, rp s g (.term (levelN n - 1).toNat d j) = some w2 := by
                rcases thn_some hq with ⟨e, q1, _⟩ | ⟨ts, j, q1, _⟩
                · exact ⟨_, q1⟩
                · exact ⟨_, q1⟩
              have c2 := (h g (by omega)).term (levelN n - 1).toNat d j w2 o2 (by omega) hd hw2
              have p2 := rp_post hs (j := .term (levelN n - 1).toNat d j) ⟨o2, by omega⟩ hw2
              have e1 : ((levelN n - 1).toNat : Int) = levelN n - 1 := by omega
              have e2 : ((levelN n).toNat : Int) = levelN n := by omega
              rw [e1, hj] at c2
              rw [hw2] at hq
              refine call_rdo c2 (by simp [A.portB, C.portB, D.leaf]) hp htl h2 hi (by simp [Ob.re, C.re, ktree]) (hf1 _ _) ?_
              rintro u y a3 b3 ⟨hu, hm2⟩
              have hst : (Tm.mk 3 0 n [t, u]).fits := fits_st o3 (by simp) (by simp [htf, hu])
              simp -implicitDefEqProofs [srow, ro_len, hfr, hf1, go_sem, -List.set_cons_succ, -List.set_cons_zero]
              refine loop_back (.mk 3 0 n [t, u], .fsl (.l 5) 2 4, [ktree t v, ktree u y, .cells [.d (.int .i64 u.k), .d (.int .i64 u.n), .d (.str u.s), .d (.v y)], .rows [srow t v, srow u y]], (levelN n).toNat, a3, b3, g) (by simp [setAll, srow, e2, Tm.k, Tm.n, Tm.s]) ⟨hst, cv_two n t u v y _, by show (levelN n).toNat ≤ 3; omega, ?_⟩ ?_
              · cases w2 with
                | bad e =>
                  obtain ⟨g1, g2⟩ := hm2
                  cases hq
                  exact ⟨g1, .inr ⟨e, g2, rfl⟩⟩
                | ok us k =>
                  obtain ⟨g1, g2, g3⟩ := hm2
                  obtain ⟨q1, q2, q3⟩ := p2
                  rw [thn_ok, ← g1, ← g2] at hq
                  exact ⟨by show a3 ≤ s.length; omega, .inl ⟨g3, by show g ≤ f; omega, hq⟩⟩
              · show (if b3 < 0 then g + 1 else 0) < (if (-1 : Int) < 0 then g + 1 + 1 else 0)
                rw [if_pos (by decide : (-1 : Int) < 0)]
                split <;> omega
          · rw [if_pos (.inl h1)] at hq
            cases hq
            simp -implicitDefEqProofs [ro_len, h1, hfr, hf1, go_sem, -List.set_cons_succ, -List.set_cons_zero]
            exact fin_tok 2 ⟨trivial, trivial⟩ (hg0 _ _) rfl rfl (rqo_ok htf)
    · refine call_mv (operator_bad s p e (by omega)) hp h2 hi (by simp [Ob.re, C.re, ktree]) rfl (hf1 _ _) ?_
      simp -implicitDefEqProofs [ro_len, go_sem, -List.set_cons_succ, -List.set_cons_zero]
      refine qcall_pure (opLevel_calls []) (hfr _ _) rfl ?_
      simp -implicitDefEqProofs [hfr, hf1, go_sem, -List.set_cons_succ, -List.set_cons_zero]
      exact fin_tok 2 ⟨trivial, trivial⟩ (hg0 _ _) rfl rfl (rqo_bad htf hpl)
end
end Go.Proofs.YtbblefjbgbocoaaGreatDoor

/-
  The program's reader hands out terms that stand in arrays of their own: lists.
  Conditions: none.
-/
open Go Go.AM Go.Proofs
namespace Go.Proofs.YtbblefjbgbocoaaGreatDoor
open Go.ChangeShapes Go.WideShapes Go.ChangeAt Go.RowKit
set_option linter.unusedVariables false
set_option linter.unusedSimpArgs false
set_option maxRecDepth 100000
namespace Own
-- 210 (*loop.example/prologserver/impl.reader).list params 2 ntmps 52
-- loop head live: [0,1,4,5,6]
def ac210 : Cd := .seq (.region [⟨(some 4),.alloc [(.d (.int .i64 0)),(.d (.int .i64 0)),(.d (.str [])),(.full [])],none⟩] [])
 (.seq (.region [⟨(some 5),.mv (.k (.c (.full []))),none⟩] [])
 (.seq (.seq (.region [⟨(some 6),.mv (.k (.c (.d (.bool true)))),none⟩] [])
 (.block 0 (.loop (.seq (.seq (.region [⟨(some 8),.mv (.t 6),none⟩] [6])
 (.cond (.t 8)
 (.skip)
 (.exit 0)))
 (.block 1 (.seq (.region [⟨(some 9),.mv (.t 5),none⟩,
 ⟨(some 10),.mv (.t 0),none⟩,
 ⟨(some 11),.mv (.t 1),none⟩,
 ⟨(some 12),.bin .add (.t 11) (.k (.c (.d (.int .i64 1)))),none⟩,
 ⟨(some 13),.mv (.t 5),none⟩,
 ⟨(some 14),.len 1 (.t 13),none⟩,
 ⟨(some 15),.bin .add (.t 12) (.t 14),none⟩,
 ⟨(some 16),.call false 213 [(.t 10),(.t 15)],none⟩,
 ⟨(some 17),.buildSlice 4 1 [(.int .i64 0),(.int .i64 0),(.str []),(.sl [])] [(0,(.t 16))],none⟩,
 ⟨(some 18),.append false 4 (.t 9) (.t 17),none⟩,
 ⟨(some 5),.mv (.t 18),none⟩] [8,9,10,11,12,13,14,15,16,17,18])
 (.seq (.region [⟨(some 19),.mv (.t 0),none⟩,
 ⟨(some 20),.call false 110 [(.t 19)],none⟩,
 ⟨(some 21),.bin .eql (.t 20) (.k (.c (.d (.int .u8 44)))),none⟩,
 ⟨(some 6),.mv (.t 21),none⟩] [19,20,21])
 (.seq (.region [⟨(some 22),.mv (.t 6),none⟩] [])
 (.cond (.t 22)
 (.region [⟨(some 23),.mv (.t 0),none⟩,
 ⟨(some 24),.nilCheck (.t 23),none⟩,
 ⟨(some 25),.fieldAddr 1 (.t 24),none⟩,
 ⟨(some 26),.load none (.t 25),none⟩,
 ⟨(some 27),.bin .add (.t 26) (.k (.c (.d (.int .i64 1)))),none⟩,
 ⟨(some 28),.nilCheck (.t 23),none⟩,
 ⟨(some 29),.fieldAddr 1 (.t 28),none⟩,
 ⟨none,.store 1 (.t 29) (.t 27),none⟩] [22,23,24,25,26,27,28,29])
 (.skip))))))))))
 (.seq (.region [⟨(some 30),.call false 211 [(.k (.c (.d (.str [91,93]))))],none⟩,
 ⟨(some 7),.alloc [(.d (.int .i64 0)),(.d (.int .i64 0)),(.d (.str [])),(.full [])],none⟩,
 ⟨none,.store 4 (.t 7) (.t 30),none⟩] [30])
 (.seq (.seq (.region [⟨(some 31),.mv (.t 0),none⟩,
 ⟨(some 32),.call false 110 [(.t 31)],none⟩,
 ⟨(some 33),.bin .eql (.t 32) (.k (.c (.d (.int .u8 124)))),none⟩] [31,32])
 (.cond (.t 33)
 (.seq (.region [⟨(some 34),.mv (.t 0),none⟩,
 ⟨(some 35),.nilCheck (.t 34),none⟩,
 ⟨(some 36),.fieldAddr 1 (.t 35),none⟩,
 ⟨(some 37),.load none (.t 36),none⟩,
 ⟨(some 38),.bin .add (.t 37) (.k (.c (.d (.int .i64 1)))),none⟩,
 ⟨(some 39),.nilCheck (.t 34),none⟩,
 ⟨(some 40),.fieldAddr 1 (.t 39),none⟩,
 ⟨none,.store 1 (.t 40) (.t 38),none⟩] [33,34,35,36,37,38,39,40])
 (.region [⟨(some 41),.mv (.t 0),none⟩,
 ⟨(some 42),.mv (.t 1),none⟩,
 ⟨(some 43),.mv (.t 5),none⟩,
 ⟨(some 44),.len 1 (.t 43),none⟩,
 ⟨(some 45),.bin .add (.t 42) (.t 44),none⟩,
 ⟨(some 46),.call false 213 [(.t 41),(.t 45)],none⟩,
 ⟨none,.store 4 (.t 7) (.t 46),none⟩] [1,41,42,43,44,45,46]))
 (.skip)))
 (.seq (.region [⟨(some 47),.mv (.t 0),none⟩,
 ⟨(some 48),.call false 208 [(.t 47),(.k (.c (.d (.int .u8 93))))],none⟩] [0,1,33,47,48])
 (.seq (.region [⟨(some 49),.mv (.t 5),none⟩,
 ⟨(some 50),.load (some 4) (.t 7),none⟩,
 ⟨(some 51),.call false 235 [(.t 49),(.t 50)],none⟩,
 ⟨none,.store 4 (.t 4) (.t 51),none⟩] [5,7,49,50,51])
 (.ret)))))))
theorem ac210_ok : cFunc Tryz.prog [] [(0,[],[]),(1,[],[]),(2,[],[]),(3,[6],[]),(4,[8,9,10,11,12,13,14,15,16,17,18],[]),(5,[19,20,21],[]),(6,[],[]),(7,[22,23,24,25,26,27,28,29],[]),(8,[30],[]),(9,[31,32],[]),(10,[33,34,35,36,37,38,39,40],[]),(11,[1,41,42,43,44,45,46],[]),(12,[0,1,33,47,48],[]),(13,[5,7,49,50,51],[])] Tryz.f210 = some (ac210,[.cell 4 (some 4)],52) := by kernel_rfl
-- 211 loop.example/prologserver/impl.atom params 1 ntmps 5
def ac211 : Cd := .seq (.region [⟨(some 2),.alloc [(.d (.int .i64 0)),(.d (.int .i64 0)),(.d (.str [])),(.full [])],none⟩] [])
 (.seq (.region [⟨(some 3),.mv (.t 0),none⟩,
 ⟨(some 4),.build [(.d (.int .i64 0)),(.d (.int .i64 0)),(.d (.str [])),(.full [])] [(0,1,(.k (.c (.d (.int .i64 3))))),(2,1,(.t 3))],none⟩,
 ⟨none,.store 4 (.t 2) (.t 4),none⟩] [0,3,4])
 (.ret))
theorem ac211_ok : cFunc Tryz.prog [] [(0,[],[]),(1,[0,3,4],[])] Tryz.f211 = some (ac211,[.cell 2 (some 4)],5) := by kernel_rfl
end Own
theorem HandsTm.srow {t : Tm} {r : A} {H : Heap} (h : HandsTm t r H) : ∃ x, r = .agg ((YtbblefjbgbocoaaGreatDoor.srow t x).map .d) ∧ H = [ktree t x] := h
theorem atomOwn_calls (n : List UInt8) : ACalls Tryz.prog 211 [.c (.d (.str n))] [] (HandsTm (.mk 3 0 n [])) := by
  refine acallsG Tryz.func211 (by kernel_rfl) Own.ac211_ok fun hf => ?_
  simp -implicitDefEqProofs [Own.ac211, go_sem, -List.set_cons_succ, -List.set_cons_zero]
  exact finG_ret _ ⟨trivial, trivial⟩ ⟨rfl, fun i o o' h => by simp at h⟩ rfl fun kv => ⟨_, _, _, [], [], .one (.agg (.cons (.leaf rfl) (.cons (.leaf rfl) (.cons (.leaf rfl) (.cons .full .nil))))), rfl, rfl, by simp, ⟨_, rfl, rfl⟩⟩
theorem Regroup.nil (l : Heap) : Regroup l [] := ⟨rfl, fun w ι hs => ⟨[], ⟨rfl, fun i o k h => by simp at h, fun i j k k' b h => by simp at h, fun k b h => by simp at h⟩, fun k b h => by simp at h⟩⟩
def sq (q : Tm × Value) : List D := srow q.1 q.2
def OutF (out : List (Tm × Value)) : Prop := ∀ q ∈ out, q.1.fits
def kq1 (q : Tm × Value) : Ob := ktree q.1 q.2
theorem kq_all (out : List (Tm × Value)) : (out.map kq1).all Ob.isTreeB = true := by
  rw [List.all_eq_true]
  intro o ho
  obtain ⟨q, _, rfl⟩ := List.mem_map.1 ho
  rfl
theorem all_filter {l : Heap} (h : l.all Ob.isTreeB = true) : l.filter Ob.isTreeB = l := by
  rw [List.filter_eq_self]
  exact fun o ho => List.all_eq_true.1 h o ho
theorem chain_regroup2 (t : Tm) (x : Value) (out : List (Tm × Value)) (F : Heap) (v : List D) (h : ChF (out.map sq) (srow t x) F v) :
    ∃ y, v = srow (chainT (out.map Prod.fst) t) y ∧ Regroup (out.map kq1 ++ (ktree t x :: F)) [ktree (chainT (out.map Prod.fst) t) y] := by
  have e1 : List.zipWith srow (out.map Prod.fst) (out.map Prod.snd) = out.map sq := by rw [List.zipWith_map, List.zipWith_self]; rfl
  have e2 : List.zipWith ktree (out.map Prod.fst) (out.map Prod.snd) = out.map kq1 := by rw [List.zipWith_map, List.zipWith_self]; rfl
  have := chain_regroup t x (out.map Prod.fst) (out.map Prod.snd) (by simp) F v (by rw [e1]; exact h)
  rwa [e2] at this
/-- .. where a tree more stands in front of the tail -/
theorem chain_regroup3 (u : Tm) (z : Value) (t : Tm) (x : Value) (out : List (Tm × Value)) (F : Heap) (v : List D) (h : ChF (out.map sq) (srow t x) F v) :
    ∃ y, v = srow (chainT (out.map Prod.fst) t) y ∧ Regroup (out.map kq1 ++ (ktree u z :: ktree t x :: F)) [ktree (chainT (out.map Prod.fst) t) y] := by
  obtain ⟨y, h1, h2⟩ := chain_regroup2 t x out F v h
  refine ⟨y, h1, Regroup.trans ?_ h2⟩
  have hF : (ktree t x :: F).all Ob.isTreeB = true := by rw [List.all_cons, (h.leaf (leafR_srow t x)).2]; rfl
  refine Regroup.app (kq_all out) (by rw [List.all_cons, hF]; rfl) (.refl (kq_all out)) ?_
  exact Regroup.app (a := [ktree u z]) (a' := []) rfl hF (YtbblefjbgbocoaaGreatDoor.Regroup.nil _) (.refl hF)
/-- the end of a function whose trees are grouped anew -/
theorem fin_group {H : Heap} {rs : List Rv} {Q : A → Heap → Prop} {sl : List A} {ext l2 : Heap} {c0 : Ob} {t : Tm} {y : Value} (hg : Regroup (l2.filter Ob.isTreeB) [ktree t y]) (hsl : As.lo ext.length 1 sl) (hc : c0.lo ext.length 1)
    (hok : r_ ⟨sl, ext, [c0, ktree t y]⟩ rs) (hgo : Goes H ext) (hr : resRaw ⟨sl, ext, [c0, ktree t y]⟩ rs = some (.agg ((srow t y).map .d))) (hq : Q (.agg ((srow t y).map .d)) (ext ++ [ktree t y])) : FinG H rs Q .ret ⟨sl, ext, c0 :: l2⟩ :=
  ⟨⟨sl, ext, [c0] ++ [ktree t y]⟩, St.le_regroup (l1 := [c0]) hg hsl ⟨hc, trivial⟩, hok, hgo, _, hr, fun kv => ⟨_, [], [], [ktree t y], [1], .one (.agg (.cons (.leaf rfl) (.cons (.leaf rfl) (.cons (.leaf rfl) (.cons (.leaf rfl) .nil))))), by simp, rfl, by simp, hq⟩⟩
theorem set_cell (c0 g : Ob) (out : List (Tm × Value)) (x y z : Ob) (L : Heap) : (c0 :: g :: (out.map kq1 ++ x :: y :: L)).set (out.length + 1 + 1 + 1) z = c0 :: g :: (out.map kq1 ++ x :: z :: L) := by
  have e : out.length + 1 + 1 + 1 = (out.length + 1) + 1 + 1 := rfl
  rw [e, List.set_cons_succ, List.set_cons_succ, List.set_append_right _ _ (by simp), show out.length + 1 - (out.map kq1).length = 1 by simp]
  rfl
theorem get_cell (c0 g : Ob) (out : List (Tm × Value)) (x y : Ob) (L : Heap) : (c0 :: g :: (out.map kq1 ++ x :: y :: L))[out.length + 1 + 1 + 1]? = some y := by
  rw [List.getElem?_cons_succ, List.getElem?_cons_succ, List.getElem?_append_right (by simp), show out.length + 1 - (out.map kq1).length = 1 by simp]
  rfl
theorem kq1_re {n : Nat} : Ob.re n ∘ kq1 = kq1 := rfl
/-- a closing byte is taken, or missed -/
theorem skip_rqo {H : Heap} {i a : Nat} {s : List UInt8} {t : Tm} {x : Value} {c : UInt8} {r : Rs} (h : (if sgn s a c then some (Rs.ok [t] (a + 1)) else some (Rs.bad a)) = some r) (ht : t.fits) (ha : a ≤ s.length) (hc : c ≠ 0 := by decide) :
    RQo H i s r (.agg ((srow t x).map .d)) (ro H i s (if nxt s a (-1) = c then a + 1 else a) (if nxt s a (-1) = c then -1 else if (-1 : Int) < 0 then (a : Int) else -1) ++ [ktree t x]) := by
  have e := nxt_sgn s a c hc
  cases hsg : sgn s a c with
  | true =>
    rw [hsg] at h e
    cases h
    rw [if_pos (beq_iff_eq.1 e), if_pos (beq_iff_eq.1 e)]
    exact rqo_ok ht
  | false =>
    rw [hsg] at h e
    cases h
    have hn : ¬ nxt s a (-1) = c := fun h => by rw [beq_iff_eq.2 h] at e; cases e
    rw [if_neg hn, if_neg hn, if_pos (by decide)]
    exact rqo_bad ht ha
section
variable {s : List UInt8} (hs : s.length ≤ 1000000) {f : Nat}
include hs
set_option maxHeartbeats 3200000 in
theorem listO_of (h : ∀ g, g ≤ f → Pro s g) (d a : Nat) (r : Rs) (ha : a ≤ s.length) (hd : d ≤ 1000) (hr : thn (rp s f (.items d 0 a)) (listK s f d) = some r) : Rdo 210 [.c (.d (.int .i64 d))] s a r := fun H i hp htl h2 hi => by
  refine acallsG Tryz.func210 (by kernel_rfl) Own.ac210_ok fun hf => ?_
  rw [ro_len] at hf
  have hf1 := fun a' b' => ro_fits (s' := s) (a' := a') (b' := b') hf
  have hfr : ∀ a' b', Obs.fits (ro H i s a' b').length 0 (ro H i s a' b') := fun a' b' => by rw [ro_len]; exact hf1 a' b'
  have hg0 := fun a' b' => ro_goes htl i s a a' (-1) b' hi
  obtain ⟨R, hR⟩ : ∃ R, rp s f (.items d 0 a) = some R := by
    rcases thn_some hr with ⟨e, h1, _⟩ | ⟨ts, j, h1, _⟩
    · exact ⟨_, h1⟩
    · exact ⟨_, h1⟩
  have pR := rp_post hs (j := .items d 0 a) ha hR
  rw [hR] at hr
  simp -implicitDefEqProofs [Own.ac210, ro_len, Ref.re, go_sem, -List.set_cons_succ, -List.set_cons_zero]
  refine loop_enter (St.le_token 5 4 rfl) ?_
  refine loop_set (σ := Nat × Int × List (Tm × Value) × Nat × Rs × Bool) (fun x => [(5, .c (.own (.l 1) x.2.2.1.length (x.2.2.1.map sq))), (6, .c (.d (.bool x.2.2.2.2.2)))]) (fun x => ro H i s x.1 x.2.1)
    (fun x => [.cells [.d (.int .i64 0), .d (.int .i64 0), .d (.str []), .full []], .grow x.2.2.1.length 4] ++ x.2.2.1.map kq1)
    (fun x => x.1 ≤ s.length ∧ x.2.2.1.length ≤ 1000001 ∧ OutF x.2.2.1 ∧
      ((x.2.2.2.2.2 = true ∧ x.2.1 = -1 ∧ x.2.2.1.length ≤ x.1 ∧ x.2.2.2.1 ≤ f ∧ rp s x.2.2.2.1 (.items d x.2.2.1.length x.1) = some x.2.2.2.2.1 ∧ x.2.2.2.2.1.app2 (x.2.2.1.map Prod.fst) = R) ∨
       (x.2.2.2.2.2 = false ∧ ((x.2.1 = -1 ∧ R = .ok (x.2.2.1.map Prod.fst) x.1) ∨ ∃ e : Nat, x.2.1 = e ∧ R = .bad e))))
    (fun x => if x.2.2.2.2.2 then x.2.2.2.1 + 1 else 0) (a, -1, [], f, R, true) (by simp [setAll]) ⟨ha, by simp, fun q hq => by simp at hq, .inl ⟨rfl, rfl, by simp, Nat.le_refl _, hR, by cases R <;> rfl⟩⟩ ?_
  rintro ⟨p, b, out, g, q, more⟩ ⟨hpl, hol, hof, hst⟩
  simp only at hpl hol hof hst
  simp -implicitDefEqProofs [setAll, ro_len, go_sem, -List.set_cons_succ, -List.set_cons_zero]
  rcases hst with ⟨rfl, rfl, hop, hg, hq, happ⟩ | ⟨rfl, hst⟩
  · cases g with
    | zero => cases hq
    | succ g =>
      have hq : pstep s (rp s g) (.items d out.length p) = some q := hq
      simp only [pstep] at hq
      obtain ⟨w, hw⟩ : ∃ w, rp s g (.term 3 (d + 1 + out.length) p) = some w := by
        rcases thn_some hq with ⟨e, h1, _⟩ | ⟨ts, j, h1, _⟩
        · exact ⟨_, h1⟩
        · exact ⟨_, h1⟩
      have c1 := partO_of (h g (by omega)) (d + 1 + out.length) p w hpl (by omega) hw
      have p1 := rp_post hs (j := .term 3 (d + 1 + out.length) p) ⟨hpl, by omega⟩ hw
      rw [hw] at hq
      have e1 : ((d + 1 + out.length : Nat) : Int) = (d : Int) + 1 + (out.length : Int) := by omega
      rw [e1] at c1
      have i1 : inR .i64 ((d : Int) + 1) := small_i64 (by omega) (by omega)
      have i2 : inR .i64 ((d : Int) + 1 + (out.length : Int)) := small_i64 (by omega) (by omega)
      have i3 : inR .i64 (out.length : Int) := small_i64 (by omega) (by omega)
      simp -implicitDefEqProofs [ro_len, i1, i2, i3, go_sem, -List.set_cons_succ, -List.set_cons_zero]
      refine call_rdo c1 (by simp [A.portB, C.portB, D.leaf]) hp htl h2 hi (by simp [Ob.re, C.re, kq1_re]) (hf1 _ _) ?_
      rintro t x a' b' ⟨ht, hm⟩
      have ha' : a' ≤ s.length ∧ (∀ e : Nat, w = .bad e → b' = e) := by
        cases w with
        | bad e => exact ⟨hm.1, fun e' he => by cases he; exact hm.2⟩
        | ok ts k => exact ⟨by rw [hm.2.1]; exact p1.2.1, fun e' he => by cases he⟩
      simp -implicitDefEqProofs [srow, ro_len, hfr, hf1, go_sem, -List.set_cons_succ, -List.set_cons_zero]
      refine ⟨allLen_map (fun q => rfl), by unfold maxApp; omega, ?_⟩
      refine call_mv (next_mv s hs a' b' (by omega)) hp h2 hi (by simp [Ob.re, C.re, kq1_re, ktree]) rfl (hf1 _ _) ?_
      simp -implicitDefEqProofs [ro_len, go_sem, -List.set_cons_succ, -List.set_cons_zero]
      have hfo : OutF (out ++ [(t, x)]) := fun q hx => by
        rcases List.mem_append.1 hx with hx | hx
        · exact hof q hx
        · rw [List.mem_singleton.1 hx]; exact ht
      cases w with
      | bad e =>
        obtain ⟨g1, g2⟩ := hm
        subst g2
        rw [nxt_bad]
        cases hq
        have hRe : R = .bad e := by rw [← happ]; rfl
        simp -implicitDefEqProofs [ro_len, go_sem, -List.set_cons_succ, -List.set_cons_zero]
        refine loop_less (a', (e : Int), out ++ [(t, x)], 0, .bad e, false) (St.le_more ?_ (by simp [kq1]; exact Obs.le_refl _)) ⟨g1, by simp; omega, hfo, .inr ⟨rfl, .inr ⟨e, rfl, hRe⟩⟩⟩ (by show 0 < g + 1 + 1; omega)
        simp [setAll, sq, srow, kq1, Sl.le, A.le_refl_iff, A.le_u_iff, As.lo, A.lo, C.lo, Ref.lo, Cs.lo, Obs.lo, Ob.lo, setAll, and_true, true_and, List.length_nil, List.length_cons]
      | ok ts k =>
        obtain ⟨g1, g2, g3⟩ := hm
        subst g2
        subst g3
        obtain ⟨q1, q2, q3⟩ := p1
        have e44 := nxt_eq s a' 44 (by decide)
        have e44 : (((nxt s a' (-1)).toNat : Int) == 44) = sgn s a' 44 := e44
        rw [thn_ok, ← g1] at hq
        cases hsg : sgn s a' 44 with
        | true =>
          rw [hsg] at hq e44
          simp only [if_true] at hq
          have he : ((nxt s a' (-1)).toNat : Int) = 44 := beq_iff_eq.1 e44
          have hlt := sgn_lt hsg
          have i4 : inR .i64 ((a' : Int) + 1) := small_i64 (by omega) (by omega)
          obtain ⟨v, hv, hva⟩ : ∃ v, rp s g (.items d (out.length + 1) (a' + 1)) = some v ∧ v.app2 (out.map Prod.fst ++ [t]) = R := by
            rcases thn_some hq with ⟨e, h1, h3⟩ | ⟨us, k2, h1, h3⟩
            · exact ⟨_, h1, by rw [← happ, h3]; rfl⟩
            · cases h3
              exact ⟨_, h1, by rw [← happ]; simp [Rs.app2]⟩
          simp -implicitDefEqProofs [he, ro_len, ro_get hi, ro_up, i4, Ref.re, hf1, go_sem, -List.set_cons_succ, -List.set_cons_zero]
          exact loop_back (a' + 1, -1, out ++ [(t, x)], g, v, true) (by simp [setAll, sq, srow, kq1]) ⟨by show a' + 1 ≤ s.length; omega, by simp; omega, hfo, .inl ⟨rfl, rfl, by simp; omega, by show g ≤ f; omega, by simpa using hv, by simpa using hva⟩⟩ (by show g + 1 < g + 1 + 1; omega)
        | false =>
          rw [hsg] at hq e44
          simp only [Bool.false_eq_true, if_false, Option.some.injEq] at hq
          have he : ¬ ((nxt s a' (-1)).toNat : Int) = 44 := fun h => by rw [beq_iff_eq.2 h] at e44; cases e44
          simp -implicitDefEqProofs [he, ro_len, go_sem, -List.set_cons_succ, -List.set_cons_zero]
          refine loop_less (a', -1, out ++ [(t, x)], 0, q, false) (St.le_more ?_ (by simp [kq1]; exact Obs.le_refl _)) ⟨ha'.1, by simp; omega, hfo, .inr ⟨rfl, .inl ⟨rfl, by rw [← happ, ← hq]; simp [Rs.app2]⟩⟩⟩ (by show 0 < g + 1 + 1; omega)
          simp [setAll, sq, srow, kq1, he, Sl.le, A.le_refl_iff, A.le_u_iff, As.lo, A.lo, C.lo, Ref.lo, Cs.lo, Obs.lo, Ob.lo, setAll, and_true, true_and, List.length_nil, List.length_cons]
          rw [e44]
          exact .refl _
  · have hil : inR .i64 (out.length : Int) := small_i64 (by omega) (by omega)
    have hlr : ∀ r ∈ out.map sq, leafR r := fun r hr => by
      obtain ⟨q, _, rfl⟩ := List.mem_map.1 hr
      exact leafR_srow _ _
    have hof2 : ∀ t ∈ out.map Prod.fst, t.fits := fun t ht => by
      obtain ⟨q, hq, rfl⟩ := List.mem_map.1 ht
      exact hof q hq
    simp -implicitDefEqProofs [ro_len, go_sem, -List.set_cons_succ, -List.set_cons_zero]
    refine call_none (atomOwn_calls [91, 93]) (fun r H' h => h.handed) (by simp [Ob.re, C.re, kq1_re]) (.cons (.c .d) .nil) (hfr _ _) ?_
    rintro _ _ ⟨x0, rfl, rfl⟩
    simp -implicitDefEqProofs [Tm.k, Tm.n, Tm.s, Tm.kids, ro_len, set_cell, hfr, hf1, go_sem, -List.set_cons_succ, -List.set_cons_zero]
    refine call_mv (next_mv s hs p b (by omega)) hp h2 hi (by simp [Ob.re, C.re, kq1_re]) rfl (hf1 _ _) ?_
    simp -implicitDefEqProofs [ro_len, go_sem, -List.set_cons_succ, -List.set_cons_zero]
    rcases hst with ⟨rfl, hRo⟩ | ⟨e, rfl, hRe⟩
    · subst hRo
      have hr : listK s f d (out.map Prod.fst) p = some r := hr
      unfold listK at hr
      have e124 : (((nxt s p (-1)).toNat : Int) == 124) = sgn s p 124 := nxt_eq s p 124 (by decide)
      cases hsg : sgn s p 124 with
      | true =>
        rw [hsg] at hr e124
        have he : ((nxt s p (-1)).toNat : Int) = 124 := beq_iff_eq.1 e124
        have hlt := sgn_lt hsg
        have i4 : inR .i64 ((p : Int) + 1) := small_i64 (by omega) (by omega)
        have i5 : inR .i64 ((d : Int) + (out.length : Int)) := small_i64 (by omega) (by omega)
        simp only [if_true, List.length_map] at hr
        obtain ⟨w, hw⟩ : ∃ w, rp s f (.term 3 (d + out.length) (p + 1)) = some w := by
          rcases thn_some hr with ⟨e, h1, _⟩ | ⟨ts, j, h1, _⟩
          · exact ⟨_, h1⟩
          · exact ⟨_, h1⟩
        have c1 := partO_of (h f (Nat.le_refl _)) (d + out.length) (p + 1) w (by omega) (by omega) hw
        have p1 := rp_post hs (j := .term 3 (d + out.length) (p + 1)) ⟨by omega, by omega⟩ hw
        rw [hw] at hr
        have e1 : ((d + out.length : Nat) : Int) = (d : Int) + (out.length : Int) := by omega
        rw [e1] at c1
        simp -implicitDefEqProofs [he, ro_len, ro_get hi, ro_up, i4, i5, hil, Ref.re, hf1, go_sem, -List.set_cons_succ, -List.set_cons_zero]
        refine call_rdo c1 (by simp [A.portB, C.portB, D.leaf]) hp htl h2 hi (by simp [Ob.re, C.re, kq1_re]) (hf1 _ _) ?_
        rintro t x a' b' ⟨ht, hm⟩
        have ha' : a' ≤ s.length := by
          cases w with
          | bad e => exact hm.1
          | ok ts k => rw [hm.2.1]; exact p1.2.1
        simp -implicitDefEqProofs [srow, ro_len, set_cell, hfr, hf1, go_sem, -List.set_cons_succ, -List.set_cons_zero]
        refine call_mv (skip_mv s hs a' b' (by omega) 93) hp h2 hi (by simp [Ob.re, C.re, kq1_re, ktree]) rfl (hf1 _ _) ?_
        simp -implicitDefEqProofs [ro_len, get_cell, hfr, hf1, go_sem, -List.set_cons_succ, -List.set_cons_zero]
        refine call_none (chainOwn_calls (out.map sq) (by simp; omega) hlr (srow t x) (leafR_srow t x)) (fun r H' h => h.handed (leafR_srow t x)) (by simp [Ob.re, C.re, kq1_re, ktree]) (.cons (.c .d) (.cons (fz_agg (srow t x)) .nil)) (hfr _ _) ?_
        rintro _ F ⟨v, hch, hlv, rfl⟩
        obtain ⟨y, rfl, hrg⟩ := chain_regroup3 (.mk 3 0 [91, 93] []) x0 t x out F v hch
        have hF := (hch.leaf (leafR_srow t x)).2
        simp -implicitDefEqProofs [srow, ro_len, hfr, hf1, go_sem, -List.set_cons_succ, -List.set_cons_zero]
        refine fin_group (t := chainT (out.map Prod.fst) t) (y := y) ?_ (by simp [Sl.le, A.le_refl_iff, A.le_u_iff, As.lo, A.lo, C.lo, Ref.lo, Cs.lo, Obs.lo, Ob.lo, setAll, and_true, true_and, List.length_nil, List.length_cons]) (by simp [Sl.le, A.le_refl_iff, A.le_u_iff, As.lo, A.lo, C.lo, Ref.lo, Cs.lo, Obs.lo, Ob.lo, setAll, and_true, true_and, List.length_nil, List.length_cons]) ⟨trivial, trivial⟩ (hg0 _ _) rfl ?_
        · have hfl : (Ob.grow out.length 4 :: (out.map kq1 ++ Ob.tree x0 [] :: Ob.cells [.d (.int .i64 t.k), .d (.int .i64 t.n), .d (.str t.s), .d (.v x)] :: ktree t x :: F)).filter Ob.isTreeB = out.map kq1 ++ (ktree (.mk 3 0 [91, 93] []) x0 :: ktree t x :: F) := by
            simp [List.filter_append, List.filter_cons, all_filter (kq_all out), all_filter hF, Ob.isTreeB, ktree, Tm.kids]
          rw [hfl]
          exact hrg
        · cases w with
          | bad e =>
            obtain ⟨g1, g2⟩ := hm
            subst g2
            cases hr
            rw [nxt_bad, if_neg (by decide), if_neg (by decide), if_neg (by omega)]
            exact rqo_bad (fits_chain _ _ hof2 ht) ha'
          | ok ts k =>
            obtain ⟨g1, g2, g3⟩ := hm
            subst g2
            subst g3
            rw [thn_ok, ← g1] at hr
            exact skip_rqo hr (fits_chain _ _ hof2 ht) ha'
      | false =>
        rw [hsg] at hr e124
        have he : ¬ ((nxt s p (-1)).toNat : Int) = 124 := fun h => by rw [beq_iff_eq.2 h] at e124; cases e124
        simp only [Bool.false_eq_true, if_false] at hr
        simp -implicitDefEqProofs [he, ro_len, go_sem, -List.set_cons_succ, -List.set_cons_zero]
        refine call_mv (skip_mv s hs p (-1) (by omega) 93) hp h2 hi (by simp [Ob.re, C.re, kq1_re]) rfl (hf1 _ _) ?_
        simp -implicitDefEqProofs [ro_len, get_cell, hfr, hf1, go_sem, -List.set_cons_succ, -List.set_cons_zero]
        refine call_none (chainOwn_calls (out.map sq) (by simp; omega) hlr (srow nilT x0) (leafR_srow nilT x0)) (fun r H' h => h.handed (leafR_srow nilT x0)) (by simp [Ob.re, C.re, kq1_re, ktree]) (.cons (.c .d) (.cons (fz_agg (srow nilT x0)) .nil)) (hfr _ _) ?_
        rintro _ F ⟨v, hch, hlv, rfl⟩
        obtain ⟨y, rfl, hrg⟩ := chain_regroup2 nilT x0 out F v hch
        have hF := (hch.leaf (leafR_srow nilT x0)).2
        simp -implicitDefEqProofs [srow, ro_len, hfr, hf1, go_sem, -List.set_cons_succ, -List.set_cons_zero]
        refine fin_group (t := chainT (out.map Prod.fst) nilT) (y := y) ?_ (by simp [Sl.le, A.le_refl_iff, A.le_u_iff, As.lo, A.lo, C.lo, Ref.lo, Cs.lo, Obs.lo, Ob.lo, setAll, and_true, true_and, List.length_nil, List.length_cons]) (by simp [Sl.le, A.le_refl_iff, A.le_u_iff, As.lo, A.lo, C.lo, Ref.lo, Cs.lo, Obs.lo, Ob.lo, setAll, and_true, true_and, List.length_nil, List.length_cons]) ⟨trivial, trivial⟩ (hg0 _ _) rfl ?_
        · have hfl : (Ob.grow out.length 4 :: (out.map kq1 ++ Ob.tree x0 [] :: Ob.cells [.d (.int .i64 3), .d (.int .i64 0), .d (.str [91, 93]), .d (.v x0)] :: F)).filter Ob.isTreeB = out.map kq1 ++ (ktree nilT x0 :: F) := by
            simp [List.filter_append, List.filter_cons, all_filter (kq_all out), all_filter hF, Ob.isTreeB, ktree, Tm.kids, nilT]
          rw [hfl]
          exact hrg
        · exact skip_rqo hr (fits_chain _ _ hof2 fits_nil) hpl
    · subst hRe
      cases hr
      rw [nxt_bad]
      simp -implicitDefEqProofs [ro_len, go_sem, -List.set_cons_succ, -List.set_cons_zero]
      refine call_mv (skip_mv s hs p e (by omega) 93) hp h2 hi (by simp [Ob.re, C.re, kq1_re]) rfl (hf1 _ _) ?_
      simp -implicitDefEqProofs [ro_len, get_cell, hfr, hf1, go_sem, -List.set_cons_succ, -List.set_cons_zero]
      refine call_none (chainOwn_calls (out.map sq) (by simp; omega) hlr (srow nilT x0) (leafR_srow nilT x0)) (fun r H' h => h.handed (leafR_srow nilT x0)) (by simp [Ob.re, C.re, kq1_re, ktree]) (.cons (.c .d) (.cons (fz_agg (srow nilT x0)) .nil)) (hfr _ _) ?_
      rintro _ F ⟨v, hch, hlv, rfl⟩
      obtain ⟨y, rfl, hrg⟩ := chain_regroup2 nilT x0 out F v hch
      have hF := (hch.leaf (leafR_srow nilT x0)).2
      simp -implicitDefEqProofs [srow, ro_len, hfr, hf1, go_sem, -List.set_cons_succ, -List.set_cons_zero]
      refine fin_group (t := chainT (out.map Prod.fst) nilT) (y := y) ?_ (by simp [Sl.le, A.le_refl_iff, A.le_u_iff, As.lo, A.lo, C.lo, Ref.lo, Cs.lo, Obs.lo, Ob.lo, setAll, and_true, true_and, List.length_nil, List.length_cons]) (by simp [Sl.le, A.le_refl_iff, A.le_u_iff, As.lo, A.lo, C.lo, Ref.lo, Cs.lo, Obs.lo, Ob.lo, setAll, and_true, true_and, List.length_nil, List.length_cons]) ⟨trivial, trivial⟩ (hg0 _ _) rfl ?_
      · have hfl : (Ob.grow out.length 4 :: (out.map kq1 ++ Ob.tree x0 [] :: Ob.cells [.d (.int .i64 3), .d (.int .i64 0), .d (.str [91, 93]), .d (.v x0)] :: F)).filter Ob.isTreeB = out.map kq1 ++ (ktree nilT x0 :: F) := by
          simp [List.filter_append, List.filter_cons, all_filter (kq_all out), all_filter hF, Ob.isTreeB, ktree, Tm.kids, nilT]
        rw [hfl]
        exact hrg
      · rw [nxt_bad, if_neg (by decide), if_neg (by decide), if_neg (by omega)]
        exact rqo_bad (fits_chain _ _ hof2 fits_nil) hpl
end
end Go.Proofs.YtbblefjbgbocoaaGreatDoor
