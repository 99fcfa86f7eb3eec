/-
  The law FnExactQueryVars holds: impl.QueryVars answers as spec.QueryVars does, with memory of its own.
  Conditions: none.
-/
import Derived.Test.YtoipdmomgjdnaaaBundA
open Go Go.AM Go.Proofs
attribute [local go_sem] kw ew sw tw a_ b_ c_ A.ok A.val d_ e_ f_ g_ h_ i_ j_ k_ l_ m_ unA unD n_ AOp.total o_ p_ q_ r_ s_ t_ u_ v_ A.thaw C.thaw A.fits As.fits C.fits evs oks w_ A.pure C.pure A.re C.re x_ y_ cut A.cells C.rows? z_ A_ B_ C_ a0_ b0_ D_ Ob.re Cs.fits E_ F_ G_ H_ I_ J_ K_ L_ M_ N_ O_ C.toD P_ Q_ R_ S_ T_ Obs.fits U_ eqD V_ W_ X_ Y_ Z_
open Go Go.AM Go.Proofs
namespace Go.Proofs.Ytoipdmomgjdnaaa
open Go.ChangeShapes Go.WideShapes Go.ChangeAt Go.RowKit
set_option linter.unusedVariables false
set_option linter.unusedSimpArgs false
set_option maxRecDepth 100000
-- 4 loop.example/prologserver/laws.FnExactQueryVars params 1 ntmps 69
def ac4 : Cd := .seq (.region [⟨(some 2),.mv (.k (.c (.d (.bool false)))),none⟩] [2])
 (.seq (.region [⟨(some 3),.mv (.k (.c (.d (.int .i64 1048576)))),none⟩] [])
 (.seq (.region [⟨(some 11),.mv (.t 0),none⟩,
 ⟨(some 12),.mv (.t 3),none⟩,
 ⟨(some 13),.call false 11 [(.t 11),(.t 12)],none⟩,
 ⟨(some 3),.mv (.t 13),none⟩] [11,12,13])
 (.seq (.seq (.region [⟨(some 14),.mv (.t 3),none⟩,
 ⟨(some 15),.bin .lss (.t 14) (.k (.c (.d (.int .i64 0)))),none⟩] [3,14])
 (.cond (.t 15)
 (.seq (.region [⟨(some 2),.mv (.k (.c (.d (.bool true)))),none⟩] [0,15])
 (.ret))
 (.skip)))
 (.seq (.region [⟨(some 16),.mv (.t 0),none⟩,
 ⟨(some 17),.qcall 13 [(.t 16)],none⟩,
 ⟨(some 18),.qcall 12 [(.t 17)],none⟩,
 ⟨(some 4),.mv (.t 18),none⟩] [2,15,16,17,18])
 (.seq (.region [⟨(some 19),.mv (.t 0),none⟩,
 ⟨(some 20),.call false 13 [(.t 19)],none⟩,
 ⟨(some 5),.mv (.t 20),none⟩] [19,20])
 (.seq (.region [⟨(some 21),.mv (.t 5),none⟩,
 ⟨(some 22),.call false 14 [(.t 21)],none⟩,
 ⟨(some 6),.mv (.t 22),none⟩] [21,22])
 (.seq (.seq (.region [⟨(some 23),.mv (.t 6),none⟩,
 ⟨(some 24),.mv (.t 4),none⟩,
 ⟨(some 25),.qcall 15 [(.t 23),(.t 24)],none⟩,
 ⟨(some 26),.un .not (.t 25),none⟩] [23,24,25])
 (.cond (.t 26)
 (.seq (.region [⟨(some 2),.mv (.k (.c (.d (.bool false)))),none⟩] [0,4,5,6,26])
 (.ret))
 (.skip)))
 (.seq (.seq (.region [⟨(some 27),.mv (.t 5),none⟩,
 ⟨(some 28),.mv (.t 0),none⟩,
 ⟨(some 29),.qcall 13 [(.t 28)],none⟩,
 ⟨(some 30),.qcall 16 [(.t 27),(.t 29)],none⟩,
 ⟨(some 31),.un .not (.t 30),none⟩] [2,26,27,28,29,30])
 (.cond (.t 31)
 (.seq (.region [⟨(some 2),.mv (.k (.c (.d (.bool false)))),none⟩] [0,4,5,6,31])
 (.ret))
 (.skip)))
 (.seq (.region [⟨(some 7),.mv (.k (.c (.d (.int .i64 1)))),none⟩] [2,31])
 (.seq (.region [⟨(some 32),.mv (.t 5),none⟩,
 ⟨(some 33),.mv (.t 7),none⟩,
 ⟨(some 34),.call false 17 [(.t 32),(.t 33)],none⟩,
 ⟨(some 7),.mv (.t 34),none⟩] [5,32,33,34])
 (.seq (.seq (.region [⟨(some 35),.mv (.t 7),none⟩,
 ⟨(some 36),.bin .lss (.t 35) (.k (.c (.d (.int .i64 0)))),none⟩,
 ⟨(some 37),.mv (.t 36),none⟩,
 ⟨(some 38),.mv (.t 6),some (37,false)⟩,
 ⟨(some 39),.mv (.t 4),some (37,false)⟩,
 ⟨(some 40),.qcall 15 [(.t 38),(.t 39)],some (37,false)⟩,
 ⟨(some 41),.un .not (.t 40),some (37,false)⟩,
 ⟨(some 42),.pick (.t 37) (.k (.c (.d (.bool true)))) (.t 41),none⟩] [7,35,36,37,38,39,40,41])
 (.cond (.t 42)
 (.seq (.region [⟨(some 2),.mv (.k (.c (.d (.bool false)))),none⟩] [0,4,6,42])
 (.ret))
 (.skip)))
 (.seq (.region [⟨(some 8),.mv (.k (.c (.d (.int .i64 1)))),none⟩] [2,42])
 (.seq (.region [⟨(some 43),.mv (.t 6),none⟩,
 ⟨(some 44),.mv (.t 8),none⟩,
 ⟨(some 45),.call false 18 [(.t 43),(.t 44)],none⟩,
 ⟨(some 8),.mv (.t 45),none⟩] [43,44,45])
 (.seq (.region [⟨(some 9),.mv (.k (.c (.d (.int .i64 1)))),none⟩] [])
 (.seq (.region [⟨(some 46),.mv (.t 6),none⟩,
 ⟨(some 47),.mv (.t 9),none⟩,
 ⟨(some 48),.qcall 19 [(.t 46),(.t 47)],none⟩,
 ⟨(some 9),.mv (.t 48),none⟩] [46,47,48])
 (.seq (.seq (.region [⟨(some 49),.mv (.t 9),none⟩,
 ⟨(some 50),.bin .lss (.t 49) (.k (.c (.d (.int .i64 0)))),none⟩] [49])
 (.cond (.t 50)
 (.seq (.region [⟨(some 2),.mv (.k (.c (.d (.bool false)))),none⟩] [0,4,6,8,9,50])
 (.ret))
 (.skip)))
 (.seq (.seq (.region [⟨(some 51),.mv (.t 9),none⟩,
 ⟨(some 52),.mv (.t 8),none⟩,
 ⟨(some 53),.bin .neq (.t 51) (.t 52),none⟩] [2,9,50,51,52])
 (.cond (.t 53)
 (.seq (.region [⟨(some 2),.mv (.k (.c (.d (.bool false)))),none⟩] [0,4,6,8,53])
 (.ret))
 (.skip)))
 (.seq (.region [⟨(some 54),.mv (.t 0),none⟩,
 ⟨(some 55),.qcall 13 [(.t 54)],none⟩,
 ⟨(some 56),.call false 14 [(.t 55)],none⟩,
 ⟨(some 10),.mv (.t 56),none⟩] [0,2,53,54,55,56])
 (.seq (.seq (.region [⟨(some 57),.mv (.t 10),none⟩,
 ⟨(some 58),.mv (.t 4),none⟩,
 ⟨(some 59),.qcall 15 [(.t 57),(.t 58)],none⟩,
 ⟨(some 60),.un .not (.t 59),none⟩] [4,10,57,58,59])
 (.cond (.t 60)
 (.seq (.region [⟨(some 2),.mv (.k (.c (.d (.bool false)))),none⟩] [6,8,60])
 (.ret))
 (.skip)))
 (.seq (.region [⟨(some 9),.mv (.k (.c (.d (.int .i64 1)))),none⟩] [2,60])
 (.seq (.region [⟨(some 61),.mv (.t 6),none⟩,
 ⟨(some 62),.mv (.t 9),none⟩,
 ⟨(some 63),.qcall 19 [(.t 61),(.t 62)],none⟩,
 ⟨(some 9),.mv (.t 63),none⟩] [6,61,62,63])
 (.seq (.seq (.region [⟨(some 64),.mv (.t 9),none⟩,
 ⟨(some 65),.bin .lss (.t 64) (.k (.c (.d (.int .i64 0)))),none⟩] [64])
 (.cond (.t 65)
 (.seq (.region [⟨(some 2),.mv (.k (.c (.d (.bool false)))),none⟩] [8,9,65])
 (.ret))
 (.skip)))
 (.seq (.seq (.region [⟨(some 66),.mv (.t 9),none⟩,
 ⟨(some 67),.mv (.t 8),none⟩,
 ⟨(some 68),.bin .neq (.t 66) (.t 67),none⟩] [2,8,9,65,66,67])
 (.cond (.t 68)
 (.seq (.region [⟨(some 2),.mv (.k (.c (.d (.bool false)))),none⟩] [68])
 (.ret))
 (.skip)))
 (.seq (.region [⟨(some 2),.mv (.k (.c (.d (.bool true)))),none⟩] [68])
 (.ret)))))))))))))))))))))))))
theorem ac4_ok : cFunc Try.prog [1000012,1000013,1000015,1000016,1000019,7000019] [(0,[2],[]),(1,[],[]),(2,[11,12,13],[]),(3,[3,14],[]),(4,[0,15],[]),(5,[2,15,16,17,18],[]),(6,[19,20],[]),(7,[21,22],[]),(8,[23,24,25],[]),(9,[0,4,5,6,26],[]),(10,[2,26,27,28,29,30],[]),(11,[0,4,5,6,31],[]),(12,[2,31],[]),(13,[5,32,33,34],[]),(14,[7,35,36,37,38,39,40,41],[]),(15,[0,4,6,42],[]),(16,[2,42],[]),(17,[43,44,45],[]),(18,[],[]),(19,[46,47,48],[]),(20,[49],[]),(21,[0,4,6,8,9,50],[]),(22,[2,9,50,51,52],[]),(23,[0,4,6,8,53],[]),(24,[0,2,53,54,55,56],[]),(25,[4,10,57,58,59],[]),(26,[6,8,60],[]),(27,[2,60],[]),(28,[6,61,62,63],[]),(29,[64],[]),(30,[8,9,65],[]),(31,[2,8,9,65,66,67],[]),(32,[68],[]),(33,[68],[])] Try.f4 = some (ac4,[.tmp 2],69) := by kernel_rfl
-- 14 loop.example/prologserver/impl.QueryVars params 1 ntmps 8
def ac14 : Cd := .seq (.region [⟨(some 2),.mv (.k (.c (.full []))),none⟩] [2])
 (.seq (.seq (.region [⟨(some 3),.mv (.t 0),none⟩,
 ⟨(some 4),.qcall 40 [(.t 3)],none⟩,
 ⟨(some 5),.un .not (.t 4),none⟩] [3,4])
 (.cond (.t 5)
 (.seq (.region [⟨(some 2),.mv (.k (.c (.full []))),none⟩] [0,5])
 (.ret))
 (.skip)))
 (.seq (.region [⟨(some 6),.mv (.t 0),none⟩,
 ⟨(some 7),.call false 41 [(.t 6)],none⟩,
 ⟨(some 2),.mv (.t 7),none⟩] [0,5,6,7])
 (.ret)))
theorem ac14_ok : cFunc Try.prog [1000040] [(0,[2],[]),(1,[3,4],[]),(2,[0,5],[]),(3,[0,5,6,7],[])] Try.f14 = some (ac14,[.tmp 2],8) := by kernel_rfl
-- 18 loop.example/prologserver/laws.markIntS params 2 ntmps 19
-- loop head live: [0,1,5]
def ac18 : Cd := .seq (.region [⟨(some 4),.mv (.k (.c (.d (.int .i64 0)))),none⟩] [4])
 (.seq (.seq (.region [⟨(some 5),.mv (.k (.c (.d (.int .i64 0)))),none⟩] [])
 (.block 0 (.loop (.seq (.seq (.region [⟨(some 6),.mv (.t 5),none⟩,
 ⟨(some 7),.mv (.t 0),none⟩,
 ⟨(some 8),.len 1 (.t 7),none⟩,
 ⟨(some 9),.bin .lss (.t 6) (.t 8),none⟩] [6,7,8])
 (.cond (.t 9)
 (.skip)
 (.exit 0)))
 (.seq (.block 1 (.seq (.region [⟨(some 12),.mv (.t 0),none⟩,
 ⟨(some 13),.mv (.t 5),none⟩,
 ⟨(some 14),.mv (.t 1),none⟩,
 ⟨(some 15),.indexAddr 1 (.t 12) (.t 13),none⟩,
 ⟨none,.store 1 (.t 15) (.t 14),none⟩] [9,12,13,14,15])
 (.region [⟨(some 16),.mv (.t 1),none⟩,
 ⟨(some 17),.bin .add (.t 16) (.k (.c (.d (.int .i64 1)))),none⟩,
 ⟨(some 1),.mv (.t 17),none⟩] [16,17])))
 (.region [⟨(some 10),.mv (.t 5),none⟩,
 ⟨(some 11),.bin .add (.t 10) (.k (.c (.d (.int .i64 1)))),none⟩,
 ⟨(some 5),.mv (.t 11),none⟩] [10,11]))))))
 (.seq (.region [⟨(some 18),.mv (.t 1),none⟩,
 ⟨(some 4),.mv (.t 18),none⟩] [1,18])
 (.ret)))
theorem ac18_ok : cFunc Try.prog [] [(0,[4],[]),(1,[],[]),(2,[6,7,8],[]),(4,[9,12,13,14,15],[]),(5,[16,17],[]),(3,[10,11],[]),(6,[1,18],[])] Try.f18 = some (ac18,[.tmp 4],19) := by kernel_rfl
-- 19 loop.example/prologserver/laws.heldIntS params 2 ntmps 21
-- loop head live: [0,1,5]
def ac19 : Cd := .seq (.region [⟨(some 4),.mv (.k (.c (.d (.int .i64 0)))),none⟩] [4])
 (.seq (.seq (.region [⟨(some 5),.mv (.k (.c (.d (.int .i64 0)))),none⟩] [])
 (.block 0 (.loop (.seq (.seq (.region [⟨(some 6),.mv (.t 5),none⟩,
 ⟨(some 7),.mv (.t 0),none⟩,
 ⟨(some 8),.len 1 (.t 7),none⟩,
 ⟨(some 9),.bin .lss (.t 6) (.t 8),none⟩] [6,7,8])
 (.cond (.t 9)
 (.skip)
 (.exit 0)))
 (.seq (.block 1 (.seq (.seq (.region [⟨(some 12),.mv (.t 0),none⟩,
 ⟨(some 13),.mv (.t 5),none⟩,
 ⟨(some 14),.indexAddr 1 (.t 12) (.t 13),none⟩,
 ⟨(some 15),.load none (.t 14),none⟩,
 ⟨(some 16),.mv (.t 1),none⟩,
 ⟨(some 17),.bin .neq (.t 15) (.t 16),none⟩] [9,12,13,14,15,16])
 (.cond (.t 17)
 (.seq (.region [⟨(some 4),.mv (.k (.c (.d (.int .i64 (-1))))),none⟩] [0,1,5,17])
 (.ret))
 (.skip)))
 (.region [⟨(some 18),.mv (.t 1),none⟩,
 ⟨(some 19),.bin .add (.t 18) (.k (.c (.d (.int .i64 1)))),none⟩,
 ⟨(some 1),.mv (.t 19),none⟩] [4,17,18,19])))
 (.region [⟨(some 10),.mv (.t 5),none⟩,
 ⟨(some 11),.bin .add (.t 10) (.k (.c (.d (.int .i64 1)))),none⟩,
 ⟨(some 5),.mv (.t 11),none⟩] [10,11]))))))
 (.seq (.region [⟨(some 20),.mv (.t 1),none⟩,
 ⟨(some 4),.mv (.t 20),none⟩] [1,20])
 (.ret)))
theorem ac19_ok : cFunc Try.prog [] [(0,[4],[]),(1,[],[]),(2,[6,7,8],[]),(4,[9,12,13,14,15,16],[]),(5,[0,1,5,17],[]),(6,[4,17,18,19],[]),(3,[10,11],[]),(7,[1,20],[])] Try.f19 = some (ac19,[.tmp 4],21) := by kernel_rfl
-- 15 loop.example/prologserver/laws.eqIntS params 2 ntmps 26
-- loop head live: [0,1,5]
def ac15 : Cd := .seq (.region [⟨(some 4),.mv (.k (.c (.d (.bool false)))),none⟩] [4])
 (.seq (.seq (.region [⟨(some 6),.mv (.t 0),none⟩,
 ⟨(some 7),.len 1 (.t 6),none⟩,
 ⟨(some 8),.mv (.t 1),none⟩,
 ⟨(some 9),.len 1 (.t 8),none⟩,
 ⟨(some 10),.bin .neq (.t 7) (.t 9),none⟩] [6,7,8,9])
 (.cond (.t 10)
 (.seq (.region [⟨(some 4),.mv (.k (.c (.d (.bool false)))),none⟩] [0,1,10])
 (.ret))
 (.skip)))
 (.seq (.seq (.region [⟨(some 5),.mv (.k (.c (.d (.int .i64 0)))),none⟩] [4,10])
 (.block 0 (.loop (.seq (.seq (.region [⟨(some 11),.mv (.t 5),none⟩,
 ⟨(some 12),.mv (.t 0),none⟩,
 ⟨(some 13),.len 1 (.t 12),none⟩,
 ⟨(some 14),.bin .lss (.t 11) (.t 13),none⟩] [11,12,13])
 (.cond (.t 14)
 (.skip)
 (.exit 0)))
 (.seq (.block 1 (.seq (.region [⟨(some 17),.mv (.t 0),none⟩,
 ⟨(some 18),.mv (.t 5),none⟩,
 ⟨(some 19),.indexAddr 1 (.t 17) (.t 18),none⟩,
 ⟨(some 21),.mv (.t 1),none⟩,
 ⟨(some 22),.mv (.t 5),none⟩,
 ⟨(some 23),.indexAddr 1 (.t 21) (.t 22),none⟩,
 ⟨(some 20),.load none (.t 19),none⟩,
 ⟨(some 24),.load none (.t 23),none⟩,
 ⟨(some 25),.bin .neq (.t 20) (.t 24),none⟩] [14,17,18,19,20,21,22,23,24])
 (.cond (.t 25)
 (.seq (.region [⟨(some 4),.mv (.k (.c (.d (.bool false)))),none⟩] [0,1,5,25])
 (.ret))
 (.skip))))
 (.region [⟨(some 15),.mv (.t 5),none⟩,
 ⟨(some 16),.bin .add (.t 15) (.k (.c (.d (.int .i64 1)))),none⟩,
 ⟨(some 5),.mv (.t 16),none⟩] [4,15,16,25]))))))
 (.seq (.region [⟨(some 4),.mv (.k (.c (.d (.bool true)))),none⟩] [])
 (.ret))))
theorem ac15_ok : cFunc Try.prog [] [(0,[4],[]),(1,[6,7,8,9],[]),(2,[0,1,10],[]),(3,[4,10],[]),(4,[11,12,13],[]),(6,[14,17,18,19,20,21,22,23,24],[0,1,2,4,5,6,3,7,8]),(7,[0,1,5,25],[]),(5,[4,15,16,25],[]),(8,[],[])] Try.f15 = some (ac15,[.tmp 4],26) := by kernel_rfl
theorem flat_ints (l : List Int) : Flat (intRows l) := by
  intro x hx
  simp only [intRows, List.mem_flatten, List.mem_map] at hx
  obtain ⟨r, ⟨b, _, rfl⟩, hx⟩ := hx
  simp at hx
  subst hx
  rfl
theorem qvsOwn_calls (l : List Tm) (hl : l.length ≤ 1048576) (h : ∀ t ∈ l, t.fits) : ACalls Try.prog 14 [.c (.d (.sl (l.map Tm.row)))] [] (HandsRows (intRows (qvR l))) := by
  refine acallsT Try.func14 (by kernel_rfl) ac14_ok ?_
  simp -implicitDefEqProofs [ac14, go_sem, -List.set_cons_succ, -List.set_cons_zero]
  have hq := qvImpl_calls l hl h
  cases hb : goalsB l with
  | false =>
    simp only [hb] at hq
    refine qcall_pure hq trivial rfl ?_
    have : qvR l = [] := by rw [qvR, hb]; rfl
    simp -implicitDefEqProofs [go_sem, -List.set_cons_succ, -List.set_cons_zero]
    rw [this]
    exact finT_ret _ ⟨trivial, trivial⟩ rfl fun kv => ⟨_, _, _, .one (.c .full), by simp, _, rfl, rfl⟩
  | true =>
    simp only [hb] at hq
    refine qcall_pure hq trivial rfl ?_
    obtain ⟨g1, g2⟩ := goals_ok hb
    have : qvR l = varsL l [] := by rw [qvR, hb]; rfl
    simp -implicitDefEqProofs [go_sem, -List.set_cons_succ, -List.set_cons_zero]
    refine (varsOf_calls l hl h (by omega) []).mono fun r H' ⟨h1, h2⟩ => ⟨[], [.grow (varsL l []).length 1], .c (.own (.l 0) (varsL l []).length (intRows (varsL l []))), by rw [h1]; rfl, rfl, by simp, trivial, by rw [h2]; simp [A.re, C.re, Ref.re], ?_⟩
    simp -implicitDefEqProofs [go_sem, -List.set_cons_succ, -List.set_cons_zero]
    rw [this]
    exact finT_ret _ ⟨trivial, trivial⟩ rfl fun kv => ⟨_, _, _, .one (.c (.own (js := []) rfl (by simp [intRows_len]) ((strip_flat (flat_ints _)).2 ⟨rfl, rfl⟩) rfl (fun m hm => by simp at hm))), by simp, _, rfl, rfl⟩
def mInts (k : Int) (n : Nat) : List (List D) := (List.range n).map fun i : Nat => [.int .i64 (k + i)]
theorem mInts_len (k : Int) (n : Nat) : (mInts k n).length = n := by simp [mInts]
theorem markIntS_calls (l : List Int) (k : Int) (h0 : 0 ≤ k) (h1 : k + l.length ≤ 500000000000000) (kv : Value) : ACalls Try.prog 18 [.c (.d (.v kv)), .c (.d (.int .i64 k))] [.tree kv (intRows l)]
    (fun r H' => H' = [.tree kv (mInts k l.length)] ∧ r = .c (.d (.int .i64 (k + l.length)))) := by
  have hlen := intRows_len l
  refine (acalls_flat (f := 18) (pre := []) (post := [.c (.d (.int .i64 k))]) (rows := intRows l) (Q := fun r rows' => r = .c (.d (.int .i64 (k + l.length))) ∧ rows' = mInts k l.length) 1 (allLen_ints l) (flat_ints l) rfl rfl (fun he => ?_) ?_ kv).mono fun r H' ⟨rows', h1, _, h2, h3⟩ => ⟨by rw [h1, h3], h2⟩
  · have hs : l.length = 0 := by rw [← hlen, he]; rfl
    have hk0 : inR .i64 k := small_i64 (by omega) (by omega)
    have hz0 : inR .i64 0 := small_i64 (by omega) (by omega)
    refine acalls Try.func18 (by kernel_rfl) ac18_ok fun hf => ?_
    simp -implicitDefEqProofs [ac18, go_sem, -List.set_cons_succ, -List.set_cons_zero]
    refine loop_set (σ := Unit) (fun _ => [(5, .c (.d (.int .i64 0)))]) (fun _ => []) (fun _ => []) (fun _ => True) (fun _ => 0) () rfl trivial ?_
    intro _ _
    simp -implicitDefEqProofs [setAll, hs, hz0, mInts, A.portT, A.portB, C.portB, D.leaf, go_sem, -List.set_cons_succ, -List.set_cons_zero]
  · refine acalls Try.func18 (by kernel_rfl) ac18_ok fun hf => ?_
    have hl : inR .i64 (l.length : Int) := small_i64 (by omega) (by omega)
    simp -implicitDefEqProofs [ac18, hl, hlen, go_sem, -List.set_cons_succ, -List.set_cons_zero]
    refine loop_set (σ := Nat) (fun i => [(5, .c (.d (.int .i64 i))), (1, .c (.d (.int .i64 (k + i))))]) (fun i => [.rows (mixed (fun i : Nat => [.int .i64 (k + i)]) (intRows l) i)]) (fun _ => []) (fun i => i ≤ l.length) (fun i => l.length - i) 0 (by simp [setAll, mixed_zero]) (Nat.zero_le _) ?_
    intro i hi
    simp -implicitDefEqProofs [setAll, hl, hlen, go_sem, -List.set_cons_succ, -List.set_cons_zero]
    refine ⟨fun hlt => ?_, fun hge => ?_⟩
    · have hadd : inR .i64 ((i : Int) + 1) := small_i64 (by omega) (by omega)
      have hadk : inR .i64 (k + i + 1) := small_i64 (by omega) (by omega)
      have hlt' : i < (intRows l).length := by rw [hlen]; exact hlt
      have hget : (mixed (fun i : Nat => [D.int .i64 (k + i)]) (intRows l) i)[i]? = some [.int .i64 l[i]] := by rw [mixed_get _ _ hlt', ← List.getElem?_eq_getElem hlt']; simp [intRows, hlt]
      refine ⟨hlt, ?_⟩
      simp -implicitDefEqProofs [hget, hadd, hadk, go_sem, -List.set_cons_succ, -List.set_cons_zero]
      refine ⟨trivial, loop_back (i + 1) ?_ hlt (by show l.length - (i + 1) < l.length - i; omega)⟩
      have hset := mixed_set (fun i : Nat => [D.int .i64 (k + i)]) (intRows l) hlt'
      simp [setAll, ← hset]
      omega
    · obtain rfl : i = l.length := by omega
      refine ⟨mInts k l.length, ?_, mInts_len _ _, ?_, ?_, rfl, rfl, rfl⟩
      · intro x hx
        simp only [mInts, List.mem_flatten, List.mem_map] at hx
        obtain ⟨r, ⟨b, _, rfl⟩, hx⟩ := hx
        simp at hx
        subst hx
        rfl
      · intro r hr
        obtain ⟨b, _, rfl⟩ := List.mem_map.1 hr
        rfl
      · have := mixed_all (fun i : Nat => [D.int .i64 (k + i)]) (intRows l)
        rw [hlen] at this
        exact this
theorem heldIntS_calls (n : Nat) (k : Int) (h0 : 0 ≤ k) (h1 : k + n ≤ 500000000000000) (H : Heap) : ACalls Try.prog 19 [.c (.d (.sl (mInts k n))), .c (.d (.int .i64 k))] H
    (fun r H' => H' = H ∧ r = .c (.d (.int .i64 (k + n)))) := by
  refine acalls Try.func19 (by kernel_rfl) ac19_ok fun hf => ?_
  have hl : inR .i64 (n : Int) := small_i64 (by omega) (by omega)
  simp -implicitDefEqProofs [ac19, hl, mInts_len, go_sem, -List.set_cons_succ, -List.set_cons_zero]
  refine loop_set (σ := Nat) (fun i => [(5, .c (.d (.int .i64 i))), (1, .c (.d (.int .i64 (k + i))))]) (fun i => H) (fun _ => []) (fun i => i ≤ n) (fun i => n - i) 0 (by simp [setAll]) (Nat.zero_le _) ?_
  intro i hi
  simp -implicitDefEqProofs [setAll, hl, mInts_len, go_sem, -List.set_cons_succ, -List.set_cons_zero]
  refine ⟨fun hlt => ?_, fun hge => ?_⟩
  · have hadd : inR .i64 ((i : Int) + 1) := small_i64 (by omega) (by omega)
    have hadk : inR .i64 (k + i + 1) := small_i64 (by omega) (by omega)
    refine row_nat [.int .i64 (k + i)] (range_row (f := fun i : Nat => [D.int .i64 (k + i)]) hlt) rfl ?_
    simp -implicitDefEqProofs [hadd, hadk, go_sem, -List.set_cons_succ, -List.set_cons_zero]
    exact loop_back (i + 1) (by simp [setAll]; omega) hlt (by show n - (i + 1) < n - i; omega)
  · obtain rfl : i = n := by omega
    rfl
theorem eqIntS_calls (l : List Int) (hl : l.length ≤ 4000000) (H : Heap) : ACalls Try.prog 15 [.c (.d (.sl (intRows l))), .c (.d (.sl (intRows l)))] H (fun r H' => H' = H ∧ r = .c (.d (.bool true))) := by
  refine acalls Try.func15 (by kernel_rfl) ac15_ok fun hf => ?_
  have hli : inR .i64 (l.length : Int) := small_i64 (by omega) (by omega)
  simp -implicitDefEqProofs [ac15, hli, intRows_len, go_sem, -List.set_cons_succ, -List.set_cons_zero]
  refine loop_set (σ := Nat) (fun i => [(5, .c (.d (.int .i64 i)))]) (fun _ => H) (fun _ => []) (fun i => i ≤ l.length) (fun i => l.length - i) 0 rfl (Nat.zero_le _) ?_
  intro i hi
  simp -implicitDefEqProofs [setAll, hli, intRows_len, go_sem, -List.set_cons_succ, -List.set_cons_zero]
  intro hlt
  have hadd : inR .i64 ((i : Int) + 1) := small_i64 (by omega) (by omega)
  have hrow : (intRows l)[i]? = some [.int .i64 l[i]] := by simp [intRows, hlt]
  refine row_nat _ hrow rfl ?_
  simp -implicitDefEqProofs [go_sem, -List.set_cons_succ, -List.set_cons_zero]
  refine row_nat _ hrow rfl ?_
  simp -implicitDefEqProofs [hadd, go_sem, -List.set_cons_succ, -List.set_cons_zero]
  exact loop_back (i + 1) (by simp [setAll]) hlt (by show l.length - (i + 1) < l.length - i; omega)
theorem qvxLaw_calls (l : List Tm) (hl : l.length ≤ reachBytes) (hfine : ∀ t ∈ l, t.fine) : ACalls Try.prog 4 [.c (.d (.sl (l.map Tm.row)))] [] (fun r _ => r = .c (.d (.bool true))) := by
  refine acalls Try.func4 (by kernel_rfl) ac4_ok fun hf => ?_
  simp -implicitDefEqProofs [ac4, go_sem, -List.set_cons_succ, -List.set_cons_zero]
  refine call_some (szwTermS_calls l hl hfine 1048576 (by omega) (by omega) _) (by simp [Ob.re, C.re]) (fun r => LeftW.re) hf ?_
  rintro _ ⟨k, rfl, _, _, hk⟩
  simp -implicitDefEqProofs [go_sem, -List.set_cons_succ, -List.set_cons_zero]
  intro h0
  obtain ⟨hlb, hfit⟩ := (hk h0).1
  have hw := (hk h0).2
  have hcw := cnt_wts l
  have cs := qvsSpec_calls l hlb hfit
  have ci := qvsOwn_calls l hlb hfit
  have hul : (qvR l).length ≤ 1000000 := by
    unfold qvR
    split
    · rename_i hb
      have h1 := (goals_ok hb).1
      have h2 := varsL_len l []
      simp at h2
      omega
    · simp
  generalize qvR l = u at hul cs ci
  have ctt := toTermS_calls l hlb hfit
  have ctto := toTermSOwn_calls l hlb hfit
  have ceu := eqIntS_calls u (by omega) []
  have cet := eqTermS_calls l hlb hfit []
  have hp1 : ¬ (1 + 3 * (Tm.cnt l : Int) < 0) := by omega
  have hp2 : ¬ (1 + (u.length : Int) < 0) := by omega
  have zu : ∀ {H : Heap} {v : Value} {i : Nat}, H[i]? = some (.tree v (intRows u)) → FzL H [] [.c (.d (.v v)), .c (.d (.sl (intRows u)))] [.c (.d (.sl (intRows u))), .c (.d (.sl (intRows u)))] := fun h =>
    .cons (.c (.tree h (by simp))) (.cons (.c .d) .nil)
  refine qcall_pure ctt hf rfl ?_
  simp -implicitDefEqProofs [go_sem, -List.set_cons_succ, -List.set_cons_zero]
  refine qcall_pure cs hf rfl ?_
  simp -implicitDefEqProofs [go_sem, -List.set_cons_succ, -List.set_cons_zero]
  refine call_loc (J := []) ctto (fun r H' h => h.handed) rfl (.cons (.c .d) .nil) List.nodup_nil rfl rfl ?_
  rintro _ _ ⟨vp, rfl, rfl⟩ _
  simp -implicitDefEqProofs [putAll, go_sem, -List.set_cons_succ, -List.set_cons_zero]
  refine call_loc (J := []) ci (fun r H' h => h.handed) rfl (.cons (.c (.tree (i := 0) rfl (by simp))) .nil) List.nodup_nil rfl rfl ?_
  rintro _ _ ⟨vu, rfl, rfl⟩ _
  simp -implicitDefEqProofs [putAll, go_sem, -List.set_cons_succ, -List.set_cons_zero]
  refine qcall_read ceu rfl hf (zu (i := 1) rfl) ?_
  simp -implicitDefEqProofs [go_sem, -List.set_cons_succ, -List.set_cons_zero]
  refine qcall_pure ctt hf rfl ?_
  simp -implicitDefEqProofs [go_sem, -List.set_cons_succ, -List.set_cons_zero]
  refine qcall_read cet rfl hf (.cons (.c (.tree (i := 0) rfl (by simp))) (.cons (.c .d) .nil)) ?_
  simp -implicitDefEqProofs [go_sem, -List.set_cons_succ, -List.set_cons_zero]
  refine call_loc (J := [0]) (markTermS_calls l hlb hfit 1 (by omega) (by omega) vp) (fun r H' ⟨h1, h2⟩ => by subst h1; subst h2; exact ⟨rfl, rfl⟩) rfl (.cons (.c .d) (.cons (.c .d) .nil)) (by simp) rfl rfl ?_
  rintro _ _ ⟨rfl, rfl⟩ _
  simp -implicitDefEqProofs [putAll, hp1, go_sem, -List.set_cons_succ, -List.set_cons_zero]
  refine qcall_read ceu rfl hf (zu (i := 1) rfl) ?_
  simp -implicitDefEqProofs [go_sem, -List.set_cons_succ, -List.set_cons_zero]
  refine call_loc (J := [1]) (markIntS_calls u 1 (by omega) (by omega) vu) (fun r H' ⟨h1, h2⟩ => by subst h1; subst h2; exact ⟨rfl, rfl⟩) rfl (.cons (.c .d) (.cons (.c .d) .nil)) (by simp) rfl rfl ?_
  rintro _ _ ⟨rfl, rfl⟩ _
  simp -implicitDefEqProofs [putAll, go_sem, -List.set_cons_succ, -List.set_cons_zero]
  have zg : ∀ {H : Heap}, H[1]? = some (.tree vu (mInts 1 u.length)) → FzL H [] [.c (.d (.v vu)), .c (.d (.int .i64 1))] [.c (.d (.sl (mInts 1 u.length))), .c (.d (.int .i64 1))] := fun h =>
    .cons (.c (.tree (i := 1) h (by simp))) (.cons (.c .d) .nil)
  refine qcall_read (heldIntS_calls u.length 1 (by omega) (by omega) []) rfl hf (zg rfl) ?_
  simp -implicitDefEqProofs [hp2, go_sem, -List.set_cons_succ, -List.set_cons_zero]
  refine qcall_pure ctt hf rfl ?_
  simp -implicitDefEqProofs [go_sem, -List.set_cons_succ, -List.set_cons_zero]
  refine call_loc (J := []) ci (fun r H' h => h.handed) rfl (.cons (.c .d) .nil) List.nodup_nil rfl rfl ?_
  rintro _ _ ⟨vh, rfl, rfl⟩ _
  simp -implicitDefEqProofs [putAll, go_sem, -List.set_cons_succ, -List.set_cons_zero]
  refine qcall_read ceu rfl hf (zu (i := 2) rfl) ?_
  simp -implicitDefEqProofs [go_sem, -List.set_cons_succ, -List.set_cons_zero]
  refine qcall_read (heldIntS_calls u.length 1 (by omega) (by omega) []) rfl hf (zg rfl) ?_
  simp -implicitDefEqProofs [hp2, go_sem, -List.set_cons_succ, -List.set_cons_zero]
theorem law_run4 (rows : List (List D)) (hr : HasTys Try.prog (#[29] : Array TypeId).toList rows) : ACalls Try.prog 4 (argsA Try.prog (#[29] : Array TypeId).toList rows) [] (fun r _ => r = .c (.d (.bool true))) := by
  obtain ⟨r, rs, rfl, h1, h2⟩ := hr.cons
  obtain rfl := h2.nil
  obtain ⟨l, rfl, hl, hfine⟩ := tms_ty h1
  simp only [argsA, argA, Try.underlying29, List.headD_cons]
  exact qvxLaw_calls l hl hfine
namespace fnExactQueryVars
theorem own : ownKnob Try.prog.godebug = none := by kernel_rfl
theorem contract (H : Type) (enc : TypeId × Value → H) (W : World) (base : Nat) (args : Array Value) (ds gs : List (DataW H)) (before : List MemPlace)
    (hval : ∀ (j : Nat) t v, Try.f4.params[j]? = some t → args[j]? = some v → Value.okWide Try.prog W .any base t v)
    (hW : DataW.Whole enc Try.prog Try.f4.params.toList Rows.fnExactQueryVarsSpec.vars false W args.toList ds gs before)
    (hw : (DataW.weightsEach Try.prog (Try.f4.params.toList ++ Rows.fnExactQueryVarsSpec.plain.varTypes Try.prog) (ds ++ gs)).all (· ≤ reachBytes) = true) :
    Calls Try.prog 4 args W fun e W' => ∃ v, e = .returned v ∧ Rows.fnExactQueryVarsSpec.post enc Try.prog Try.f4 false true false false W args v W' := by
  refine law_contract (L := [3, 9, 44, 29]) (tb := 4) (by kernel_rfl) (by kernel_rfl) (by kernel_rfl) rfl ?_ (by kernel_rfl) Try.underlying4 ?_ W base args ds gs before hval hW hw
  · intro ds hl
    match ds, hl with
    | [d0], _ => rfl
  · intro rows hr
    rw [Try.params4] at hr ⊢
    exact law_run4 rows hr

theorem lifted (os : Os) (started : os.Started) (H : Type) (enc : TypeId × Value → H) :
    ReturnsInHanded {} Try.checked os 4 .any (Rows.fnExactQueryVarsSpec.pre6 enc Try.prog Try.f4 Rows.fnExactQueryVarsRow.domain false) (Rows.fnExactQueryVarsSpec.post enc Try.prog Try.f4 false true false false) := by
  refine returnsInHanded_of_change_sized (C := Try.checked) own started (by kernel_rfl) Try.func4
    (ChangeSpec.witness6 (enc := enc) (C := Try.checked) false ⟨#[], #[.slice none 0 0], []⟩ 8 (by kernel_rfl) (by kernel_rfl) (by kernel_rfl) (by kernel_rfl)) ?_
  intro W base args ds gs before hval hW _ hw _
  exact contract H enc W base args ds gs before hval hW hw

theorem proved : Rows.FnExactQueryVarsSaid :=
  OpenClaim.holds_of_wide 4 Try.f4 rfl rfl rfl rfl rfl rfl rfl ⟨rfl, rfl, rfl, rfl, rfl⟩ rfl rfl rfl rfl rfl (by kernel_rfl) Try.func4 (by kernel_rfl)
    (of_decide_eq_true (by kernel_rfl)) (by unfold Func.isWrapper; first | (rw [if_pos (by decide +kernel)]; kernel_rfl) | (rw [if_neg (by decide +kernel)]; exact ⟨rfl, rfl⟩))
    (fun os started H enc _ => lifted os started H enc)
end fnExactQueryVars

end Go.Proofs.Ytoipdmomgjdnaaa
