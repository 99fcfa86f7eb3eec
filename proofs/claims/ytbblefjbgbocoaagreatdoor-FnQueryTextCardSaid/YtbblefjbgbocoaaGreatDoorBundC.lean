/-
  Contracts of functions that the law reaches, and plain lemmas: several texts in one.
  Conditions: none.
-/
import Derived.Test.YtbblefjbgbocoaaGreatDoorBundB
import Derived.Test.YtbblefjbgbocoaaGreatDoorBundA
import Derived.Test.YtbblefjbgbocoaaGreatDoorAbsN
open Go Go.AM Go.Proofs
attribute [local go_sem] kw ew sw tw a_ b_ c_ A.ok A.val d_ e_ f_ g_ h_ i_ j_ k_ l_ m_ unA unD n_ AOp.total o_ p_ q_ r_ s_ t_ u_ v_ A.thaw C.thaw A.fits As.fits C.fits evs oks w_ A.pure C.pure A.re C.re x_ y_ cut A.cells C.rows? z_ A_ B_ C_ a0_ b0_ D_ Ob.re Cs.fits E_ F_ G_ H_ I_ J_ K_ L_ M_ N_ O_ C.toD P_ Q_ R_ S_ T_ Obs.fits U_ eqD V_ W_ X_ Y_ Z_
/-
  The program's reader: terms without operators.
  Conditions: none.
-/
open Go Go.AM Go.Proofs
namespace Go.Proofs.YtbblefjbgbocoaaGreatDoor
open Go.ChangeShapes Go.WideShapes Go.ChangeAt Go.RowKit
set_option linter.unusedVariables false
set_option linter.unusedSimpArgs false
set_option maxRecDepth 100000
namespace Full
-- 168 (*loop.example/prologserver/impl.reader).primary params 2 ntmps 134
-- loop head live: [0,1,4,7,8]
def ac168 : Cd := .seq (.region [⟨(some 4),.alloc [(.d (.int .i64 0)),(.d (.int .i64 0)),(.d (.str [])),(.full [])],none⟩] [])
 (.seq (.seq (.region [⟨(some 9),.mv (.t 0),none⟩,
 ⟨(some 10),.nilCheck (.t 9),none⟩,
 ⟨(some 11),.fieldAddr 2 (.t 10),none⟩,
 ⟨(some 12),.load none (.t 11),none⟩,
 ⟨(some 13),.bin .geq (.t 12) (.k (.c (.d (.int .i64 0)))),none⟩] [9,10,11,12])
 (.cond (.t 13)
 (.seq (.region [⟨(some 14),.build [(.d (.int .i64 0)),(.d (.int .i64 0)),(.d (.str [])),(.full [])] [],none⟩,
 ⟨none,.store 4 (.t 4) (.t 14),none⟩] [0,1,13,14])
 (.ret))
 (.skip)))
 (.seq (.seq (.region [⟨(some 15),.mv (.t 1),none⟩,
 ⟨(some 16),.bin .gtr (.t 15) (.k (.c (.d (.int .i64 30)))),none⟩] [13,15])
 (.cond (.t 16)
 (.seq (.region [⟨(some 17),.mv (.t 0),none⟩,
 ⟨(some 18),.mv (.t 0),none⟩,
 ⟨(some 19),.nilCheck (.t 18),none⟩,
 ⟨(some 20),.fieldAddr 1 (.t 19),none⟩,
 ⟨(some 21),.load none (.t 20),none⟩,
 ⟨(some 22),.call false 204 [(.t 17),(.t 21)],none⟩,
 ⟨none,.store 4 (.t 4) (.t 22),none⟩] [0,1,16,17,18,19,20,21,22])
 (.ret))
 (.skip)))
 (.seq (.region [⟨(some 23),.mv (.t 0),none⟩,
 ⟨(some 24),.call false 110 [(.t 23)],none⟩,
 ⟨(some 5),.mv (.t 24),none⟩] [16,23,24])
 (.seq (.block 0 (.seq (.region [⟨(some 26),.mv (.t 5),none⟩,
 ⟨(some 27),.bin .eql (.t 26) (.k (.c (.d (.int .u8 0)))),none⟩,
 ⟨(some 25),.mv (.t 27),none⟩] [26,27])
 (.cond (.t 25)
 (.seq (.region [⟨(some 28),.mv (.t 0),none⟩,
 ⟨(some 29),.mv (.t 0),none⟩,
 ⟨(some 30),.nilCheck (.t 29),none⟩,
 ⟨(some 31),.fieldAddr 1 (.t 30),none⟩,
 ⟨(some 32),.load none (.t 31),none⟩,
 ⟨(some 33),.call false 204 [(.t 28),(.t 32)],none⟩,
 ⟨none,.store 4 (.t 4) (.t 33),none⟩] [0,1,5,25,28,29,30,31,32,33])
 (.ret))
 (.seq (.region [⟨(some 35),.mv (.t 5),none⟩,
 ⟨(some 36),.bin .geq (.t 35) (.k (.c (.d (.int .u8 65)))),none⟩,
 ⟨(some 37),.mv (.t 36),none⟩,
 ⟨(some 38),.mv (.t 5),some (37,true)⟩,
 ⟨(some 39),.bin .leq (.t 38) (.k (.c (.d (.int .u8 90)))),some (37,true)⟩,
 ⟨(some 40),.pick (.t 37) (.t 39) (.k (.c (.d (.bool false)))),none⟩,
 ⟨(some 34),.mv (.t 40),none⟩] [25,35,36,37,38,39,40])
 (.cond (.t 34)
 (.seq (.region [⟨(some 41),.mv (.t 0),none⟩,
 ⟨(some 42),.nilCheck (.t 41),none⟩,
 ⟨(some 43),.fieldAddr 1 (.t 42),none⟩,
 ⟨(some 44),.load none (.t 43),none⟩,
 ⟨(some 45),.bin .add (.t 44) (.k (.c (.d (.int .i64 1)))),none⟩,
 ⟨(some 46),.nilCheck (.t 41),none⟩,
 ⟨(some 47),.fieldAddr 1 (.t 46),none⟩,
 ⟨none,.store 1 (.t 47) (.t 45),none⟩] [0,1,34,41,42,43,44,45,46,47])
 (.seq (.region [⟨(some 48),.mv (.t 5),none⟩,
 ⟨(some 49),.bin .sub (.t 48) (.k (.c (.d (.int .u8 65)))),none⟩,
 ⟨(some 50),.cvInt .i64 (.t 49),none⟩,
 ⟨(some 51),.qcall 205 [(.t 50)],none⟩,
 ⟨none,.store 4 (.t 4) (.t 51),none⟩] [5,48,49,50,51])
 (.ret)))
 (.seq (.region [⟨(some 53),.mv (.t 0),none⟩,
 ⟨(some 54),.call false 206 [(.t 53)],none⟩,
 ⟨(some 52),.mv (.t 54),none⟩] [34,53,54])
 (.cond (.t 52)
 (.seq (.region [⟨(some 55),.mv (.t 0),none⟩,
 ⟨(some 56),.call false 207 [(.t 55)],none⟩,
 ⟨none,.store 4 (.t 4) (.t 56),none⟩] [0,1,5,52,55,56])
 (.ret))
 (.seq (.region [⟨(some 58),.mv (.t 5),none⟩,
 ⟨(some 59),.bin .eql (.t 58) (.k (.c (.d (.int .u8 40)))),none⟩,
 ⟨(some 60),.mv (.t 59),none⟩,
 ⟨(some 61),.mv (.t 0),some (60,true)⟩,
 ⟨(some 62),.nilCheck (.t 61),some (60,true)⟩,
 ⟨(some 63),.fieldAddr 3 (.t 62),some (60,true)⟩,
 ⟨(some 64),.load none (.t 63),some (60,true)⟩,
 ⟨(some 65),.pick (.t 60) (.t 64) (.k (.c (.d (.bool false)))),none⟩,
 ⟨(some 57),.mv (.t 65),none⟩] [52,58,59,60,61,62,63,64,65])
 (.cond (.t 57)
 (.seq (.region [⟨(some 66),.mv (.t 0),none⟩,
 ⟨(some 67),.nilCheck (.t 66),none⟩,
 ⟨(some 68),.fieldAddr 1 (.t 67),none⟩,
 ⟨(some 69),.load none (.t 68),none⟩,
 ⟨(some 70),.bin .add (.t 69) (.k (.c (.d (.int .i64 1)))),none⟩,
 ⟨(some 71),.nilCheck (.t 66),none⟩,
 ⟨(some 72),.fieldAddr 1 (.t 71),none⟩,
 ⟨none,.store 1 (.t 72) (.t 70),none⟩] [5,57,66,67,68,69,70,71,72])
 (.seq (.region [⟨(some 73),.mv (.t 0),none⟩,
 ⟨(some 74),.mv (.t 1),none⟩,
 ⟨(some 75),.call false 109 [(.t 73),(.k (.c (.d (.int .i64 3)))),(.t 74)],none⟩,
 ⟨(some 6),.alloc [(.d (.int .i64 0)),(.d (.int .i64 0)),(.d (.str [])),(.full [])],none⟩,
 ⟨none,.store 4 (.t 6) (.t 75),none⟩] [1,73,74,75])
 (.seq (.region [⟨(some 76),.mv (.t 0),none⟩,
 ⟨(some 77),.call false 208 [(.t 76),(.k (.c (.d (.int .u8 41))))],none⟩] [0,76,77])
 (.seq (.region [⟨(some 78),.load (some 4) (.t 6),none⟩,
 ⟨none,.store 4 (.t 4) (.t 78),none⟩] [6,78])
 (.ret)))))
 (.seq (.region [⟨(some 80),.mv (.t 5),none⟩,
 ⟨(some 81),.bin .eql (.t 80) (.k (.c (.d (.int .u8 91)))),none⟩,
 ⟨(some 82),.mv (.t 81),none⟩,
 ⟨(some 83),.mv (.t 0),some (82,true)⟩,
 ⟨(some 84),.nilCheck (.t 83),some (82,true)⟩,
 ⟨(some 85),.fieldAddr 0 (.t 84),some (82,true)⟩,
 ⟨(some 87),.mv (.t 0),some (82,true)⟩,
 ⟨(some 88),.nilCheck (.t 87),some (82,true)⟩,
 ⟨(some 89),.fieldAddr 1 (.t 88),some (82,true)⟩,
 ⟨(some 86),.load none (.t 85),some (82,true)⟩,
 ⟨(some 90),.load none (.t 89),some (82,true)⟩,
 ⟨(some 91),.slice 0 (.t 86) (some (.t 90)) none none,some (82,true)⟩,
 ⟨(some 92),.qcall 209 [(.t 91),(.k (.c (.d (.str [91,93]))))],some (82,true)⟩,
 ⟨(some 93),.un .not (.t 92),some (82,true)⟩,
 ⟨(some 94),.pick (.t 82) (.t 93) (.k (.c (.d (.bool false)))),none⟩,
 ⟨(some 79),.mv (.t 94),none⟩] [5,57,80,81,82,83,84,85,86,87,88,89,90,91,92,93,94])
 (.cond (.t 79)
 (.seq (.region [⟨(some 95),.mv (.t 0),none⟩,
 ⟨(some 96),.nilCheck (.t 95),none⟩,
 ⟨(some 97),.fieldAddr 1 (.t 96),none⟩,
 ⟨(some 98),.load none (.t 97),none⟩,
 ⟨(some 99),.bin .add (.t 98) (.k (.c (.d (.int .i64 1)))),none⟩,
 ⟨(some 100),.nilCheck (.t 95),none⟩,
 ⟨(some 101),.fieldAddr 1 (.t 100),none⟩,
 ⟨none,.store 1 (.t 101) (.t 99),none⟩] [79,95,96,97,98,99,100,101])
 (.seq (.region [⟨(some 102),.mv (.t 0),none⟩,
 ⟨(some 103),.mv (.t 1),none⟩,
 ⟨(some 104),.call false 210 [(.t 102),(.t 103)],none⟩,
 ⟨none,.store 4 (.t 4) (.t 104),none⟩] [0,1,102,103,104])
 (.ret)))
 (.skip))))))))))))
 (.seq (.region [⟨(some 105),.mv (.t 0),none⟩,
 ⟨(some 106),.call false 212 [(.t 105)],none⟩,
 ⟨(some 107),.call false 211 [(.t 106)],none⟩,
 ⟨(some 7),.alloc [(.d (.int .i64 0)),(.d (.int .i64 0)),(.d (.str [])),(.full [])],none⟩,
 ⟨none,.store 4 (.t 7) (.t 107),none⟩] [79,105,106,107])
 (.seq (.seq (.region [⟨(some 108),.mv (.t 0),none⟩,
 ⟨(some 109),.call false 110 [(.t 108)],none⟩,
 ⟨(some 110),.bin .eql (.t 109) (.k (.c (.d (.int .u8 40)))),none⟩] [108,109])
 (.cond (.t 110)
 (.seq (.seq (.region [⟨(some 8),.mv (.k (.c (.d (.bool true)))),none⟩] [110])
 (.block 1 (.loop (.seq (.seq (.region [⟨(some 111),.mv (.t 8),none⟩] [8])
 (.cond (.t 111)
 (.skip)
 (.exit 1)))
 (.seq (.block 2 (.seq (.region [⟨(some 115),.mv (.t 0),none⟩,
 ⟨(some 116),.nilCheck (.t 115),none⟩,
 ⟨(some 117),.fieldAddr 1 (.t 116),none⟩,
 ⟨(some 118),.load none (.t 117),none⟩,
 ⟨(some 119),.bin .add (.t 118) (.k (.c (.d (.int .i64 1)))),none⟩,
 ⟨(some 120),.nilCheck (.t 115),none⟩,
 ⟨(some 121),.fieldAddr 1 (.t 120),none⟩,
 ⟨none,.store 1 (.t 121) (.t 119),none⟩] [111,115,116,117,118,119,120,121])
 (.region [⟨(some 122),.fieldAddr 3 (.t 7),none⟩,
 ⟨(some 124),.mv (.t 0),none⟩,
 ⟨(some 125),.mv (.t 1),none⟩,
 ⟨(some 126),.bin .add (.t 125) (.k (.c (.d (.int .i64 1)))),none⟩,
 ⟨(some 123),.loadL false none (.t 122),none⟩,
 ⟨(some 127),.callL false false 213 [(.t 124),(.t 126)],none⟩,
 ⟨(some 128),.buildSlice 4 1 [(.int .i64 0),(.int .i64 0),(.str []),(.sl [])] [(0,(.t 127))],none⟩,
 ⟨(some 129),.append false 4 (.t 123) (.t 128),none⟩,
 ⟨(some 130),.fieldAddr 3 (.t 7),none⟩,
 ⟨none,.store 1 (.t 130) (.t 129),none⟩] [122,123,124,125,126,127,128,129,130])))
 (.region [⟨(some 112),.mv (.t 0),none⟩,
 ⟨(some 113),.call false 110 [(.t 112)],none⟩,
 ⟨(some 114),.bin .eql (.t 113) (.k (.c (.d (.int .u8 44)))),none⟩,
 ⟨(some 8),.mv (.t 114),none⟩] [112,113,114]))))))
 (.region [⟨(some 131),.mv (.t 0),none⟩,
 ⟨(some 132),.call false 208 [(.t 131),(.k (.c (.d (.int .u8 41))))],none⟩] [0,131,132]))
 (.skip)))
 (.seq (.region [⟨(some 133),.load (some 4) (.t 7),none⟩,
 ⟨none,.store 4 (.t 4) (.t 133),none⟩] [0,1,7,110,133])
 (.ret))))))))
theorem ac168_ok : cFunc Tryz.prog [1000205,1000209,5000122,6000213] [(0,[],[]),(1,[9,10,11,12],[]),(2,[0,1,13,14],[]),(3,[13,15],[]),(4,[0,1,16,17,18,19,20,21,22],[]),(5,[16,23,24],[]),(6,[26,27],[]),(7,[0,1,5,25,28,29,30,31,32,33],[]),(8,[25,35,36,37,38,39,40],[]),(9,[0,1,34,41,42,43,44,45,46,47],[]),(10,[5,48,49,50,51],[]),(11,[34,53,54],[]),(12,[0,1,5,52,55,56],[]),(13,[52,58,59,60,61,62,63,64,65],[]),(14,[5,57,66,67,68,69,70,71,72],[]),(15,[1,73,74,75],[]),(16,[0,76,77],[]),(17,[6,78],[]),(18,[5,57,80,81,82,83,84,85,86,87,88,89,90,91,92,93,94],[0,1,2,3,4,5,7,8,9,6,10,11,12,13,14,15]),(19,[79,95,96,97,98,99,100,101],[]),(20,[0,1,102,103,104],[]),(21,[79,105,106,107],[]),(22,[108,109],[]),(23,[110],[]),(24,[8],[]),(26,[111,115,116,117,118,119,120,121],[]),(27,[122,123,124,125,126,127,128,129,130],[0,2,3,4,1,5,6,7,8,9]),(25,[112,113,114],[]),(28,[0,131,132],[]),(29,[0,1,7,110,133],[])] Tryz.f168 = some (ac168,[.cell 4 (some 4)],134) := by kernel_rfl
end Full
-- 205 loop.example/prologserver/impl.variable params 1 ntmps 5
def ac205 : Cd := .seq (.region [⟨(some 2),.alloc [(.d (.int .i64 0)),(.d (.int .i64 0)),(.d (.str [])),(.full [])],none⟩] [])
 (.seq (.region [⟨(some 3),.mv (.t 0),none⟩,
 ⟨(some 4),.build [(.d (.int .i64 0)),(.d (.int .i64 0)),(.d (.str [])),(.full [])] [(0,1,(.k (.c (.d (.int .i64 1))))),(1,1,(.t 3))],none⟩,
 ⟨none,.store 4 (.t 2) (.t 4),none⟩] [0,3,4])
 (.ret))
theorem ac205_ok : cFunc Tryz.prog [] [(0,[],[]),(1,[0,3,4],[])] Tryz.f205 = some (ac205,[.cell 2 (some 4)],5) := by kernel_rfl
theorem variableR_calls (n : Int) (H : Heap) : ACalls Tryz.prog 205 [.c (.d (.int .i64 n))] H (fun r H' => H' = H ∧ r = .agg ((Tm.mk 1 n [] []).row.map .d)) := by
  refine acalls Tryz.func205 (by kernel_rfl) ac205_ok fun hf => ?_
  simp -implicitDefEqProofs [ac205, row_mk, hf, go_sem, -List.set_cons_succ, -List.set_cons_zero]
/-- an atom: nothing stands behind its arguments -/
theorem atom_full (name : List UInt8) (H : Heap) : ACalls Tryz.prog 211 [.c (.d (.str name))] H (fun r H' => H' = H ++ [.cells [.d (.int .i64 3), .d (.int .i64 0), .d (.str name), .full []]] ∧ r = .agg [.d (.int .i64 3), .d (.int .i64 0), .d (.str name), .full []]) := by
  refine acallsK Tryz.func211 (by kernel_rfl) ac211_ok fun hf => ?_
  simp -implicitDefEqProofs [ac211, hf, go_sem, -List.set_cons_succ, -List.set_cons_zero]
  refine finK_ret _ ⟨trivial, trivial⟩ rfl ?_
  simp [Ob.re, C.re, A.re]
/-- a call that leaves one object more, which looks at no other -/
theorem call_newR {P : Program} {f : FuncId} {xs : List A} {sl : List A} {ext loc H₂ : Heap} {o : Ob} {r : A} {K : A → St → Prop} (hc : ∀ H, ACalls P f xs H (fun r' H' => H' = H ++ [o] ∧ r' = r)) (ho : Ob.re ext.length o = o) (hr : A.re ext.length r = r)
    (hf : Obs.fits ext.length 0 ext) (hH : H₂ = ext ++ loc.map (Ob.re ext.length)) (hk : K r ⟨sl, ext, loc ++ [o]⟩) : ACalls P f xs H₂ (CallK K ⟨sl, ext, loc⟩) := by
  subst hH
  exact (hc _).mono fun r' H' ⟨h1, h2⟩ => ⟨ext, loc ++ [o], r, by rw [h1, List.append_assoc, List.map_append]; simp [ho], rfl, by simp, hf, by rw [h2]; exact hr.symm, hk⟩
/-- a byte that begins nothing -/
theorem name_zero {s : List UInt8} {a : Nat} (ha : a ≤ s.length) (h : s[a]? = some 0) : nameR s a = none := by
  obtain ⟨h1, h2⟩ := List.getElem?_eq_some_iff.1 h
  have hd : s.drop a = 0 :: s.drop (a + 1) := by rw [List.drop_eq_getElem_cons h1, h2]
  refine nameR_none ha (fun c r' e => by rw [hd] at e; cases e; decide) fun x hx hp => ?_
  rw [hd] at hp
  have : ∀ x ∈ signs, (match x with | [] => false | c :: _ => c != 0) = true := by decide
  have := this x hx
  obtain ⟨y, hy⟩ := hp
  cases x with
  | nil => simp at this
  | cons c w => simp at this hy; exact this hy.1
section
variable {s : List UInt8} (hs : s.length ≤ 1000000) {f : Nat}
include hs
set_option maxHeartbeats 6400000 in
theorem prime_of (h : ∀ g, g ≤ f → Prd s g) (d a : Nat) (r : Rs) (ha : a ≤ s.length) (hd : d ≤ 2000000) (hr : rp s (f + 1) (.prime d a) = some r) : Rdr 168 [.c (.d (.int .i64 d))] s a r := fun H i hp h2 hi => by
  refine acalls Tryz.func168 (by kernel_rfl) Full.ac168_ok fun hf => ?_
  rw [ro_len] at hf
  have hf1 := fun a' b' => ro_fits (s' := s) (a' := a') (b' := b') hf
  have hfr : ∀ a' b', Obs.fits (ro H i s a' b').length 0 (ro H i s a' b') := fun a' b' => by rw [ro_len]; exact hf1 a' b'
  have hr : pstep s (rp s f) (.prime d a) = some r := hr
  have zf : (Tm.mk 0 0 [] []).fits := .mk (small_i64 (by omega) (by omega)) (small_i64 (by omega) (by omega)) (by simp) (by simp) (by simp)
  simp only [pstep] at hr
  by_cases hd30 : 30 < d
  · rw [if_pos hd30] at hr
    cases hr
    have hd30' : (30 : Int) < d := by omega
    simp -implicitDefEqProofs [Full.ac168, ro_get hi, ro_len, hd30', Ref.re, go_sem, -List.set_cons_succ, -List.set_cons_zero]
    refine call_mv (stop_mv s a (-1) a) hp h2 hi (by simp [Ob.re, C.re]) (zeroA_re _) (hf1 _ _) ?_
    simp -implicitDefEqProofs [zeroA, ro_len, row_len, take_row, drop_row, pure_d, re_d, thaw_d, fits_map, hfr, hf1, go_sem, -List.set_cons_succ, -List.set_cons_zero]
    exact rq_bad zf ha
  · rw [if_neg hd30] at hr
    have hd30' : ¬ (30 : Int) < d := by omega
    simp -implicitDefEqProofs [Full.ac168, ro_get hi, ro_len, hd30', Ref.re, go_sem, -List.set_cons_succ, -List.set_cons_zero]
    refine call_mv (next_mv s hs a (-1) (by omega)) hp h2 hi (by simp [Ob.re, C.re]) rfl (hf1 _ _) ?_
    have bad0 : nxt s a (-1) = 0 → some (Rs.bad a) = some r → (?stop : Prop) := ?stopP
    cases hb : s[a]? with
    | none =>
      rw [hb] at hr
      have hn : nxt s a (-1) = 0 := by unfold nxt; rw [if_neg (by decide), hb]
      exact bad0 hn hr
    | some b =>
      have hlt := (List.getElem?_eq_some_iff.1 hb).1
      have hn : nxt s a (-1) = b := by unfold nxt; rw [if_neg (by decide), hb]
      rw [hb] at hr
      simp only at hr
      by_cases hb0 : b = 0
      · subst hb0
        rw [name_zero ha hb] at hr
        exact bad0 hn (by simpa [bigB, digB] using hr)
      · have hb0' : ¬ ((b.toNat : Int) = 0) := fun e => hb0 (UInt8.toNat_inj.1 (by simpa using e))
        rw [hn]
        simp -implicitDefEqProofs [hb0', ro_len, go_sem, -List.set_cons_succ, -List.set_cons_zero]
        have hbz : ¬ b.toNat = 0 := fun e => hb0 (UInt8.toNat_inj.1 (by simpa using e))
        have hb255 := b.toNat_lt
        have i4 : inR .i64 ((a : Int) + 1) := small_i64 (by omega) (by omega)
        refine ⟨fun h => absurd h hbz, fun _ => ⟨fun q1 q2 => ?_, fun q1 => ?_⟩⟩
        · have hbig : bigB b = true := by simp [bigB]; omega
          rw [if_pos hbig] at hr
          cases hr
          have i5 : inR .u8 ((b.toNat : Int) - 65) := by simp [inR, IntKind.min, IntKind.max, IntKind.signed, IntKind.bits]; omega
          have i6 : IntKind.wrap .i64 ((b.toNat : Int) - 65) = (b.toNat : Int) - 65 := wrap_inR (small_i64 (by omega) (by omega))
          have e1 : (b.toNat : Int) - 65 = ((b.toNat - 65 : Nat) : Int) := by omega
          simp -implicitDefEqProofs [ro_get hi, ro_len, ro_up, i4, i5, i6, Ref.re, hf1, hfr, go_sem, -List.set_cons_succ, -List.set_cons_zero]
          refine qcall_pure (variableR_calls _) (hfr _ _) (by simp [A.re, re_d]) ?_
          rw [e1]
          simp -implicitDefEqProofs [ro_len, row_len, take_row, drop_row, pure_d, re_d, thaw_d, fits_map, hfr, hf1, go_sem, -List.set_cons_succ, -List.set_cons_zero]
          exact rq_ok (.mk (by decide) (small_i64 (by omega) (by omega)) (by simp) (by simp) (by simp))
        · have hbig : ¬ bigB b = true := by simp [bigB]; omega
          rw [if_neg hbig] at hr
          refine call_mv (isNumber_mv s hs a (by omega)) hp h2 hi (by simp [Ob.re, C.re]) rfl (hf1 _ _) ?_
          have hdg : digAt s a = digB b := by unfold digAt; rw [hb]
          have hsg45 : sgn s a 45 = (b == 45) := by unfold sgn; rw [hb]
          rw [hdg, hsg45]
          by_cases hnum : (digB b || b == 45 && digAt s (a + 1)) = true
          · rw [if_pos hnum] at hr
            have hnum' : digAt s a = true ∨ (sgn s a 45 = true ∧ digAt s (a + 1) = true) := by
              rw [hdg, hsg45]
              simp only [Bool.or_eq_true, Bool.and_eq_true] at hnum
              exact hnum
            rw [hnum]
            simp -implicitDefEqProofs [ro_len, go_sem, -List.set_cons_succ, -List.set_cons_zero]
            refine call_mv (number_mv s hs a ha hnum') hp h2 hi (by simp [Ob.re, C.re]) (by unfold numV2; split <;> simp [zeroA, A.re, re_d]) (hf1 _ _) ?_
            obtain ⟨l1, l2, l3, l4⟩ := number_law ha hnum'
            cases hn4 : numR s a with
            | none =>
              rw [hn4] at hr
              cases hr
              simp -implicitDefEqProofs [numV2, numB, hn4, zeroA, ro_len, row_len, take_row, drop_row, pure_d, re_d, thaw_d, fits_map, hfr, hf1, go_sem, -List.set_cons_succ, -List.set_cons_zero]
              exact rq_bad zf l2
            | some x =>
              obtain ⟨n, j⟩ := x
              rw [hn4] at hr l4
              cases hr
              obtain ⟨_, _, w3, w4, w5⟩ := l4
              simp -implicitDefEqProofs [numV2, numB, hn4, w3, ro_len, row_len, take_row, drop_row, pure_d, re_d, thaw_d, fits_map, hfr, hf1, go_sem, -List.set_cons_succ, -List.set_cons_zero]
              exact rq_ok (.mk (by decide) (small_i64 (by omega) (by omega)) (by simp) (by simp) (by simp))
          · rw [if_neg hnum] at hr
            have hnum2 : (digB b || b == 45 && digAt s (a + 1)) = false := by simpa using hnum
            rw [hnum2]
            have nameK : (match nameR s a with
              | none => some (Rs.bad a)
              | some (n, j) => if sgn s j 40 then thn (rp s f (.args d j)) fun ts k => if sgn s k 41 then some (Rs.ok [.mk 3 0 n ts] (k + 1)) else some (Rs.bad k)
                else some (Rs.ok [.mk 3 0 n []] j)) = some r → (?nm : Prop) := ?nmP
            by_cases h40 : b = 40
            · subst h40
              rw [if_pos rfl] at hr
              obtain ⟨w, hw⟩ : ∃ w, rp s f (.term 3 d (a + 1)) = some w := by
                rcases thn_some hr with ⟨e, h1, _⟩ | ⟨ts, j, h1, _⟩
                · exact ⟨_, h1⟩
                · exact ⟨_, h1⟩
              have c1 := (h f (Nat.le_refl _)).term 3 d (a + 1) w (by omega) (by omega) hd hw
              have p1 := rp_post hs (j := .term 3 d (a + 1)) ⟨by omega, by omega⟩ hw
              rw [hw] at hr
              simp -implicitDefEqProofs [ro_get hi, ro_len, ro_up, i4, Ref.re, hf1, go_sem, -List.set_cons_succ, -List.set_cons_zero]
              refine call_rd c1 hp h2 hi (by simp [Ob.re, C.re]) (hf1 _ _) ?_
              rintro v a' b' ⟨t, ht, rfl, hm⟩
              have ha' : a' ≤ s.length := by
                cases w with
                | bad e => exact hm.1
                | ok ts k => rw [hm.2.1]; exact p1.2.1
              simp -implicitDefEqProofs [ro_len, row_len, take_row, drop_row, pure_d, re_d, toDs_map, hfr, hf1, go_sem, -List.set_cons_succ, -List.set_cons_zero]
              refine call_mv (skip_mv s hs a' b' (by omega) 41) hp h2 hi (by simp [Ob.re, C.re]) rfl (hf1 _ _) ?_
              simp -implicitDefEqProofs [ro_len, row_len, take_row, drop_row, pure_d, re_d, thaw_d, fits_map, hfr, hf1, go_sem, -List.set_cons_succ, -List.set_cons_zero]
              cases w with
              | bad e =>
                obtain ⟨g1, g2⟩ := hm
                subst g2
                cases hr
                rw [nxt_bad, if_neg (by decide), if_neg (by decide), if_neg (by omega)]
                exact rq_bad ht ha'
              | ok ts k =>
                obtain ⟨g1, g2, g3⟩ := hm
                subst g2
                subst g3
                rw [thn_ok, ← g1] at hr
                exact skip_rq hr ht ha'
            · rw [if_neg h40] at hr
              have h40' : ¬ b.toNat = 40 := fun e => h40 (UInt8.toNat_inj.1 (by simpa using e))
              by_cases h91 : b = 91
              · subst h91
                have hrest : s.drop a = 91 :: s.drop (a + 1) := by
                  obtain ⟨g1, g2⟩ := List.getElem?_eq_some_iff.1 hb
                  rw [List.drop_eq_getElem_cons g1, g2]
                have hpre : ((s.drop a).take ([91, 93] : List UInt8).length == [91, 93]) = sgn s (a + 1) 93 := by
                  rw [hrest]
                  unfold sgn
                  cases hr1 : s.drop (a + 1) with
                  | nil =>
                    have : s[a + 1]? = none := by rw [List.getElem?_eq_none_iff]; have := List.drop_eq_nil_iff.1 hr1; omega
                    rw [this]; rfl
                  | cons c w =>
                    have : s[a + 1]? = some c := at_dr hr1
                    rw [this]
                    simp [Bool.eq_iff_iff]
                simp -implicitDefEqProofs [ro_get hi, ro_len, Ref.re, go_sem, -List.set_cons_succ, -List.set_cons_zero]
                refine ⟨ha, qcall_pure (hasPrefix_calls (s.drop a) [91, 93] (by simp; omega) (by simp)) (hfr _ _) rfl ?_⟩
                rw [hpre]
                cases hsg : sgn s (a + 1) 93 with
                | true =>
                  rw [if_neg (fun h => by rw [hsg] at h; cases h.2)] at hr
                  simp -implicitDefEqProofs [ro_get hi, ro_len, Ref.re, go_sem, -List.set_cons_succ, -List.set_cons_zero]
                  exact nameK hr
                | false =>
                  rw [if_pos ⟨rfl, hsg⟩] at hr
                  have c1 := list_of hs h d (a + 1) r (by omega) (by omega) hr
                  simp -implicitDefEqProofs [ro_get hi, ro_len, ro_up, i4, Ref.re, hf1, go_sem, -List.set_cons_succ, -List.set_cons_zero]
                  refine call_rd c1 hp h2 hi (by simp [Ob.re, C.re]) (hf1 _ _) ?_
                  rintro v a' b' ⟨t, ht, rfl, hm⟩
                  simp -implicitDefEqProofs [ro_len, row_len, take_row, drop_row, pure_d, re_d, thaw_d, fits_map, hfr, hf1, go_sem, -List.set_cons_succ, -List.set_cons_zero]
                  exact ⟨a', b', ⟨t, ht, rfl, hm⟩, rfl⟩
              · have h91' : ¬ b.toNat = 91 := fun e => h91 (UInt8.toNat_inj.1 (by simpa using e))
                rw [if_neg (fun h => h91 h.1)] at hr
                simp -implicitDefEqProofs [ro_get hi, ro_len, h40', h91', Ref.re, go_sem, -List.set_cons_succ, -List.set_cons_zero]
                refine ⟨fun h => absurd h (by omega), fun _ => ⟨fun _ => ha, fun h => absurd h (by omega), fun _ => ?_⟩⟩
                exact nameK hr
            case nmP =>
              intro hr
              refine call_mv (name_mv s hs a ha) hp h2 hi (by simp [Ob.re, C.re]) (by unfold nameV; split <;> simp [A.re, C.re]) (hf1 _ _) ?_
              cases hn : nameR s a with
              | none =>
                rw [hn] at hr
                cases hr
                simp -implicitDefEqProofs [nameV, nameJ, nameF, hn, ro_len, go_sem, -List.set_cons_succ, -List.set_cons_zero]
                refine call_newR (atom_full []) (by simp [Ob.re, C.re]) (by simp [A.re, C.re]) (hfr _ _) (by simp [Ob.re, C.re]) ?_
                simp -implicitDefEqProofs [ro_len, hf1, go_sem, -List.set_cons_succ, -List.set_cons_zero]
                refine call_mv (next_mv s hs a a (by omega)) hp h2 hi (by simp [Ob.re, C.re]) rfl (hf1 _ _) ?_
                rw [nxt_bad]
                simp -implicitDefEqProofs [ro_len, hfr, hf1, go_sem, -List.set_cons_succ, -List.set_cons_zero]
                exact rq_bad (t := .mk 3 0 [] []) (fits_st (by simp) (by simp) (by simp)) ha
              | some x =>
                obtain ⟨n, j⟩ := x
                rw [hn] at hr
                simp only at hr
                obtain ⟨n1, n2, n3⟩ := nameR_ok ha hn
                have hnf : (Tm.mk 3 0 n []).fits := fits_st n3 (by simp) (by simp)
                simp -implicitDefEqProofs [nameV, nameJ, nameF, hn, ro_len, go_sem, -List.set_cons_succ, -List.set_cons_zero]
                refine call_newR (atom_full n) (by simp [Ob.re, C.re]) (by simp [A.re, C.re]) (hfr _ _) (by simp [Ob.re, C.re]) ?_
                simp -implicitDefEqProofs [ro_len, hf1, go_sem, -List.set_cons_succ, -List.set_cons_zero]
                refine call_mv (next_mv s hs j (-1) (by omega)) hp h2 hi (by simp [Ob.re, C.re]) rfl (hf1 _ _) ?_
                have e40 : (((nxt s j (-1)).toNat : Int) == 40) = sgn s j 40 := nxt_eq s j 40 (by decide)
                cases hsg : sgn s j 40 with
                | false =>
                  rw [hsg] at hr e40
                  have he : ¬ ((nxt s j (-1)).toNat : Int) = 40 := fun h => by rw [beq_iff_eq.2 h] at e40; cases e40
                  cases hr
                  simp -implicitDefEqProofs [he, ro_len, hfr, hf1, go_sem, -List.set_cons_succ, -List.set_cons_zero]
                  exact rq_ok (t := .mk 3 0 n []) hnf
                | true =>
                  rw [hsg] at hr e40
                  have he : ((nxt s j (-1)).toNat : Int) = 40 := beq_iff_eq.1 e40
                  simp only [if_true] at hr
                  have hjl := sgn_lt hsg
                  obtain ⟨R, hR⟩ : ∃ R, rp s f (.args d j) = some R := by
                    rcases thn_some hr with ⟨e, h1, _⟩ | ⟨ts, j, h1, _⟩
                    · exact ⟨_, h1⟩
                    · exact ⟨_, h1⟩
                  have pR := rp_post hs (j := .args d j) hjl hR
                  rw [hR] at hr
                  simp -implicitDefEqProofs [he, ro_len, hfr, hf1, go_sem, -List.set_cons_succ, -List.set_cons_zero]
                  refine loop_enter (St.le_tokenC 2 3 4 rfl rfl) ?_
                  refine loop_set (σ := Nat × Int × List Tm × Nat × Rs × Bool) (fun x => [(8, .c (.d (.bool x.2.2.2.2.2)))]) (fun x => ro H i s x.1 x.2.1)
                    (fun x => [.cells [.d (.int .i64 0), .d (.int .i64 0), .d (.str []), .full []], .cells [.d (.int .i64 3), .d (.int .i64 0), .d (.str n), .full []], .cells [.d (.int .i64 3), .d (.int .i64 0), .d (.str n), .own (.l 3) x.2.2.1.length (x.2.2.1.map Tm.row)], .grow x.2.2.1.length 4])
                    (fun x => x.1 ≤ s.length ∧ x.2.2.1.length ≤ 1000001 ∧ (∀ t ∈ x.2.2.1, t.fits) ∧
                      ((x.2.2.2.2.2 = true ∧ x.2.1 = -1 ∧ x.2.2.1.length ≤ x.1 ∧ x.1 < s.length ∧ x.2.2.2.1 ≤ f ∧ rp s x.2.2.2.1 (.args d x.1) = some x.2.2.2.2.1 ∧ x.2.2.2.2.1.app2 x.2.2.1 = R) ∨
                       (x.2.2.2.2.2 = false ∧ ((x.2.1 = -1 ∧ R = .ok x.2.2.1 x.1) ∨ ∃ e : Nat, x.2.1 = e ∧ R = .bad e))))
                    (fun x => if x.2.2.2.2.2 then x.2.2.2.1 + 1 else 0) (j, -1, [], f, R, true) (by simp [setAll]) ⟨n2, by simp, by simp, .inl ⟨rfl, rfl, by simp, hjl, Nat.le_refl _, hR, by cases R <;> rfl⟩⟩ ?_
                  rintro ⟨p, b2, out, g, q, more⟩ ⟨hpl, hol, hof, hst⟩
                  simp only at hpl hol hof hst
                  simp -implicitDefEqProofs [setAll, ro_len, go_sem, -List.set_cons_succ, -List.set_cons_zero]
                  refine ⟨fun hmore => ?_, fun hmore => ?_⟩
                  · rcases hst with ⟨_, rfl, hop, hpl2, hg, hq, happ⟩ | ⟨hmf, _⟩
                    · subst hmore
                      cases g with
                      | zero => cases hq
                      | succ g =>
                        have hq : pstep s (rp s g) (.args d p) = some q := hq
                        simp only [pstep] at hq
                        obtain ⟨w, hw⟩ : ∃ w, rp s g (.term 3 (d + 1) (p + 1)) = some w := by
                          rcases thn_some hq with ⟨e, h1, _⟩ | ⟨ts, j, h1, _⟩
                          · exact ⟨_, h1⟩
                          · exact ⟨_, h1⟩
                        have c1 := part_of (h g (by omega)) (d + 1) (p + 1) w (by omega) (by omega) hw
                        have p1 := rp_post hs (j := .term 3 (d + 1) (p + 1)) ⟨by omega, by omega⟩ hw
                        rw [hw] at hq
                        have e1 : ((d + 1 : Nat) : Int) = (d : Int) + 1 := by omega
                        rw [e1] at c1
                        have i1 : inR .i64 ((d : Int) + 1) := small_i64 (by omega) (by omega)
                        have i5 : inR .i64 ((p : Int) + 1) := small_i64 (by omega) (by omega)
                        simp -implicitDefEqProofs [ro_len, ro_get hi, ro_up, i1, i5, Ref.re, hf1, go_sem, -List.set_cons_succ, -List.set_cons_zero]
                        refine call_rd c1 hp h2 hi (by simp [Ob.re, C.re, Ref.re]) (hf1 _ _) ?_
                        rintro v a' b' ⟨t, ht, rfl, hm⟩
                        refine ⟨LocSame.refl _, ?_⟩
                        have ha' : a' ≤ s.length ∧ (∀ e : Nat, w = .bad e → b' = e) := by
                          cases w with
                          | bad e => exact ⟨hm.1, fun e' he => by cases he; exact hm.2⟩
                          | ok ts k => exact ⟨by rw [hm.2.1]; exact p1.2.1, fun e' he => by cases he⟩
                        simp -implicitDefEqProofs [ro_len, row_len, take_row, drop_row, pure_d, re_d, toDs_map, hfr, hf1, go_sem, -List.set_cons_succ, -List.set_cons_zero]
                        refine ⟨allLen_map row_len, by unfold maxApp; omega, ?_⟩
                        refine call_mv (next_mv s hs a' b' (by omega)) hp h2 hi (by simp [Ob.re, C.re]) rfl (hf1 _ _) ?_
                        simp -implicitDefEqProofs [ro_len, go_sem, -List.set_cons_succ, -List.set_cons_zero]
                        have hfo : ∀ x ∈ out ++ [t], x.fits := fun x hx => by
                          rcases List.mem_append.1 hx with hx | hx
                          · exact hof x hx
                          · rw [List.mem_singleton.1 hx]; exact ht
                        cases w with
                        | bad e =>
                          obtain ⟨g1, g2⟩ := hm
                          subst g2
                          rw [nxt_bad]
                          cases hq
                          have hRe : R = .bad e := by rw [← happ]; rfl
                          exact loop_back (a', (e : Int), out ++ [t], 0, .bad e, false) (by simp [setAll]) ⟨g1, by simp; omega, hfo, .inr ⟨rfl, .inr ⟨e, rfl, hRe⟩⟩⟩ (by show 0 < g + 1 + 1; omega)
                        | ok ts k =>
                          obtain ⟨g1, g2, g3⟩ := hm
                          subst g2
                          subst g3
                          obtain ⟨q1, q2, q3⟩ := p1
                          have e44 : (((nxt s a' (-1)).toNat : Int) == 44) = sgn s a' 44 := nxt_eq s a' 44 (by decide)
                          rw [thn_ok, ← g1] at hq
                          cases hsg : sgn s a' 44 with
                          | true =>
                            rw [hsg] at hq e44
                            simp only [if_true] at hq
                            have hlt := sgn_lt hsg
                            obtain ⟨v, hv, hva⟩ : ∃ v, rp s g (.args d a') = some v ∧ v.app2 (out ++ [t]) = R := by
                              rcases thn_some hq with ⟨e, h1, h3⟩ | ⟨us, k2, h1, h3⟩
                              · exact ⟨_, h1, by rw [← happ, h3]; rfl⟩
                              · cases h3
                                exact ⟨_, h1, by rw [← happ]; simp [Rs.app2]⟩
                            rw [e44]
                            exact loop_back (a', -1, out ++ [t], g, v, true) (by simp [setAll]) ⟨q2, by simp; omega, hfo, .inl ⟨rfl, rfl, by simp; omega, hlt, by show g ≤ f; omega, hv, hva⟩⟩ (by show g + 1 < g + 1 + 1; omega)
                          | false =>
                            rw [hsg] at hq e44
                            simp only [Bool.false_eq_true, if_false, Option.some.injEq] at hq
                            rw [e44]
                            exact loop_back (a', -1, out ++ [t], 0, q, false) (by simp [setAll]) ⟨q2, by simp; omega, hfo, .inr ⟨rfl, .inl ⟨rfl, by rw [← happ, ← hq]; rfl⟩⟩⟩ (by show 0 < g + 1 + 1; omega)
                    · rw [hmore] at hmf; cases hmf
                  · rcases hst with ⟨hmt, _⟩ | ⟨_, hst⟩
                    · rw [hmore] at hmt; cases hmt
                    · subst hmore
                      refine call_mv (skip_mv s hs p b2 (by omega) 41) hp h2 hi (by simp [Ob.re, C.re]) rfl (hf1 _ _) ?_
                      simp -implicitDefEqProofs [ro_len, hfr, hf1, go_sem, -List.set_cons_succ, -List.set_cons_zero]
                      have hrw : (Tm.mk 3 0 n out).row.map C.d = [C.d (.int .i64 3), C.d (.int .i64 0), C.d (.str n), C.d (.sl (out.map Tm.row))] := by simp [row_mk]
                      rw [← hrw]
                      have hof2 : (Tm.mk 3 0 n out).fits := fits_st n3 (by omega) hof
                      rcases hst with ⟨rfl, hRo⟩ | ⟨e, rfl, hRe⟩
                      · subst hRo
                        rw [thn_ok] at hr
                        exact skip_rq (t := .mk 3 0 n out) hr hof2 hpl
                      · subst hRe
                        cases hr
                        rw [nxt_bad, if_neg (by decide), if_neg (by decide), if_neg (by omega)]
                        exact rq_bad (t := .mk 3 0 n out) hof2 hpl
    case stopP =>
      intro hn hr
      cases hr
      rw [hn]
      simp -implicitDefEqProofs [ro_get hi, ro_len, Ref.re, go_sem, -List.set_cons_succ, -List.set_cons_zero]
      refine call_mv (stop_mv s a (-1) a) hp h2 hi (by simp [Ob.re, C.re]) (zeroA_re _) (hf1 _ _) ?_
      simp -implicitDefEqProofs [zeroA, ro_len, row_len, take_row, drop_row, pure_d, re_d, thaw_d, fits_map, hfr, hf1, go_sem, -List.set_cons_succ, -List.set_cons_zero]
      exact rq_bad zf ha
end
/-- the program's reader does what it is said to do -/
theorem prd (s : List UInt8) (hs : s.length ≤ 1000000) : ∀ f, Prd s f := by
  intro f
  induction f using Nat.strongRecOn with
  | ind f ih =>
    cases f with
    | zero => exact ⟨fun _ _ _ _ _ _ _ h => (by cases h), fun _ _ _ _ _ h => (by cases h)⟩
    | succ f =>
      have h : ∀ g, g ≤ f → Prd s g := fun g hg => ih g (by omega)
      exact ⟨fun l d a r ha hl hd hr => term_of hs h l d a r ha hl hd hr, fun d a r ha hd hr => prime_of hs h d a r ha hd hr⟩
end Go.Proofs.YtbblefjbgbocoaaGreatDoor

/-
  Names and operators as the reference reads them.
  Conditions: none.
-/
open Go Go.AM Go.Proofs
namespace Go.Proofs.YtbblefjbgbocoaaGreatDoor
open Go.ChangeShapes Go.WideShapes Go.ChangeAt Go.RowKit
set_option linter.unusedVariables false
set_option linter.unusedSimpArgs false
set_option maxRecDepth 100000
-- 202 loop.example/prologserver/spec.l1Name params 2 ntmps 77
-- loop head live: [0,1,6]
-- loop head live: [0,1,7,8,9]
def ac202 : Cd := .seq (.region [⟨(some 4),.mv (.k (.c (.d (.str [])))),none⟩,
 ⟨(some 5),.mv (.k (.c (.d (.int .i64 0)))),none⟩] [4,5])
 (.seq (.region [⟨(some 11),.mv (.t 1),none⟩,
 ⟨(some 6),.mv (.t 11),none⟩] [11])
 (.seq (.block 0 (.loop (.seq (.seq (.region [⟨(some 12),.mv (.t 0),none⟩,
 ⟨(some 13),.mv (.t 6),none⟩,
 ⟨(some 14),.qcall 231 [(.t 12),(.t 13)],none⟩] [12,13])
 (.cond (.t 14)
 (.skip)
 (.exit 0)))
 (.block 1 (.region [⟨(some 15),.mv (.t 6),none⟩,
 ⟨(some 16),.bin .add (.t 15) (.k (.c (.d (.int .i64 1)))),none⟩,
 ⟨(some 6),.mv (.t 16),none⟩] [14,15,16])))))
 (.seq (.seq (.region [⟨(some 17),.mv (.t 6),none⟩,
 ⟨(some 18),.mv (.t 1),none⟩,
 ⟨(some 19),.bin .add (.t 18) (.k (.c (.d (.int .i64 6)))),none⟩,
 ⟨(some 20),.bin .gtr (.t 17) (.t 19),none⟩] [17,18,19])
 (.cond (.t 20)
 (.seq (.region [⟨(some 4),.mv (.k (.c (.d (.str [])))),none⟩,
 ⟨(some 5),.mv (.k (.c (.d (.int .i64 (-1))))),none⟩] [0,1,6,20])
 (.ret))
 (.skip)))
 (.seq (.seq (.region [⟨(some 21),.mv (.t 6),none⟩,
 ⟨(some 22),.mv (.t 1),none⟩,
 ⟨(some 23),.bin .gtr (.t 21) (.t 22),none⟩] [4,5,20,21,22])
 (.cond (.t 23)
 (.seq (.region [⟨(some 24),.mv (.t 0),none⟩,
 ⟨(some 25),.mv (.t 1),none⟩,
 ⟨(some 26),.mv (.t 6),none⟩,
 ⟨(some 27),.slice 0 (.t 24) (some (.t 25)) (some (.t 26)) none,none⟩,
 ⟨(some 28),.mv (.t 6),none⟩,
 ⟨(some 4),.mv (.t 27),none⟩,
 ⟨(some 5),.mv (.t 28),none⟩] [0,1,6,23,24,25,26,27,28])
 (.ret))
 (.skip)))
 (.seq (.region [⟨(some 7),.mv (.k (.c (.d (.str [])))),none⟩] [4,5,6,23])
 (.seq (.region [⟨(some 29),.qcall 165 [],none⟩,
 ⟨(some 8),.mv (.t 29),none⟩] [29])
 (.seq (.seq (.region [⟨(some 9),.mv (.k (.c (.d (.int .i64 0)))),none⟩] [])
 (.block 2 (.loop (.seq (.seq (.region [⟨(some 30),.mv (.t 9),none⟩,
 ⟨(some 31),.mv (.t 8),none⟩,
 ⟨(some 32),.len 1 (.t 31),none⟩,
 ⟨(some 33),.bin .lss (.t 30) (.t 32),none⟩] [30,31,32])
 (.cond (.t 33)
 (.skip)
 (.exit 2)))
 (.seq (.block 3 (.seq (.region [⟨(some 36),.mv (.t 8),none⟩,
 ⟨(some 37),.mv (.t 9),none⟩,
 ⟨(some 38),.indexAddr 1 (.t 36) (.t 37),none⟩,
 ⟨(some 39),.load none (.t 38),none⟩,
 ⟨(some 40),.len 0 (.t 39),none⟩,
 ⟨(some 10),.mv (.t 40),none⟩] [33,36,37,38,39,40])
 (.seq (.region [⟨(some 41),.mv (.t 1),none⟩,
 ⟨(some 42),.mv (.t 10),none⟩,
 ⟨(some 43),.bin .add (.t 41) (.t 42),none⟩,
 ⟨(some 44),.mv (.t 0),none⟩,
 ⟨(some 45),.len 0 (.t 44),none⟩,
 ⟨(some 46),.bin .leq (.t 43) (.t 45),none⟩,
 ⟨(some 47),.mv (.t 46),none⟩,
 ⟨(some 48),.mv (.t 0),some (47,true)⟩,
 ⟨(some 49),.mv (.t 1),some (47,true)⟩,
 ⟨(some 50),.mv (.t 1),some (47,true)⟩,
 ⟨(some 51),.mv (.t 10),some (47,true)⟩,
 ⟨(some 52),.bin .add (.t 50) (.t 51),some (47,true)⟩,
 ⟨(some 53),.slice 0 (.t 48) (some (.t 49)) (some (.t 52)) none,some (47,true)⟩,
 ⟨(some 54),.mv (.t 8),some (47,true)⟩,
 ⟨(some 55),.mv (.t 9),some (47,true)⟩,
 ⟨(some 56),.indexAddr 1 (.t 54) (.t 55),some (47,true)⟩,
 ⟨(some 57),.load none (.t 56),some (47,true)⟩,
 ⟨(some 58),.bin .eql (.t 53) (.t 57),some (47,true)⟩,
 ⟨(some 59),.pick (.t 47) (.t 58) (.k (.c (.d (.bool false)))),none⟩,
 ⟨(some 60),.mv (.t 59),none⟩,
 ⟨(some 61),.mv (.t 10),some (60,true)⟩,
 ⟨(some 62),.mv (.t 7),some (60,true)⟩,
 ⟨(some 63),.len 0 (.t 62),some (60,true)⟩,
 ⟨(some 64),.bin .gtr (.t 61) (.t 63),some (60,true)⟩,
 ⟨(some 65),.pick (.t 60) (.t 64) (.k (.c (.d (.bool false)))),none⟩] [10,41,42,43,44,45,46,47,48,49,50,51,52,53,54,55,56,57,58,59,60,61,62,63,64])
 (.cond (.t 65)
 (.region [⟨(some 66),.mv (.t 8),none⟩,
 ⟨(some 67),.mv (.t 9),none⟩,
 ⟨(some 68),.indexAddr 1 (.t 66) (.t 67),none⟩,
 ⟨(some 69),.load none (.t 68),none⟩,
 ⟨(some 7),.mv (.t 69),none⟩] [65,66,67,68,69])
 (.skip)))))
 (.region [⟨(some 34),.mv (.t 9),none⟩,
 ⟨(some 35),.bin .add (.t 34) (.k (.c (.d (.int .i64 1)))),none⟩,
 ⟨(some 9),.mv (.t 35),none⟩] [34,35,65]))))))
 (.seq (.seq (.region [⟨(some 70),.mv (.t 7),none⟩,
 ⟨(some 71),.bin .eql (.t 70) (.k (.c (.d (.str [])))),none⟩] [70])
 (.cond (.t 71)
 (.seq (.region [⟨(some 4),.mv (.k (.c (.d (.str [])))),none⟩,
 ⟨(some 5),.mv (.k (.c (.d (.int .i64 (-1))))),none⟩] [1,7,71])
 (.ret))
 (.skip)))
 (.seq (.region [⟨(some 72),.mv (.t 7),none⟩,
 ⟨(some 73),.mv (.t 1),none⟩,
 ⟨(some 74),.mv (.t 7),none⟩,
 ⟨(some 75),.len 0 (.t 74),none⟩,
 ⟨(some 76),.bin .add (.t 73) (.t 75),none⟩,
 ⟨(some 4),.mv (.t 72),none⟩,
 ⟨(some 5),.mv (.t 76),none⟩] [1,7,71,72,73,74,75,76])
 (.ret))))))))))
theorem ac202_ok : cFunc Tryz.prog [1000165,1000231] [(0,[4,5],[]),(1,[11],[]),(2,[12,13],[]),(3,[14,15,16],[]),(4,[17,18,19],[]),(5,[0,1,6,20],[]),(6,[4,5,20,21,22],[]),(7,[0,1,6,23,24,25,26,27,28],[]),(8,[4,5,6,23],[]),(9,[29],[]),(10,[],[]),(11,[30,31,32],[]),(13,[33,36,37,38,39,40],[]),(14,[10,41,42,43,44,45,46,47,48,49,50,51,52,53,54,55,56,57,58,59,60,61,62,63,64],[0,1,2,3,4,5,6,7,8,9,10,11,12,13,14,15,16,17,18,19,20,21,22,23,24]),(15,[65,66,67,68,69],[]),(12,[34,35,65],[]),(16,[70],[]),(17,[1,7,71],[]),(18,[1,7,71,72,73,74,75,76],[])] Tryz.f202 = some (ac202,[.tmp 4,.tmp 5],77) := by kernel_rfl
-- 167 loop.example/prologserver/spec.l2Op params 2 ntmps 61
def ac167 : Cd := .seq (.region [⟨(some 4),.mv (.k (.c (.d (.str [])))),none⟩,
 ⟨(some 5),.mv (.k (.c (.d (.int .i64 0)))),none⟩] [4,5])
 (.seq (.region [⟨(some 10),.mv (.t 1),none⟩,
 ⟨(some 6),.mv (.t 10),none⟩] [10])
 (.seq (.seq (.region [⟨(some 11),.mv (.t 0),none⟩,
 ⟨(some 12),.mv (.t 1),none⟩,
 ⟨(some 13),.qcall 106 [(.t 11),(.t 12),(.k (.c (.d (.int .u8 32))))],none⟩] [11,12])
 (.cond (.t 13)
 (.region [⟨(some 14),.mv (.t 1),none⟩,
 ⟨(some 15),.bin .add (.t 14) (.k (.c (.d (.int .i64 1)))),none⟩,
 ⟨(some 6),.mv (.t 15),none⟩] [13,14,15])
 (.skip)))
 (.seq (.seq (.region [⟨(some 16),.mv (.t 6),none⟩,
 ⟨(some 17),.mv (.t 0),none⟩,
 ⟨(some 18),.len 0 (.t 17),none⟩,
 ⟨(some 19),.bin .geq (.t 16) (.t 18),none⟩] [13,16,17,18])
 (.cond (.t 19)
 (.seq (.region [⟨(some 20),.mv (.t 1),none⟩,
 ⟨(some 4),.mv (.k (.c (.d (.str [])))),none⟩,
 ⟨(some 5),.mv (.t 20),none⟩] [0,1,6,19,20])
 (.ret))
 (.skip)))
 (.seq (.region [⟨(some 22),.mv (.t 0),none⟩,
 ⟨(some 23),.mv (.t 6),none⟩,
 ⟨(some 24),.qcall 202 [(.t 22),(.t 23)],none⟩,
 ⟨(some 21),.mv (.t 24),none⟩,
 ⟨(some 25),.extract 0 (.t 21),none⟩,
 ⟨(some 26),.extract 1 (.t 21),none⟩,
 ⟨(some 7),.mv (.t 25),none⟩,
 ⟨(some 8),.mv (.t 26),none⟩] [4,5,19,21,22,23,24,25,26])
 (.seq (.seq (.region [⟨(some 27),.mv (.t 8),none⟩,
 ⟨(some 28),.bin .lss (.t 27) (.k (.c (.d (.int .i64 0)))),none⟩,
 ⟨(some 29),.mv (.t 28),none⟩,
 ⟨(some 30),.mv (.t 7),some (29,false)⟩,
 ⟨(some 31),.qcall 139 [(.t 30)],some (29,false)⟩,
 ⟨(some 32),.bin .eql (.t 31) (.k (.c (.d (.int .i64 0)))),some (29,false)⟩,
 ⟨(some 33),.pick (.t 29) (.k (.c (.d (.bool true)))) (.t 32),none⟩] [27,28,29,30,31,32])
 (.cond (.t 33)
 (.seq (.region [⟨(some 34),.mv (.t 1),none⟩,
 ⟨(some 4),.mv (.k (.c (.d (.str [])))),none⟩,
 ⟨(some 5),.mv (.t 34),none⟩] [0,1,6,7,8,33,34])
 (.ret))
 (.skip)))
 (.seq (.region [⟨(some 35),.mv (.t 7),none⟩,
 ⟨(some 36),.bin .eql (.t 35) (.k (.c (.d (.str [105,115])))),none⟩,
 ⟨(some 37),.mv (.t 36),none⟩,
 ⟨(some 38),.mv (.t 7),some (37,false)⟩,
 ⟨(some 39),.bin .eql (.t 38) (.k (.c (.d (.str [109,111,100])))),some (37,false)⟩,
 ⟨(some 40),.pick (.t 37) (.k (.c (.d (.bool true)))) (.t 39),none⟩,
 ⟨(some 9),.mv (.t 40),none⟩] [4,5,33,35,36,37,38,39,40])
 (.seq (.seq (.region [⟨(some 41),.mv (.t 9),none⟩,
 ⟨(some 42),.mv (.t 6),none⟩,
 ⟨(some 43),.mv (.t 1),none⟩,
 ⟨(some 44),.bin .gtr (.t 42) (.t 43),none⟩,
 ⟨(some 45),.binB true (.t 41) (.t 44),none⟩,
 ⟨(some 46),.mv (.t 45),none⟩,
 ⟨(some 47),.mv (.t 9),some (46,false)⟩,
 ⟨(some 48),.mv (.t 47),some (46,false)⟩,
 ⟨(some 49),.mv (.t 0),some (48,true)⟩,
 ⟨(some 50),.mv (.t 8),some (48,true)⟩,
 ⟨(some 51),.qcall 106 [(.t 49),(.t 50),(.k (.c (.d (.int .u8 32))))],some (48,true)⟩,
 ⟨(some 52),.un .not (.t 51),some (48,true)⟩,
 ⟨(some 53),.pick (.t 48) (.t 52) (.k (.c (.d (.bool false)))),some (46,false)⟩,
 ⟨(some 54),.pick (.t 46) (.k (.c (.d (.bool true)))) (.t 53),none⟩] [0,6,41,42,43,44,45,46,47,48,49,50,51,52,53])
 (.cond (.t 54)
 (.seq (.region [⟨(some 55),.mv (.t 1),none⟩,
 ⟨(some 4),.mv (.k (.c (.d (.str [])))),none⟩,
 ⟨(some 5),.mv (.t 55),none⟩] [1,7,8,9,54,55])
 (.ret))
 (.skip)))
 (.seq (.seq (.region [⟨(some 56),.mv (.t 9),none⟩] [1,4,5,9,54])
 (.cond (.t 56)
 (.region [⟨(some 57),.mv (.t 8),none⟩,
 ⟨(some 58),.bin .add (.t 57) (.k (.c (.d (.int .i64 1)))),none⟩,
 ⟨(some 8),.mv (.t 58),none⟩] [56,57,58])
 (.skip)))
 (.seq (.region [⟨(some 59),.mv (.t 7),none⟩,
 ⟨(some 60),.mv (.t 8),none⟩,
 ⟨(some 4),.mv (.t 59),none⟩,
 ⟨(some 5),.mv (.t 60),none⟩] [7,8,56,59,60])
 (.ret))))))))))
theorem ac167_ok : cFunc Tryz.prog [1000106,1000139,1000202] [(0,[4,5],[]),(1,[10],[]),(2,[11,12],[]),(3,[13,14,15],[]),(4,[13,16,17,18],[]),(5,[0,1,6,19,20],[]),(6,[4,5,19,21,22,23,24,25,26],[]),(7,[27,28,29,30,31,32],[]),(8,[0,1,6,7,8,33,34],[]),(9,[4,5,33,35,36,37,38,39,40],[]),(10,[0,6,41,42,43,44,45,46,47,48,49,50,51,52,53],[]),(11,[1,7,8,9,54,55],[]),(12,[1,4,5,9,54],[]),(13,[56,57,58],[]),(14,[7,8,56,59,60],[])] Tryz.f167 = some (ac167,[.tmp 4,.tmp 5],61) := by kernel_rfl
def nameA : Option (List UInt8 × Nat) → A
  | some (n, j) => .tup [.c (.d (.str n)), .c (.d (.int .i64 j))]
  | none => .tup [.c (.d (.str [])), .c (.d (.int .i64 (-1)))]
set_option maxHeartbeats 1600000 in
theorem name_calls (s : List UInt8) (hs : s.length ≤ 1000000) (i : Nat) (hi : i ≤ s.length) (H : Heap) : ACalls Tryz.prog 202 [.c (.d (.str s)), .c (.d (.int .i64 i))] H (fun r H' => H' = H ∧ r = nameA (nameR s i)) := by
  refine acalls Tryz.func202 (by kernel_rfl) ac202_ok fun hf => ?_
  have hli : inR .i64 (s.length : Int) := small_i64 (by omega) (by omega)
  simp -implicitDefEqProofs [ac202, go_sem, -List.set_cons_succ, -List.set_cons_zero]
  refine loop_set (σ := Nat) (fun k => [(6, .c (.d (.int .i64 ((i + k : Nat) : Int))))]) (fun _ => H) (fun _ => []) (fun k => i + k ≤ s.length ∧ ∀ m, m < k → smaAt s (i + m) = true) (fun k => s.length - (i + k)) 0 (by simp [setAll]) ⟨by omega, by simp⟩ ?_
  rintro k ⟨hkl, hkd⟩
  have hk1 : inR .i64 ((i : Int) + (k : Int) + 1) := small_i64 (by omega) (by omega)
  simp -implicitDefEqProofs [setAll, go_sem, -List.set_cons_succ, -List.set_cons_zero]
  have cd := small_calls s hs (i + k) (by omega)
  simp only [Int.natCast_add] at cd
  refine qcall_pure cd hf rfl ?_
  cases hsm : smaAt s (i + k) with
  | true =>
    have hlt := sma_lt _ hsm
    simp -implicitDefEqProofs [hk1, go_sem, -List.set_cons_succ, -List.set_cons_zero]
    exact loop_back (k + 1) (by simp [setAll, Int.add_assoc]) ⟨by omega, fun m hm => by
      rcases Nat.lt_or_ge m k with h | h
      · exact hkd m h
      · obtain rfl : m = k := by omega
        exact hsm⟩ (by show s.length - (i + (k + 1)) < s.length - (i + k); omega)
  | false =>
    have he : runE smaAt s s.length i = i + k := runE_stop s.length i k (by omega) hkd (.inr hsm)
    have hi6 : inR .i64 ((i : Int) + 6) := small_i64 (by omega) (by omega)
    unfold nameR
    rw [he]
    by_cases h6 : i + 6 < i + k
    · have h6' : (i : Int) + 6 < (i : Int) + k := by omega
      simp -implicitDefEqProofs [hi6, h6, h6', nameA, go_sem, -List.set_cons_succ, -List.set_cons_zero]
    · have h6' : ¬ (i : Int) + 6 < (i : Int) + k := by omega
      rw [if_neg h6]
      by_cases h0 : i < i + k
      · have h0' : (i : Int) < (i : Int) + k := by omega
        rw [if_pos h0]
        simp -implicitDefEqProofs [hi6, h6', h0', nameA, go_sem, -List.set_cons_succ, -List.set_cons_zero]
        have hnat : ((i : Int) + (k : Int)).toNat = i + k := by omega
        rw [hnat]
        exact ⟨by omega, rfl⟩
      · obtain rfl : k = 0 := by omega
        rw [if_neg h0]
        have h6n : ¬ (i : Int) + 6 < (i : Int) := by omega
        simp -implicitDefEqProofs [hi6, h6n, go_sem, -List.set_cons_succ, -List.set_cons_zero]
        refine qcall_pure l1Signs_calls hf rfl ?_
        simp -implicitDefEqProofs [go_sem, -List.set_cons_succ, -List.set_cons_zero]
        obtain ⟨G, hG⟩ : ∃ G, G = bestS s i signs [] := ⟨_, rfl⟩
        rw [← hG]
        have hsl : signs.length = 15 := rfl
        have hs15 : inR .i64 (15 : Int) := small_i64 (by omega) (by omega)
        refine loop_set (σ := Nat × List UInt8) (fun x => [(9, .c (.d (.int .i64 x.1))), (7, .c (.d (.str x.2)))]) (fun _ => H) (fun _ => []) (fun x => x.1 ≤ 15 ∧ bestS s i (signs.drop x.1) x.2 = G ∧ x.2.length ≤ 3) (fun x => 15 - x.1) (0, []) (by simp [setAll]) ⟨by omega, by rw [hG]; rfl, by simp⟩ ?_
        rintro ⟨j, b⟩ ⟨hj, h1, h2⟩
        simp only at hj h1 h2
        simp -implicitDefEqProofs [setAll, hsl, hs15, go_sem, -List.set_cons_succ, -List.set_cons_zero]
        refine ⟨fun hlt => ?_, fun hge => ?_⟩
        · have hlt' : j < signs.length := by rw [hsl]; omega
          have hd : signs.drop j = signs[j] :: signs.drop (j + 1) := List.drop_eq_getElem_cons hlt'
          rw [hd, bestS] at h1
          have h3 : signs[j].length ≤ 3 := by
            have : ∀ n ∈ signs, n.length ≤ 3 := by decide
            exact this _ (List.getElem_mem hlt')
          have hrow : (signs.map strRow)[j]? = some [.str signs[j]] := by simp [hlt', strRow]
          obtain ⟨w, hw⟩ : ∃ w, w = signs[j] := ⟨_, rfl⟩
          rw [← hw] at h1 h3 hrow
          have hwl : inR .i64 (w.length : Int) := small_i64 (by omega) (by omega)
          have hbl : inR .i64 (b.length : Int) := small_i64 (by omega) (by omega)
          have hiw : inR .i64 ((i : Int) + (w.length : Int)) := small_i64 (by omega) (by omega)
          have hadd : inR .i64 ((j : Int) + 1) := small_i64 (by omega) (by omega)
          have hnat : ((i : Int) + (w.length : Int)).toNat = i + w.length := by omega
          have hcut : (s.take (i + w.length)).drop i = cutS s i (i + w.length) := rfl
          refine row_nat _ hrow rfl ?_
          by_cases hle : i + w.length ≤ s.length
          · have hle' : (i : Int) + (w.length : Int) ≤ (s.length : Int) := by omega
            simp -implicitDefEqProofs [hwl, hiw, hli, hnat, hcut, hle', go_sem, -List.set_cons_succ, -List.set_cons_zero]
            refine ⟨by omega, row_nat _ hrow rfl ?_⟩
            cases heq : cutS s i (i + w.length) == w with
            | true =>
              by_cases hbw : b.length < w.length
              · have hbw' : (b.length : Int) < (w.length : Int) := by omega
                simp only [hle, hbw, heq, decide_true, Bool.and_self, if_true] at h1
                simp -implicitDefEqProofs [hbl, hbw', heq, go_sem, -List.set_cons_succ, -List.set_cons_zero]
                refine row_nat _ hrow rfl ?_
                simp -implicitDefEqProofs [hadd, go_sem, -List.set_cons_succ, -List.set_cons_zero]
                exact loop_back (j + 1, w) (by simp [setAll]) ⟨by omega, h1, h3⟩ (by show 15 - (j + 1) < 15 - j; omega)
              · have hbw' : ¬ (b.length : Int) < (w.length : Int) := by omega
                simp only [hle, hbw, heq, decide_true, decide_false, Bool.and_false, Bool.false_eq_true, if_false] at h1
                simp -implicitDefEqProofs [hbl, hbw', heq, hadd, go_sem, -List.set_cons_succ, -List.set_cons_zero]
                exact loop_back (j + 1, b) (by simp [setAll]) ⟨by omega, h1, h2⟩ (by show 15 - (j + 1) < 15 - j; omega)
            | false =>
              simp only [heq, Bool.and_false, Bool.false_and, Bool.false_eq_true, if_false] at h1
              simp -implicitDefEqProofs [hbl, heq, hadd, go_sem, -List.set_cons_succ, -List.set_cons_zero]
              exact loop_back (j + 1, b) (by simp [setAll]) ⟨by omega, h1, h2⟩ (by show 15 - (j + 1) < 15 - j; omega)
          · have hle' : ¬ (i : Int) + (w.length : Int) ≤ (s.length : Int) := by omega
            simp only [hle, decide_false, Bool.false_and, Bool.false_eq_true, if_false] at h1
            simp -implicitDefEqProofs [hwl, hiw, hli, hnat, hcut, hle', go_sem, -List.set_cons_succ, -List.set_cons_zero]
            refine row_off [.str []] ?_
            simp -implicitDefEqProofs [hbl, hadd, go_sem, -List.set_cons_succ, -List.set_cons_zero]
            exact loop_back (j + 1, b) (by simp [setAll]) ⟨by omega, h1, h2⟩ (by show 15 - (j + 1) < 15 - j; omega)
        · obtain rfl : j = 15 := by omega
          have h15 : signs.drop 15 = [] := rfl
          rw [h15, bestS] at h1
          subst h1
          have hbl : inR .i64 (b.length : Int) := small_i64 (by omega) (by omega)
          have hib : inR .i64 ((i : Int) + (b.length : Int)) := small_i64 (by omega) (by omega)
          cases hb : b with
          | nil => simp -implicitDefEqProofs [hb, nameA, go_sem, -List.set_cons_succ, -List.set_cons_zero]
          | cons c r =>
            rw [hb] at hbl hib
            simp at hbl hib
            simp -implicitDefEqProofs [hb, nameA, hbl, hib, go_sem, -List.set_cons_succ, -List.set_cons_zero]
/-- what an operator is told by -/
def opA (i : Nat) : Option (List UInt8 × Nat) → A
  | some (n, j) => .tup [.c (.d (.str n)), .c (.d (.int .i64 j))]
  | none => .tup [.c (.d (.str [])), .c (.d (.int .i64 i))]
set_option maxHeartbeats 1600000 in
theorem op_calls (s : List UInt8) (hs : s.length ≤ 1000000) (i : Nat) (hi : i ≤ s.length) (H : Heap) : ACalls Tryz.prog 167 [.c (.d (.str s)), .c (.d (.int .i64 i))] H (fun r H' => H' = H ∧ r = opA i (opR s i)) := by
  refine acalls Tryz.func167 (by kernel_rfl) ac167_ok fun hf => ?_
  have hli : inR .i64 (s.length : Int) := small_i64 (by omega) (by omega)
  have hi1 : inR .i64 ((i : Int) + 1) := small_i64 (by omega) (by omega)
  simp -implicitDefEqProofs [ac167, go_sem, -List.set_cons_succ, -List.set_cons_zero]
  refine qcall_pure (sign_calls s hs i (by omega) 32) hf rfl ?_
  unfold opR
  cases hsg : sgn s i 32 with
  | true =>
    have hlt := sgn_lt hsg
    simp -implicitDefEqProofs [hi1, hli, go_sem, -List.set_cons_succ, -List.set_cons_zero]
    refine ⟨fun h => ?_, fun h => ?_⟩
    · have h' : s.length ≤ i + 1 := by omega
      simp -implicitDefEqProofs [h', opA, go_sem, -List.set_cons_succ, -List.set_cons_zero]
    have hP : ¬ s.length ≤ i + 1 := by omega
    have cn := name_calls s hs (i + 1) (by omega)
    try simp only [Int.natCast_add, Int.cast_ofNat_Int] at cn
    rw [if_neg hP]
    cases hn : nameR s (i + 1) with
    | none =>
      rw [hn] at cn
      refine qcall_pure cn hf rfl ?_
      simp -implicitDefEqProofs [nameA, opA, go_sem, -List.set_cons_succ, -List.set_cons_zero]
    | some q =>
      obtain ⟨w, j⟩ := q
      rw [hn] at cn
      have ho := nameR_ok (by omega) hn
      have hj1 : inR .i64 ((j : Int) + 1) := small_i64 (by omega) (by omega)
      have hj0 : ¬ (j : Int) < 0 := by omega
      refine qcall_pure cn hf rfl ?_
      simp -implicitDefEqProofs [nameA, hj0, go_sem, -List.set_cons_succ, -List.set_cons_zero]
      refine qcall_pure (level_calls w) hf rfl ?_
      by_cases hl : levelN w = 0
      · simp -implicitDefEqProofs [hl, opA, go_sem, -List.set_cons_succ, -List.set_cons_zero]
      · have hl' : (levelN w == 0) = false := by simp [hl]
        have hii : (i : Int) < (i : Int) + 1 := by omega
        have cs := sign_calls s hs j (by omega) 32
        by_cases e1 : w = [105, 115]
        · subst e1
          have hwb : wordB [105, 115] = true := rfl
          simp -implicitDefEqProofs [hl, hl', hii, hwb, go_sem, -List.set_cons_succ, -List.set_cons_zero]
          refine qcall_pure cs hf rfl ?_
          cases hs2 : sgn s j 32 <;> simp -implicitDefEqProofs [opA, hj1, hf, go_sem, -List.set_cons_succ, -List.set_cons_zero]
        · by_cases e2 : w = [109, 111, 100]
          · subst e2
            have hwb : wordB [109, 111, 100] = true := rfl
            simp -implicitDefEqProofs [hl, hl', hii, hwb, go_sem, -List.set_cons_succ, -List.set_cons_zero]
            refine qcall_pure cs hf rfl ?_
            cases hs2 : sgn s j 32 <;> simp -implicitDefEqProofs [opA, hj1, hf, go_sem, -List.set_cons_succ, -List.set_cons_zero]
          · have hwb : wordB w = false := by simp [wordB, e1, e2]
            have e1' : (w == [105, 115]) = false := by simp [e1]
            have e2' : (w == [109, 111, 100]) = false := by simp [e2]
            simp -implicitDefEqProofs [hl, hl', hii, hwb, e1, e2, e1', e2', opA, hf, go_sem, -List.set_cons_succ, -List.set_cons_zero]
  | false =>
    simp -implicitDefEqProofs [hi1, hli, go_sem, -List.set_cons_succ, -List.set_cons_zero]
    refine ⟨fun h => ?_, fun h => ?_⟩
    · have h' : s.length ≤ i := by omega
      simp -implicitDefEqProofs [h', opA, go_sem, -List.set_cons_succ, -List.set_cons_zero]
    have hP : ¬ s.length ≤ i := by omega
    have cn := name_calls s hs (i) (by omega)
    try simp only [Int.natCast_add, Int.cast_ofNat_Int] at cn
    rw [if_neg hP]
    cases hn : nameR s (i) with
    | none =>
      rw [hn] at cn
      refine qcall_pure cn hf rfl ?_
      simp -implicitDefEqProofs [nameA, opA, go_sem, -List.set_cons_succ, -List.set_cons_zero]
    | some q =>
      obtain ⟨w, j⟩ := q
      rw [hn] at cn
      have ho := nameR_ok (by omega) hn
      have hj1 : inR .i64 ((j : Int) + 1) := small_i64 (by omega) (by omega)
      have hj0 : ¬ (j : Int) < 0 := by omega
      refine qcall_pure cn hf rfl ?_
      simp -implicitDefEqProofs [nameA, hj0, go_sem, -List.set_cons_succ, -List.set_cons_zero]
      refine qcall_pure (level_calls w) hf rfl ?_
      by_cases hl : levelN w = 0
      · simp -implicitDefEqProofs [hl, opA, go_sem, -List.set_cons_succ, -List.set_cons_zero]
      · have hl' : (levelN w == 0) = false := by simp [hl]
        have hii : (i : Int) < (i : Int) + 1 := by omega
        have cs := sign_calls s hs j (by omega) 32
        by_cases e1 : w = [105, 115]
        · subst e1
          have hwb : wordB [105, 115] = true := rfl
          simp -implicitDefEqProofs [hl, hl', hii, hwb, go_sem, -List.set_cons_succ, -List.set_cons_zero]
          simp -implicitDefEqProofs [opA, hf, go_sem, -List.set_cons_succ, -List.set_cons_zero]
        · by_cases e2 : w = [109, 111, 100]
          · subst e2
            have hwb : wordB [109, 111, 100] = true := rfl
            simp -implicitDefEqProofs [hl, hl', hii, hwb, go_sem, -List.set_cons_succ, -List.set_cons_zero]
            simp -implicitDefEqProofs [opA, hf, go_sem, -List.set_cons_succ, -List.set_cons_zero]
          · have hwb : wordB w = false := by simp [wordB, e1, e2]
            have e1' : (w == [105, 115]) = false := by simp [e1]
            have e2' : (w == [109, 111, 100]) = false := by simp [e2]
            simp -implicitDefEqProofs [hl, hl', hii, hwb, e1, e2, e1', e2', opA, hf, go_sem, -List.set_cons_succ, -List.set_cons_zero]
end Go.Proofs.YtbblefjbgbocoaaGreatDoor

/-
  The reference's parser does what it is said to do: terms, lists, operators.
  Conditions: none.
-/
open Go Go.AM Go.Proofs
namespace Go.Proofs.YtbblefjbgbocoaaGreatDoor
open Go.ChangeShapes Go.WideShapes Go.ChangeAt Go.RowKit
set_option linter.unusedVariables false
set_option linter.unusedSimpArgs false
set_option maxRecDepth 100000
-- 198 loop.example/prologserver/spec.l2Fails params 1 ntmps 7
def ac198 : Cd := .seq (.region [⟨(some 2),.alloc [(.d (.int .i64 0)),(.d (.int .i64 0)),(.d (.str [])),(.full [])],none⟩,
 ⟨(some 3),.mv (.k (.c (.d (.int .i64 0)))),none⟩] [3])
 (.seq (.region [⟨(some 4),.build [(.d (.int .i64 0)),(.d (.int .i64 0)),(.d (.str [])),(.full [])] [],none⟩,
 ⟨(some 5),.mv (.t 0),none⟩,
 ⟨(some 6),.bin .sub (.k (.c (.d (.int .i64 (-1))))) (.t 5),none⟩,
 ⟨none,.store 4 (.t 2) (.t 4),none⟩,
 ⟨(some 3),.mv (.t 6),none⟩] [0,4,5,6])
 (.ret))
theorem ac198_ok : cFunc Tryz.prog [] [(0,[3],[]),(1,[0,4,5,6],[])] Tryz.f198 = some (ac198,[.cell 2 (some 4),.tmp 3],7) := by kernel_rfl
-- 203 loop.example/prologserver/spec.l2Terms params 5 ntmps 50
-- loop head live: [0,1,2,3,4,12]
def ac203 : Cd := .seq (.region [⟨(some 10),.mv (.k (.c (.full []))),none⟩,
 ⟨(some 11),.mv (.k (.c (.d (.int .i64 0)))),none⟩] [10,11])
 (.seq (.region [⟨(some 15),.buildSlice 4 0 [(.int .i64 0),(.int .i64 0),(.str []),(.sl [])] [],none⟩,
 ⟨(some 12),.mv (.t 15),none⟩] [15])
 (.block 0 (.loop (.block 1 (.seq (.region [⟨(some 17),.mv (.t 0),none⟩,
 ⟨(some 18),.mv (.t 1),none⟩,
 ⟨(some 19),.mv (.t 2),none⟩,
 ⟨(some 20),.qcall 108 [(.t 17),(.t 18),(.t 19),(.k (.c (.d (.int .i64 3))))],none⟩,
 ⟨(some 16),.mv (.t 20),none⟩,
 ⟨(some 21),.extract 0 (.t 16),none⟩,
 ⟨(some 22),.extract 1 (.t 16),none⟩,
 ⟨(some 13),.alloc [(.d (.int .i64 0)),(.d (.int .i64 0)),(.d (.str [])),(.full [])],none⟩,
 ⟨none,.store 4 (.t 13) (.t 21),none⟩,
 ⟨(some 14),.mv (.t 22),none⟩] [1,16,17,18,19,20,21,22])
 (.seq (.seq (.region [⟨(some 23),.mv (.t 14),none⟩,
 ⟨(some 24),.bin .lss (.t 23) (.k (.c (.d (.int .i64 0)))),none⟩] [23])
 (.cond (.t 24)
 (.seq (.region [⟨(some 25),.mv (.t 14),none⟩,
 ⟨(some 10),.mv (.k (.c (.full []))),none⟩,
 ⟨(some 11),.mv (.t 25),none⟩] [0,2,3,4,12,13,14,24,25])
 (.ret))
 (.skip)))
 (.seq (.region [⟨(some 26),.mv (.t 12),none⟩,
 ⟨(some 27),.load (some 4) (.t 13),none⟩,
 ⟨(some 28),.buildSlice 4 1 [(.int .i64 0),(.int .i64 0),(.str []),(.sl [])] [(0,(.t 27))],none⟩,
 ⟨(some 29),.append false 4 (.t 26) (.t 28),none⟩,
 ⟨(some 12),.mv (.t 29),none⟩] [10,11,13,24,26,27,28,29])
 (.seq (.seq (.region [⟨(some 30),.mv (.t 0),none⟩,
 ⟨(some 31),.mv (.t 14),none⟩,
 ⟨(some 32),.mv (.t 3),none⟩,
 ⟨(some 33),.qcall 106 [(.t 30),(.t 31),(.t 32)],none⟩,
 ⟨(some 34),.mv (.t 33),none⟩,
 ⟨(some 35),.mv (.t 0),some (34,false)⟩,
 ⟨(some 36),.mv (.t 14),some (34,false)⟩,
 ⟨(some 37),.mv (.t 4),some (34,false)⟩,
 ⟨(some 38),.qcall 106 [(.t 35),(.t 36),(.t 37)],some (34,false)⟩,
 ⟨(some 39),.pick (.t 34) (.k (.c (.d (.bool true)))) (.t 38),none⟩] [30,31,32,33,34,35,36,37,38])
 (.cond (.t 39)
 (.seq (.region [⟨(some 40),.mv (.t 12),none⟩,
 ⟨(some 41),.mv (.t 14),none⟩,
 ⟨(some 10),.mv (.t 40),none⟩,
 ⟨(some 11),.mv (.t 41),none⟩] [0,2,3,4,12,14,39,40,41])
 (.ret))
 (.skip)))
 (.seq (.seq (.region [⟨(some 42),.mv (.t 0),none⟩,
 ⟨(some 43),.mv (.t 14),none⟩,
 ⟨(some 44),.qcall 106 [(.t 42),(.t 43),(.k (.c (.d (.int .u8 44))))],none⟩,
 ⟨(some 45),.un .not (.t 44),none⟩] [10,11,39,42,43,44])
 (.cond (.t 45)
 (.seq (.region [⟨(some 46),.mv (.t 14),none⟩,
 ⟨(some 47),.bin .sub (.k (.c (.d (.int .i64 (-1))))) (.t 46),none⟩,
 ⟨(some 10),.mv (.k (.c (.full []))),none⟩,
 ⟨(some 11),.mv (.t 47),none⟩] [0,2,3,4,12,14,45,46,47])
 (.ret))
 (.skip)))
 (.region [⟨(some 48),.mv (.t 14),none⟩,
 ⟨(some 49),.bin .add (.t 48) (.k (.c (.d (.int .i64 1)))),none⟩,
 ⟨(some 1),.mv (.t 49),none⟩] [10,11,14,45,48,49]))))))))))
theorem ac203_ok : cFunc Tryz.prog [1000106,1000108] [(0,[10,11],[]),(1,[15],[]),(2,[1,16,17,18,19,20,21,22],[]),(3,[23],[]),(4,[0,2,3,4,12,13,14,24,25],[]),(5,[10,11,13,24,26,27,28,29],[]),(6,[30,31,32,33,34,35,36,37,38],[]),(7,[0,2,3,4,12,14,39,40,41],[]),(8,[10,11,39,42,43,44],[]),(9,[0,2,3,4,12,14,45,46,47],[]),(10,[10,11,14,45,48,49],[])] Tryz.f203 = some (ac203,[.tmp 10,.tmp 11],50) := by kernel_rfl
-- 199 loop.example/prologserver/spec.l2Items params 3 ntmps 56
def ac199 : Cd := .seq (.region [⟨(some 6),.alloc [(.d (.int .i64 0)),(.d (.int .i64 0)),(.d (.str [])),(.full [])],none⟩,
 ⟨(some 7),.mv (.k (.c (.d (.int .i64 0)))),none⟩] [7])
 (.seq (.region [⟨(some 13),.mv (.t 0),none⟩,
 ⟨(some 14),.mv (.t 1),none⟩,
 ⟨(some 15),.mv (.t 2),none⟩,
 ⟨(some 16),.qcall 203 [(.t 13),(.t 14),(.t 15),(.k (.c (.d (.int .u8 93)))),(.k (.c (.d (.int .u8 124))))],none⟩,
 ⟨(some 12),.mv (.t 16),none⟩,
 ⟨(some 17),.extract 0 (.t 12),none⟩,
 ⟨(some 18),.extract 1 (.t 12),none⟩,
 ⟨(some 8),.mv (.t 17),none⟩,
 ⟨(some 9),.mv (.t 18),none⟩] [1,12,13,14,15,16,17,18])
 (.seq (.seq (.region [⟨(some 19),.mv (.t 9),none⟩,
 ⟨(some 20),.bin .lss (.t 19) (.k (.c (.d (.int .i64 0)))),none⟩] [19])
 (.cond (.t 20)
 (.seq (.region [⟨(some 21),.build [(.d (.int .i64 0)),(.d (.int .i64 0)),(.d (.str [])),(.full [])] [],none⟩,
 ⟨(some 22),.mv (.t 9),none⟩,
 ⟨none,.store 4 (.t 6) (.t 21),none⟩,
 ⟨(some 7),.mv (.t 22),none⟩] [0,2,8,9,20,21,22])
 (.ret))
 (.skip)))
 (.seq (.seq (.region [⟨(some 23),.mv (.t 0),none⟩,
 ⟨(some 24),.mv (.t 9),none⟩,
 ⟨(some 25),.qcall 106 [(.t 23),(.t 24),(.k (.c (.d (.int .u8 93))))],none⟩] [7,20,23,24])
 (.cond (.t 25)
 (.seq (.region [⟨(some 26),.mv (.t 8),none⟩,
 ⟨(some 27),.qcall 96 [(.k (.c (.d (.str [91,93])))),(.k (.c (.full [])))],none⟩,
 ⟨(some 28),.qcall 230 [(.t 26),(.t 27)],none⟩,
 ⟨(some 29),.mv (.t 9),none⟩,
 ⟨(some 30),.bin .add (.t 29) (.k (.c (.d (.int .i64 1)))),none⟩,
 ⟨none,.store 4 (.t 6) (.t 28),none⟩,
 ⟨(some 7),.mv (.t 30),none⟩] [0,2,8,9,25,26,27,28,29,30])
 (.ret))
 (.skip)))
 (.seq (.region [⟨(some 32),.mv (.t 0),none⟩,
 ⟨(some 33),.mv (.t 9),none⟩,
 ⟨(some 34),.bin .add (.t 33) (.k (.c (.d (.int .i64 1)))),none⟩,
 ⟨(some 35),.mv (.t 2),none⟩,
 ⟨(some 36),.qcall 108 [(.t 32),(.t 34),(.t 35),(.k (.c (.d (.int .i64 3))))],none⟩,
 ⟨(some 31),.mv (.t 36),none⟩,
 ⟨(some 37),.extract 0 (.t 31),none⟩,
 ⟨(some 38),.extract 1 (.t 31),none⟩,
 ⟨(some 10),.alloc [(.d (.int .i64 0)),(.d (.int .i64 0)),(.d (.str [])),(.full [])],none⟩,
 ⟨none,.store 4 (.t 10) (.t 37),none⟩,
 ⟨(some 11),.mv (.t 38),none⟩] [2,7,9,25,31,32,33,34,35,36,37,38])
 (.seq (.seq (.region [⟨(some 39),.mv (.t 11),none⟩,
 ⟨(some 40),.bin .lss (.t 39) (.k (.c (.d (.int .i64 0)))),none⟩] [39])
 (.cond (.t 40)
 (.seq (.region [⟨(some 41),.build [(.d (.int .i64 0)),(.d (.int .i64 0)),(.d (.str [])),(.full [])] [],none⟩,
 ⟨(some 42),.mv (.t 11),none⟩,
 ⟨none,.store 4 (.t 6) (.t 41),none⟩,
 ⟨(some 7),.mv (.t 42),none⟩] [0,8,10,11,40,41,42])
 (.ret))
 (.skip)))
 (.seq (.seq (.region [⟨(some 43),.mv (.t 0),none⟩,
 ⟨(some 44),.mv (.t 11),none⟩,
 ⟨(some 45),.qcall 106 [(.t 43),(.t 44),(.k (.c (.d (.int .u8 93))))],none⟩,
 ⟨(some 46),.un .not (.t 45),none⟩] [0,7,40,43,44,45])
 (.cond (.t 46)
 (.seq (.region [⟨(some 47),.mv (.t 11),none⟩,
 ⟨(some 48),.qcall 198 [(.t 47)],none⟩,
 ⟨(some 49),.extract 0 (.t 48),none⟩,
 ⟨(some 50),.extract 1 (.t 48),none⟩,
 ⟨none,.store 4 (.t 6) (.t 49),none⟩,
 ⟨(some 7),.mv (.t 50),none⟩] [8,10,11,46,47,48,49,50])
 (.ret))
 (.skip)))
 (.seq (.region [⟨(some 51),.mv (.t 8),none⟩,
 ⟨(some 52),.load (some 4) (.t 10),none⟩,
 ⟨(some 53),.qcall 230 [(.t 51),(.t 52)],none⟩,
 ⟨(some 54),.mv (.t 11),none⟩,
 ⟨(some 55),.bin .add (.t 54) (.k (.c (.d (.int .i64 1)))),none⟩,
 ⟨none,.store 4 (.t 6) (.t 53),none⟩,
 ⟨(some 7),.mv (.t 55),none⟩] [8,10,11,46,51,52,53,54,55])
 (.ret))))))))
theorem ac199_ok : cFunc Tryz.prog [1000096,1000106,1000108,1000198,1000203,1000230] [(0,[7],[]),(1,[1,12,13,14,15,16,17,18],[]),(2,[19],[]),(3,[0,2,8,9,20,21,22],[]),(4,[7,20,23,24],[]),(5,[0,2,8,9,25,26,27,28,29,30],[]),(6,[2,7,9,25,31,32,33,34,35,36,37,38],[]),(7,[39],[]),(8,[0,8,10,11,40,41,42],[]),(9,[0,7,40,43,44,45],[]),(10,[8,10,11,46,47,48,49,50],[]),(11,[8,10,11,46,51,52,53,54,55],[])] Tryz.f199 = some (ac199,[.cell 6 (some 4),.tmp 7],56) := by kernel_rfl
-- 166 loop.example/prologserver/spec.l2Prime params 3 ntmps 158
def ac166 : Cd := .seq (.region [⟨(some 6),.alloc [(.d (.int .i64 0)),(.d (.int .i64 0)),(.d (.str [])),(.full [])],none⟩,
 ⟨(some 7),.mv (.k (.c (.d (.int .i64 0)))),none⟩] [7])
 (.seq (.seq (.region [⟨(some 16),.mv (.t 2),none⟩,
 ⟨(some 17),.bin .lss (.t 16) (.k (.c (.d (.int .i64 1)))),none⟩,
 ⟨(some 18),.mv (.t 17),none⟩,
 ⟨(some 19),.mv (.t 1),some (18,false)⟩,
 ⟨(some 20),.mv (.t 0),some (18,false)⟩,
 ⟨(some 21),.len 0 (.t 20),some (18,false)⟩,
 ⟨(some 22),.bin .geq (.t 19) (.t 21),some (18,false)⟩,
 ⟨(some 23),.pick (.t 18) (.k (.c (.d (.bool true)))) (.t 22),none⟩] [16,17,18,19,20,21,22])
 (.cond (.t 23)
 (.seq (.region [⟨(some 24),.mv (.t 1),none⟩,
 ⟨(some 25),.qcall 198 [(.t 24)],none⟩,
 ⟨(some 26),.extract 0 (.t 25),none⟩,
 ⟨(some 27),.extract 1 (.t 25),none⟩,
 ⟨none,.store 4 (.t 6) (.t 26),none⟩,
 ⟨(some 7),.mv (.t 27),none⟩] [0,1,2,23,24,25,26,27])
 (.ret))
 (.skip)))
 (.seq (.seq (.region [⟨(some 28),.mv (.t 0),none⟩,
 ⟨(some 29),.mv (.t 1),none⟩,
 ⟨(some 30),.index (.t 28) (.t 29),none⟩,
 ⟨(some 31),.bin .eql (.t 30) (.k (.c (.d (.int .u8 40)))),none⟩] [7,23,28,29,30])
 (.cond (.t 31)
 (.seq (.region [⟨(some 33),.mv (.t 0),none⟩,
 ⟨(some 34),.mv (.t 1),none⟩,
 ⟨(some 35),.bin .add (.t 34) (.k (.c (.d (.int .i64 1)))),none⟩,
 ⟨(some 36),.mv (.t 2),none⟩,
 ⟨(some 37),.qcall 108 [(.t 33),(.t 35),(.t 36),(.k (.c (.d (.int .i64 3))))],none⟩,
 ⟨(some 32),.mv (.t 37),none⟩,
 ⟨(some 38),.extract 0 (.t 32),none⟩,
 ⟨(some 39),.extract 1 (.t 32),none⟩,
 ⟨(some 8),.alloc [(.d (.int .i64 0)),(.d (.int .i64 0)),(.d (.str [])),(.full [])],none⟩,
 ⟨none,.store 4 (.t 8) (.t 38),none⟩,
 ⟨(some 9),.mv (.t 39),none⟩] [1,2,31,32,33,34,35,36,37,38,39])
 (.seq (.seq (.region [⟨(some 40),.mv (.t 9),none⟩,
 ⟨(some 41),.bin .lss (.t 40) (.k (.c (.d (.int .i64 0)))),none⟩] [40])
 (.cond (.t 41)
 (.seq (.region [⟨(some 42),.build [(.d (.int .i64 0)),(.d (.int .i64 0)),(.d (.str [])),(.full [])] [],none⟩,
 ⟨(some 43),.mv (.t 9),none⟩,
 ⟨none,.store 4 (.t 6) (.t 42),none⟩,
 ⟨(some 7),.mv (.t 43),none⟩] [0,8,9,41,42,43])
 (.ret))
 (.skip)))
 (.seq (.seq (.region [⟨(some 44),.mv (.t 0),none⟩,
 ⟨(some 45),.mv (.t 9),none⟩,
 ⟨(some 46),.qcall 106 [(.t 44),(.t 45),(.k (.c (.d (.int .u8 41))))],none⟩,
 ⟨(some 47),.un .not (.t 46),none⟩] [0,7,41,44,45,46])
 (.cond (.t 47)
 (.seq (.region [⟨(some 48),.mv (.t 9),none⟩,
 ⟨(some 49),.qcall 198 [(.t 48)],none⟩,
 ⟨(some 50),.extract 0 (.t 49),none⟩,
 ⟨(some 51),.extract 1 (.t 49),none⟩,
 ⟨none,.store 4 (.t 6) (.t 50),none⟩,
 ⟨(some 7),.mv (.t 51),none⟩] [8,9,47,48,49,50,51])
 (.ret))
 (.skip)))
 (.seq (.region [⟨(some 52),.load (some 4) (.t 8),none⟩,
 ⟨(some 53),.mv (.t 9),none⟩,
 ⟨(some 54),.bin .add (.t 53) (.k (.c (.d (.int .i64 1)))),none⟩,
 ⟨none,.store 4 (.t 6) (.t 52),none⟩,
 ⟨(some 7),.mv (.t 54),none⟩] [8,9,47,52,53,54])
 (.ret)))))
 (.skip)))
 (.seq (.seq (.region [⟨(some 55),.mv (.t 0),none⟩,
 ⟨(some 56),.mv (.t 1),none⟩,
 ⟨(some 57),.index (.t 55) (.t 56),none⟩,
 ⟨(some 58),.bin .eql (.t 57) (.k (.c (.d (.int .u8 91)))),none⟩,
 ⟨(some 59),.mv (.t 58),none⟩,
 ⟨(some 60),.mv (.t 0),some (59,true)⟩,
 ⟨(some 61),.mv (.t 1),some (59,true)⟩,
 ⟨(some 62),.bin .add (.t 61) (.k (.c (.d (.int .i64 1)))),some (59,true)⟩,
 ⟨(some 63),.qcall 106 [(.t 60),(.t 62),(.k (.c (.d (.int .u8 93))))],some (59,true)⟩,
 ⟨(some 64),.un .not (.t 63),some (59,true)⟩,
 ⟨(some 65),.pick (.t 59) (.t 64) (.k (.c (.d (.bool false)))),none⟩] [7,31,55,56,57,58,59,60,61,62,63,64])
 (.cond (.t 65)
 (.seq (.region [⟨(some 66),.mv (.t 0),none⟩,
 ⟨(some 67),.mv (.t 1),none⟩,
 ⟨(some 68),.bin .add (.t 67) (.k (.c (.d (.int .i64 1)))),none⟩,
 ⟨(some 69),.mv (.t 2),none⟩,
 ⟨(some 70),.bin .sub (.t 69) (.k (.c (.d (.int .i64 1)))),none⟩,
 ⟨(some 71),.qcall 199 [(.t 66),(.t 68),(.t 70)],none⟩,
 ⟨(some 72),.extract 0 (.t 71),none⟩,
 ⟨(some 73),.extract 1 (.t 71),none⟩,
 ⟨none,.store 4 (.t 6) (.t 72),none⟩,
 ⟨(some 7),.mv (.t 73),none⟩] [0,1,2,65,66,67,68,69,70,71,72,73])
 (.ret))
 (.skip)))
 (.seq (.seq (.region [⟨(some 74),.mv (.t 0),none⟩,
 ⟨(some 75),.mv (.t 1),none⟩,
 ⟨(some 76),.index (.t 74) (.t 75),none⟩,
 ⟨(some 77),.bin .geq (.t 76) (.k (.c (.d (.int .u8 65)))),none⟩,
 ⟨(some 78),.mv (.t 77),none⟩,
 ⟨(some 79),.mv (.t 0),some (78,true)⟩,
 ⟨(some 80),.mv (.t 1),some (78,true)⟩,
 ⟨(some 81),.index (.t 79) (.t 80),some (78,true)⟩,
 ⟨(some 82),.bin .leq (.t 81) (.k (.c (.d (.int .u8 90)))),some (78,true)⟩,
 ⟨(some 83),.pick (.t 78) (.t 82) (.k (.c (.d (.bool false)))),none⟩] [7,65,74,75,76,77,78,79,80,81,82])
 (.cond (.t 83)
 (.seq (.region [⟨(some 84),.mv (.t 0),none⟩,
 ⟨(some 85),.mv (.t 1),none⟩,
 ⟨(some 86),.index (.t 84) (.t 85),none⟩,
 ⟨(some 87),.bin .sub (.t 86) (.k (.c (.d (.int .u8 65)))),none⟩,
 ⟨(some 88),.cvInt .i64 (.t 87),none⟩,
 ⟨(some 89),.qcall 124 [(.t 88)],none⟩,
 ⟨(some 90),.mv (.t 1),none⟩,
 ⟨(some 91),.bin .add (.t 90) (.k (.c (.d (.int .i64 1)))),none⟩,
 ⟨none,.store 4 (.t 6) (.t 89),none⟩,
 ⟨(some 7),.mv (.t 91),none⟩] [0,1,2,83,84,85,86,87,88,89,90,91])
 (.ret))
 (.skip)))
 (.seq (.seq (.region [⟨(some 92),.mv (.t 0),none⟩,
 ⟨(some 93),.mv (.t 1),none⟩,
 ⟨(some 94),.qcall 200 [(.t 92),(.t 93)],none⟩,
 ⟨(some 95),.mv (.t 94),none⟩,
 ⟨(some 96),.mv (.t 0),some (95,false)⟩,
 ⟨(some 97),.mv (.t 1),some (95,false)⟩,
 ⟨(some 98),.index (.t 96) (.t 97),some (95,false)⟩,
 ⟨(some 99),.bin .eql (.t 98) (.k (.c (.d (.int .u8 45)))),some (95,false)⟩,
 ⟨(some 100),.mv (.t 99),some (95,false)⟩,
 ⟨(some 101),.mv (.t 0),some (100,true)⟩,
 ⟨(some 102),.mv (.t 1),some (100,true)⟩,
 ⟨(some 103),.bin .add (.t 102) (.k (.c (.d (.int .i64 1)))),some (100,true)⟩,
 ⟨(some 104),.qcall 200 [(.t 101),(.t 103)],some (100,true)⟩,
 ⟨(some 105),.pick (.t 100) (.t 104) (.k (.c (.d (.bool false)))),some (95,false)⟩,
 ⟨(some 106),.pick (.t 95) (.k (.c (.d (.bool true)))) (.t 105),none⟩] [7,83,92,93,94,95,96,97,98,99,100,101,102,103,104,105])
 (.cond (.t 106)
 (.seq (.region [⟨(some 108),.mv (.t 0),none⟩,
 ⟨(some 109),.mv (.t 1),none⟩,
 ⟨(some 110),.qcall 201 [(.t 108),(.t 109)],none⟩,
 ⟨(some 107),.mv (.t 110),none⟩,
 ⟨(some 111),.extract 0 (.t 107),none⟩,
 ⟨(some 112),.extract 1 (.t 107),none⟩,
 ⟨(some 10),.alloc [(.d (.int .i64 0)),(.d (.int .i64 0)),(.d (.str [])),(.full [])],none⟩,
 ⟨none,.store 4 (.t 10) (.t 111),none⟩,
 ⟨(some 11),.mv (.t 112),none⟩] [0,2,106,107,108,109,110,111,112])
 (.seq (.seq (.region [⟨(some 113),.mv (.t 11),none⟩,
 ⟨(some 114),.bin .lss (.t 113) (.k (.c (.d (.int .i64 0)))),none⟩] [113])
 (.cond (.t 114)
 (.seq (.region [⟨(some 115),.mv (.t 1),none⟩,
 ⟨(some 116),.qcall 198 [(.t 115)],none⟩,
 ⟨(some 117),.extract 0 (.t 116),none⟩,
 ⟨(some 118),.extract 1 (.t 116),none⟩,
 ⟨none,.store 4 (.t 6) (.t 117),none⟩,
 ⟨(some 7),.mv (.t 118),none⟩] [1,10,11,114,115,116,117,118])
 (.ret))
 (.skip)))
 (.seq (.region [⟨(some 119),.load (some 4) (.t 10),none⟩,
 ⟨(some 120),.mv (.t 11),none⟩,
 ⟨none,.store 4 (.t 6) (.t 119),none⟩,
 ⟨(some 7),.mv (.t 120),none⟩] [1,10,11,114,119,120])
 (.ret))))
 (.skip)))
 (.seq (.region [⟨(some 122),.mv (.t 0),none⟩,
 ⟨(some 123),.mv (.t 1),none⟩,
 ⟨(some 124),.qcall 202 [(.t 122),(.t 123)],none⟩,
 ⟨(some 121),.mv (.t 124),none⟩,
 ⟨(some 125),.extract 0 (.t 121),none⟩,
 ⟨(some 126),.extract 1 (.t 121),none⟩,
 ⟨(some 12),.mv (.t 125),none⟩,
 ⟨(some 13),.mv (.t 126),none⟩] [7,106,121,122,123,124,125,126])
 (.seq (.seq (.region [⟨(some 127),.mv (.t 13),none⟩,
 ⟨(some 128),.bin .lss (.t 127) (.k (.c (.d (.int .i64 0)))),none⟩] [127])
 (.cond (.t 128)
 (.seq (.region [⟨(some 129),.mv (.t 1),none⟩,
 ⟨(some 130),.qcall 198 [(.t 129)],none⟩,
 ⟨(some 131),.extract 0 (.t 130),none⟩,
 ⟨(some 132),.extract 1 (.t 130),none⟩,
 ⟨none,.store 4 (.t 6) (.t 131),none⟩,
 ⟨(some 7),.mv (.t 132),none⟩] [0,1,2,12,13,128,129,130,131,132])
 (.ret))
 (.skip)))
 (.seq (.seq (.region [⟨(some 133),.mv (.t 0),none⟩,
 ⟨(some 134),.mv (.t 13),none⟩,
 ⟨(some 135),.qcall 106 [(.t 133),(.t 134),(.k (.c (.d (.int .u8 40))))],none⟩,
 ⟨(some 136),.un .not (.t 135),none⟩] [1,7,128,133,134,135])
 (.cond (.t 136)
 (.seq (.region [⟨(some 137),.mv (.t 12),none⟩,
 ⟨(some 138),.qcall 96 [(.t 137),(.k (.c (.full [])))],none⟩,
 ⟨(some 139),.mv (.t 13),none⟩,
 ⟨none,.store 4 (.t 6) (.t 138),none⟩,
 ⟨(some 7),.mv (.t 139),none⟩] [0,2,12,13,136,137,138,139])
 (.ret))
 (.skip)))
 (.seq (.region [⟨(some 141),.mv (.t 0),none⟩,
 ⟨(some 142),.mv (.t 13),none⟩,
 ⟨(some 143),.bin .add (.t 142) (.k (.c (.d (.int .i64 1)))),none⟩,
 ⟨(some 144),.mv (.t 2),none⟩,
 ⟨(some 145),.bin .sub (.t 144) (.k (.c (.d (.int .i64 1)))),none⟩,
 ⟨(some 146),.qcall 203 [(.t 141),(.t 143),(.t 145),(.k (.c (.d (.int .u8 41)))),(.k (.c (.d (.int .u8 41))))],none⟩,
 ⟨(some 140),.mv (.t 146),none⟩,
 ⟨(some 147),.extract 0 (.t 140),none⟩,
 ⟨(some 148),.extract 1 (.t 140),none⟩,
 ⟨(some 14),.mv (.t 147),none⟩,
 ⟨(some 15),.mv (.t 148),none⟩] [0,2,7,13,136,140,141,142,143,144,145,146,147,148])
 (.seq (.seq (.region [⟨(some 149),.mv (.t 15),none⟩,
 ⟨(some 150),.bin .lss (.t 149) (.k (.c (.d (.int .i64 0)))),none⟩] [149])
 (.cond (.t 150)
 (.seq (.region [⟨(some 151),.build [(.d (.int .i64 0)),(.d (.int .i64 0)),(.d (.str [])),(.full [])] [],none⟩,
 ⟨(some 152),.mv (.t 15),none⟩,
 ⟨none,.store 4 (.t 6) (.t 151),none⟩,
 ⟨(some 7),.mv (.t 152),none⟩] [12,14,15,150,151,152])
 (.ret))
 (.skip)))
 (.seq (.region [⟨(some 153),.mv (.t 12),none⟩,
 ⟨(some 154),.mv (.t 14),none⟩,
 ⟨(some 155),.build [(.d (.int .i64 0)),(.d (.int .i64 0)),(.d (.str [])),(.full [])] [(0,1,(.k (.c (.d (.int .i64 3))))),(2,1,(.t 153)),(3,1,(.t 154))],none⟩,
 ⟨(some 156),.mv (.t 15),none⟩,
 ⟨(some 157),.bin .add (.t 156) (.k (.c (.d (.int .i64 1)))),none⟩,
 ⟨none,.store 4 (.t 6) (.t 155),none⟩,
 ⟨(some 7),.mv (.t 157),none⟩] [12,14,15,150,153,154,155,156,157])
 (.ret))))))))))))
theorem ac166_ok : cFunc Tryz.prog [1000096,1000106,1000108,1000124,1000198,1000199,1000200,1000201,1000202,1000203] [(0,[7],[]),(1,[16,17,18,19,20,21,22],[]),(2,[0,1,2,23,24,25,26,27],[]),(3,[7,23,28,29,30],[]),(4,[1,2,31,32,33,34,35,36,37,38,39],[]),(5,[40],[]),(6,[0,8,9,41,42,43],[]),(7,[0,7,41,44,45,46],[]),(8,[8,9,47,48,49,50,51],[]),(9,[8,9,47,52,53,54],[]),(10,[7,31,55,56,57,58,59,60,61,62,63,64],[]),(11,[0,1,2,65,66,67,68,69,70,71,72,73],[]),(12,[7,65,74,75,76,77,78,79,80,81,82],[]),(13,[0,1,2,83,84,85,86,87,88,89,90,91],[]),(14,[7,83,92,93,94,95,96,97,98,99,100,101,102,103,104,105],[]),(15,[0,2,106,107,108,109,110,111,112],[]),(16,[113],[]),(17,[1,10,11,114,115,116,117,118],[]),(18,[1,10,11,114,119,120],[]),(19,[7,106,121,122,123,124,125,126],[]),(20,[127],[]),(21,[0,1,2,12,13,128,129,130,131,132],[]),(22,[1,7,128,133,134,135],[]),(23,[0,2,12,13,136,137,138,139],[]),(24,[0,2,7,13,136,140,141,142,143,144,145,146,147,148],[]),(25,[149],[]),(26,[12,14,15,150,151,152],[]),(27,[12,14,15,150,153,154,155,156,157],[])] Tryz.f166 = some (ac166,[.cell 6 (some 4),.tmp 7],158) := by kernel_rfl
-- 108 loop.example/prologserver/spec.l2Read params 4 ntmps 76
-- loop head live: [0,2,3,8,10,11]
def ac108 : Cd := .seq (.region [⟨(some 8),.alloc [(.d (.int .i64 0)),(.d (.int .i64 0)),(.d (.str [])),(.full [])],none⟩,
 ⟨(some 9),.mv (.k (.c (.d (.int .i64 0)))),none⟩] [9])
 (.seq (.seq (.region [⟨(some 16),.mv (.t 3),none⟩,
 ⟨(some 17),.bin .eql (.t 16) (.k (.c (.d (.int .i64 0)))),none⟩] [16])
 (.cond (.t 17)
 (.seq (.region [⟨(some 18),.mv (.t 0),none⟩,
 ⟨(some 19),.mv (.t 1),none⟩,
 ⟨(some 20),.mv (.t 2),none⟩,
 ⟨(some 21),.qcall 166 [(.t 18),(.t 19),(.t 20)],none⟩,
 ⟨(some 22),.extract 0 (.t 21),none⟩,
 ⟨(some 23),.extract 1 (.t 21),none⟩,
 ⟨none,.store 4 (.t 8) (.t 22),none⟩,
 ⟨(some 9),.mv (.t 23),none⟩] [0,1,2,3,17,18,19,20,21,22,23])
 (.ret))
 (.skip)))
 (.seq (.region [⟨(some 25),.mv (.t 0),none⟩,
 ⟨(some 26),.mv (.t 1),none⟩,
 ⟨(some 27),.mv (.t 2),none⟩,
 ⟨(some 28),.mv (.t 3),none⟩,
 ⟨(some 29),.bin .sub (.t 28) (.k (.c (.d (.int .i64 1)))),none⟩,
 ⟨(some 30),.qcall 108 [(.t 25),(.t 26),(.t 27),(.t 29)],none⟩,
 ⟨(some 24),.mv (.t 30),none⟩,
 ⟨(some 31),.extract 0 (.t 24),none⟩,
 ⟨(some 32),.extract 1 (.t 24),none⟩,
 ⟨(some 10),.alloc [(.d (.int .i64 0)),(.d (.int .i64 0)),(.d (.str [])),(.full [])],none⟩,
 ⟨none,.store 4 (.t 10) (.t 31),none⟩,
 ⟨(some 11),.mv (.t 32),none⟩] [1,9,17,24,25,26,27,28,29,30,31,32])
 (.seq (.block 0 (.loop (.seq (.seq (.region [⟨(some 33),.mv (.t 11),none⟩,
 ⟨(some 34),.bin .geq (.t 33) (.k (.c (.d (.int .i64 0)))),none⟩] [33])
 (.cond (.t 34)
 (.skip)
 (.exit 0)))
 (.block 1 (.seq (.region [⟨(some 36),.mv (.t 0),none⟩,
 ⟨(some 37),.mv (.t 11),none⟩,
 ⟨(some 38),.qcall 167 [(.t 36),(.t 37)],none⟩,
 ⟨(some 35),.mv (.t 38),none⟩,
 ⟨(some 39),.extract 0 (.t 35),none⟩,
 ⟨(some 40),.extract 1 (.t 35),none⟩,
 ⟨(some 12),.mv (.t 39),none⟩,
 ⟨(some 13),.mv (.t 40),none⟩] [34,35,36,37,38,39,40])
 (.seq (.seq (.region [⟨(some 41),.mv (.t 12),none⟩,
 ⟨(some 42),.bin .eql (.t 41) (.k (.c (.d (.str [])))),none⟩,
 ⟨(some 43),.mv (.t 42),none⟩,
 ⟨(some 44),.mv (.t 12),some (43,false)⟩,
 ⟨(some 45),.qcall 139 [(.t 44)],some (43,false)⟩,
 ⟨(some 46),.mv (.t 3),some (43,false)⟩,
 ⟨(some 47),.bin .neq (.t 45) (.t 46),some (43,false)⟩,
 ⟨(some 48),.pick (.t 43) (.k (.c (.d (.bool true)))) (.t 47),none⟩] [41,42,43,44,45,46,47])
 (.cond (.t 48)
 (.seq (.region [⟨(some 49),.load (some 4) (.t 10),none⟩,
 ⟨(some 50),.mv (.t 11),none⟩,
 ⟨none,.store 4 (.t 8) (.t 49),none⟩,
 ⟨(some 9),.mv (.t 50),none⟩] [0,2,3,10,11,12,13,48,49,50])
 (.ret))
 (.skip)))
 (.seq (.region [⟨(some 52),.mv (.t 0),none⟩,
 ⟨(some 53),.mv (.t 13),none⟩,
 ⟨(some 54),.mv (.t 2),none⟩,
 ⟨(some 55),.mv (.t 3),none⟩,
 ⟨(some 56),.bin .sub (.t 55) (.k (.c (.d (.int .i64 1)))),none⟩,
 ⟨(some 57),.qcall 108 [(.t 52),(.t 53),(.t 54),(.t 56)],none⟩,
 ⟨(some 51),.mv (.t 57),none⟩,
 ⟨(some 58),.extract 0 (.t 51),none⟩,
 ⟨(some 59),.extract 1 (.t 51),none⟩,
 ⟨(some 14),.alloc [(.d (.int .i64 0)),(.d (.int .i64 0)),(.d (.str [])),(.full [])],none⟩,
 ⟨none,.store 4 (.t 14) (.t 58),none⟩,
 ⟨(some 15),.mv (.t 59),none⟩] [9,11,13,48,51,52,53,54,55,56,57,58,59])
 (.seq (.seq (.region [⟨(some 60),.mv (.t 15),none⟩,
 ⟨(some 61),.bin .lss (.t 60) (.k (.c (.d (.int .i64 0)))),none⟩] [60])
 (.cond (.t 61)
 (.seq (.region [⟨(some 62),.build [(.d (.int .i64 0)),(.d (.int .i64 0)),(.d (.str [])),(.full [])] [],none⟩,
 ⟨(some 63),.mv (.t 15),none⟩,
 ⟨none,.store 4 (.t 8) (.t 62),none⟩,
 ⟨(some 9),.mv (.t 63),none⟩] [0,2,3,10,12,14,15,61,62,63])
 (.ret))
 (.skip)))
 (.seq (.region [⟨(some 64),.mv (.t 12),none⟩,
 ⟨(some 65),.load (some 4) (.t 10),none⟩,
 ⟨(some 66),.load (some 4) (.t 14),none⟩,
 ⟨(some 67),.buildSlice 4 2 [(.int .i64 0),(.int .i64 0),(.str []),(.sl [])] [(0,(.t 65)),(1,(.t 66))],none⟩,
 ⟨(some 68),.qcall 96 [(.t 64),(.t 67)],none⟩,
 ⟨none,.store 4 (.t 10) (.t 68),none⟩] [9,12,14,61,64,65,66,67,68])
 (.seq (.region [⟨(some 69),.mv (.t 15),none⟩,
 ⟨(some 11),.mv (.t 69),none⟩] [15,69])
 (.seq (.region [⟨(some 70),.mv (.t 3),none⟩,
 ⟨(some 71),.bin .eql (.t 70) (.k (.c (.d (.int .i64 3)))),none⟩] [70])
 (.cond (.t 71)
 (.seq (.region [⟨(some 72),.load (some 4) (.t 10),none⟩,
 ⟨(some 73),.mv (.t 11),none⟩,
 ⟨none,.store 4 (.t 8) (.t 72),none⟩,
 ⟨(some 9),.mv (.t 73),none⟩] [0,2,3,10,11,71,72,73])
 (.ret))
 (.skip)))))))))))))
 (.seq (.region [⟨(some 74),.build [(.d (.int .i64 0)),(.d (.int .i64 0)),(.d (.str [])),(.full [])] [],none⟩,
 ⟨(some 75),.mv (.t 11),none⟩,
 ⟨none,.store 4 (.t 8) (.t 74),none⟩,
 ⟨(some 9),.mv (.t 75),none⟩] [11,74,75])
 (.ret)))))
theorem ac108_ok : cFunc Tryz.prog [1000096,1000108,1000139,1000166,1000167] [(0,[9],[]),(1,[16],[]),(2,[0,1,2,3,17,18,19,20,21,22,23],[]),(3,[1,9,17,24,25,26,27,28,29,30,31,32],[]),(4,[33],[]),(5,[34,35,36,37,38,39,40],[]),(6,[41,42,43,44,45,46,47],[]),(7,[0,2,3,10,11,12,13,48,49,50],[]),(8,[9,11,13,48,51,52,53,54,55,56,57,58,59],[]),(9,[60],[]),(10,[0,2,3,10,12,14,15,61,62,63],[]),(11,[9,12,14,61,64,65,66,67,68],[]),(12,[15,69],[]),(13,[70],[]),(14,[0,2,3,10,11,71,72,73],[]),(15,[11,74,75],[])] Tryz.f108 = some (ac108,[.cell 8 (some 4),.tmp 9],76) := by kernel_rfl
theorem fails_calls (i : Nat) (hi : i ≤ 2000000) (H : Heap) : ACalls Tryz.prog 198 [.c (.d (.int .i64 i))] H (fun r H' => H' = H ∧ r = .tup [.agg ((Tm.mk 0 0 [] []).row.map .d), .c (.d (.int .i64 (-1 - (i : Int))))]) := by
  refine acalls Tryz.func198 (by kernel_rfl) ac198_ok fun hf => ?_
  have h1 : inR .i64 (-1 - (i : Int)) := small_i64 (by omega) (by omega)
  simp -implicitDefEqProofs [ac198, h1, row_mk, hf, go_sem, -List.set_cons_succ, -List.set_cons_zero]
def readA : Rs → A
  | .ok ts j => .tup [.agg ((Rs.tm ts).row.map .d), .c (.d (.int .i64 j))]
  | .bad e => .tup [.agg ((Tm.mk 0 0 [] []).row.map .d), .c (.d (.int .i64 (-1 - (e : Int))))]
def termsA : Rs → A
  | .ok ts j => .tup [.c (.d (.sl (ts.map Tm.row))), .c (.d (.int .i64 j))]
  | .bad e => .tup [.c (.d (.sl [])), .c (.d (.int .i64 (-1 - (e : Int))))]
theorem readA_re (r : Rs) (n : Nat) : A.re n (readA r) = readA r := by cases r <;> simp [readA, A.re, A.res, C.re, re_d]
theorem termsA_re (r : Rs) (n : Nat) : A.re n (termsA r) = termsA r := by cases r <;> simp [termsA, A.re, A.res, C.re]
/-- the parser's functions at so many steps -/
structure Par (s : List UInt8) (f : Nat) : Prop where
  read : ∀ (i d l : Nat) (r : Rs), i ≤ s.length → d ≤ 1000 → l ≤ 3 → rd s f (.read i d l) = some r → ∀ H : Heap, ACalls Tryz.prog 108 [.c (.d (.str s)), .c (.d (.int .i64 i)), .c (.d (.int .i64 d)), .c (.d (.int .i64 l))] H (fun r' H' => H' = H ∧ r' = readA r)
  prime : ∀ (i d : Nat) (r : Rs), i ≤ s.length → d ≤ 1000 → rd s f (.prime i d) = some r → ∀ H : Heap, ACalls Tryz.prog 166 [.c (.d (.str s)), .c (.d (.int .i64 i)), .c (.d (.int .i64 d))] H (fun r' H' => H' = H ∧ r' = readA r)
  terms : ∀ (i d : Nat) (e o : UInt8) (r : Rs), i ≤ s.length → d ≤ 1000 → rd s f (.terms i d e o) = some r → ∀ H : Heap, ACalls Tryz.prog 203 [.c (.d (.str s)), .c (.d (.int .i64 i)), .c (.d (.int .i64 d)), .c (.d (.int .u8 e.toNat)), .c (.d (.int .u8 o.toNat))] H (fun r' H' => H' = H ∧ r' = termsA r)
section
variable {s : List UInt8} (hs : s.length ≤ 1000000) {f : Nat}
include hs
theorem items_step (h : Par s f) (i d : Nat) (hi : i ≤ s.length) (hd : d ≤ 1000) (r : Rs) (hr : (match rd s f (.terms i d 93 124) with
        | none => none
        | some (.bad e) => some (.bad e)
        | some (.ok ts j) => if sgn s j 93 then some (.ok [chainT ts nilT] (j + 1))
          else match rd s f (.read (j + 1) d 3) with
            | none => none
            | some (.bad e) => some (.bad e)
            | some (.ok us k) => if sgn s k 93 then some (.ok [chainT ts (Rs.tm us)] (k + 1)) else some (.bad k)) = some r) (H : Heap) :
    ACalls Tryz.prog 199 [.c (.d (.str s)), .c (.d (.int .i64 i)), .c (.d (.int .i64 d))] H (fun r' H' => H' = H ∧ r' = readA r) := by
  refine acalls Tryz.func199 (by kernel_rfl) ac199_ok fun hf => ?_
  cases hx : rd s f (.terms i d 93 124) with
  | none => rw [hx] at hr; cases hr
  | some v =>
    rw [hx] at hr
    have c1 := h.terms i d 93 124 v hi hd hx
    have p1 := rd_post hs (j := .terms i d 93 124) hi hx
    simp -implicitDefEqProofs [ac199, go_sem, -List.set_cons_succ, -List.set_cons_zero]
    refine qcall_pure c1 hf (termsA_re _ _) ?_
    cases v with
    | bad e =>
      have he : e ≤ s.length := p1
      cases hr
      have hneg : (-1 - (e : Int)) < 0 := by omega
      simp -implicitDefEqProofs [termsA, readA, hneg, row_mk, hf, go_sem, -List.set_cons_succ, -List.set_cons_zero]
    | ok ts j =>
      obtain ⟨g1, g2, g3, g4, g5⟩ := p1
      simp only at hr
      have hj0 : ¬ (j : Int) < 0 := by omega
      simp -implicitDefEqProofs [termsA, hj0, hf, go_sem, -List.set_cons_succ, -List.set_cons_zero]
      refine qcall_pure (sign_calls s hs j (by omega) 93) hf rfl ?_
      have hj1 : inR .i64 ((j : Int) + 1) := small_i64 (by omega) (by omega)
      cases hsg : sgn s j 93 with
      | true =>
        rw [hsg] at hr
        simp only [if_true, Option.some.injEq] at hr
        subst hr
        have hst := struct_calls [91, 93] [] (by simp)
        simp only [List.map_nil] at hst
        have hch := chainSpec_calls ts (by omega) nilT
        simp -implicitDefEqProofs [hf, go_sem, -List.set_cons_succ, -List.set_cons_zero]
        refine qcall_pure hst hf (by simp [A.re, re_d]) ?_
        simp -implicitDefEqProofs [row_len, take_row, pure_d, re_d, hf, go_sem, -List.set_cons_succ, -List.set_cons_zero]
        refine qcall_pure hch hf (by simp [A.re, re_d]) ?_
        simp -implicitDefEqProofs [hj1, readA, Rs.tm, row_len, take_row, pure_d, re_d, thaw_d, fits_map, hf, go_sem, -List.set_cons_succ, -List.set_cons_zero]
      | false =>
        rw [hsg] at hr
        simp only [Bool.false_eq_true, if_false] at hr
        have hjl : j < s.length := by
          rw [Bool.or_eq_true] at g5
          rcases g5 with g5 | g5 <;> exact sgn_lt g5
        cases hy : rd s f (.read (j + 1) d 3) with
        | none => rw [hy] at hr; cases hr
        | some w =>
          rw [hy] at hr
          have c2 := h.read (j + 1) d 3 w (by omega) hd (by omega) hy
          have p2 := rd_post hs (j := .read (j + 1) d 3) ⟨by omega, by omega⟩ hy
          simp only [Int.natCast_add, Int.cast_ofNat_Int] at c2
          simp -implicitDefEqProofs [hj1, hf, go_sem, -List.set_cons_succ, -List.set_cons_zero]
          refine qcall_pure c2 hf (readA_re _ _) ?_
          cases w with
          | bad e =>
            have he : e ≤ s.length := p2
            cases hr
            have hneg : (-1 - (e : Int)) < 0 := by omega
            simp -implicitDefEqProofs [readA, hneg, row_mk, hf, go_sem, -List.set_cons_succ, -List.set_cons_zero]
          | ok us k =>
            obtain ⟨q1, q2, u, rfl, q3⟩ := p2
            simp only at hr
            have hk0 : ¬ (k : Int) < 0 := by omega
            have hk1 : inR .i64 ((k : Int) + 1) := small_i64 (by omega) (by omega)
            have hch := chainSpec_calls ts (by omega) u
            simp -implicitDefEqProofs [readA, Rs.tm, hk0, row_len, take_row, pure_d, re_d, hf, go_sem, -List.set_cons_succ, -List.set_cons_zero]
            refine qcall_pure (sign_calls s hs k (by omega) 93) hf rfl ?_
            cases hsk : sgn s k 93 with
            | true =>
              rw [hsk] at hr
              simp only [if_true, Option.some.injEq] at hr
              subst hr
              simp -implicitDefEqProofs [row_len, take_row, pure_d, re_d, hf, go_sem, -List.set_cons_succ, -List.set_cons_zero]
              refine qcall_pure hch hf (by simp [A.re, re_d]) ?_
              simp -implicitDefEqProofs [hk1, readA, Rs.tm, row_len, take_row, pure_d, re_d, thaw_d, fits_map, hf, go_sem, -List.set_cons_succ, -List.set_cons_zero]
            | false =>
              rw [hsk] at hr
              simp only [Bool.false_eq_true, if_false, Option.some.injEq] at hr
              subst hr
              simp -implicitDefEqProofs [row_len, take_row, pure_d, re_d, hf, go_sem, -List.set_cons_succ, -List.set_cons_zero]
              refine qcall_pure (fails_calls k (by omega)) hf (by simp [A.re, A.res, C.re, re_d]) ?_
              simp -implicitDefEqProofs [readA, row_mk, hf, go_sem, -List.set_cons_succ, -List.set_cons_zero]
theorem prime_step (h : Par s f) (i d : Nat) (hi : i ≤ s.length) (hd : d ≤ 1000) (r : Rs) (hr : rd s (f + 1) (.prime i d) = some r) (H : Heap) :
    ACalls Tryz.prog 166 [.c (.d (.str s)), .c (.d (.int .i64 i)), .c (.d (.int .i64 d))] H (fun r' H' => H' = H ∧ r' = readA r) := by
  have hit := items_step hs h
  have hr : step s (rd s f) (.prime i d) = some r := hr
  simp only [step] at hr
  refine acalls Tryz.func166 (by kernel_rfl) ac166_ok fun hf => ?_
  have hli : inR .i64 (s.length : Int) := small_i64 (by omega) (by omega)
  have hi1 : inR .i64 ((i : Int) + 1) := small_i64 (by omega) (by omega)
  have bad : ∀ (K : A → St → Prop) (st : St), Obs.fits st.ext.length 0 st.ext → K (.tup [.agg ((Tm.mk 0 0 [] []).row.map .d), .c (.d (.int .i64 (-1 - (i : Int))))]) st → QCallK Tryz.prog 198 [.c (.d (.int .i64 i))] st K := fun K st h1 h2 => qcall_pure (fails_calls i (by omega)) h1 (by simp [A.re, A.res, C.re, re_d]) h2
  cases hb : s[i]? with
  | none =>
    rw [hb] at hr
    simp only [Option.some.injEq] at hr
    subst hr
    have hge : ¬ i < s.length := fun h => by simp [h] at hb
    have hge' : (s.length : Int) ≤ (i : Int) := by omega
    by_cases hd1 : (d : Int) < 1
    · simp -implicitDefEqProofs [ac166, hd1, hli, go_sem, -List.set_cons_succ, -List.set_cons_zero]
      refine bad _ _ hf ?_
      simp -implicitDefEqProofs [readA, row_mk, hf, go_sem, -List.set_cons_succ, -List.set_cons_zero]
    · simp -implicitDefEqProofs [ac166, hd1, hge', hli, go_sem, -List.set_cons_succ, -List.set_cons_zero]
      refine bad _ _ hf ?_
      simp -implicitDefEqProofs [readA, row_mk, hf, go_sem, -List.set_cons_succ, -List.set_cons_zero]
  | some b =>
    rw [hb] at hr
    have hlt : i < s.length := (List.getElem?_eq_some_iff.1 hb).1
    have hsb : s[i] = b := by have := List.getElem?_eq_getElem hlt; rw [hb] at this; exact (Option.some.inj this).symm
    have hge' : ¬ (s.length : Int) ≤ (i : Int) := by omega
    have byte : ∀ (K : A → St → Prop) (st : St), K (.c (.d (.int .u8 b.toNat))) st → ByteK true s (i : Int) K st := fun K st h1 => byte_nat hlt (by rw [hsb]; exact h1)
    have boff : ∀ (K : A → St → Prop) (st : St), K (.c (.d (.int .u8 b.toNat))) st → ByteK false s (i : Int) K st := fun K st h1 => byte_off b h1
    simp only at hr
    by_cases hd1 : d < 1
    · rw [if_pos hd1] at hr
      cases hr
      have hd1' : (d : Int) < 1 := by omega
      simp -implicitDefEqProofs [ac166, hd1', hli, go_sem, -List.set_cons_succ, -List.set_cons_zero]
      refine bad _ _ hf ?_
      simp -implicitDefEqProofs [readA, row_mk, hf, go_sem, -List.set_cons_succ, -List.set_cons_zero]
    · rw [if_neg hd1] at hr
      have hd1' : ¬ (d : Int) < 1 := by omega
      have hdd : inR .i64 ((d : Int) - 1) := small_i64 (by omega) (by omega)
      have hdn : ((d : Int) - 1) = ((d - 1 : Nat) : Int) := by omega
      simp -implicitDefEqProofs [ac166, hd1', hge', hli, go_sem, -List.set_cons_succ, -List.set_cons_zero]
      refine byte _ _ ?_
      by_cases h40 : b = 40
      · rw [if_pos h40] at hr
        have h40' : (b.toNat : Int) = 40 := by rw [h40]; rfl
        simp -implicitDefEqProofs [h40', hi1, hf, go_sem, -List.set_cons_succ, -List.set_cons_zero]
        cases hx : rd s f (.read (i + 1) d 3) with
        | none => rw [hx] at hr; cases hr
        | some v =>
          rw [hx] at hr
          have c1 := h.read (i + 1) d 3 v (by omega) hd (by omega) hx
          have p1 := rd_post hs (j := .read (i + 1) d 3) ⟨by omega, by omega⟩ hx
          simp only [Int.natCast_add, Int.cast_ofNat_Int] at c1
          refine qcall_pure c1 hf (readA_re _ _) ?_
          cases v with
          | bad e =>
            have he : e ≤ s.length := p1
            cases hr
            have hneg : (-1 - (e : Int)) < 0 := by omega
            simp -implicitDefEqProofs [readA, hneg, row_mk, hf, go_sem, -List.set_cons_succ, -List.set_cons_zero]
          | ok ts j =>
            obtain ⟨g1, g2, t, rfl, g3⟩ := p1
            simp only at hr
            have hj0 : ¬ (j : Int) < 0 := by omega
            have hj1 : inR .i64 ((j : Int) + 1) := small_i64 (by omega) (by omega)
            simp -implicitDefEqProofs [readA, Rs.tm, hj0, row_len, take_row, pure_d, re_d, hf, go_sem, -List.set_cons_succ, -List.set_cons_zero]
            refine qcall_pure (sign_calls s hs j (by omega) 41) hf rfl ?_
            cases hsg : sgn s j 41 with
            | true =>
              rw [hsg] at hr
              simp only [if_true, Option.some.injEq] at hr
              subst hr
              simp -implicitDefEqProofs [hj1, readA, Rs.tm, row_len, take_row, pure_d, re_d, thaw_d, fits_map, hf, go_sem, -List.set_cons_succ, -List.set_cons_zero]
            | false =>
              rw [hsg] at hr
              simp only [Bool.false_eq_true, if_false, Option.some.injEq] at hr
              subst hr
              simp -implicitDefEqProofs [row_len, take_row, pure_d, re_d, hf, go_sem, -List.set_cons_succ, -List.set_cons_zero]
              refine qcall_pure (fails_calls j (by omega)) hf (by simp [A.re, A.res, C.re, re_d]) ?_
              simp -implicitDefEqProofs [readA, row_mk, hf, go_sem, -List.set_cons_succ, -List.set_cons_zero]
      · rw [if_neg h40] at hr
        have h40' : ¬ (b.toNat : Int) = 40 := fun h => h40 (UInt8.toNat_inj.1 (by have : (40 : UInt8).toNat = 40 := rfl; omega))
        simp -implicitDefEqProofs [h40', hi1, hf, go_sem, -List.set_cons_succ, -List.set_cons_zero]
        refine byte _ _ ?_
        refine (fun (key : (if bigB b then some (Rs.ok [.mk 1 (b.toNat - 65 : Nat) [] []] (i + 1))
      else if digB b || b == 45 && digAt s (i + 1) then match numR s i with
        | none => some (.bad i)
        | some (n, j) => some (.ok [.mk 2 n [] []] j)
      else match nameR s i with
        | none => some (.bad i)
        | some (n, j) => if sgn s j 40 then match rd s f (.terms (j + 1) (d - 1) 41 41) with
            | none => none
            | some (.bad e) => some (.bad e)
            | some (.ok ts k) => some (.ok [.mk 3 0 n ts] (k + 1))
          else some (.ok [.mk 3 0 n []] j)) = some r → (?tail : Prop)) => ?main) ?rest
        case main =>
          by_cases h91 : b = 91
          · have h91' : (b.toNat : Int) = 91 := by rw [h91]; rfl
            have cs := sign_calls s hs (i + 1) (by omega) 93
            simp only [Int.natCast_add, Int.cast_ofNat_Int] at cs
            simp -implicitDefEqProofs [h91', hi1, hf, go_sem, -List.set_cons_succ, -List.set_cons_zero]
            refine qcall_pure cs hf rfl ?_
            cases hsg : sgn s (i + 1) 93 with
            | false =>
              rw [if_pos ⟨h91, hsg⟩] at hr
              have c1 := hit (i + 1) (d - 1) (by omega) (by omega) r hr
              rw [← hdn] at c1
              simp only [Int.natCast_add, Int.cast_ofNat_Int] at c1
              simp -implicitDefEqProofs [hi1, hdd, hf, go_sem, -List.set_cons_succ, -List.set_cons_zero]
              refine qcall_pure c1 hf (readA_re _ _) ?_
              cases r with
              | bad e => simp -implicitDefEqProofs [readA, row_mk, hf, go_sem, -List.set_cons_succ, -List.set_cons_zero]
              | ok ts j => simp -implicitDefEqProofs [readA, row_len, take_row, pure_d, re_d, thaw_d, fits_map, hf, go_sem, -List.set_cons_succ, -List.set_cons_zero]
            | true =>
              rw [if_neg (fun h => by rw [hsg] at h; exact absurd h.2 (by simp))] at hr
              simp -implicitDefEqProofs [hf, go_sem, -List.set_cons_succ, -List.set_cons_zero]
              exact key hr
          · have h91' : ¬ (b.toNat : Int) = 91 := fun h => h91 (UInt8.toNat_inj.1 (by have : (91 : UInt8).toNat = 91 := rfl; omega))
            have h91'' : ((b.toNat : Int) == 91) = false := by simp; omega
            rw [if_neg (fun h => h91 h.1)] at hr
            simp -implicitDefEqProofs [h91', h91'', hi1, hf, go_sem, -List.set_cons_succ, -List.set_cons_zero]
            exact key hr
        case rest =>
          intro hr
          refine byte _ _ ?_
          refine (fun (key : (if digB b || b == 45 && digAt s (i + 1) then match numR s i with
        | none => some (.bad i)
        | some (n, j) => some (.ok [.mk 2 n [] []] j)
      else match nameR s i with
        | none => some (.bad i)
        | some (n, j) => if sgn s j 40 then match rd s f (.terms (j + 1) (d - 1) 41 41) with
            | none => none
            | some (.bad e) => some (.bad e)
            | some (.ok ts k) => some (.ok [.mk 3 0 n ts] (k + 1))
          else some (.ok [.mk 3 0 n []] j)) = some r → (?tail2 : Prop)) => ?main2) ?rest2
          case main2 =>
            by_cases h65 : (65 : Int) ≤ b.toNat
            · simp -implicitDefEqProofs [h65, go_sem, -List.set_cons_succ, -List.set_cons_zero]
              refine byte _ _ ?_
              by_cases h90 : (b.toNat : Int) ≤ 90
              · have hbg : bigB b = true := by simp [bigB]; omega
                rw [if_pos hbg] at hr
                cases hr
                have hsub : inR .u8 ((b.toNat : Int) - 65) := by simp [inR, IntKind.min, IntKind.max, IntKind.signed, IntKind.bits]; omega
                have hw : IntKind.i64.wrap ((b.toNat : Int) - 65) = ((b.toNat - 65 : Nat) : Int) := by rw [IntKind.wrap_i64]; omega
                simp -implicitDefEqProofs [h90, go_sem, -List.set_cons_succ, -List.set_cons_zero]
                refine byte _ _ ?_
                simp -implicitDefEqProofs [hsub, hw, hi1, go_sem, -List.set_cons_succ, -List.set_cons_zero]
                refine qcall_pure (var_calls ((b.toNat - 65 : Nat) : Int)) hf (by simp [A.re, re_d]) ?_
                simp -implicitDefEqProofs [hi1, readA, Rs.tm, row_len, take_row, pure_d, re_d, thaw_d, fits_map, hf, go_sem, -List.set_cons_succ, -List.set_cons_zero]
              · have hbg : ¬ bigB b = true := by simp [bigB]; omega
                rw [if_neg hbg] at hr
                simp -implicitDefEqProofs [h90, go_sem, -List.set_cons_succ, -List.set_cons_zero]
                exact key hr
            · have hbg : ¬ bigB b = true := by simp [bigB]; omega
              rw [if_neg hbg] at hr
              simp -implicitDefEqProofs [h65, go_sem, -List.set_cons_succ, -List.set_cons_zero]
              refine boff _ _ ?_
              simp -implicitDefEqProofs [go_sem, -List.set_cons_succ, -List.set_cons_zero]
              exact key hr
          case rest2 =>
            intro hr
            have hda : digAt s i = digB b := by simp [digAt, hb]
            have cdg := digit_calls s hs i (by omega)
            rw [hda] at cdg
            refine qcall_pure cdg hf rfl ?_
            refine (fun (key1 : (match numR s i with
        | none => some (.bad i)
        | some (n, j) => some (.ok [.mk 2 n [] []] j)) = some r → (?num : Prop)) (key2 : (match nameR s i with
        | none => some (.bad i)
        | some (n, j) => if sgn s j 40 then match rd s f (.terms (j + 1) (d - 1) 41 41) with
            | none => none
            | some (.bad e) => some (.bad e)
            | some (.ok ts k) => some (.ok [.mk 3 0 n ts] (k + 1))
          else some (.ok [.mk 3 0 n []] j)) = some r → (?name : Prop)) => ?main3) ?rest3 ?rest4
            case main3 =>
              cases hdb : digB b with
              | true =>
                rw [hdb] at hr
                simp only [Bool.true_or, if_true] at hr
                have hb2 : 48 ≤ b.toNat ∧ b.toNat ≤ 57 := by simpa [digB] using hdb
                have h45' : ((b.toNat : Int) == 45) = false := by simp; omega
                simp -implicitDefEqProofs [go_sem, -List.set_cons_succ, -List.set_cons_zero]
                refine boff _ _ ?_
                simp -implicitDefEqProofs [h45', hi1, go_sem, -List.set_cons_succ, -List.set_cons_zero]
                exact key1 hr
              | false =>
                rw [hdb] at hr
                simp only [Bool.false_or] at hr
                simp -implicitDefEqProofs [go_sem, -List.set_cons_succ, -List.set_cons_zero]
                refine byte _ _ ?_
                by_cases h45 : b = 45
                · have h45' : (b.toNat : Int) = 45 := by rw [h45]; rfl
                  have cd2 := digit_calls s hs (i + 1) (by omega)
                  simp only [Int.natCast_add, Int.cast_ofNat_Int] at cd2
                  simp -implicitDefEqProofs [h45', hi1, go_sem, -List.set_cons_succ, -List.set_cons_zero]
                  refine qcall_pure cd2 hf rfl ?_
                  cases hd2 : digAt s (i + 1) with
                  | true =>
                    rw [if_pos (by rw [hd2, h45]; rfl)] at hr
                    simp -implicitDefEqProofs [go_sem, -List.set_cons_succ, -List.set_cons_zero]
                    exact key1 hr
                  | false =>
                    rw [if_neg (by rw [hd2]; simp)] at hr
                    simp -implicitDefEqProofs [go_sem, -List.set_cons_succ, -List.set_cons_zero]
                    exact key2 hr
                · have h45' : ((b.toNat : Int) == 45) = false := by
                    simp
                    exact fun h => h45 (UInt8.toNat_inj.1 (by have : (45 : UInt8).toNat = 45 := rfl; omega))
                  rw [if_neg (by simp [h45])] at hr
                  simp -implicitDefEqProofs [h45', hi1, go_sem, -List.set_cons_succ, -List.set_cons_zero]
                  exact key2 hr
            case rest3 =>
              intro hr
              have cn := number_calls s hs i hi
              cases hn : numR s i with
              | none =>
                rw [hn] at hr cn
                cases hr
                refine qcall_pure cn hf (by simp [numA, A.re, A.res, C.re, re_d]) ?_
                simp -implicitDefEqProofs [numA, row_mk, hf, go_sem, -List.set_cons_succ, -List.set_cons_zero]
                refine bad _ _ hf ?_
                simp -implicitDefEqProofs [readA, row_mk, hf, go_sem, -List.set_cons_succ, -List.set_cons_zero]
              | some q =>
                obtain ⟨x, j⟩ := q
                rw [hn] at hr cn
                cases hr
                have hj0 : ¬ (j : Int) < 0 := by omega
                refine qcall_pure cn hf (by simp [numA, A.re, A.res, C.re, re_d]) ?_
                simp -implicitDefEqProofs [numA, hj0, row_mk, hf, go_sem, -List.set_cons_succ, -List.set_cons_zero]
                simp -implicitDefEqProofs [readA, Rs.tm, row_mk, hf, go_sem, -List.set_cons_succ, -List.set_cons_zero]
            case rest4 =>
              intro hr
              have cn := name_calls s hs i hi
              cases hn : nameR s i with
              | none =>
                rw [hn] at hr cn
                cases hr
                refine qcall_pure cn hf (by simp [nameA, A.re, A.res, C.re]) ?_
                simp -implicitDefEqProofs [nameA, hf, go_sem, -List.set_cons_succ, -List.set_cons_zero]
                refine bad _ _ hf ?_
                simp -implicitDefEqProofs [readA, row_mk, hf, go_sem, -List.set_cons_succ, -List.set_cons_zero]
              | some q =>
                obtain ⟨w, j⟩ := q
                rw [hn] at hr cn
                have ho := nameR_ok hi hn
                have hj0 : ¬ (j : Int) < 0 := by omega
                have hj1 : inR .i64 ((j : Int) + 1) := small_i64 (by omega) (by omega)
                refine qcall_pure cn hf (by simp [nameA, A.re, A.res, C.re]) ?_
                simp -implicitDefEqProofs [nameA, hj0, hf, go_sem, -List.set_cons_succ, -List.set_cons_zero]
                refine qcall_pure (sign_calls s hs j (by omega) 40) hf rfl ?_
                simp only at hr
                cases hsg : sgn s j 40 with
                | false =>
                  rw [hsg] at hr
                  simp only [Bool.false_eq_true, if_false, Option.some.injEq] at hr
                  subst hr
                  have hst := struct_calls w [] (by simp)
                  simp only [List.map_nil] at hst
                  simp -implicitDefEqProofs [hf, go_sem, -List.set_cons_succ, -List.set_cons_zero]
                  refine qcall_pure hst hf (by simp [A.re, re_d]) ?_
                  simp -implicitDefEqProofs [readA, Rs.tm, row_mk, hf, go_sem, -List.set_cons_succ, -List.set_cons_zero]
                | true =>
                  rw [hsg] at hr
                  simp only [if_true] at hr
                  have hjl := sgn_lt hsg
                  simp -implicitDefEqProofs [hj1, hdd, hf, go_sem, -List.set_cons_succ, -List.set_cons_zero]
                  cases hx : rd s f (.terms (j + 1) (d - 1) 41 41) with
                  | none => rw [hx] at hr; cases hr
                  | some v =>
                    rw [hx] at hr
                    have c1 := h.terms (j + 1) (d - 1) 41 41 v (by omega) (by omega) hx
                    have p1 := rd_post hs (j := .terms (j + 1) (d - 1) 41 41) (by show j + 1 ≤ s.length; omega) hx
                    rw [← hdn] at c1
                    simp only [Int.natCast_add, Int.cast_ofNat_Int] at c1
                    refine qcall_pure c1 hf (termsA_re _ _) ?_
                    cases v with
                    | bad e =>
                      cases hr
                      have hneg : (-1 - (e : Int)) < 0 := by omega
                      simp -implicitDefEqProofs [termsA, readA, hneg, row_mk, hf, go_sem, -List.set_cons_succ, -List.set_cons_zero]
                    | ok ts k =>
                      cases hr
                      obtain ⟨g1, g2, g3, g4, g5⟩ := p1
                      have hk0 : ¬ (k : Int) < 0 := by omega
                      have hk1 : inR .i64 ((k : Int) + 1) := small_i64 (by omega) (by omega)
                      simp -implicitDefEqProofs [termsA, readA, Rs.tm, hk0, hk1, row_mk, hf, go_sem, -List.set_cons_succ, -List.set_cons_zero]
end
end Go.Proofs.YtbblefjbgbocoaaGreatDoor

/-
  The reference's parser does what it is said to do: the whole.
  Conditions: none.
-/
open Go Go.AM Go.Proofs
namespace Go.Proofs.YtbblefjbgbocoaaGreatDoor
open Go.ChangeShapes Go.WideShapes Go.ChangeAt Go.RowKit
set_option linter.unusedVariables false
set_option linter.unusedSimpArgs false
set_option maxRecDepth 100000
def Rs.app (out : List Tm) : Rs → Rs
  | .ok us k => .ok (out ++ us) k
  | .bad e => .bad e
theorem opR_lv {s : List UInt8} {i j : Nat} {n : List UInt8} (h : opR s i = some (n, j)) : ¬ levelN n = 0 := by
  unfold opR at h
  generalize (if sgn s i 32 then i + 1 else i) = p at h
  split at h
  · cases h
  · cases hn : nameR s p with
    | none => rw [hn] at h; cases h
    | some q =>
      obtain ⟨m, k⟩ := q
      rw [hn] at h
      simp only at h
      split at h
      · cases h
      · rename_i hl
        split at h
        · cases h
        · simp only [Option.some.injEq, Prod.mk.injEq] at h
          rw [← h.1]; exact hl
section
variable {s : List UInt8} (hs : s.length ≤ 1000000) {f : Nat} (h : ∀ g, g ≤ f → Par s g)
include hs h
theorem terms_step (i d : Nat) (e o : UInt8) (r : Rs) (hi : i ≤ s.length) (hd : d ≤ 1000) (hr : rd s (f + 1) (.terms i d e o) = some r) (H : Heap) :
    ACalls Tryz.prog 203 [.c (.d (.str s)), .c (.d (.int .i64 i)), .c (.d (.int .i64 d)), .c (.d (.int .u8 e.toNat)), .c (.d (.int .u8 o.toNat))] H (fun r' H' => H' = H ∧ r' = termsA r) := by
  refine acalls Tryz.func203 (by kernel_rfl) ac203_ok fun hf => ?_
  simp -implicitDefEqProofs [ac203, go_sem, -List.set_cons_succ, -List.set_cons_zero]
  refine loop_enter (St.le_token 12 4 rfl) ?_
  refine loop_set (σ := Nat × List Tm × Nat × Rs) (fun x => [(1, .c (.d (.int .i64 x.1))), (12, .c (.own (.l 0) x.2.1.length (x.2.1.map Tm.row)))]) (fun _ => H) (fun x => [.grow x.2.1.length 4])
    (fun x => x.1 ≤ s.length ∧ x.2.1.length ≤ x.1 ∧ x.2.2.1 ≤ f + 1 ∧ rd s x.2.2.1 (.terms x.1 d e o) = some x.2.2.2 ∧ x.2.2.2.app x.2.1 = r) (fun x => x.2.2.1) (i, [], f + 1, r) (by simp [setAll]) ⟨hi, by simp, Nat.le_refl _, hr, by cases r <;> rfl⟩ ?_
  rintro ⟨p, out, g, q⟩ ⟨hp, hol, hg, hq, happ⟩
  simp only at hp hol hg hq happ
  cases g with
  | zero => cases hq
  | succ g =>
    have hq : step s (rd s g) (.terms p d e o) = some q := hq
    simp only [step] at hq
    have hpar := h g (by omega)
    simp -implicitDefEqProofs [setAll, hf, go_sem, -List.set_cons_succ, -List.set_cons_zero]
    cases hx : rd s g (.read p d 3) with
    | none => rw [hx] at hq; cases hq
    | some v =>
      rw [hx] at hq
      have c1 := hpar.read p d 3 v hp hd (by omega) hx
      have p1 := rd_post hs (j := .read p d 3) ⟨hp, by omega⟩ hx
      refine qcall_pure c1 hf (readA_re _ _) ?_
      cases v with
      | bad x =>
        cases hq
        have hx2 : x ≤ s.length := p1
        have hneg : (-1 - (x : Int)) < 0 := by omega
        subst happ
        simp -implicitDefEqProofs [readA, termsA, Rs.app, hneg, row_mk, hf, go_sem, -List.set_cons_succ, -List.set_cons_zero]
      | ok ts j =>
        obtain ⟨g1, g2, t, rfl, g3⟩ := p1
        simp only at hq
        have hj0 : ¬ (j : Int) < 0 := by omega
        have hj1 : inR .i64 ((j : Int) + 1) := small_i64 (by omega) (by omega)
        have hjm : inR .i64 (-1 - (j : Int)) := small_i64 (by omega) (by omega)
        simp -implicitDefEqProofs [readA, Rs.tm, hj0, row_len, take_row, pure_d, re_d, toDs_map, hf, go_sem, -List.set_cons_succ, -List.set_cons_zero]
        refine ⟨allLen_map row_len, by unfold maxApp; omega, ?_⟩
        refine qcall_pure (sign_calls s hs j (by omega) e) hf rfl ?_
        refine (fun (key1 : some (Rs.ok [t] j) = some q → (?done : Prop)) (key2 : (if sgn s j 44 then match rd s g (.terms (j + 1) d e o) with
        | none => none
        | some (.bad x) => some (.bad x)
        | some (.ok us k) => some (.ok (t :: us) k)
      else some (.bad j)) = some q → (?more : Prop)) => ?main) ?rest1 ?rest2
        case main =>
          cases he : sgn s j e with
          | true =>
            rw [he] at hq
            simp only [Bool.true_or, if_true] at hq
            simp -implicitDefEqProofs [hf, go_sem, -List.set_cons_succ, -List.set_cons_zero]
            exact key1 hq
          | false =>
            rw [he] at hq
            simp only [Bool.false_or] at hq
            simp -implicitDefEqProofs [hf, go_sem, -List.set_cons_succ, -List.set_cons_zero]
            refine qcall_pure (sign_calls s hs j (by omega) o) hf rfl ?_
            cases ho : sgn s j o with
            | true =>
              rw [ho] at hq
              simp only [if_true] at hq
              simp -implicitDefEqProofs [hf, go_sem, -List.set_cons_succ, -List.set_cons_zero]
              exact key1 hq
            | false =>
              rw [ho] at hq
              simp only [Bool.false_eq_true, if_false] at hq
              simp -implicitDefEqProofs [hf, go_sem, -List.set_cons_succ, -List.set_cons_zero]
              exact key2 hq
        case rest1 =>
          intro hq
          cases hq
          subst happ
          simp [termsA, Rs.app]
        case rest2 =>
          intro hq
          refine qcall_pure (sign_calls s hs j (by omega) 44) hf rfl ?_
          cases hsg : sgn s j 44 with
          | false =>
            rw [hsg] at hq
            simp only [Bool.false_eq_true, if_false] at hq
            cases hq
            subst happ
            simp -implicitDefEqProofs [hjm, termsA, Rs.app, hf, go_sem, -List.set_cons_succ, -List.set_cons_zero]
          | true =>
            rw [hsg] at hq
            simp only [if_true] at hq
            have hjl := sgn_lt hsg
            simp -implicitDefEqProofs [hj1, hf, go_sem, -List.set_cons_succ, -List.set_cons_zero]
            have hq2 : ∃ w, rd s g (.terms (j + 1) d e o) = some w ∧ w.app (out ++ [t]) = r := by
              cases hy : rd s g (.terms (j + 1) d e o) with
              | none => rw [hy] at hq; cases hq
              | some w =>
                rw [hy] at hq
                refine ⟨w, rfl, ?_⟩
                cases w with
                | bad x => cases hq; exact happ
                | ok us k => cases hq; rw [← happ]; simp [Rs.app]
            obtain ⟨w, hw, hwa⟩ := hq2
            refine loop_less (j + 1, out ++ [t], g, w) (St.le_cut [_] ?_ (by simp [Sl.le, A.le_refl_iff, A.le_u_iff, As.lo, A.lo, C.lo, Ref.lo, Cs.lo, Obs.lo, Ob.lo, setAll, and_true, true_and, List.length_nil, List.length_cons]) (by simp; rfl) (by simp [Sl.le, A.le_refl_iff, A.le_u_iff, As.lo, A.lo, C.lo, Ref.lo, Cs.lo, Obs.lo, Ob.lo, setAll, and_true, true_and, List.length_nil, List.length_cons])) ⟨by dsimp only; omega, by simp; omega, by dsimp only; omega, hw, hwa⟩ (by show g < g + 1; omega)
            simp [setAll, Sl.le, A.le_refl_iff, A.le_u_iff, As.lo, A.lo, C.lo, Ref.lo, Cs.lo, Obs.lo, Ob.lo, setAll, and_true, true_and, List.length_nil, List.length_cons]
theorem read_step (i d l : Nat) (r : Rs) (hi : i ≤ s.length) (hd : d ≤ 1000) (hl : l ≤ 3) (hr : rd s (f + 1) (.read i d l) = some r) (H : Heap) :
    ACalls Tryz.prog 108 [.c (.d (.str s)), .c (.d (.int .i64 i)), .c (.d (.int .i64 d)), .c (.d (.int .i64 l))] H (fun r' H' => H' = H ∧ r' = readA r) := by
  refine acalls Tryz.func108 (by kernel_rfl) ac108_ok fun hf => ?_
  have hpar := h f (Nat.le_refl _)
  have hr : step s (rd s f) (.read i d l) = some r := hr
  cases l with
  | zero =>
    have c1 := hpar.prime i d r hi hd hr
    simp -implicitDefEqProofs [ac108, go_sem, -List.set_cons_succ, -List.set_cons_zero]
    refine qcall_pure c1 hf (readA_re _ _) ?_
    cases r with
    | bad e => simp -implicitDefEqProofs [readA, row_mk, hf, go_sem, -List.set_cons_succ, -List.set_cons_zero]
    | ok ts j => simp -implicitDefEqProofs [readA, row_len, take_row, pure_d, re_d, thaw_d, fits_map, hf, go_sem, -List.set_cons_succ, -List.set_cons_zero]
  | succ l =>
    simp only [step] at hr
    have hl1 : ¬ ((l : Int) + 1 = 0) := by omega
    have hl2 : ((l : Int) + 1 == 0) = false := by simp; omega
    have hl3 : inR .i64 ((l : Int) + 1 - 1) := small_i64 (by omega) (by omega)
    have hl4 : (l : Int) + 1 - 1 = l := by omega
    cases hx : rd s f (.read i d l) with
    | none => rw [hx] at hr; cases hr
    | some v =>
      rw [hx] at hr
      have c1 := hpar.read i d l v hi hd (by omega) hx
      have p1 := rd_post hs (j := .read i d l) ⟨hi, by omega⟩ hx
      have hli : inR .i64 (l : Int) := small_i64 (by omega) (by omega)
      simp -implicitDefEqProofs [ac108, hl1, hl2, hl3, hl4, hli, go_sem, -List.set_cons_succ, -List.set_cons_zero]
      refine qcall_pure c1 hf (readA_re _ _) ?_
      cases v with
      | bad e =>
        cases hr
        have he : e ≤ s.length := p1
        have hneg : ¬ (0 : Int) ≤ -1 - (e : Int) := by omega
        simp -implicitDefEqProofs [readA, row_mk, hf, go_sem, -List.set_cons_succ, -List.set_cons_zero]
        refine loop_set (σ := Unit) (fun _ => []) (fun _ => H) (fun _ => [.cells [.d (.int .i64 0), .d (.int .i64 0), .d (.str []), .full []], .cells [.d (.int .i64 0), .d (.int .i64 0), .d (.str []), .d (.sl [])]]) (fun _ => True) (fun _ => 0) () rfl trivial ?_
        intro _ _
        simp -implicitDefEqProofs [setAll, hneg, row_mk, hf, go_sem, -List.set_cons_succ, -List.set_cons_zero]
        intro he2
        omega
      | ok ts j =>
        obtain ⟨g1, g2, t0, rfl, g3⟩ := p1
        simp only at hr
        simp -implicitDefEqProofs [readA, Rs.tm, row_len, take_row, pure_d, re_d, hf, go_sem, -List.set_cons_succ, -List.set_cons_zero]
        refine loop_set (σ := Nat × Tm × Nat) (fun x => [(11, .c (.d (.int .i64 x.1)))]) (fun _ => H) (fun x => [.cells [.d (.int .i64 0), .d (.int .i64 0), .d (.str []), .full []], .cells (x.2.1.row.map .d)])
          (fun x => x.1 ≤ s.length ∧ x.2.1.fits ∧ x.2.2 ≤ f ∧ rd s x.2.2 (.ops x.2.1 x.1 d (l + 1)) = some r) (fun x => x.2.2) (j, t0, f) (by simp [setAll]) ⟨g2, g3, Nat.le_refl _, hr⟩ ?_
        rintro ⟨p, t, g⟩ ⟨hp, htf, hg, hq⟩
        simp only at hp htf hg hq
        cases g with
        | zero => cases hq
        | succ g =>
          have hq : step s (rd s g) (.ops t p d (l + 1)) = some r := hq
          simp only [step] at hq
          have hp0 : (0 : Int) ≤ (p : Int) := by omega
          have co := op_calls s hs p hp
          simp -implicitDefEqProofs [setAll, hp0, hf, go_sem, -List.set_cons_succ, -List.set_cons_zero]
          cases ho : opR s p with
          | none =>
            rw [ho] at hq co
            cases hq
            refine qcall_pure co hf (by simp [opA, A.re, A.res, C.re]) ?_
            simp -implicitDefEqProofs [opA, readA, Rs.tm, row_len, take_row, pure_d, re_d, thaw_d, fits_map, hf, go_sem, -List.set_cons_succ, -List.set_cons_zero]
          | some q =>
            obtain ⟨n, k⟩ := q
            rw [ho] at hq co
            have hlv := opR_lv ho
            have hok := opR_ok hp ho
            have hne : n ≠ [] := fun e => hlv (by rw [e]; rfl)
            have hne2 : (n == []) = false := by simp [hne]
            simp only at hq
            refine qcall_pure co hf (by simp [opA, A.re, A.res, C.re]) ?_
            simp -implicitDefEqProofs [opA, hne, hne2, hf, go_sem, -List.set_cons_succ, -List.set_cons_zero]
            refine qcall_pure (level_calls n) hf rfl ?_
            by_cases hll : levelN n = (l + 1 : Nat)
            · rw [if_pos hll] at hq
              have hll1 : levelN n = (l : Int) + 1 := by rw [hll]; simp
              simp only [Nat.add_sub_cancel] at hq
              simp -implicitDefEqProofs [hll1, hl3, hl4, hli, hf, go_sem, -List.set_cons_succ, -List.set_cons_zero]
              cases hy : rd s g (.read k d l) with
              | none => rw [hy] at hq; cases hq
              | some w =>
                rw [hy] at hq
                have hpg := h g (by omega)
                have c2 := hpg.read k d l w hok.2.1 hd (by omega) hy
                have p2 := rd_post hs (j := .read k d l) ⟨hok.2.1, by omega⟩ hy
                refine qcall_pure c2 hf (readA_re _ _) ?_
                cases w with
                | bad e =>
                  cases hq
                  have he : e ≤ s.length := p2
                  have hneg : (-1 - (e : Int)) < 0 := by omega
                  simp -implicitDefEqProofs [readA, hneg, row_mk, hf, go_sem, -List.set_cons_succ, -List.set_cons_zero]
                | ok us m =>
                  obtain ⟨q1, q2, u, rfl, q3⟩ := p2
                  simp only at hq
                  have hm0 : ¬ (m : Int) < 0 := by omega
                  have hst := struct_calls n [t, u] (by simp)
                  simp only [List.map_cons, List.map_nil] at hst
                  simp -implicitDefEqProofs [readA, Rs.tm, hm0, row_len, take_row, pure_d, re_d, toDs_map, hf, go_sem, -List.set_cons_succ, -List.set_cons_zero]
                  refine qcall_pure hst hf (by simp [A.re, re_d]) ?_
                  simp -implicitDefEqProofs [row_len, take_row, pure_d, re_d, hf, go_sem, -List.set_cons_succ, -List.set_cons_zero]
                  by_cases h3 : l + 1 = 3
                  · have h3' : (l : Int) + 1 = 3 := by omega
                    rw [if_pos h3] at hq
                    cases hq
                    simp -implicitDefEqProofs [h3', readA, Rs.tm, row_len, take_row, pure_d, re_d, thaw_d, fits_map, hf, go_sem, -List.set_cons_succ, -List.set_cons_zero]
                  · have h3' : ¬ (l : Int) + 1 = 3 := by omega
                    have h3'' : ((l : Int) + 1 == 3) = false := by simp; omega
                    rw [if_neg h3] at hq
                    simp -implicitDefEqProofs [h3', h3'', row_len, take_row, pure_d, re_d, hf, go_sem, -List.set_cons_succ, -List.set_cons_zero]
                    refine loop_less (m, .mk 3 0 n [t, u], g) (St.le_cut [_] ?_ (by simp [Sl.le, A.le_refl_iff, A.le_u_iff, As.lo, A.lo, C.lo, Ref.lo, Cs.lo, Obs.lo, Ob.lo, setAll, and_true, true_and, List.length_nil, List.length_cons]) (by simp [row_len]; rfl) (by simp [row_mk, Sl.le, A.le_refl_iff, A.le_u_iff, As.lo, A.lo, C.lo, Ref.lo, Cs.lo, Obs.lo, Ob.lo, setAll, and_true, true_and, List.length_nil, List.length_cons])) ⟨q2, fits_st hok.2.2 (by simp) (by simp [htf, q3]), by dsimp only; omega, hq⟩ (by show g < g + 1; omega)
                    simp [setAll, Sl.le, A.le_refl_iff, A.le_u_iff, As.lo, A.lo, C.lo, Ref.lo, Cs.lo, Obs.lo, Ob.lo, setAll, and_true, true_and, List.length_nil, List.length_cons]
            · rw [if_neg hll] at hq
              cases hq
              have hll1 : ¬ levelN n = (l : Int) + 1 := fun e => hll (by rw [e]; simp)
              have hll2 : (levelN n != (l : Int) + 1) = true := by simpa using hll1
              simp -implicitDefEqProofs [hll1, hll2, readA, Rs.tm, row_len, take_row, pure_d, re_d, thaw_d, fits_map, hf, go_sem, -List.set_cons_succ, -List.set_cons_zero]
end
/-- the parser does what it is said to do -/
theorem par (s : List UInt8) (hs : s.length ≤ 1000000) : ∀ f, Par s f := by
  intro f
  induction f using Nat.strongRecOn with
  | ind f ih =>
    cases f with
    | zero => exact ⟨fun _ _ _ _ _ _ _ h => (by cases h), fun _ _ _ _ _ h => (by cases h), fun _ _ _ _ _ _ _ h => (by cases h)⟩
    | succ f =>
      have h : ∀ g, g ≤ f → Par s g := fun g hg => ih g (by omega)
      exact ⟨fun i d l r hi hd hl hr H => read_step hs h i d l r hi hd hl hr H, fun i d r hi hd hr H => prime_step hs (h f (Nat.le_refl _)) i d hi hd r hr H, fun i d e o r hi hd hr H => terms_step hs h i d e o r hi hd hr H⟩
end Go.Proofs.YtbblefjbgbocoaaGreatDoor

/-
  ReadTerm, the program's and the reference's: both read the same.
  Conditions: none.
-/
open Go Go.AM Go.Proofs
namespace Go.Proofs.YtbblefjbgbocoaaGreatDoor
open Go.ChangeShapes Go.WideShapes Go.ChangeAt Go.RowKit
set_option linter.unusedVariables false
set_option linter.unusedSimpArgs false
set_option maxRecDepth 100000
end Go.Proofs.YtbblefjbgbocoaaGreatDoor

/-
  What the calls of the library read, as the rows list it.
  Conditions: none.
-/
open Go Go.AM Go.Proofs
namespace Go.Proofs.YtbblefjbgbocoaaGreatDoor
open Go.Lib Go.RowKit
set_option linter.unusedVariables false
set_option linter.unusedSimpArgs false
set_option maxRecDepth 100000
theorem lib_laid {W : World} (h : laidMetH Tryz.prog laid W) : ∃ ts : List (Nat × Obj), (ts.map Prod.fst).Nodup ∧ (∀ x ∈ ts, W.heap[x.1]? = some x.2) ∧ Lib2 ts := by
  rw [MakeChecks.laidMetH_plain _ _ _ (by kernel_rfl)] at h
  obtain ⟨ps, ⟨_, _, _, _, _, _, _, _, _, _, ⟨_, _, _, _, _, _, _, _, _, _, ⟨g2, t2, cs2, f2, p2, q2, hg2, ht2, hv2, hd2, ⟨g3, t3, cs3, f3, p3, q3, hg3, ht3, hv3, hd3, _, _⟩, _⟩, _⟩, _⟩, _, _⟩ := h
  have n2 : Tryz.prog.globalNamed (laid[2]).1 = some 2 := by kernel_rfl
  have n3 : Tryz.prog.globalNamed (laid[3]).1 = some 1 := by kernel_rfl
  have e1 : g2 = 2 := (Option.some.inj (n2.symm.trans hg2)).symm
  subst e1
  have e2 : t2 = 218 := by
    have ht : (Tryz.prog.globals[2]?).map (·.type) = some 218 := by kernel_rfl
    exact (Option.some.inj (ht.symm.trans ht2)).symm
  subst e2
  have e3 := cells_of_tab (k := .u64) (zs := Lib.pow10Tab) Tryz.underlying218 Tryz.underlying194 (by kernel_rfl) (by kernel_rfl) hd2
  have e4 : cs2 = (Lib.pow10Tab.map fun z => Value.int .u64 z).toArray := by
    rw [← e3]
  have e5 : g3 = 1 := (Option.some.inj (n3.symm.trans hg3)).symm
  subst e5
  have e6 : t3 = 78 := by
    have ht : (Tryz.prog.globals[1]?).map (·.type) = some 78 := by kernel_rfl
    exact (Option.some.inj (ht.symm.trans ht3)).symm
  subst e6
  obtain ⟨_, u, v, e7, _, _⟩ := iface_of_trod Tryz.underlying78 hd3
  have e8 : cs3 = #[.iface u v] := by rw [← Array.toArray_toList (xs := cs3), e7]
  obtain ⟨o, h1, h2⟩ := tab_of_at n2 (show Lib.TabIs Tryz.prog W (laid[2]).1 .u64 Lib.pow10Tab from hv2.trans (congrArg some e4))
  obtain ⟨o2, h3, h4⟩ := one_of_at n3 (hv3.trans (congrArg some e8))
  refine ⟨[(2, o), (1, o2)], (show ([2, 1] : List Nat).Nodup by decide), fun x hx => ?_, o, o2, rfl, fun w hw n h5 h6 => Any.strconv_Itoa Tryz.laysM171 n h5 h6 w (h2 w hw), fun w hw => ⟨u, v, h4 w hw⟩⟩
  rcases List.mem_cons.1 hx with rfl | hx
  · exact h1
  · rw [List.mem_singleton.1 hx]; exact h3
end Go.Proofs.YtbblefjbgbocoaaGreatDoor

/-
  Lists of goals, for the program.
  Conditions: none.
-/
open Go Go.AM Go.Proofs
namespace Go.Proofs.YtbblefjbgbocoaaGreatDoor
open Go.ChangeShapes Go.WideShapes Go.ChangeAt Go.RowKit
set_option linter.unusedVariables false
set_option linter.unusedSimpArgs false
set_option maxRecDepth 100000
-- 116 loop.example/prologserver/impl.goalsValid$1 params 1 ntmps 6
def ac116 : Cd := .seq (.region [⟨(some 1),.box (.t 0),none⟩,
 ⟨(some 2),.mv (.k (.c (.d (.bool false)))),none⟩] [0,2])
 (.seq (.region [⟨(some 3),.load (some 4) (.t 1),none⟩,
 ⟨(some 4),.qcall 117 [(.t 3)],none⟩,
 ⟨(some 5),.un .not (.t 4),none⟩,
 ⟨(some 2),.mv (.t 5),none⟩] [1,3,4,5])
 (.ret))
theorem ac116_ok : cFunc Tryz.prog [1000117] [(0,[0,2],[]),(1,[1,3,4,5],[])] Tryz.f116 = some (ac116,[.tmp 2],6) := by kernel_rfl
-- 68 loop.example/prologserver/impl.goalsValid params 1 ntmps 11
def ac68 : Cd := .seq (.region [⟨(some 2),.mv (.k (.c (.d (.bool false)))),none⟩] [2])
 (.seq (.region [⟨(some 3),.mv (.t 0),none⟩,
 ⟨(some 4),.len 1 (.t 3),none⟩,
 ⟨(some 5),.bin .leq (.t 4) (.k (.c (.d (.int .i64 6)))),none⟩,
 ⟨(some 6),.mv (.t 5),none⟩,
 ⟨(some 7),.mv (.t 0),some (6,true)⟩,
 ⟨(some 8),.qcall 115 [(.t 7),(.k (.c (.fn 116 [])))],some (6,true)⟩,
 ⟨(some 9),.un .not (.t 8),some (6,true)⟩,
 ⟨(some 10),.pick (.t 6) (.t 9) (.k (.c (.d (.bool false)))),none⟩,
 ⟨(some 2),.mv (.t 10),none⟩] [0,3,4,5,6,7,8,9,10])
 (.ret))
theorem ac68_ok : cFunc Tryz.prog [1000115] [(0,[2],[]),(1,[0,3,4,5,6,7,8,9,10],[])] Tryz.f68 = some (ac68,[.tmp 2],11) := by kernel_rfl
/-- as many goals as a body may have -/
def goalsB (l : List Tm) : Bool := decide (l.length ≤ 6) && l.all Tm.goal
theorem any_not (l : List Tm) : (l.any fun t => !t.goal) = !l.all Tm.goal := by
  induction l with
  | nil => rfl
  | cons t l ih => simp only [List.any_cons, List.all_cons, ih, Bool.not_and]
theorem notGoal_calls (t : Tm) (ht : t.fits) (H : Heap) : ACalls Tryz.prog 116 [.agg (t.row.map .d)] H (fun r H' => H' = H ∧ r = .c (.d (.bool (!t.goal)))) := by
  refine acalls Tryz.func116 (by kernel_rfl) ac116_ok fun hf => ?_
  simp -implicitDefEqProofs [ac116, row_len, take_row, pure_d, re_d, go_sem, -List.set_cons_succ, -List.set_cons_zero]
  refine qcall_pure (goalImpl_calls t ht) hf rfl ?_
  simp -implicitDefEqProofs [go_sem, -List.set_cons_succ, -List.set_cons_zero]
theorem goalsImpl_calls (l : List Tm) (hl : l.length ≤ 1048576) (h : ∀ t ∈ l, t.fits) (H : Heap) : ACalls Tryz.prog 68 [.c (.d (.sl (l.map Tm.row)))] H (fun r H' => H' = H ∧ r = .c (.d (.bool (goalsB l)))) := by
  refine acalls Tryz.func68 (by kernel_rfl) ac68_ok fun hf => ?_
  have hli : inR .i64 (l.length : Int) := small_i64 (by omega) (by omega)
  by_cases h6 : l.length ≤ 6
  · have h6' : (l.length : Int) ≤ 6 := by omega
    simp -implicitDefEqProofs [ac68, hli, h6', go_sem, -List.set_cons_succ, -List.set_cons_zero]
    refine qcall_pure (tmF_any 116 (fun t => !t.goal) l hl fun t ht => notGoal_calls t (h t ht)) hf rfl ?_
    rw [any_not]
    simp -implicitDefEqProofs [h6, goalsB, go_sem, -List.set_cons_succ, -List.set_cons_zero]
  · have h6' : ¬ (l.length : Int) ≤ 6 := by omega
    simp -implicitDefEqProofs [ac68, hli, h6', h6, goalsB, go_sem, -List.set_cons_succ, -List.set_cons_zero]
theorem goal_take {l : List Tm} {i : Nat} (h : i < l.length) (ha : ∀ t ∈ l.take i, t.goal = true) (hb : l[i].goal = true) : ∀ t ∈ l.take (i + 1), t.goal = true := by
  intro t h'
  rw [List.take_succ_eq_append_getElem h, List.mem_append] at h'
  rcases h' with h' | h'
  · exact ha t h'
  · simp at h'; subst h'; exact hb
end Go.Proofs.YtbblefjbgbocoaaGreatDoor

/-
  Terms that are handed to a law.
  Conditions: none.
-/
open Go Go.AM Go.Proofs
namespace Go.Proofs.YtbblefjbgbocoaaGreatDoor
open Go.ChangeShapes Go.WideShapes Go.ChangeAt Go.RowKit
set_option linter.unusedVariables false
set_option linter.unusedSimpArgs false
set_option maxRecDepth 100000
end Go.Proofs.YtbblefjbgbocoaaGreatDoor

/-
  Clauses as data: what the laws' sizes, copies and comparisons of clauses answer, and ClauseSame.
  Conditions: none.
-/
open Go Go.AM Go.Proofs
namespace Go.Proofs.YtbblefjbgbocoaaGreatDoor
open Go.ChangeShapes Go.WideShapes Go.ChangeAt Go.RowKit
set_option linter.unusedVariables false
set_option linter.unusedSimpArgs false
set_option maxRecDepth 100000
/-- a clause -/
structure Cl where
  head : Tm
  body : List Tm
noncomputable instance : DecidableEq Cl := fun a b => Classical.propDecidable (a = b)
def Cl.row (c : Cl) : List D := [.int .i64 c.head.k, .int .i64 c.head.n, .str c.head.s, .sl (c.head.kids.map Tm.row), .sl (c.body.map Tm.row)]
structure Cl.fits (c : Cl) : Prop where
  head : c.head.fits
  len : c.body.length ≤ 1048576
  body : ∀ t ∈ c.body, t.fits
end Go.Proofs.YtbblefjbgbocoaaGreatDoor

/-
  Valid clauses and programs.
  Conditions: none.
-/
open Go Go.AM Go.Proofs
namespace Go.Proofs.YtbblefjbgbocoaaGreatDoor
open Go.ChangeShapes Go.WideShapes Go.ChangeAt Go.RowKit
set_option linter.unusedVariables false
set_option linter.unusedSimpArgs false
set_option maxRecDepth 100000
-- 131 loop.example/prologserver/impl.ClauseValid params 1 ntmps 16
end Go.Proofs.YtbblefjbgbocoaaGreatDoor

/-
  Clauses and programs as they are read, in plain Lean.
  Conditions: none.
-/
open Go Go.AM Go.Proofs
namespace Go.Proofs.YtbblefjbgbocoaaGreatDoor
set_option linter.unusedVariables false
set_option linter.unusedSimpArgs false
set_option maxRecDepth 100000
/-- goals, separated by commas -/
def goalsR (s : List UInt8) : Nat → Nat → Option (List Tm × Nat)
  | 0, _ => none
  | n + 1, i => match rdF s (.read i 30 3) with
    | some (.ok ts j) => if sgn s j 44 then match goalsR s n (j + 1) with
        | some (us, k) => some (Rs.tm ts :: us, k)
        | none => none
      else some ([Rs.tm ts], j)
    | _ => none
end Go.Proofs.YtbblefjbgbocoaaGreatDoor

/-
  Goals, read without a bound on their number: the plain law.
  Conditions: none.
-/
open Go Go.AM Go.Proofs
namespace Go.Proofs.YtbblefjbgbocoaaGreatDoor
set_option linter.unusedVariables false
set_option linter.unusedSimpArgs false
set_option maxRecDepth 100000
/-- goals behind goals that were read -/
def appGs (ts : List Tm) : Option (List Tm × Nat) → Option (List Tm × Nat)
  | some (us, k) => some (ts ++ us, k)
  | none => none
/-- so many goals are read, and the next stands there -/
def Gst (s : List UInt8) (ts : List Tm) (a : Nat) : Prop := (∀ n, goalsR s (ts.length + n) 0 = appGs ts (goalsR s n a)) ∧ ∀ n, n ≤ ts.length → goalsR s n 0 = none
theorem Gst.start (s : List UInt8) : Gst s [] 0 := by
  refine ⟨fun n => ?_, fun n hn => ?_⟩
  · rw [List.length_nil, Nat.zero_add]
    cases goalsR s n 0 with
    | none => rfl
    | some q => obtain ⟨us, k⟩ := q; rfl
  · obtain rfl : n = 0 := by simpa using hn
    rfl
theorem Gst.next {s : List UInt8} {ts : List Tm} {a j : Nat} {us : List Tm} (h : Gst s ts a) (hr : rdF s (.read a 30 3) = some (.ok us j)) (hg : sgn s j 44 = true) : Gst s (ts ++ [Rs.tm us]) (j + 1) := by
  have hstep : ∀ n, goalsR s (n + 1) a = appGs [Rs.tm us] (goalsR s n (j + 1)) := fun n => by
    rw [goalsR, hr]
    simp only
    rw [if_pos hg]
    cases goalsR s n (j + 1) with
    | none => rfl
    | some q => obtain ⟨x, k⟩ := q; rfl
  refine ⟨fun n => ?_, fun n hn => ?_⟩
  · have := h.1 (n + 1)
    rw [hstep] at this
    rw [show (ts ++ [Rs.tm us]).length + n = ts.length + (n + 1) by simp; omega, this]
    cases goalsR s n (j + 1) with
    | none => rfl
    | some q => obtain ⟨x, k⟩ := q; simp [appGs]
  · by_cases hle : n ≤ ts.length
    · exact h.2 n hle
    · obtain rfl : n = ts.length + 1 := by simp at hn; omega
      rw [h.1 1, hstep]
      rfl
/-- all goals were read -/
def Gend (s : List UInt8) (ts : List Tm) (k : Nat) : Prop := ∀ n, goalsR s n 0 = if ts.length ≤ n then some (ts, k) else none
theorem Gst.last {s : List UInt8} {ts : List Tm} {a j : Nat} {us : List Tm} (h : Gst s ts a) (hr : rdF s (.read a 30 3) = some (.ok us j)) (hg : sgn s j 44 = false) : Gend s (ts ++ [Rs.tm us]) j := by
  intro n
  by_cases hle : n ≤ ts.length
  · rw [h.2 n hle, if_neg (by simp only [List.length_append, List.length_cons, List.length_nil]; omega)]
  · obtain ⟨m, rfl⟩ : ∃ m, n = ts.length + (m + 1) := ⟨n - ts.length - 1, by omega⟩
    rw [h.1, if_pos (by simp only [List.length_append, List.length_cons, List.length_nil]; omega), goalsR, hr]
    simp only
    rw [if_neg (by rw [hg]; simp)]
    rfl
/-- some goal was not read -/
def Gbad (s : List UInt8) : Prop := ∀ n l k, goalsR s n 0 = some (l, k) → goalsB l = false
theorem Gst.bad {s : List UInt8} {ts : List Tm} {a : Nat} (h : Gst s ts a) (hr : ∀ us k, rdF s (.read a 30 3) = some (.ok us k) → (Rs.tm us).shape 30 = false) : Gbad s := by
  intro n l k hl
  by_cases hle : n ≤ ts.length
  · rw [h.2 n hle] at hl; cases hl
  · obtain ⟨m, rfl⟩ : ∃ m, n = ts.length + (m + 1) := ⟨n - ts.length - 1, by omega⟩
    rw [h.1, goalsR] at hl
    cases hq : rdF s (.read a 30 3) with
    | none => rw [hq] at hl; cases hl
    | some r =>
      rw [hq] at hl
      cases r with
      | bad e => cases hl
      | ok us j =>
        have hsh := hr us j hq
        simp only at hl
        have hin : Rs.tm us ∈ l := by
          split at hl
          · cases hq2 : goalsR s m (j + 1) with
            | none => rw [hq2] at hl; cases hl
            | some q => obtain ⟨x, k2⟩ := q; rw [hq2] at hl; simp only [appGs, Option.some.injEq, Prod.mk.injEq] at hl; rw [← hl.1]; simp
          · simp only [appGs, Option.some.injEq, Prod.mk.injEq] at hl; rw [← hl.1]; simp
        cases hv : goalsB l with
        | false => rfl
        | true =>
          simp only [goalsB, Bool.and_eq_true, decide_eq_true_eq, List.all_eq_true] at hv
          have := hv.2 _ hin
          simp only [Tm.goal, Tm.valid, Bool.and_eq_true] at this
          rw [hsh] at this
          simp at this
end Go.Proofs.YtbblefjbgbocoaaGreatDoor

/-
  QueryValid of the program and of the reference.
  Conditions: none.
-/
open Go Go.AM Go.Proofs
namespace Go.Proofs.YtbblefjbgbocoaaGreatDoor
open Go.ChangeShapes Go.WideShapes Go.ChangeAt Go.RowKit
set_option linter.unusedVariables false
set_option linter.unusedSimpArgs false
set_option maxRecDepth 100000
-- 25 loop.example/prologserver/impl.QueryValid params 1 ntmps 5
def ac25 : Cd := .seq (.region [⟨(some 2),.mv (.k (.c (.d (.bool false)))),none⟩] [2])
 (.seq (.region [⟨(some 3),.mv (.t 0),none⟩,
 ⟨(some 4),.qcall 68 [(.t 3)],none⟩,
 ⟨(some 2),.mv (.t 4),none⟩] [0,3,4])
 (.ret))
theorem ac25_ok : cFunc Tryz.prog [1000068] [(0,[2],[]),(1,[0,3,4],[])] Tryz.f25 = some (ac25,[.tmp 2],5) := by kernel_rfl
-- 26 loop.example/prologserver/spec.QueryValid params 1 ntmps 23
-- loop head live: [0,3]
def ac26 : Cd := .seq (.region [⟨(some 2),.mv (.k (.c (.d (.bool false)))),none⟩] [2])
 (.seq (.seq (.region [⟨(some 3),.mv (.k (.c (.d (.int .i64 0)))),none⟩] [])
 (.block 0 (.loop (.seq (.seq (.region [⟨(some 4),.mv (.t 3),none⟩,
 ⟨(some 5),.mv (.t 0),none⟩,
 ⟨(some 6),.len 1 (.t 5),none⟩,
 ⟨(some 7),.bin .lss (.t 4) (.t 6),none⟩,
 ⟨(some 8),.mv (.t 7),none⟩,
 ⟨(some 9),.mv (.t 3),some (8,true)⟩,
 ⟨(some 10),.bin .leq (.t 9) (.k (.c (.d (.int .i64 6)))),some (8,true)⟩,
 ⟨(some 11),.pick (.t 8) (.t 10) (.k (.c (.d (.bool false)))),none⟩] [4,5,6,7,8,9,10])
 (.cond (.t 11)
 (.skip)
 (.exit 0)))
 (.seq (.block 1 (.seq (.region [⟨(some 14),.mv (.t 0),none⟩,
 ⟨(some 15),.mv (.t 3),none⟩,
 ⟨(some 16),.indexAddr 4 (.t 14) (.t 15),none⟩,
 ⟨(some 17),.load (some 4) (.t 16),none⟩,
 ⟨(some 18),.qcall 69 [(.t 17)],none⟩,
 ⟨(some 19),.un .not (.t 18),none⟩] [11,14,15,16,17,18])
 (.cond (.t 19)
 (.seq (.region [⟨(some 2),.mv (.k (.c (.d (.bool false)))),none⟩] [0,3,19])
 (.ret))
 (.skip))))
 (.region [⟨(some 12),.mv (.t 3),none⟩,
 ⟨(some 13),.bin .add (.t 12) (.k (.c (.d (.int .i64 1)))),none⟩,
 ⟨(some 3),.mv (.t 13),none⟩] [2,12,13,19]))))))
 (.seq (.region [⟨(some 20),.mv (.t 0),none⟩,
 ⟨(some 21),.len 1 (.t 20),none⟩,
 ⟨(some 22),.bin .leq (.t 21) (.k (.c (.d (.int .i64 6)))),none⟩,
 ⟨(some 2),.mv (.t 22),none⟩] [0,20,21,22])
 (.ret)))
theorem ac26_ok : cFunc Tryz.prog [1000069] [(0,[2],[]),(1,[],[]),(2,[4,5,6,7,8,9,10],[]),(4,[11,14,15,16,17,18],[]),(5,[0,3,19],[]),(3,[2,12,13,19],[]),(6,[0,20,21,22],[])] Tryz.f26 = some (ac26,[.tmp 2],23) := by kernel_rfl
theorem qvImpl_calls (l : List Tm) (hl : l.length ≤ 1048576) (h : ∀ t ∈ l, t.fits) (H : Heap) : ACalls Tryz.prog 25 [.c (.d (.sl (l.map Tm.row)))] H (fun r H' => H' = H ∧ r = .c (.d (.bool (goalsB l)))) := by
  refine acalls Tryz.func25 (by kernel_rfl) ac25_ok fun hf => ?_
  simp -implicitDefEqProofs [ac25, go_sem, -List.set_cons_succ, -List.set_cons_zero]
  refine qcall_pure (goalsImpl_calls l hl h) hf rfl ?_
  simp -implicitDefEqProofs [go_sem, -List.set_cons_succ, -List.set_cons_zero]
theorem qvSpec_calls (l : List Tm) (hl : l.length ≤ 1048576) (h : ∀ t ∈ l, t.fits) (H : Heap) : ACalls Tryz.prog 26 [.c (.d (.sl (l.map Tm.row)))] H (fun r H' => H' = H ∧ r = .c (.d (.bool (goalsB l)))) := by
  refine acalls Tryz.func26 (by kernel_rfl) ac26_ok fun hf => ?_
  have hli : inR .i64 (l.length : Int) := small_i64 (by omega) (by omega)
  simp -implicitDefEqProofs [ac26, hli, go_sem, -List.set_cons_succ, -List.set_cons_zero]
  refine loop_set (σ := Nat) (fun i => [(3, .c (.d (.int .i64 i)))]) (fun _ => H) (fun _ => []) (fun i => i ≤ l.length ∧ ∀ t ∈ l.take i, t.goal = true) (fun i => l.length - i) 0 rfl ⟨Nat.zero_le _, by simp⟩ ?_
  rintro i ⟨hi, hall⟩
  by_cases hlt : i < l.length
  · by_cases hi6 : i ≤ 6
    · have hi6' : (i : Int) ≤ 6 := by omega
      simp -implicitDefEqProofs [setAll, hli, hlt, hi6, hi6', go_sem, -List.set_cons_succ, -List.set_cons_zero]
      refine row_of hlt (row_len _) ?_
      simp -implicitDefEqProofs [row_len, take_row, pure_d, re_d, go_sem, -List.set_cons_succ, -List.set_cons_zero]
      refine qcall_pure (goalSpec_calls l[i] (h _ (List.getElem_mem hlt))) hf rfl ?_
      have hadd : inR .i64 ((i : Int) + 1) := small_i64 (by omega) (by omega)
      simp -implicitDefEqProofs [hadd, go_sem, -List.set_cons_succ, -List.set_cons_zero]
      refine ⟨fun hg => ?_, fun hg => loop_back (i + 1) (by simp [setAll]) ⟨hlt, goal_take hlt hall hg⟩ (by show l.length - (i + 1) < l.length - i; omega)⟩
      have : l.all Tm.goal = false := by
        rw [List.all_eq_false]
        exact ⟨l[i], List.getElem_mem hlt, by simp [hg]⟩
      simp [goalsB, this]
    · have hl6 : ¬ l.length ≤ 6 := by omega
      have hl6' : ¬ (l.length : Int) ≤ 6 := by omega
      have hi6' : ¬ (i : Int) ≤ 6 := by omega
      simp -implicitDefEqProofs [setAll, hli, hlt, hi6, hi6', hl6, hl6', goalsB, go_sem, -List.set_cons_succ, -List.set_cons_zero]
  · have hil : i = l.length := by omega
    subst hil
    rw [List.take_length] at hall
    have hal : l.all Tm.goal = true := List.all_eq_true.2 hall
    simp -implicitDefEqProofs [setAll, hli, goalsB, hal, go_sem, -List.set_cons_succ, -List.set_cons_zero]
    all_goals omega
end Go.Proofs.YtbblefjbgbocoaaGreatDoor

/-
  TermSame of the program.
  Conditions: none.
-/
open Go Go.AM Go.Proofs
namespace Go.Proofs.YtbblefjbgbocoaaGreatDoor
open Go.ChangeShapes Go.WideShapes Go.ChangeAt Go.RowKit
set_option linter.unusedVariables false
set_option linter.unusedSimpArgs false
set_option maxRecDepth 100000
-- 66 loop.example/prologserver/impl.TermSame params 2 ntmps 31
def ac66 : Cd := .seq (.region [⟨(some 2),.box (.t 0),none⟩,
 ⟨(some 3),.box (.t 1),none⟩,
 ⟨(some 4),.mv (.k (.c (.d (.bool false)))),none⟩] [0,1,4])
 (.seq (.region [⟨(some 5),.fieldAddr 0 (.t 2),none⟩,
 ⟨(some 6),.load none (.t 5),none⟩,
 ⟨(some 7),.fieldAddr 0 (.t 3),none⟩,
 ⟨(some 8),.load none (.t 7),none⟩,
 ⟨(some 9),.bin .eql (.t 6) (.t 8),none⟩,
 ⟨(some 10),.mv (.t 9),none⟩,
 ⟨(some 11),.fieldAddr 1 (.t 2),some (10,true)⟩,
 ⟨(some 12),.load none (.t 11),some (10,true)⟩,
 ⟨(some 13),.fieldAddr 1 (.t 3),some (10,true)⟩,
 ⟨(some 14),.load none (.t 13),some (10,true)⟩,
 ⟨(some 15),.bin .eql (.t 12) (.t 14),some (10,true)⟩,
 ⟨(some 16),.pick (.t 10) (.t 15) (.k (.c (.d (.bool false)))),none⟩,
 ⟨(some 17),.mv (.t 16),none⟩,
 ⟨(some 18),.fieldAddr 2 (.t 2),some (17,true)⟩,
 ⟨(some 19),.load none (.t 18),some (17,true)⟩,
 ⟨(some 20),.fieldAddr 2 (.t 3),some (17,true)⟩,
 ⟨(some 21),.load none (.t 20),some (17,true)⟩,
 ⟨(some 22),.bin .eql (.t 19) (.t 21),some (17,true)⟩,
 ⟨(some 23),.pick (.t 17) (.t 22) (.k (.c (.d (.bool false)))),none⟩,
 ⟨(some 24),.mv (.t 23),none⟩,
 ⟨(some 25),.fieldAddr 3 (.t 2),some (24,true)⟩,
 ⟨(some 26),.load none (.t 25),some (24,true)⟩,
 ⟨(some 27),.fieldAddr 3 (.t 3),some (24,true)⟩,
 ⟨(some 28),.load none (.t 27),some (24,true)⟩,
 ⟨(some 29),.qcall 113 [(.t 26),(.t 28),(.k (.c (.fn 66 [])))],some (24,true)⟩,
 ⟨(some 30),.pick (.t 24) (.t 29) (.k (.c (.d (.bool false)))),none⟩,
 ⟨(some 4),.mv (.t 30),none⟩] [2,3,5,6,7,8,9,10,11,12,13,14,15,16,17,18,19,20,21,22,23,24,25,26,27,28,29,30])
 (.ret))
theorem ac66_ok : cFunc Tryz.prog [1000113] [(0,[0,1,4],[]),(1,[2,3,5,6,7,8,9,10,11,12,13,14,15,16,17,18,19,20,21,22,23,24,25,26,27,28,29,30],[])] Tryz.f66 = some (ac66,[.tmp 4],31) := by kernel_rfl
-- 113 slices.EqualFunc[[]loop.example/prologserver/impl.Term,[]loop.example/prologserver/impl.Term,loop.example/prologserver/impl.Term,loop.example/prologserver/impl.Term] params 3 ntmps 32
-- loop head live: [1,2,15,16,17]
def ac113 : Cd := .seq (.region [⟨(some 6),.mv (.k (.c (.d (.bool false)))),none⟩] [6])
 (.seq (.seq (.region [⟨(some 10),.mv (.t 0),none⟩,
 ⟨(some 11),.len 1 (.t 10),none⟩,
 ⟨(some 12),.mv (.t 1),none⟩,
 ⟨(some 13),.len 1 (.t 12),none⟩,
 ⟨(some 14),.bin .neq (.t 11) (.t 13),none⟩] [10,11,12,13])
 (.cond (.t 14)
 (.seq (.region [⟨(some 6),.mv (.k (.c (.d (.bool false)))),none⟩] [0,1,2,14])
 (.ret))
 (.skip)))
 (.seq (.seq (.region [⟨(some 15),.mv (.t 0),none⟩,
 ⟨(some 16),.len 1 (.t 15),none⟩,
 ⟨(some 17),.mv (.k (.c (.d (.int .i64 0)))),none⟩] [0,6,14])
 (.block 0 (.loop (.seq (.region [⟨(some 18),.bin .lss (.t 17) (.t 16),none⟩] [])
 (.seq (.cond (.t 18)
 (.skip)
 (.exit 0))
 (.seq (.block 1 (.seq (.region [⟨(some 19),.mv (.t 17),none⟩,
 ⟨(some 20),.indexAddr 4 (.t 15) (.t 17),none⟩,
 ⟨(some 21),.load (some 4) (.t 20),none⟩,
 ⟨(some 8),.alloc [(.d (.int .i64 0)),(.d (.int .i64 0)),(.d (.str [])),(.full [])],none⟩,
 ⟨(some 7),.mv (.t 19),none⟩,
 ⟨none,.store 4 (.t 8) (.t 21),none⟩] [18,19,20,21])
 (.seq (.region [⟨(some 22),.mv (.t 1),none⟩,
 ⟨(some 23),.mv (.t 7),none⟩,
 ⟨(some 24),.indexAddr 4 (.t 22) (.t 23),none⟩,
 ⟨(some 25),.load (some 4) (.t 24),none⟩,
 ⟨(some 9),.alloc [(.d (.int .i64 0)),(.d (.int .i64 0)),(.d (.str [])),(.full [])],none⟩,
 ⟨none,.store 4 (.t 9) (.t 25),none⟩] [7,22,23,24,25])
 (.seq (.region [⟨(some 26),.mv (.t 2),none⟩,
 ⟨(some 27),.load (some 4) (.t 8),none⟩,
 ⟨(some 28),.load (some 4) (.t 9),none⟩,
 ⟨(some 29),.callv (.t 26) [(.t 27),(.t 28)],none⟩,
 ⟨(some 30),.un .not (.t 29),none⟩] [8,9,26,27,28,29])
 (.cond (.t 30)
 (.seq (.region [⟨(some 6),.mv (.k (.c (.d (.bool false)))),none⟩] [1,2,15,16,17,30])
 (.ret))
 (.skip))))))
 (.region [⟨(some 31),.bin .add (.t 17) (.k (.c (.d (.int .i64 1)))),none⟩,
 ⟨(some 17),.mv (.t 31),none⟩] [6,30,31])))))))
 (.seq (.region [⟨(some 6),.mv (.k (.c (.d (.bool true)))),none⟩] [])
 (.ret))))
theorem ac113_ok : cFunc Tryz.prog [] [(0,[6],[]),(1,[10,11,12,13],[]),(2,[0,1,2,14],[]),(3,[0,6,14],[]),(4,[],[]),(5,[18,19,20,21],[]),(6,[7,22,23,24,25],[]),(7,[8,9,26,27,28,29],[]),(8,[1,2,15,16,17,30],[]),(9,[6,30,31],[]),(10,[],[])] Tryz.f113 = some (ac113,[.tmp 6],32) := by kernel_rfl
theorem eqFunc_of (f : FuncId) (l r : List Tm) (hl : l.length ≤ 1048576) (hr : r.length ≤ 1048576) (h : ∀ x ∈ l, ∀ y ∈ r, Same2 f x y) (H : Heap) :
    ACalls Tryz.prog 113 [.c (.d (.sl (l.map Tm.row))), .c (.d (.sl (r.map Tm.row))), .c (.fn f [])] H (fun r' H' => H' = H ∧ r' = .c (.d (.bool (decide (l = r))))) := by
  refine acalls Tryz.func113 (by kernel_rfl) ac113_ok fun hf => ?_
  have hli : inR .i64 (l.length : Int) := small_i64 (by omega) (by omega)
  have hri : inR .i64 (r.length : Int) := small_i64 (by omega) (by omega)
  simp -implicitDefEqProofs [ac113, hli, hri, go_sem, -List.set_cons_succ, -List.set_cons_zero]
  refine ⟨fun h1 e => by subst e; simp at h1, fun e4 => ?_⟩
  have e4 : l.length = r.length := by omega
  refine loop_set (σ := Nat) (fun i => [(17, .c (.d (.int .i64 i)))]) (fun _ => H) (fun _ => []) (fun i => i ≤ l.length ∧ l.take i = r.take i) (fun i => l.length - i) 0 rfl ⟨Nat.zero_le _, rfl⟩ ?_
  rintro i ⟨hi, htk⟩
  simp -implicitDefEqProofs [setAll, hli, go_sem, -List.set_cons_succ, -List.set_cons_zero]
  refine ⟨fun hlt => ?_, fun hge => by rw [List.take_of_length_le hge, List.take_of_length_le (by omega)] at htk; exact htk⟩
  have hadd : inR .i64 ((i : Int) + 1) := small_i64 (by omega) (by omega)
  refine row_of hlt (row_len _) ?_
  simp -implicitDefEqProofs [row_len, take_row, fits_map, hf, go_sem, -List.set_cons_succ, -List.set_cons_zero]
  refine row_of (by omega) (row_len _) ?_
  simp -implicitDefEqProofs [row_len, take_row, fits_map, hf, go_sem, -List.set_cons_succ, -List.set_cons_zero]
  simp -implicitDefEqProofs [pure_d, re_d, go_sem, -List.set_cons_succ, -List.set_cons_zero]
  refine call_same (h l[i] (List.getElem_mem hlt) (r[i]'(by omega)) (List.getElem_mem (by omega)) _) (by simp [Ob.re, C.re, re_d]) rfl hf ?_
  simp -implicitDefEqProofs [hadd, go_sem, -List.set_cons_succ, -List.set_cons_zero]
  refine ⟨fun hne e => ?_, fun he => ?_⟩
  · subst e; exact hne rfl
  · exact loop_less (i + 1) (St.le_cut [_, _] (by simp [setAll, Sl.le, A.le_refl_iff, A.le_u_iff, As.lo, A.lo, C.lo, Ref.lo, Cs.lo, Obs.lo, Ob.lo, setAll, and_true, true_and, List.length_nil, List.length_cons]) (by simp [Sl.le, A.le_refl_iff, A.le_u_iff, As.lo, A.lo, C.lo, Ref.lo, Cs.lo, Obs.lo, Ob.lo, setAll, and_true, true_and, List.length_nil, List.length_cons]) rfl (by simp [Sl.le, A.le_refl_iff, A.le_u_iff, As.lo, A.lo, C.lo, Ref.lo, Cs.lo, Obs.lo, Ob.lo, setAll, and_true, true_and, List.length_nil, List.length_cons])) ⟨hlt, take_snoc hlt (by omega) htk he⟩ (by show l.length - (i + 1) < l.length - i; omega)
theorem sameImpl_calls : ∀ a : Tm, a.fits → ∀ b : Tm, b.fits → Same2 66 a b := by
  refine Tm.ind fun k n s l ih hfits b hb H => ?_
  obtain ⟨k', n', s', r⟩ := b
  obtain ⟨_, _, _, hl, hkids⟩ := hfits
  obtain ⟨_, _, _, hr, hkids'⟩ := hb
  refine acalls Tryz.func66 (by kernel_rfl) ac66_ok fun hf => ?_
  simp -implicitDefEqProofs [ac66, row_mk, go_sem, -List.set_cons_succ, -List.set_cons_zero]
  refine ⟨fun e1 e2 e3 => ⟨⟨⟨e1, e2⟩, e3⟩, ?_⟩, fun h => ?_⟩
  · subst e1 e2 e3
    refine qcall_pure (eqFunc_of 66 l r hl hr fun x hx y hy => ih x hx (hkids x hx) y (hkids' y hy)) hf rfl ?_
    simp -implicitDefEqProofs [go_sem, -List.set_cons_succ, -List.set_cons_zero]
  · exact fun e1 e2 e3 => absurd e3 (h e1 e2)
end Go.Proofs.YtbblefjbgbocoaaGreatDoor

/-
  TermSame of the reference.
  Conditions: none.
-/
open Go Go.AM Go.Proofs
namespace Go.Proofs.YtbblefjbgbocoaaGreatDoor
open Go.ChangeShapes Go.WideShapes Go.ChangeAt Go.RowKit
set_option linter.unusedVariables false
set_option linter.unusedSimpArgs false
set_option maxRecDepth 100000
end Go.Proofs.YtbblefjbgbocoaaGreatDoor

/-
  Queries as the reference reads them.
  Conditions: none.
-/
open Go Go.AM Go.Proofs
namespace Go.Proofs.YtbblefjbgbocoaaGreatDoor
open Go.ChangeShapes Go.WideShapes Go.ChangeAt Go.RowKit
set_option linter.unusedVariables false
set_option linter.unusedSimpArgs false
set_option maxRecDepth 100000
-- 58 loop.example/prologserver/spec.l4Goals params 2 ntmps 33
-- loop head live: [0,1,6]
def ac58 : Cd := .seq (.region [⟨(some 4),.mv (.k (.c (.full []))),none⟩,
 ⟨(some 5),.mv (.k (.c (.d (.int .i64 0)))),none⟩] [4,5])
 (.seq (.region [⟨(some 9),.buildSlice 4 0 [(.int .i64 0),(.int .i64 0),(.str []),(.sl [])] [],none⟩,
 ⟨(some 6),.mv (.t 9),none⟩] [9])
 (.seq (.block 0 (.loop (.seq (.seq (.region [⟨(some 10),.mv (.t 6),none⟩,
 ⟨(some 11),.len 1 (.t 10),none⟩,
 ⟨(some 12),.bin .leq (.t 11) (.k (.c (.d (.int .i64 6)))),none⟩] [10,11])
 (.cond (.t 12)
 (.skip)
 (.exit 0)))
 (.block 1 (.seq (.region [⟨(some 14),.mv (.t 0),none⟩,
 ⟨(some 15),.mv (.t 1),none⟩,
 ⟨(some 16),.qcall 108 [(.t 14),(.t 15),(.k (.c (.d (.int .i64 30)))),(.k (.c (.d (.int .i64 3))))],none⟩,
 ⟨(some 13),.mv (.t 16),none⟩,
 ⟨(some 17),.extract 0 (.t 13),none⟩,
 ⟨(some 18),.extract 1 (.t 13),none⟩,
 ⟨(some 7),.alloc [(.d (.int .i64 0)),(.d (.int .i64 0)),(.d (.str [])),(.full [])],none⟩,
 ⟨none,.store 4 (.t 7) (.t 17),none⟩,
 ⟨(some 8),.mv (.t 18),none⟩] [1,12,13,14,15,16,17,18])
 (.seq (.seq (.region [⟨(some 19),.mv (.t 8),none⟩,
 ⟨(some 20),.bin .lss (.t 19) (.k (.c (.d (.int .i64 0)))),none⟩] [19])
 (.cond (.t 20)
 (.seq (.region [⟨(some 4),.mv (.k (.c (.full []))),none⟩,
 ⟨(some 5),.mv (.k (.c (.d (.int .i64 (-1))))),none⟩] [0,6,7,8,20])
 (.ret))
 (.skip)))
 (.seq (.region [⟨(some 21),.mv (.t 6),none⟩,
 ⟨(some 22),.load (some 4) (.t 7),none⟩,
 ⟨(some 23),.buildSlice 4 1 [(.int .i64 0),(.int .i64 0),(.str []),(.sl [])] [(0,(.t 22))],none⟩,
 ⟨(some 24),.append false 4 (.t 21) (.t 23),none⟩,
 ⟨(some 6),.mv (.t 24),none⟩] [4,5,7,20,21,22,23,24])
 (.seq (.seq (.region [⟨(some 25),.mv (.t 0),none⟩,
 ⟨(some 26),.mv (.t 8),none⟩,
 ⟨(some 27),.qcall 106 [(.t 25),(.t 26),(.k (.c (.d (.int .u8 44))))],none⟩,
 ⟨(some 28),.un .not (.t 27),none⟩] [25,26,27])
 (.cond (.t 28)
 (.seq (.region [⟨(some 29),.mv (.t 6),none⟩,
 ⟨(some 30),.mv (.t 8),none⟩,
 ⟨(some 4),.mv (.t 29),none⟩,
 ⟨(some 5),.mv (.t 30),none⟩] [0,6,8,28,29,30])
 (.ret))
 (.skip)))
 (.region [⟨(some 31),.mv (.t 8),none⟩,
 ⟨(some 32),.bin .add (.t 31) (.k (.c (.d (.int .i64 1)))),none⟩,
 ⟨(some 1),.mv (.t 32),none⟩] [4,5,8,28,31,32])))))))))
 (.seq (.region [⟨(some 4),.mv (.k (.c (.full []))),none⟩,
 ⟨(some 5),.mv (.k (.c (.d (.int .i64 (-1))))),none⟩] [])
 (.ret))))
theorem ac58_ok : cFunc Tryz.prog [1000106,1000108] [(0,[4,5],[]),(1,[9],[]),(2,[10,11],[]),(3,[1,12,13,14,15,16,17,18],[]),(4,[19],[]),(5,[0,6,7,8,20],[]),(6,[4,5,7,20,21,22,23,24],[]),(7,[25,26,27],[]),(8,[0,6,8,28,29,30],[]),(9,[4,5,8,28,31,32],[]),(10,[],[])] Tryz.f58 = some (ac58,[.tmp 4,.tmp 5],33) := by kernel_rfl
-- 14 loop.example/prologserver/spec.ParseQuery params 1 ntmps 43
-- loop head live: [4,6,7]
def ac14 : Cd := .seq (.region [⟨(some 2),.mv (.k (.c (.full []))),none⟩,
 ⟨(some 3),.mv (.k (.c (.d (.bool false)))),none⟩] [2,3])
 (.seq (.seq (.region [⟨(some 8),.mv (.t 0),none⟩,
 ⟨(some 9),.len 0 (.t 8),none⟩,
 ⟨(some 10),.bin .gtr (.t 9) (.k (.c (.d (.int .i64 1000)))),none⟩] [8,9])
 (.cond (.t 10)
 (.seq (.region [⟨(some 11),.buildSlice 4 0 [(.int .i64 0),(.int .i64 0),(.str []),(.sl [])] [],none⟩,
 ⟨(some 2),.mv (.t 11),none⟩,
 ⟨(some 3),.mv (.k (.c (.d (.bool false)))),none⟩] [0,10,11])
 (.ret))
 (.skip)))
 (.seq (.region [⟨(some 13),.mv (.t 0),none⟩,
 ⟨(some 14),.qcall 58 [(.t 13),(.k (.c (.d (.int .i64 0))))],none⟩,
 ⟨(some 12),.mv (.t 14),none⟩,
 ⟨(some 15),.extract 0 (.t 12),none⟩,
 ⟨(some 16),.extract 1 (.t 12),none⟩,
 ⟨(some 4),.mv (.t 15),none⟩,
 ⟨(some 5),.mv (.t 16),none⟩] [2,3,10,12,13,14,15,16])
 (.seq (.seq (.region [⟨(some 17),.mv (.t 5),none⟩,
 ⟨(some 18),.mv (.t 0),none⟩,
 ⟨(some 19),.len 0 (.t 18),none⟩,
 ⟨(some 20),.bin .neq (.t 17) (.t 19),none⟩,
 ⟨(some 21),.mv (.t 20),none⟩,
 ⟨(some 22),.mv (.t 4),some (21,false)⟩,
 ⟨(some 23),.qcall 26 [(.t 22)],some (21,false)⟩,
 ⟨(some 24),.un .not (.t 23),some (21,false)⟩,
 ⟨(some 25),.pick (.t 21) (.k (.c (.d (.bool true)))) (.t 24),none⟩] [0,5,17,18,19,20,21,22,23,24])
 (.cond (.t 25)
 (.seq (.region [⟨(some 26),.buildSlice 4 0 [(.int .i64 0),(.int .i64 0),(.str []),(.sl [])] [],none⟩,
 ⟨(some 2),.mv (.t 26),none⟩,
 ⟨(some 3),.mv (.k (.c (.d (.bool false)))),none⟩] [4,25,26])
 (.ret))
 (.skip)))
 (.seq (.region [⟨(some 27),.buildSlice 4 0 [(.int .i64 0),(.int .i64 0),(.str []),(.sl [])] [],none⟩,
 ⟨(some 6),.mv (.t 27),none⟩] [2,3,25,27])
 (.seq (.seq (.region [⟨(some 7),.mv (.k (.c (.d (.int .i64 0)))),none⟩] [])
 (.block 0 (.loop (.seq (.seq (.region [⟨(some 28),.mv (.t 7),none⟩,
 ⟨(some 29),.mv (.t 4),none⟩,
 ⟨(some 30),.len 1 (.t 29),none⟩,
 ⟨(some 31),.bin .lss (.t 28) (.t 30),none⟩] [28,29,30])
 (.cond (.t 31)
 (.skip)
 (.exit 0)))
 (.seq (.block 1 (.region [⟨(some 34),.mv (.t 6),none⟩,
 ⟨(some 35),.mv (.t 4),none⟩,
 ⟨(some 36),.mv (.t 7),none⟩,
 ⟨(some 37),.indexAddr 4 (.t 35) (.t 36),none⟩,
 ⟨(some 38),.load (some 4) (.t 37),none⟩,
 ⟨(some 39),.qcall 59 [(.t 38)],none⟩,
 ⟨(some 40),.buildSlice 4 1 [(.int .i64 0),(.int .i64 0),(.str []),(.sl [])] [(0,(.t 39))],none⟩,
 ⟨(some 41),.append false 4 (.t 34) (.t 40),none⟩,
 ⟨(some 6),.mv (.t 41),none⟩] [31,34,35,36,37,38,39,40,41]))
 (.region [⟨(some 32),.mv (.t 7),none⟩,
 ⟨(some 33),.bin .add (.t 32) (.k (.c (.d (.int .i64 1)))),none⟩,
 ⟨(some 7),.mv (.t 33),none⟩] [32,33]))))))
 (.seq (.region [⟨(some 42),.mv (.t 6),none⟩,
 ⟨(some 2),.mv (.t 42),none⟩,
 ⟨(some 3),.mv (.k (.c (.d (.bool true)))),none⟩] [6,42])
 (.ret)))))))
theorem ac14_ok : cFunc Tryz.prog [1000026,1000058,1000059] [(0,[2,3],[]),(1,[8,9],[]),(2,[0,10,11],[]),(3,[2,3,10,12,13,14,15,16],[]),(4,[0,5,17,18,19,20,21,22,23,24],[]),(5,[4,25,26],[]),(6,[2,3,25,27],[]),(7,[],[]),(8,[28,29,30],[]),(10,[31,34,35,36,37,38,39,40,41],[]),(9,[32,33],[]),(11,[6,42],[])] Tryz.f14 = some (ac14,[.tmp 2,.tmp 3],43) := by kernel_rfl
def goalsA : Option (List Tm × Nat) → A
  | some (ts, k) => .tup [.c (.d (.sl (ts.map Tm.row))), .c (.d (.int .i64 k))]
  | none => .tup [.c (.d (.sl [])), .c (.d (.int .i64 (-1)))]
def appG (out : List Tm) : Option (List Tm × Nat) → Option (List Tm × Nat)
  | some (us, k) => some (out ++ us, k)
  | none => none
theorem rdF_ok (s : List UInt8) (hs : s.length ≤ 1000000) (i d : Nat) (hi : i ≤ s.length) : ∃ r, rdF s (.read i d 3) = some r ∧ (Job.read i d 3).post s r :=
  rd_total s hs _ (.read i d 3) (by simp only [Job.m]; omega) ⟨hi, by omega⟩
theorem l4Goals_calls (s : List UInt8) (hs : s.length ≤ 1000000) (i : Nat) (hi : i ≤ s.length) (H : Heap) : ACalls Tryz.prog 58 [.c (.d (.str s)), .c (.d (.int .i64 i))] H (fun r H' => H' = H ∧ r = goalsA (goalsR s 7 i)) := by
  refine acalls Tryz.func58 (by kernel_rfl) ac58_ok fun hf => ?_
  simp -implicitDefEqProofs [ac58, go_sem, -List.set_cons_succ, -List.set_cons_zero]
  refine loop_enter (St.le_token 6 4 rfl) ?_
  obtain ⟨G, hG⟩ : ∃ G, G = goalsR s 7 i := ⟨_, rfl⟩
  rw [← hG]
  refine loop_set (σ := Nat × List Tm × Nat) (fun x => [(1, .c (.d (.int .i64 x.1))), (6, .c (.own (.l 0) x.2.1.length (x.2.1.map Tm.row)))]) (fun _ => H) (fun x => [.grow x.2.1.length 4])
    (fun x => x.1 ≤ s.length ∧ x.2.1.length + x.2.2 = 7 ∧ appG x.2.1 (goalsR s x.2.2 x.1) = G) (fun x => x.2.2) (i, [], 7) (by simp [setAll]) ⟨hi, by simp, by rw [hG]; cases goalsR s 7 i <;> simp [appG]⟩ ?_
  rintro ⟨p, out, n⟩ ⟨hp, hn, h1⟩
  simp only at hp hn h1
  have hol : inR .i64 (out.length : Int) := small_i64 (by omega) (by omega)
  simp -implicitDefEqProofs [setAll, hol, go_sem, -List.set_cons_succ, -List.set_cons_zero]
  cases n with
  | zero =>
    have h6 : ¬ (out.length : Int) ≤ 6 := by omega
    have h7 : (6 : Int) < (out.length : Int) := by omega
    rw [goalsR] at h1
    subst h1
    simp -implicitDefEqProofs [h6, h7, appG, goalsA, hf, go_sem, -List.set_cons_succ, -List.set_cons_zero]
  | succ n =>
    have h6 : (out.length : Int) ≤ 6 := by omega
    have h7 : ¬ (6 : Int) < (out.length : Int) := by omega
    obtain ⟨r, hr, hpost⟩ := rdF_ok s hs p 30 hp
    rw [goalsR, hr] at h1
    have c1 := (par s hs _).read p 30 3 r hp (by omega) (by omega) hr
    simp only [Int.cast_ofNat_Int] at c1
    simp -implicitDefEqProofs [h6, h7, hf, go_sem, -List.set_cons_succ, -List.set_cons_zero]
    refine qcall_pure c1 hf (readA_re _ _) ?_
    cases r with
    | bad e =>
      have he : e ≤ s.length := hpost
      have hneg : (-1 - (e : Int)) < 0 := by omega
      subst h1
      simp -implicitDefEqProofs [readA, hneg, appG, goalsA, row_mk, hf, go_sem, -List.set_cons_succ, -List.set_cons_zero]
    | ok ts j =>
      obtain ⟨g1, g2, t, rfl, g3⟩ := hpost
      simp only [Rs.tm] at h1
      have hj0 : ¬ (j : Int) < 0 := by omega
      have hj1 : inR .i64 ((j : Int) + 1) := small_i64 (by omega) (by omega)
      simp -implicitDefEqProofs [readA, Rs.tm, hj0, row_len, take_row, pure_d, re_d, toDs_map, hf, go_sem, -List.set_cons_succ, -List.set_cons_zero]
      refine ⟨allLen_map row_len, by unfold maxApp; omega, ?_⟩
      refine qcall_pure (sign_calls s hs j (by omega) 44) hf rfl ?_
      cases hsg : sgn s j 44 with
      | false =>
        rw [hsg] at h1
        simp only [Bool.false_eq_true, if_false] at h1
        subst h1
        simp -implicitDefEqProofs [appG, goalsA, hf, go_sem, -List.set_cons_succ, -List.set_cons_zero]
      | true =>
        rw [hsg] at h1
        simp only [if_true] at h1
        have hjl := sgn_lt hsg
        simp -implicitDefEqProofs [hj1, hf, go_sem, -List.set_cons_succ, -List.set_cons_zero]
        refine loop_less (j + 1, out ++ [t], n) (St.le_cut [_] ?_ (by simp [Sl.le, A.le_refl_iff, A.le_u_iff, As.lo, A.lo, C.lo, Ref.lo, Cs.lo, Obs.lo, Ob.lo, setAll, and_true, true_and, List.length_nil, List.length_cons]) (by simp; rfl) (by simp [Sl.le, A.le_refl_iff, A.le_u_iff, As.lo, A.lo, C.lo, Ref.lo, Cs.lo, Obs.lo, Ob.lo, setAll, and_true, true_and, List.length_nil, List.length_cons])) ⟨by dsimp only; omega, by simp; omega, ?_⟩ (by show n < n + 1; omega)
        · simp [setAll, Sl.le, A.le_refl_iff, A.le_u_iff, As.lo, A.lo, C.lo, Ref.lo, Cs.lo, Obs.lo, Ob.lo, setAll, and_true, true_and, List.length_nil, List.length_cons]
        · rw [← h1]
          show appG (out ++ [t]) (goalsR s n (j + 1)) = _
          cases goalsR s n (j + 1) with
          | none => rfl
          | some q => obtain ⟨us, k⟩ := q; simp [appG]
theorem goalsR_ok (s : List UInt8) (hs : s.length ≤ 1000000) : ∀ (n i : Nat) (ts : List Tm) (k : Nat), i ≤ s.length → goalsR s n i = some (ts, k) → k ≤ s.length ∧ ts.length ≤ n ∧ (∀ t ∈ ts, t.fits) ∧ 1 ≤ ts.length
  | 0, i, ts, k, _, h => by cases h
  | n + 1, i, ts, k, hi, h => by
    obtain ⟨r, hr, hpost⟩ := rdF_ok s hs i 30 hi
    rw [goalsR, hr] at h
    cases r with
    | bad e => cases h
    | ok us j =>
      obtain ⟨g1, g2, t, rfl, g3⟩ := hpost
      simp only [Rs.tm] at h
      split at h
      · rename_i hc
        have hjl := sgn_lt hc
        cases hg : goalsR s n (j + 1) with
        | none => rw [hg] at h; cases h
        | some q =>
          obtain ⟨vs, m⟩ := q
          rw [hg] at h
          cases h
          obtain ⟨q1, q2, q3, q4⟩ := goalsR_ok s hs n (j + 1) _ _ (by omega) hg
          exact ⟨q1, by simp; omega, fun u hu => by
            rcases List.mem_cons.1 hu with rfl | hu
            · exact g3
            · exact q3 u hu, by simp⟩
      · cases h
        exact ⟨g2, by simp, by simpa using g3, by simp⟩
/-- what ParseQuery answers -/
def queryR (s : List UInt8) : List Tm × Bool :=
  if 1000 < s.length then ([], false)
  else match goalsR s 7 0 with
    | some (l, k) => if k = s.length ∧ goalsB l = true then (l, true) else ([], false)
    | none => ([], false)
theorem queryR_fits (s : List UInt8) (hs : s.length ≤ 1000000) : (queryR s).1.length ≤ 7 ∧ ∀ t ∈ (queryR s).1, t.fits := by
  unfold queryR
  split
  · simp
  · cases hg : goalsR s 7 0 with
    | none => simp
    | some q =>
      obtain ⟨l, k⟩ := q
      obtain ⟨_, h2, h3, _⟩ := goalsR_ok s hs 7 0 l k (by omega) hg
      simp only
      split
      · exact ⟨h2, h3⟩
      · simp
theorem pqSpec_calls (s : List UInt8) (hs : s.length ≤ 1000000) (H : Heap) : ACalls Tryz.prog 14 [.c (.d (.str s))] H (fun r H' => H' = H ∧ r = .tup [.c (.d (.sl ((queryR s).1.map Tm.row))), .c (.d (.bool (queryR s).2))]) := by
  refine acalls Tryz.func14 (by kernel_rfl) ac14_ok fun hf => ?_
  have hli : inR .i64 (s.length : Int) := small_i64 (by omega) (by omega)
  unfold queryR
  by_cases h1000 : 1000 < s.length
  · have h1 : (1000 : Int) < s.length := by omega
    simp -implicitDefEqProofs [ac14, hli, h1, h1000, go_sem, -List.set_cons_succ, -List.set_cons_zero]
  · have h1 : ¬ (1000 : Int) < s.length := by omega
    rw [if_neg h1000]
    have cg := l4Goals_calls s hs 0 (by omega)
    simp only [Int.cast_ofNat_Int] at cg
    simp -implicitDefEqProofs [ac14, hli, h1, go_sem, -List.set_cons_succ, -List.set_cons_zero]
    cases hg : goalsR s 7 0 with
    | none =>
      rw [hg] at cg
      have hne : ((-1 : Int) != (s.length : Int)) = true := by first | (simp; done) | (simp; omega)
      have hne2 : ¬ (-1 : Int) = (s.length : Int) := by omega
      refine qcall_pure cg hf (by simp [goalsA, A.re, A.res, C.re]) ?_
      simp -implicitDefEqProofs [goalsA, hli, hne, hne2, hf, go_sem, -List.set_cons_succ, -List.set_cons_zero]
    | some q =>
      obtain ⟨l, k⟩ := q
      rw [hg] at cg
      obtain ⟨g1, g2, g3, _⟩ := goalsR_ok s hs 7 0 l k (by omega) hg
      have cq := qvSpec_calls l (by omega) g3
      have hll : inR .i64 (l.length : Int) := small_i64 (by omega) (by omega)
      refine qcall_pure cg hf (by simp [goalsA, A.re, A.res, C.re]) ?_
      by_cases hk : k = s.length
      · subst hk
        simp -implicitDefEqProofs [goalsA, hli, hf, go_sem, -List.set_cons_succ, -List.set_cons_zero]
        refine qcall_pure cq hf rfl ?_
        cases hv : goalsB l with
        | false => simp -implicitDefEqProofs [go_sem, -List.set_cons_succ, -List.set_cons_zero]
        | true =>
          simp -implicitDefEqProofs [go_sem, -List.set_cons_succ, -List.set_cons_zero]
          refine loop_enter (St.le_token 6 4 rfl) ?_
          refine loop_set (σ := Nat) (fun i => [(7, .c (.d (.int .i64 i))), (6, .c (.own (.l 0) i ((l.map Tm.row).take i)))]) (fun _ => H) (fun i => [.grow i 4]) (fun i => i ≤ l.length) (fun i => l.length - i) 0 (by simp [setAll]) (Nat.zero_le _) ?_
          intro i hi
          simp -implicitDefEqProofs [setAll, hll, go_sem, -List.set_cons_succ, -List.set_cons_zero]
          refine ⟨fun hlt => ?_, fun hge => ?_⟩
          · have hadd : inR .i64 ((i : Int) + 1) := small_i64 (by omega) (by omega)
            refine row_of hlt (row_len _) ?_
            simp -implicitDefEqProofs [row_len, take_row, pure_d, re_d, hf, go_sem, -List.set_cons_succ, -List.set_cons_zero]
            refine qcall_pure (copy_calls l[i] (g3 _ (List.getElem_mem hlt))) hf (by simp [A.re, re_d]) ?_
            simp -implicitDefEqProofs [row_len, toDs_map, hadd, hf, Nat.min_eq_left hi, go_sem, -List.set_cons_succ, -List.set_cons_zero]
            refine ⟨fun r hr => allLen_map row_len r (List.mem_of_mem_take hr), by unfold maxApp; omega, ?_⟩
            refine loop_back (i + 1) ?_ hlt (by show l.length - (i + 1) < l.length - i; omega)
            simp [setAll, take_map_succ hlt]
          · obtain rfl : i = l.length := by omega
            rw [show (l.map Tm.row).take l.length = l.map Tm.row from List.take_of_length_le (by simp)]
      · have hk1 : ((k : Int) != (s.length : Int)) = true := by simp; omega
        have hk2 : ¬ (k : Int) = (s.length : Int) := by omega
        have hk3 : ¬ (k = s.length ∧ goalsB l = true) := fun h => hk h.1
        simp -implicitDefEqProofs [goalsA, hli, hk, hk1, hk2, hk3, hf, go_sem, -List.set_cons_succ, -List.set_cons_zero]
end Go.Proofs.YtbblefjbgbocoaaGreatDoor

/-
  The program's reader: goals, and ParseQuery.
  Conditions: none.
-/
open Go Go.AM Go.Proofs
namespace Go.Proofs.YtbblefjbgbocoaaGreatDoor
open Go.ChangeShapes Go.WideShapes Go.ChangeAt Go.RowKit
set_option linter.unusedVariables false
set_option linter.unusedSimpArgs false
set_option maxRecDepth 100000
-- 60 (*loop.example/prologserver/impl.reader).goals params 1 ntmps 23
-- loop head live: [0,3,4]
def ac60 : Cd := .seq (.region [⟨(some 2),.mv (.k (.c (.full []))),none⟩] [2])
 (.seq (.region [⟨(some 3),.mv (.k (.c (.full []))),none⟩] [])
 (.seq (.seq (.region [⟨(some 4),.mv (.k (.c (.d (.bool true)))),none⟩] [])
 (.block 0 (.loop (.seq (.seq (.region [⟨(some 5),.mv (.t 4),none⟩] [4])
 (.cond (.t 5)
 (.skip)
 (.exit 0)))
 (.block 1 (.seq (.region [⟨(some 6),.mv (.t 3),none⟩,
 ⟨(some 7),.mv (.t 0),none⟩,
 ⟨(some 8),.call false 109 [(.t 7),(.k (.c (.d (.int .i64 3)))),(.k (.c (.d (.int .i64 1))))],none⟩,
 ⟨(some 9),.buildSlice 4 1 [(.int .i64 0),(.int .i64 0),(.str []),(.sl [])] [(0,(.t 8))],none⟩,
 ⟨(some 10),.append false 4 (.t 6) (.t 9),none⟩,
 ⟨(some 3),.mv (.t 10),none⟩] [5,6,7,8,9,10])
 (.seq (.region [⟨(some 11),.mv (.t 0),none⟩,
 ⟨(some 12),.call false 110 [(.t 11)],none⟩,
 ⟨(some 13),.bin .eql (.t 12) (.k (.c (.d (.int .u8 44)))),none⟩,
 ⟨(some 4),.mv (.t 13),none⟩] [11,12,13])
 (.seq (.region [⟨(some 14),.mv (.t 4),none⟩] [])
 (.cond (.t 14)
 (.region [⟨(some 15),.mv (.t 0),none⟩,
 ⟨(some 16),.nilCheck (.t 15),none⟩,
 ⟨(some 17),.fieldAddr 1 (.t 16),none⟩,
 ⟨(some 18),.load none (.t 17),none⟩,
 ⟨(some 19),.bin .add (.t 18) (.k (.c (.d (.int .i64 1)))),none⟩,
 ⟨(some 20),.nilCheck (.t 15),none⟩,
 ⟨(some 21),.fieldAddr 1 (.t 20),none⟩,
 ⟨none,.store 1 (.t 21) (.t 19),none⟩] [14,15,16,17,18,19,20,21])
 (.skip))))))))))
 (.seq (.region [⟨(some 22),.mv (.t 3),none⟩,
 ⟨(some 2),.mv (.t 22),none⟩] [3,22])
 (.ret))))
theorem ac60_ok : cFunc Tryz.prog [] [(0,[2],[]),(1,[],[]),(2,[],[]),(3,[4],[]),(4,[5,6,7,8,9,10],[]),(5,[11,12,13],[]),(6,[],[]),(7,[14,15,16,17,18,19,20,21],[]),(8,[3,22],[])] Tryz.f60 = some (ac60,[.tmp 2],23) := by kernel_rfl
-- 15 loop.example/prologserver/impl.ParseQuery params 1 ntmps 34
def ac15 : Cd := .seq (.region [⟨(some 2),.mv (.k (.c (.full []))),none⟩,
 ⟨(some 3),.mv (.k (.c (.d (.bool false)))),none⟩] [2,3])
 (.seq (.seq (.region [⟨(some 6),.mv (.t 0),none⟩,
 ⟨(some 7),.len 0 (.t 6),none⟩,
 ⟨(some 8),.bin .gtr (.t 7) (.k (.c (.d (.int .i64 1000)))),none⟩] [6,7])
 (.cond (.t 8)
 (.seq (.region [⟨(some 2),.mv (.k (.c (.full []))),none⟩,
 ⟨(some 3),.mv (.k (.c (.d (.bool false)))),none⟩] [0,8])
 (.ret))
 (.skip)))
 (.seq (.region [⟨(some 9),.mv (.t 0),none⟩,
 ⟨(some 10),.build [(.d (.str [])),(.d (.int .i64 0)),(.d (.int .i64 0)),(.d (.bool false))] [(0,1,(.t 9)),(2,1,(.k (.c (.d (.int .i64 (-1)))))),(3,1,(.k (.c (.d (.bool true)))))],none⟩,
 ⟨(some 11),.box (.t 10),none⟩,
 ⟨(some 4),.mv (.t 11),none⟩] [2,3,8,9,10,11])
 (.seq (.region [⟨(some 12),.mv (.t 4),none⟩,
 ⟨(some 13),.call false 60 [(.t 12)],none⟩,
 ⟨(some 5),.mv (.t 13),none⟩] [12,13])
 (.seq (.seq (.region [⟨(some 14),.mv (.t 4),none⟩,
 ⟨(some 15),.nilCheck (.t 14),none⟩,
 ⟨(some 16),.fieldAddr 2 (.t 15),none⟩,
 ⟨(some 17),.load none (.t 16),none⟩,
 ⟨(some 18),.bin .geq (.t 17) (.k (.c (.d (.int .i64 0)))),none⟩,
 ⟨(some 19),.mv (.t 18),none⟩,
 ⟨(some 20),.mv (.t 4),some (19,false)⟩,
 ⟨(some 21),.nilCheck (.t 20),some (19,false)⟩,
 ⟨(some 22),.fieldAddr 1 (.t 21),some (19,false)⟩,
 ⟨(some 23),.load none (.t 22),some (19,false)⟩,
 ⟨(some 24),.mv (.t 0),some (19,false)⟩,
 ⟨(some 25),.len 0 (.t 24),some (19,false)⟩,
 ⟨(some 26),.bin .neq (.t 23) (.t 25),some (19,false)⟩,
 ⟨(some 27),.pick (.t 19) (.k (.c (.d (.bool true)))) (.t 26),none⟩,
 ⟨(some 28),.mv (.t 27),none⟩,
 ⟨(some 29),.mv (.t 5),some (28,false)⟩,
 ⟨(some 30),.qcall 25 [(.t 29)],some (28,false)⟩,
 ⟨(some 31),.un .not (.t 30),some (28,false)⟩,
 ⟨(some 32),.pick (.t 28) (.k (.c (.d (.bool true)))) (.t 31),none⟩] [0,4,14,15,16,17,18,19,20,21,22,23,24,25,26,27,28,29,30,31])
 (.cond (.t 32)
 (.seq (.region [⟨(some 2),.mv (.k (.c (.full []))),none⟩,
 ⟨(some 3),.mv (.k (.c (.d (.bool false)))),none⟩] [5,32])
 (.ret))
 (.skip)))
 (.seq (.region [⟨(some 33),.mv (.t 5),none⟩,
 ⟨(some 2),.mv (.t 33),none⟩,
 ⟨(some 3),.mv (.k (.c (.d (.bool true)))),none⟩] [5,32,33])
 (.ret))))))
theorem ac15_ok : cFunc Tryz.prog [1000025] [(0,[2,3],[]),(1,[6,7],[]),(2,[0,8],[]),(3,[2,3,8,9,10,11],[]),(4,[12,13],[]),(5,[0,4,14,15,16,17,18,19,20,21,22,23,24,25,26,27,28,29,30,31],[]),(6,[5,32],[]),(7,[5,32,33],[])] Tryz.f15 = some (ac15,[.tmp 2,.tmp 3],34) := by kernel_rfl
def Gq (s : List UInt8) (ts : List Tm) (a : Nat) (b : Int) : Prop := (b = -1 ∧ 1 ≤ ts.length ∧ Gend s ts a) ∨ ((∃ e : Nat, b = e) ∧ Gbad s)
set_option maxHeartbeats 3200000 in
theorem goals_calls (s : List UInt8) (hs : s.length ≤ 1000000) (H : Heap) (i : Nat) (hp : Hp H) (h2 : 2 ≤ i) (hi : i < H.length) : ACalls Tryz.prog 60 [.c (.ptr (.e i) 0)] (ro H i s 0 (-1))
    (fun r H' => ∃ (ts : List Tm) (a : Nat) (b : Int), r = .c (.d (.sl (ts.map Tm.row))) ∧ (∀ t ∈ ts, t.fits) ∧ ts.length ≤ s.length + 1 ∧ a ≤ s.length ∧ Gq s ts a b ∧ H' = ro H i s a b) := by
  refine acalls Tryz.func60 (by kernel_rfl) ac60_ok fun hf => ?_
  rw [ro_len] at hf
  have hf1 := fun a' b' => ro_fits (s' := s) (a' := a') (b' := b') hf
  have hfr : ∀ a' b', Obs.fits (ro H i s a' b').length 0 (ro H i s a' b') := fun a' b' => by rw [ro_len]; exact hf1 a' b'
  simp -implicitDefEqProofs [ac60, ro_len, Ref.re, go_sem, -List.set_cons_succ, -List.set_cons_zero]
  refine loop_enter (St.le_token 3 4 rfl) ?_
  refine loop_set (σ := Nat × Int × List Tm × Bool) (fun x => [(3, .c (.own (.l 0) x.2.2.1.length (x.2.2.1.map Tm.row))), (4, .c (.d (.bool x.2.2.2)))]) (fun x => ro H i s x.1 x.2.1)
    (fun x => [.grow x.2.2.1.length 4])
    (fun x => x.1 ≤ s.length ∧ x.2.2.1.length ≤ s.length + 1 ∧ (∀ t ∈ x.2.2.1, t.fits) ∧
      ((x.2.2.2 = true ∧ x.2.1 = -1 ∧ x.2.2.1.length ≤ x.1 ∧ Gst s x.2.2.1 x.1) ∨ (x.2.2.2 = false ∧ Gq s x.2.2.1 x.1 x.2.1)))
    (fun x => if x.2.2.2 then s.length + 1 - x.1 else 0) (0, -1, [], true) (by simp [setAll]) ⟨Nat.zero_le _, by simp, by simp, .inl ⟨rfl, rfl, by simp, Gst.start s⟩⟩ ?_
  rintro ⟨p, b, out, more⟩ ⟨hpl, hol, hof, hst⟩
  simp only at hpl hol hof hst
  simp -implicitDefEqProofs [setAll, ro_len, go_sem, -List.set_cons_succ, -List.set_cons_zero]
  rcases hst with ⟨rfl, rfl, hop, hG⟩ | ⟨rfl, hG⟩
  · obtain ⟨w, hw, _⟩ := rp_total s hs (8 * (s.length + 1) + 5) (.term 3 1 p) (by simp [PJ.m]; omega) ⟨hpl, Nat.le_refl _⟩
    have c1 := (prd s hs _).term 3 1 p w hpl (Nat.le_refl _) (by omega) hw
    have p1 := rp_post hs (j := .term 3 1 p) ⟨hpl, Nat.le_refl _⟩ hw
    have tl := rp_tells hs _ (.term 3 1 p) w hw ⟨hpl, Nat.le_refl _⟩ 30 (Nat.le_refl _)
    simp -implicitDefEqProofs [ro_len, go_sem, -List.set_cons_succ, -List.set_cons_zero]
    refine call_rd c1 hp h2 hi (by simp [Ob.re, C.re]) (hf1 _ _) ?_
    rintro v a' b' ⟨t, ht, rfl, hm⟩
    have ha' : a' ≤ s.length := by
      cases w with
      | bad e => exact hm.1
      | ok ts k => rw [hm.2.1]; exact p1.2.1
    simp -implicitDefEqProofs [ro_len, row_len, take_row, drop_row, pure_d, re_d, toDs_map, hfr, hf1, go_sem, -List.set_cons_succ, -List.set_cons_zero]
    refine ⟨allLen_map row_len, by unfold maxApp; omega, ?_⟩
    refine call_mv (next_mv s hs a' b' (by omega)) hp h2 hi (by simp [Ob.re, C.re]) rfl (hf1 _ _) ?_
    simp -implicitDefEqProofs [ro_len, go_sem, -List.set_cons_succ, -List.set_cons_zero]
    have hfo : ∀ x ∈ out ++ [t], x.fits := fun x hx => by
      rcases List.mem_append.1 hx with hx | hx
      · exact hof x hx
      · rw [List.mem_singleton.1 hx]; exact ht
    cases w with
    | bad e =>
      obtain ⟨g1, g2⟩ := hm
      subst g2
      rw [nxt_bad]
      have hB : Gbad s := hG.bad fun us k hk => by
        obtain ⟨u, hu, hsh⟩ := tl us k hk
        have h5 := (read_one hs hpl (Nat.le_refl _) hk).1
        rw [h5] at hu
        rw [List.mem_singleton.1 hu] at hsh
        exact hsh
      simp -implicitDefEqProofs [ro_len, go_sem, -List.set_cons_succ, -List.set_cons_zero]
      refine loop_less (a', (e : Int), out ++ [t], false) (St.le_more ?_ (by simp; exact Obs.le_refl _)) ⟨g1, by simp; omega, hfo, .inr ⟨rfl, .inr ⟨⟨e, rfl⟩, hB⟩⟩⟩ (by show 0 < s.length + 1 - p; omega)
      simp [setAll, Sl.le, A.le_refl_iff, A.le_u_iff, As.lo, A.lo, C.lo, Ref.lo, Cs.lo, Obs.lo, Ob.lo, setAll, and_true, true_and, List.length_nil, List.length_cons]
    | ok ts k =>
      obtain ⟨g1, g2, g3⟩ := hm
      subst g2
      subst g3
      obtain ⟨q1, q2, q3⟩ := p1
      have tl : rdF s (.read p 30 3) = some (.ok ts a') := tl
      have e44 : (((nxt s a' (-1)).toNat : Int) == 44) = sgn s a' 44 := nxt_eq s a' 44 (by decide)
      cases hsg : sgn s a' 44 with
      | true =>
        rw [hsg] at e44
        have he : ((nxt s a' (-1)).toNat : Int) = 44 := beq_iff_eq.1 e44
        have hlt := sgn_lt hsg
        have i4 : inR .i64 ((a' : Int) + 1) := small_i64 (by omega) (by omega)
        have hG2 := hG.next tl hsg
        rw [← g1] at hG2
        simp -implicitDefEqProofs [he, ro_len, ro_get hi, ro_up, i4, Ref.re, hf1, go_sem, -List.set_cons_succ, -List.set_cons_zero]
        exact loop_back (a' + 1, -1, out ++ [t], true) (by simp [setAll]) ⟨by show a' + 1 ≤ s.length; omega, by simp; omega, hfo, .inl ⟨rfl, rfl, by simp; omega, hG2⟩⟩ (by show s.length + 1 - (a' + 1) < s.length + 1 - p; omega)
      | false =>
        rw [hsg] at e44
        have he : ¬ ((nxt s a' (-1)).toNat : Int) = 44 := fun h => by rw [beq_iff_eq.2 h] at e44; cases e44
        have hG2 := hG.last tl hsg
        rw [← g1] at hG2
        simp -implicitDefEqProofs [he, ro_len, go_sem, -List.set_cons_succ, -List.set_cons_zero]
        refine loop_less (a', -1, out ++ [t], false) (St.le_more ?_ (by simp; exact Obs.le_refl _)) ⟨ha', by simp; omega, hfo, .inr ⟨rfl, .inl ⟨rfl, by simp, hG2⟩⟩⟩ (by show 0 < s.length + 1 - p; omega)
        simp [setAll, he, Sl.le, A.le_refl_iff, A.le_u_iff, As.lo, A.lo, C.lo, Ref.lo, Cs.lo, Obs.lo, Ob.lo, setAll, and_true, true_and, List.length_nil, List.length_cons]
        rw [e44]
        exact .refl _
  · simp -implicitDefEqProofs [ro_len, thaw_d, fits_map, hfr, hf1, go_sem, -List.set_cons_succ, -List.set_cons_zero]
    exact ⟨out, rfl, hof, hol, p, hpl, b, hG, rfl⟩
theorem call_own1 {f : FuncId} {xs : List A} {s : List UInt8} {Q : A → Nat → Int → Prop} (hd : ∀ (H : Heap) (i : Nat), Hp H → 2 ≤ i → i < H.length → ACalls Tryz.prog f (.c (.ptr (.e i) 0) :: xs) (ro H i s 0 (-1)) (fun r H' => ∃ a b, Q r a b ∧ H' = ro H i s a b)) (hQ : ∀ r a b n, Q r a b → A.re n r = r) {ext : Heap} {sl : List A} {H₂ : Heap} {K : A → St → Prop} (hp : Hp ext)
    (hH : H₂ = ext ++ [rdO s 0 (-1)]) (hf : Obs.fits ext.length 0 ext) (hk : ∀ v a' b', Q v a' b' → K v ⟨sl, ext, [rdO s a' b']⟩) :
    ACalls Tryz.prog f (.c (.ptr (.e ext.length) 0) :: xs) H₂ (CallK K ⟨sl, ext, [rdO s 0 (-1)]⟩) := by
  subst hH
  have hl : 2 ≤ ext.length := by
    obtain ⟨o, o2, _, h2, _⟩ := hp
    have := (List.getElem?_eq_some_iff.1 h2).1
    omega
  have hro : ∀ a' b', ro (ext ++ [rdO s 0 (-1)]) ext.length s a' b' = ext ++ [rdO s a' b'] := fun a' b' => by
    unfold ro
    rw [List.set_append_right _ _ (by omega), Nat.sub_self]
    rfl
  have h := hd (ext ++ [rdO s 0 (-1)]) ext.length (hp_append hp _) hl (by simp)
  rw [hro] at h
  refine h.mono fun r' H' ⟨a', b', hq, h2⟩ => ?_
  rw [hro] at h2
  exact ⟨ext, [rdO s a' b'], r', by rw [h2]; rfl, rfl, by simp, hf, (hQ _ _ _ _ hq).symm, hk _ _ _ hq⟩
theorem queryR_some {s : List UInt8} {l : List Tm} {k : Nat} (h : ¬ 1000 < s.length) (hg : goalsR s 7 0 = some (l, k)) (hk : k = s.length) (hv : goalsB l = true) : queryR s = (l, true) := by
  unfold queryR
  rw [if_neg h, hg]
  simp [hk, hv]
theorem queryR_no {s : List UInt8} (h : ¬ 1000 < s.length) (hg : ∀ l k, goalsR s 7 0 = some (l, k) → ¬ (k = s.length ∧ goalsB l = true)) : queryR s = ([], false) := by
  unfold queryR
  rw [if_neg h]
  cases hq : goalsR s 7 0 with
  | none => rfl
  | some q =>
    obtain ⟨l, k⟩ := q
    simp only
    rw [if_neg (hg l k hq)]
/-- what the program reads is what the reference reads -/
theorem pqImpl_calls (s : List UInt8) (hs : s.length ≤ 1000000) (H : Heap) (hp : Hp H) : ACalls Tryz.prog 15 [.c (.d (.str s))] H (fun r H' => H' = H ∧ r = .tup [.c (.d (.sl ((queryR s).1.map Tm.row))), .c (.d (.bool (queryR s).2))]) := by
  refine acalls Tryz.func15 (by kernel_rfl) ac15_ok fun hf => ?_
  have hli : inR .i64 (s.length : Int) := small_i64 (by omega) (by omega)
  by_cases h1000 : 1000 < s.length
  · have h1 : (1000 : Int) < s.length := by omega
    have hq : queryR s = ([], false) := by unfold queryR; rw [if_pos h1000]
    rw [hq]
    simp -implicitDefEqProofs [ac15, hli, h1, hf, go_sem, -List.set_cons_succ, -List.set_cons_zero]
  · have h1 : ¬ (1000 : Int) < s.length := by omega
    simp -implicitDefEqProofs [ac15, hli, h1, hf, go_sem, -List.set_cons_succ, -List.set_cons_zero]
    refine call_own1 (Q := fun r a b => ∃ ts : List Tm, r = .c (.d (.sl (ts.map Tm.row))) ∧ (∀ t ∈ ts, t.fits) ∧ ts.length ≤ s.length + 1 ∧ a ≤ s.length ∧ Gq s ts a b) (fun H i q1 q2 q3 => (goals_calls s hs H i q1 q2 q3).mono fun r H' ⟨ts, a, b, e1, e2, e3, e4, e5, e6⟩ => ⟨a, b, ⟨ts, e1, e2, e3, e4, e5⟩, e6⟩) (by rintro r a b n ⟨ts, rfl, _⟩; simp [A.re, C.re]) hp (by simp [rdO, Ob.re, C.re]) hf ?_
    rintro v a b ⟨ts, rfl, hft, hl, ha, hG⟩
    rcases hG with ⟨rfl, h3, hE⟩ | ⟨⟨e, rfl⟩, hB⟩
    · have h7 := hE 7
      by_cases hk : a = s.length
      · subst hk
        cases hv : goalsB ts with
        | true =>
          have h6 : ts.length ≤ 6 := by simp only [goalsB, Bool.and_eq_true, decide_eq_true_eq] at hv; exact hv.1
          rw [if_pos (by omega)] at h7
          rw [queryR_some h1000 h7 rfl hv]
          have cq := qvImpl_calls ts (by omega) hft
          rw [hv] at cq
          simp -implicitDefEqProofs [rdO, hli, hf, go_sem, -List.set_cons_succ, -List.set_cons_zero]
          refine qcall_pure cq hf rfl ?_
          simp -implicitDefEqProofs [hf, go_sem, -List.set_cons_succ, -List.set_cons_zero]
        | false =>
          rw [queryR_no h1000 fun l k hq hc => by
            rw [h7] at hq
            split at hq
            · cases hq; rw [hv] at hc; simp at hc
            · cases hq]
          have cq := qvImpl_calls ts (by omega) hft
          rw [hv] at cq
          simp -implicitDefEqProofs [rdO, hli, hf, go_sem, -List.set_cons_succ, -List.set_cons_zero]
          refine qcall_pure cq hf rfl ?_
          simp -implicitDefEqProofs [hf, go_sem, -List.set_cons_succ, -List.set_cons_zero]
      · have hk' : ¬ (a : Int) = s.length := by omega
        rw [queryR_no h1000 fun l k hq hc => by
          rw [h7] at hq
          split at hq
          · cases hq; exact hk hc.1
          · cases hq]
        simp -implicitDefEqProofs [rdO, hli, hk, hk', hf, go_sem, -List.set_cons_succ, -List.set_cons_zero]
    · rw [queryR_no h1000 fun l k hq hc => by
        have := hB 7 l k hq
        rw [hc.2] at this
        cases this]
      simp -implicitDefEqProofs [rdO, hf, go_sem, -List.set_cons_succ, -List.set_cons_zero]
end Go.Proofs.YtbblefjbgbocoaaGreatDoor

/-
  Terms: how many there are.
  Conditions: none.
-/
open Go Go.AM Go.Proofs
namespace Go.Proofs.YtbblefjbgbocoaaGreatDoor
open Go.ChangeShapes Go.WideShapes Go.ChangeAt Go.RowKit
set_option linter.unusedVariables false
set_option linter.unusedSimpArgs false
set_option maxRecDepth 100000
mutual
/-- the terms below a term -/
def Tm.sub : Tm → Nat
  | .mk _ _ _ l => Tm.cnt l
def Tm.cnt : List Tm → Nat
  | [] => 0
  | t :: l => 1 + t.sub + Tm.cnt l
end
theorem sub_mk (k n : Int) (s : List UInt8) (l : List Tm) : (Tm.mk k n s l).sub = Tm.cnt l := by rw [Tm.sub]
theorem cnt_nil : Tm.cnt [] = 0 := by rw [Tm.cnt]
theorem cnt_cons (t : Tm) (l : List Tm) : Tm.cnt (t :: l) = 1 + t.sub + Tm.cnt l := by rw [Tm.cnt]
theorem cnt_append (l r : List Tm) : Tm.cnt (l ++ r) = Tm.cnt l + Tm.cnt r := by
  induction l with
  | nil => simp [Tm.cnt]
  | cons t l ih => rw [List.cons_append, cnt_cons, cnt_cons, ih]; omega
theorem cnt_take_succ (l : List Tm) {i : Nat} (h : i < l.length) : Tm.cnt (l.take (i + 1)) = Tm.cnt (l.take i) + 1 + l[i].sub := by
  rw [List.take_succ_eq_append_getElem h, cnt_append, cnt_cons, cnt_nil]; omega
theorem cnt_take_le (l : List Tm) (i : Nat) : Tm.cnt (l.take i) ≤ Tm.cnt l := by
  have := cnt_append (l.take i) (l.drop i)
  rw [List.take_append_drop] at this
  omega
theorem cnt_take_sub (l : List Tm) {i : Nat} (h : i < l.length) : Tm.cnt (l.take i) + 1 + l[i].sub ≤ Tm.cnt l := by
  rw [← cnt_take_succ l h]; exact cnt_take_le l _
/-- what is left, where enough is -/
def LeftW (m : Int) (p : Prop) (w : Nat) (r : A) : Prop := ∃ q : Int, r = .c (.d (.int .i64 q)) ∧ -1 ≤ q ∧ q ≤ m ∧ (0 ≤ q → p ∧ q + w ≤ m)
theorem LeftW.re {n : Nat} {m : Int} {p : Prop} {w : Nat} {r : A} (h : LeftW m p w r) : A.re n r = r := by
  obtain ⟨q, rfl, _⟩ := h
  rfl
theorem LeftW.left {m : Int} {p : Prop} {w : Nat} {r : A} (h : LeftW m p w r) : Left m p r := by
  obtain ⟨q, h1, h2, h3, h4⟩ := h
  exact ⟨q, h1, h2, h3, fun h => (h4 h).1⟩
end Go.Proofs.YtbblefjbgbocoaaGreatDoor

/-
  The variables of terms, in an array of its own.
  Conditions: none.
-/
open Go Go.AM Go.Proofs
namespace Go.Proofs.YtbblefjbgbocoaaGreatDoor
open Go.ChangeShapes Go.WideShapes Go.ChangeAt Go.RowKit
set_option linter.unusedVariables false
set_option linter.unusedSimpArgs false
set_option maxRecDepth 100000
-- 176 slices.Index[[]int,int] params 2 ntmps 19
-- loop head live: [0,1,7,8]
def ac176 : Cd := .seq (.region [⟨(some 4),.mv (.k (.c (.d (.int .i64 0)))),none⟩] [4])
 (.seq (.seq (.region [⟨(some 6),.mv (.t 0),none⟩,
 ⟨(some 7),.len 1 (.t 6),none⟩,
 ⟨(some 8),.mv (.k (.c (.d (.int .i64 0)))),none⟩] [6])
 (.block 0 (.loop (.seq (.region [⟨(some 9),.bin .lss (.t 8) (.t 7),none⟩] [])
 (.seq (.cond (.t 9)
 (.skip)
 (.exit 0))
 (.seq (.block 1 (.seq (.region [⟨(some 10),.mv (.t 8),none⟩,
 ⟨(some 5),.mv (.t 10),none⟩] [9,10])
 (.seq (.region [⟨(some 11),.mv (.t 1),none⟩,
 ⟨(some 12),.mv (.t 0),none⟩,
 ⟨(some 13),.mv (.t 5),none⟩,
 ⟨(some 14),.indexAddr 1 (.t 12) (.t 13),none⟩,
 ⟨(some 15),.load none (.t 14),none⟩,
 ⟨(some 16),.bin .eql (.t 11) (.t 15),none⟩] [11,12,13,14,15])
 (.cond (.t 16)
 (.seq (.region [⟨(some 17),.mv (.t 5),none⟩,
 ⟨(some 4),.mv (.t 17),none⟩] [0,1,5,7,8,16,17])
 (.ret))
 (.skip)))))
 (.region [⟨(some 18),.bin .add (.t 8) (.k (.c (.d (.int .i64 1)))),none⟩,
 ⟨(some 8),.mv (.t 18),none⟩] [4,5,16,18])))))))
 (.seq (.region [⟨(some 4),.mv (.k (.c (.d (.int .i64 (-1))))),none⟩] [])
 (.ret)))
theorem ac176_ok : cFunc Tryz.prog [] [(0,[4],[]),(1,[6],[]),(2,[],[]),(3,[9,10],[]),(4,[11,12,13,14,15],[]),(5,[0,1,5,7,8,16,17],[]),(6,[4,5,16,18],[]),(7,[],[])] Tryz.f176 = some (ac176,[.tmp 4],19) := by kernel_rfl
-- 120 slices.Contains[[]int,int] params 2 ntmps 9
def ac120 : Cd := .seq (.region [⟨(some 4),.mv (.k (.c (.d (.bool false)))),none⟩] [4])
 (.seq (.region [⟨(some 5),.mv (.t 0),none⟩,
 ⟨(some 6),.mv (.t 1),none⟩,
 ⟨(some 7),.call false 176 [(.t 5),(.t 6)],none⟩,
 ⟨(some 8),.bin .geq (.t 7) (.k (.c (.d (.int .i64 0)))),none⟩,
 ⟨(some 4),.mv (.t 8),none⟩] [0,1,5,6,7,8])
 (.ret))
theorem ac120_ok : cFunc Tryz.prog [] [(0,[4],[]),(1,[0,1,5,6,7,8],[])] Tryz.f120 = some (ac120,[.tmp 4],9) := by kernel_rfl
theorem indexI_calls (l : List Int) (hl : l.length ≤ 4000000) (s : Int) (H : Heap) : ACalls Tryz.prog 176 [.c (.d (.sl (intRows l))), .c (.d (.int .i64 s))] H (fun r H' => H' = H ∧ ∃ k : Int, r = .c (.d (.int .i64 k)) ∧ decide (0 ≤ k) = l.contains s) := by
  refine acalls Tryz.func176 (by kernel_rfl) ac176_ok fun hf => ?_
  have hli : inR .i64 (l.length : Int) := small_i64 (by omega) (by omega)
  simp -implicitDefEqProofs [ac176, hli, intRows_len, go_sem, -List.set_cons_succ, -List.set_cons_zero]
  refine loop_set (σ := Nat) (fun i => [(8, .c (.d (.int .i64 i)))]) (fun _ => H) (fun _ => []) (fun i => i ≤ l.length ∧ s ∉ l.take i) (fun i => l.length - i) 0 rfl ⟨Nat.zero_le _, by simp⟩ ?_
  rintro i ⟨hi, hno⟩
  simp -implicitDefEqProofs [setAll, hli, intRows_len, go_sem, -List.set_cons_succ, -List.set_cons_zero]
  refine ⟨fun hlt => ?_, fun hge => ?_⟩
  · refine row_nat [.int .i64 l[i]] (by simp [intRows, hlt]) rfl ?_
    have hadd : inR .i64 ((i : Int) + 1) := small_i64 (by omega) (by omega)
    simp -implicitDefEqProofs [hadd, go_sem, -List.set_cons_succ, -List.set_cons_zero]
    refine ⟨fun h => ?_, fun h => ?_⟩
    · subst h; exact List.getElem_mem hlt
    · refine loop_back (i + 1) (by simp [setAll]) ⟨hlt, ?_⟩ (by show l.length - (i + 1) < l.length - i; omega)
      rw [List.take_succ_eq_append_getElem hlt, List.mem_append]
      rintro (h' | h')
      · exact hno h'
      · simp at h'; exact h h'
  · rw [List.take_of_length_le hge] at hno
    simp [hno]
theorem containsI_calls (l : List Int) (hl : l.length ≤ 4000000) (s : Int) (H : Heap) : ACalls Tryz.prog 120 [.c (.d (.sl (intRows l))), .c (.d (.int .i64 s))] H (fun r H' => H' = H ∧ r = .c (.d (.bool (l.contains s)))) := by
  refine acalls Tryz.func120 (by kernel_rfl) ac120_ok fun hf => ?_
  simp -implicitDefEqProofs [ac120, go_sem, -List.set_cons_succ, -List.set_cons_zero]
  refine call_some (indexI_calls l hl s _) (by simp) (fun r ⟨k, hk, _⟩ => by subst hk; rfl) hf ?_
  rintro _ ⟨k, rfl, hk⟩
  simp -implicitDefEqProofs [go_sem, -List.set_cons_succ, -List.set_cons_zero]
  simpa using hk
-- 71 loop.example/prologserver/impl.addVars params 2 ntmps 34
-- loop head live: [1,23,24,25]
def ac71 : Cd := .seq (.region [⟨(some 2),.box (.t 0),none⟩,
 ⟨(some 4),.mv (.k (.c (.full []))),none⟩] [0,4])
 (.seq (.seq (.region [⟨(some 7),.fieldAddr 0 (.t 2),none⟩,
 ⟨(some 8),.load none (.t 7),none⟩,
 ⟨(some 9),.bin .eql (.t 8) (.k (.c (.d (.int .i64 1)))),none⟩,
 ⟨(some 10),.mv (.t 9),none⟩,
 ⟨(some 11),.mv (.t 1),some (10,true)⟩,
 ⟨(some 12),.fieldAddr 1 (.t 2),some (10,true)⟩,
 ⟨(some 13),.load none (.t 12),some (10,true)⟩,
 ⟨(some 14),.qcall 120 [(.t 11),(.t 13)],some (10,true)⟩,
 ⟨(some 15),.un .not (.t 14),some (10,true)⟩,
 ⟨(some 16),.pick (.t 10) (.t 15) (.k (.c (.d (.bool false)))),none⟩] [7,8,9,10,11,12,13,14,15])
 (.cond (.t 16)
 (.region [⟨(some 17),.mv (.t 1),none⟩,
 ⟨(some 18),.fieldAddr 1 (.t 2),none⟩,
 ⟨(some 19),.load none (.t 18),none⟩,
 ⟨(some 20),.buildSlice 1 1 [(.int .i64 0)] [(0,(.t 19))],none⟩,
 ⟨(some 21),.append false 1 (.t 17) (.t 20),none⟩,
 ⟨(some 1),.mv (.t 21),none⟩] [16,17,18,19,20,21])
 (.skip)))
 (.seq (.seq (.region [⟨(some 22),.fieldAddr 3 (.t 2),none⟩,
 ⟨(some 23),.load none (.t 22),none⟩,
 ⟨(some 24),.len 1 (.t 23),none⟩,
 ⟨(some 25),.mv (.k (.c (.d (.int .i64 0)))),none⟩] [2,16,22])
 (.block 0 (.loop (.seq (.region [⟨(some 26),.bin .lss (.t 25) (.t 24),none⟩] [])
 (.seq (.cond (.t 26)
 (.skip)
 (.exit 0))
 (.seq (.block 1 (.seq (.region [⟨(some 27),.indexAddr 4 (.t 23) (.t 25),none⟩,
 ⟨(some 28),.load (some 4) (.t 27),none⟩,
 ⟨(some 6),.alloc [(.d (.int .i64 0)),(.d (.int .i64 0)),(.d (.str [])),(.full [])],none⟩,
 ⟨none,.store 4 (.t 6) (.t 28),none⟩] [26,27,28])
 (.region [⟨(some 29),.load (some 4) (.t 6),none⟩,
 ⟨(some 30),.mv (.t 1),none⟩,
 ⟨(some 31),.call true 71 [(.t 29),(.t 30)],none⟩,
 ⟨(some 1),.mv (.t 31),none⟩] [6,29,30,31])))
 (.region [⟨(some 32),.bin .add (.t 25) (.k (.c (.d (.int .i64 1)))),none⟩,
 ⟨(some 25),.mv (.t 32),none⟩] [32])))))))
 (.seq (.region [⟨(some 33),.mv (.t 1),none⟩,
 ⟨(some 4),.mv (.t 33),none⟩] [1,33])
 (.ret))))
theorem ac71_ok : cFunc Tryz.prog [71,1000120] [(0,[0,4],[]),(1,[7,8,9,10,11,12,13,14,15],[]),(2,[16,17,18,19,20,21],[]),(3,[2,16,22],[]),(4,[],[]),(5,[26,27,28],[]),(6,[6,29,30,31],[]),(7,[32],[]),(8,[1,33],[])] Tryz.f71 = some (ac71,[.tmp 4],34) := by kernel_rfl
def addI (l : List Int) (n : Int) : List Int := if l.contains n then l else l ++ [n]
theorem addI_len (l : List Int) (n : Int) : (addI l n).length ≤ l.length + 1 := by unfold addI; split <;> simp
mutual
/-- the variables of a term behind others -/
def Tm.vars : Tm → List Int → List Int
  | .mk k n _ kids, l => varsL kids (if k = 1 then addI l n else l)
def varsL : List Tm → List Int → List Int
  | [], l => l
  | t :: ts, l => varsL ts (t.vars l)
end
theorem vars_mk (k n : Int) (s : List UInt8) (kids : List Tm) (l : List Int) : (Tm.mk k n s kids).vars l = varsL kids (if k = 1 then addI l n else l) := by rw [Tm.vars]
theorem varsL_nil (l : List Int) : varsL [] l = l := by rw [varsL]
theorem varsL_cons (t : Tm) (ts : List Tm) (l : List Int) : varsL (t :: ts) l = varsL ts (t.vars l) := by rw [varsL]
theorem varsL_append (a b : List Tm) (l : List Int) : varsL (a ++ b) l = varsL b (varsL a l) := by
  induction a generalizing l with
  | nil => rw [List.nil_append, varsL_nil]
  | cons t a ih => rw [List.cons_append, varsL_cons, varsL_cons, ih]
theorem varsL_succ (ts : List Tm) (l : List Int) {i : Nat} (h : i < ts.length) : varsL (ts.take (i + 1)) l = ts[i].vars (varsL (ts.take i) l) := by
  rw [List.take_succ_eq_append_getElem h, varsL_append, varsL_cons, varsL_nil]
theorem vars_len : ∀ (t : Tm) (l : List Int), (t.vars l).length ≤ l.length + 1 + t.sub := by
  refine Tm.ind fun k n s kids ih l => ?_
  have hL : ∀ (ts : List Tm), (∀ t ∈ ts, ∀ l, (t.vars l).length ≤ l.length + 1 + t.sub) → ∀ l, (varsL ts l).length ≤ l.length + Tm.cnt ts := by
    intro ts
    induction ts with
    | nil => intro _ l; rw [varsL_nil]; omega
    | cons t ts ih2 =>
      intro h l
      rw [varsL_cons, cnt_cons]
      have h1 := ih2 (fun t ht => h t (by simp [ht])) (t.vars l)
      have h2 := h t (by simp) l
      omega
  rw [vars_mk, sub_mk]
  have h1 := hL kids ih (if k = 1 then addI l n else l)
  have h2 : (if k = 1 then addI l n else l).length ≤ l.length + 1 := by
    split
    · exact addI_len l n
    · omega
  omega
theorem varsL_len (ts : List Tm) (l : List Int) : (varsL ts l).length ≤ l.length + Tm.cnt ts := by
  induction ts generalizing l with
  | nil => rw [varsL_nil]; omega
  | cons t ts ih =>
    rw [varsL_cons, cnt_cons]
    have h1 := ih (t.vars l)
    have h2 := vars_len t l
    omega
theorem slr : ∀ l : List A, Sl.le l l
  | [] => trivial
  | a :: l => ⟨.refl a, slr l⟩
/-- the end of a function whose own objects are of no account -/
theorem finK_cut {rs : List Rv} {Q : A → Heap → Prop} {sl : List A} {ext loc : Heap} (r : A) (hlo : As.lo ext.length 0 sl) (hok : r_ ⟨sl, ext, []⟩ rs) (hr : resRaw ⟨sl, ext, []⟩ rs = some r) (hq : Q (r.re ext.length) ext) : FinK rs Q .ret ⟨sl, ext, loc⟩ :=
  ⟨⟨sl, ext, []⟩, St.le_cut loc (slr sl) hlo rfl trivial, hok, r, hr, by simpa using hq⟩
/-- a call that adds the variables of a term -/
def AddV (t : Tm) : Prop := ∀ (l : List Int) (H : Heap) (i : Nat), H[i]? = some (.grow l.length 1) → l.length + t.sub ≤ 3000000 → ACalls Tryz.prog 71 [.agg (t.row.map .d), .c (.own (.e i) l.length (intRows l))] H
  (fun r H' => H' = H.set i (.grow (t.vars l).length 1) ∧ r = .c (.own (.e i) (t.vars l).length (intRows (t.vars l))))
theorem call_addE {P : Program} {f : FuncId} {args : List A} {sl : List A} {ext loc H₂ : Heap} {i : Nat} {g : Ob} {r : A} {K : A → St → Prop} (hc : ACalls P f args H₂ (fun r' H' => H' = H₂.set i g ∧ r' = r)) (hg : g.fits ext.length 0) (hi : i < ext.length) (hr : A.re ext.length r = r)
    (hf : Obs.fits ext.length 0 ext) (hH : H₂ = ext ++ loc.map (Ob.re ext.length)) (hk : K r ⟨sl, ext.set i g, loc⟩) : ACalls P f args H₂ (CallK K ⟨sl, ext, loc⟩) := by
  subst hH
  refine hc.mono fun r' H' ⟨h1, h2⟩ => ⟨ext.set i g, loc, r, ?_, by simp, Nat.le_refl _, Obs_fits_set hf hg, by rw [h2, hr], hk⟩
  rw [h1, List.set_append_left _ _ hi]
theorem addVars_calls : ∀ t : Tm, t.fits → AddV t := by
  refine Tm.ind fun k n s kids ih hfits l H i hgi hlen => ?_
  obtain ⟨hk, hn, hs, hl, hkids⟩ := hfits
  rw [sub_mk] at hlen
  have hgd : H.getD i .dead = .grow l.length 1 := by simp [List.getD, hgi]
  have hilt : i < H.length := (List.getElem?_eq_some_iff.1 hgi).1
  have hli : inR .i64 (kids.length : Int) := small_i64 (by omega) (by omega)
  refine acallsK Tryz.func71 (by kernel_rfl) ac71_ok fun hf => ?_
  simp -implicitDefEqProofs [ac71, row_mk, hli, go_sem, -List.set_cons_succ, -List.set_cons_zero]
  have hself : H.set i (.grow l.length 1) = H := by
    refine List.ext_getElem? fun j => ?_
    by_cases hj : j = i
    · subst hj; rw [List.getElem?_set_self hilt, hgi]
    · rw [List.getElem?_set_ne (fun h => hj h.symm)]
  refine ⟨fun hk1 => ⟨hk1, ?_⟩, fun hk1 => ?_⟩
  · refine qcall_pure (containsI_calls l (by omega) n) hf rfl ?_
    obtain rfl := hk1
    cases hc : l.contains n with
    | true =>
      simp -implicitDefEqProofs [hc, hli, go_sem, -List.set_cons_succ, -List.set_cons_zero]
      have HL1 : (l).length + Tm.cnt kids ≤ 3000001 := by omega
      have HV1 : varsL kids (if (1 : Int) = 1 then addI l n else l) = varsL kids (l) := by simp [addI]; simp at hc; simp [hc]
      refine loop_set (σ := Nat) (fun j => [(25, .c (.d (.int .i64 j))), (1, .c (.own (.e i) (varsL (kids.take j) (l)).length (intRows (varsL (kids.take j) (l)))))]) (fun j => H.set i (.grow (varsL (kids.take j) (l)).length 1)) (fun _ => [.cells [.d (.int .i64 1), .d (.int .i64 n), .d (.str s), .d (.sl (kids.map Tm.row))]]) (fun j => j ≤ kids.length) (fun j => kids.length - j) 0 (by simp [setAll, varsL_nil, hself, intRows]) (Nat.zero_le _) ?_
      intro j hj
      obtain ⟨W, hW⟩ : ∃ W, W = varsL (kids.take j) l := ⟨_, rfl⟩
      have hWl : W.length ≤ 3000001 := by
        have h1 := varsL_len (kids.take j) (l)
        have h2 := cnt_take_le kids j
        rw [hW]; omega
      have hWH : (H.set i (.grow W.length 1))[i]? = some (.grow W.length 1) := List.getElem?_set_self hilt
      have hfW : Obs.fits (H.set i (.grow W.length 1)).length 0 (H.set i (.grow W.length 1)) := by rw [List.length_set]; exact Obs_fits_set hf trivial
      rw [← hW]
      simp -implicitDefEqProofs [setAll, hli, go_sem, -List.set_cons_succ, -List.set_cons_zero]
      refine ⟨fun hjl => ?_, fun hje => ?_⟩
      · have hadd : inR .i64 ((j : Int) + 1) := small_i64 (by omega) (by omega)
        have hw1 := varsL_succ kids (l) hjl
        rw [← hW] at hw1
        have hs1 := cnt_take_sub kids hjl
        have hWb : W.length + kids[j].sub ≤ 3000000 := by
          have h1 := varsL_len (kids.take j) (l)
          rw [hW]; omega
        refine row_of hjl (row_len _) ?_
        simp -implicitDefEqProofs [row_len, take_row, pure_d, re_d, go_sem, -List.set_cons_succ, -List.set_cons_zero]
        refine ⟨by simpa using hfW, ?_⟩
        refine call_addE (i := i) (ih kids[j] (List.getElem_mem hjl) (hkids _ (List.getElem_mem hjl)) W _ i (by rw [List.getElem?_append_left (by simpa using hilt)]; exact hWH) hWb) trivial (by simpa using hilt) rfl (by simpa using hfW) (by simp [Ob.re, C.re, re_d]) ?_
        simp -implicitDefEqProofs [hadd, go_sem, -List.set_cons_succ, -List.set_cons_zero]
        rw [← hw1]
        refine loop_less (j + 1) (St.le_cut [_] ?_ (by simp [hilt, Sl.le, A.le_refl_iff, A.le_u_iff, As.lo, A.lo, C.lo, Ref.lo, Cs.lo, Obs.lo, Ob.lo, setAll, and_true, true_and, List.length_nil, List.length_cons]) rfl ⟨⟨trivial, trivial, trivial, trivial, trivial⟩, trivial⟩) hjl (by show kids.length - (j + 1) < kids.length - j; omega)
        simp [setAll, Sl.le, A.le_refl_iff, A.le_u_iff, As.lo, A.lo, C.lo, Ref.lo, Cs.lo, Obs.lo, Ob.lo, setAll, and_true, true_and, List.length_nil, List.length_cons]
      · obtain rfl : j = kids.length := by omega
        have hWV : (Tm.mk 1 n s kids).vars l = W := by rw [vars_mk, hW, List.take_length]; exact HV1
        rw [hWV]
        exact finK_cut _ (by simp [hilt, Sl.le, A.le_refl_iff, A.le_u_iff, As.lo, A.lo, C.lo, Ref.lo, Cs.lo, Obs.lo, Ob.lo, setAll, and_true, true_and, List.length_nil, List.length_cons]) ⟨trivial, trivial⟩ rfl ⟨rfl, rfl⟩
    | false =>
      simp -implicitDefEqProofs [hc, hli, hgi, allLen_ints, go_sem, -List.set_cons_succ, -List.set_cons_zero]
      refine ⟨by rw [intRows_len]; unfold maxApp; omega, ?_⟩
      have HL1 : (l ++ [n]).length + Tm.cnt kids ≤ 3000001 := by simp; omega
      have HV1 : varsL kids (if (1 : Int) = 1 then addI l n else l) = varsL kids (l ++ [n]) := by simp [addI]; simp at hc; simp [hc]
      refine loop_set (σ := Nat) (fun j => [(25, .c (.d (.int .i64 j))), (1, .c (.own (.e i) (varsL (kids.take j) (l ++ [n])).length (intRows (varsL (kids.take j) (l ++ [n])))))]) (fun j => H.set i (.grow (varsL (kids.take j) (l ++ [n])).length 1)) (fun _ => [.cells [.d (.int .i64 1), .d (.int .i64 n), .d (.str s), .d (.sl (kids.map Tm.row))]]) (fun j => j ≤ kids.length) (fun j => kids.length - j) 0 (by simp [setAll, varsL_nil, hself, intRows]) (Nat.zero_le _) ?_
      intro j hj
      obtain ⟨W, hW⟩ : ∃ W, W = varsL (kids.take j) (l ++ [n]) := ⟨_, rfl⟩
      have hWl : W.length ≤ 3000001 := by
        have h1 := varsL_len (kids.take j) (l ++ [n])
        have h2 := cnt_take_le kids j
        rw [hW]; omega
      have hWH : (H.set i (.grow W.length 1))[i]? = some (.grow W.length 1) := List.getElem?_set_self hilt
      have hfW : Obs.fits (H.set i (.grow W.length 1)).length 0 (H.set i (.grow W.length 1)) := by rw [List.length_set]; exact Obs_fits_set hf trivial
      rw [← hW]
      simp -implicitDefEqProofs [setAll, hli, go_sem, -List.set_cons_succ, -List.set_cons_zero]
      refine ⟨fun hjl => ?_, fun hje => ?_⟩
      · have hadd : inR .i64 ((j : Int) + 1) := small_i64 (by omega) (by omega)
        have hw1 := varsL_succ kids (l ++ [n]) hjl
        rw [← hW] at hw1
        have hs1 := cnt_take_sub kids hjl
        have hWb : W.length + kids[j].sub ≤ 3000000 := by
          have h1 := varsL_len (kids.take j) (l ++ [n])
          rw [hW]; omega
        refine row_of hjl (row_len _) ?_
        simp -implicitDefEqProofs [row_len, take_row, pure_d, re_d, go_sem, -List.set_cons_succ, -List.set_cons_zero]
        refine ⟨by simpa using hfW, ?_⟩
        refine call_addE (i := i) (ih kids[j] (List.getElem_mem hjl) (hkids _ (List.getElem_mem hjl)) W _ i (by rw [List.getElem?_append_left (by simpa using hilt)]; exact hWH) hWb) trivial (by simpa using hilt) rfl (by simpa using hfW) (by simp [Ob.re, C.re, re_d]) ?_
        simp -implicitDefEqProofs [hadd, go_sem, -List.set_cons_succ, -List.set_cons_zero]
        rw [← hw1]
        refine loop_less (j + 1) (St.le_cut [_] ?_ (by simp [hilt, Sl.le, A.le_refl_iff, A.le_u_iff, As.lo, A.lo, C.lo, Ref.lo, Cs.lo, Obs.lo, Ob.lo, setAll, and_true, true_and, List.length_nil, List.length_cons]) rfl ⟨⟨trivial, trivial, trivial, trivial, trivial⟩, trivial⟩) hjl (by show kids.length - (j + 1) < kids.length - j; omega)
        simp [setAll, Sl.le, A.le_refl_iff, A.le_u_iff, As.lo, A.lo, C.lo, Ref.lo, Cs.lo, Obs.lo, Ob.lo, setAll, and_true, true_and, List.length_nil, List.length_cons]
      · obtain rfl : j = kids.length := by omega
        have hWV : (Tm.mk 1 n s kids).vars l = W := by rw [vars_mk, hW, List.take_length]; exact HV1
        rw [hWV]
        exact finK_cut _ (by simp [hilt, Sl.le, A.le_refl_iff, A.le_u_iff, As.lo, A.lo, C.lo, Ref.lo, Cs.lo, Obs.lo, Ob.lo, setAll, and_true, true_and, List.length_nil, List.length_cons]) ⟨trivial, trivial⟩ rfl ⟨rfl, rfl⟩
  · have HL1 : (l).length + Tm.cnt kids ≤ 3000001 := by omega
    have HV1 : varsL kids (if k = 1 then addI l n else l) = varsL kids (l) := by rw [if_neg hk1]
    refine loop_set (σ := Nat) (fun j => [(25, .c (.d (.int .i64 j))), (1, .c (.own (.e i) (varsL (kids.take j) l).length (intRows (varsL (kids.take j) l))))]) (fun j => H.set i (.grow (varsL (kids.take j) l).length 1)) (fun _ => [.cells [.d (.int .i64 k), .d (.int .i64 n), .d (.str s), .d (.sl (kids.map Tm.row))]]) (fun j => j ≤ kids.length) (fun j => kids.length - j) 0 (by simp [setAll, varsL_nil, hself, intRows]) (Nat.zero_le _) ?_
    intro j hj
    obtain ⟨W, hW⟩ : ∃ W, W = varsL (kids.take j) l := ⟨_, rfl⟩
    have hWl : W.length ≤ 3000001 := by
      have h1 := varsL_len (kids.take j) l
      have h2 := cnt_take_le kids j
      rw [hW]; omega
    have hWH : (H.set i (.grow W.length 1))[i]? = some (.grow W.length 1) := List.getElem?_set_self hilt
    have hfW : Obs.fits (H.set i (.grow W.length 1)).length 0 (H.set i (.grow W.length 1)) := by rw [List.length_set]; exact Obs_fits_set hf trivial
    rw [← hW]
    simp -implicitDefEqProofs [setAll, hli, go_sem, -List.set_cons_succ, -List.set_cons_zero]
    refine ⟨fun hjl => ?_, fun hje => ?_⟩
    · have hadd : inR .i64 ((j : Int) + 1) := small_i64 (by omega) (by omega)
      have hw1 := varsL_succ kids l hjl
      rw [← hW] at hw1
      have hs1 := cnt_take_sub kids hjl
      have hWb : W.length + kids[j].sub ≤ 3000000 := by
        have h1 := varsL_len (kids.take j) l
        rw [hW]; omega
      refine row_of hjl (row_len _) ?_
      simp -implicitDefEqProofs [row_len, take_row, pure_d, re_d, go_sem, -List.set_cons_succ, -List.set_cons_zero]
      refine ⟨by simpa using hfW, ?_⟩
      refine call_addE (i := i) (ih kids[j] (List.getElem_mem hjl) (hkids _ (List.getElem_mem hjl)) W _ i (by rw [List.getElem?_append_left (by simpa using hilt)]; exact hWH) hWb) trivial (by simpa using hilt) rfl (by simpa using hfW) (by simp [Ob.re, C.re, re_d]) ?_
      simp -implicitDefEqProofs [hadd, go_sem, -List.set_cons_succ, -List.set_cons_zero]
      rw [← hw1]
      refine loop_less (j + 1) (St.le_cut [_] ?_ (by simp [hilt, Sl.le, A.le_refl_iff, A.le_u_iff, As.lo, A.lo, C.lo, Ref.lo, Cs.lo, Obs.lo, Ob.lo, setAll, and_true, true_and, List.length_nil, List.length_cons]) rfl ⟨⟨trivial, trivial, trivial, trivial, trivial⟩, trivial⟩) hjl (by show kids.length - (j + 1) < kids.length - j; omega)
      simp [setAll, Sl.le, A.le_refl_iff, A.le_u_iff, As.lo, A.lo, C.lo, Ref.lo, Cs.lo, Obs.lo, Ob.lo, setAll, and_true, true_and, List.length_nil, List.length_cons]
    · obtain rfl : j = kids.length := by omega
      have hWV : (Tm.mk k n s kids).vars l = W := by rw [vars_mk, hW, List.take_length]; exact HV1
      rw [hWV]
      exact finK_cut _ (by simp [hilt, Sl.le, A.le_refl_iff, A.le_u_iff, As.lo, A.lo, C.lo, Ref.lo, Cs.lo, Obs.lo, Ob.lo, setAll, and_true, true_and, List.length_nil, List.length_cons]) ⟨trivial, trivial⟩ rfl ⟨rfl, rfl⟩
end Go.Proofs.YtbblefjbgbocoaaGreatDoor

/-
  QueryVars of the program and of the reference.
  Conditions: none.
-/
open Go Go.AM Go.Proofs
namespace Go.Proofs.YtbblefjbgbocoaaGreatDoor
open Go.ChangeShapes Go.WideShapes Go.ChangeAt Go.RowKit
set_option linter.unusedVariables false
set_option linter.unusedSimpArgs false
set_option maxRecDepth 100000
-- 114 loop.example/prologserver/spec.l1Vars params 2 ntmps 44
-- loop head live: [0,3,5]
-- loop head live: [0,3,6]
def ac114 : Cd := .seq (.region [⟨(some 3),.box (.t 1),none⟩,
 ⟨(some 4),.mv (.k (.c (.full []))),none⟩] [1,4])
 (.seq (.seq (.region [⟨(some 7),.fieldAddr 0 (.t 3),none⟩,
 ⟨(some 8),.load none (.t 7),none⟩,
 ⟨(some 9),.bin .eql (.t 8) (.k (.c (.d (.int .i64 1)))),none⟩] [7,8])
 (.cond (.t 9)
 (.seq (.seq (.region [⟨(some 5),.mv (.k (.c (.d (.int .i64 0)))),none⟩] [9])
 (.block 0 (.loop (.seq (.seq (.region [⟨(some 10),.mv (.t 5),none⟩,
 ⟨(some 11),.mv (.t 0),none⟩,
 ⟨(some 12),.len 1 (.t 11),none⟩,
 ⟨(some 13),.bin .lss (.t 10) (.t 12),none⟩] [10,11,12])
 (.cond (.t 13)
 (.skip)
 (.exit 0)))
 (.seq (.block 1 (.seq (.region [⟨(some 16),.mv (.t 0),none⟩,
 ⟨(some 17),.mv (.t 5),none⟩,
 ⟨(some 18),.indexAddr 1 (.t 16) (.t 17),none⟩,
 ⟨(some 20),.fieldAddr 1 (.t 3),none⟩,
 ⟨(some 19),.load none (.t 18),none⟩,
 ⟨(some 21),.load none (.t 20),none⟩,
 ⟨(some 22),.bin .eql (.t 19) (.t 21),none⟩] [13,16,17,18,19,20,21])
 (.cond (.t 22)
 (.seq (.region [⟨(some 23),.mv (.t 0),none⟩,
 ⟨(some 4),.mv (.t 23),none⟩] [0,3,5,22,23])
 (.ret))
 (.skip))))
 (.region [⟨(some 14),.mv (.t 5),none⟩,
 ⟨(some 15),.bin .add (.t 14) (.k (.c (.d (.int .i64 1)))),none⟩,
 ⟨(some 5),.mv (.t 15),none⟩] [4,14,15,22]))))))
 (.seq (.region [⟨(some 24),.mv (.t 0),none⟩,
 ⟨(some 25),.fieldAddr 1 (.t 3),none⟩,
 ⟨(some 26),.load none (.t 25),none⟩,
 ⟨(some 27),.buildSlice 1 1 [(.int .i64 0)] [(0,(.t 26))],none⟩,
 ⟨(some 28),.append false 1 (.t 24) (.t 27),none⟩,
 ⟨(some 4),.mv (.t 28),none⟩] [0,3,24,25,26,27,28])
 (.ret)))
 (.skip)))
 (.seq (.seq (.region [⟨(some 6),.mv (.k (.c (.d (.int .i64 0)))),none⟩] [4,9])
 (.block 2 (.loop (.seq (.seq (.region [⟨(some 29),.mv (.t 6),none⟩,
 ⟨(some 30),.fieldAddr 3 (.t 3),none⟩,
 ⟨(some 31),.load none (.t 30),none⟩,
 ⟨(some 32),.len 1 (.t 31),none⟩,
 ⟨(some 33),.bin .lss (.t 29) (.t 32),none⟩] [29,30,31,32])
 (.cond (.t 33)
 (.skip)
 (.exit 2)))
 (.seq (.block 3 (.region [⟨(some 36),.mv (.t 0),none⟩,
 ⟨(some 37),.fieldAddr 3 (.t 3),none⟩,
 ⟨(some 38),.load none (.t 37),none⟩,
 ⟨(some 39),.mv (.t 6),none⟩,
 ⟨(some 40),.indexAddr 4 (.t 38) (.t 39),none⟩,
 ⟨(some 41),.load (some 4) (.t 40),none⟩,
 ⟨(some 42),.call true 114 [(.t 36),(.t 41)],none⟩,
 ⟨(some 0),.mv (.t 42),none⟩] [33,36,37,38,39,40,41,42]))
 (.region [⟨(some 34),.mv (.t 6),none⟩,
 ⟨(some 35),.bin .add (.t 34) (.k (.c (.d (.int .i64 1)))),none⟩,
 ⟨(some 6),.mv (.t 35),none⟩] [34,35]))))))
 (.seq (.region [⟨(some 43),.mv (.t 0),none⟩,
 ⟨(some 4),.mv (.t 43),none⟩] [0,43])
 (.ret))))
theorem ac114_ok : cFunc Tryz.prog [114] [(0,[1,4],[]),(1,[7,8],[]),(2,[9],[]),(3,[10,11,12],[]),(5,[13,16,17,18,19,20,21],[0,1,2,4,3,5,6]),(6,[0,3,5,22,23],[]),(4,[4,14,15,22],[]),(7,[0,3,24,25,26,27,28],[]),(8,[4,9],[]),(9,[29,30,31,32],[]),(11,[33,36,37,38,39,40,41,42],[]),(10,[34,35],[]),(12,[0,43],[])] Tryz.f114 = some (ac114,[.tmp 4],44) := by kernel_rfl
-- 67 loop.example/prologserver/spec.l6Vars params 1 ntmps 19
-- loop head live: [0,3,4]
def ac67 : Cd := .seq (.region [⟨(some 2),.mv (.k (.c (.full []))),none⟩] [2])
 (.seq (.region [⟨(some 5),.buildSlice 1 0 [(.int .i64 0)] [],none⟩,
 ⟨(some 3),.mv (.t 5),none⟩] [5])
 (.seq (.seq (.region [⟨(some 4),.mv (.k (.c (.d (.int .i64 0)))),none⟩] [])
 (.block 0 (.loop (.seq (.seq (.region [⟨(some 6),.mv (.t 4),none⟩,
 ⟨(some 7),.mv (.t 0),none⟩,
 ⟨(some 8),.len 1 (.t 7),none⟩,
 ⟨(some 9),.bin .lss (.t 6) (.t 8),none⟩] [6,7,8])
 (.cond (.t 9)
 (.skip)
 (.exit 0)))
 (.seq (.block 1 (.region [⟨(some 12),.mv (.t 3),none⟩,
 ⟨(some 13),.mv (.t 0),none⟩,
 ⟨(some 14),.mv (.t 4),none⟩,
 ⟨(some 15),.indexAddr 4 (.t 13) (.t 14),none⟩,
 ⟨(some 16),.load (some 4) (.t 15),none⟩,
 ⟨(some 17),.call true 114 [(.t 12),(.t 16)],none⟩,
 ⟨(some 3),.mv (.t 17),none⟩] [9,12,13,14,15,16,17]))
 (.region [⟨(some 10),.mv (.t 4),none⟩,
 ⟨(some 11),.bin .add (.t 10) (.k (.c (.d (.int .i64 1)))),none⟩,
 ⟨(some 4),.mv (.t 11),none⟩] [10,11]))))))
 (.seq (.region [⟨(some 18),.mv (.t 3),none⟩,
 ⟨(some 2),.mv (.t 18),none⟩] [3,18])
 (.ret))))
theorem ac67_ok : cFunc Tryz.prog [114] [(0,[2],[]),(1,[5],[]),(2,[],[]),(3,[6,7,8],[]),(5,[9,12,13,14,15,16,17],[]),(4,[10,11],[]),(6,[3,18],[])] Tryz.f67 = some (ac67,[.tmp 2],19) := by kernel_rfl
-- 24 loop.example/prologserver/spec.QueryVars params 1 ntmps 9
def ac24 : Cd := .seq (.region [⟨(some 2),.mv (.k (.c (.full []))),none⟩] [2])
 (.seq (.seq (.region [⟨(some 3),.mv (.t 0),none⟩,
 ⟨(some 4),.qcall 26 [(.t 3)],none⟩,
 ⟨(some 5),.un .not (.t 4),none⟩] [3,4])
 (.cond (.t 5)
 (.seq (.region [⟨(some 6),.buildSlice 1 0 [(.int .i64 0)] [],none⟩,
 ⟨(some 2),.mv (.t 6),none⟩] [0,5,6])
 (.ret))
 (.skip)))
 (.seq (.region [⟨(some 7),.mv (.t 0),none⟩,
 ⟨(some 8),.qcall 67 [(.t 7)],none⟩,
 ⟨(some 2),.mv (.t 8),none⟩] [0,5,7,8])
 (.ret)))
theorem ac24_ok : cFunc Tryz.prog [1000026,1000067] [(0,[2],[]),(1,[3,4],[]),(2,[0,5,6],[]),(3,[0,5,7,8],[])] Tryz.f24 = some (ac24,[.tmp 2],9) := by kernel_rfl
-- 65 loop.example/prologserver/impl.varsOf params 1 ntmps 17
-- loop head live: [3,6,7,8]
def ac65 : Cd := .seq (.region [⟨(some 2),.mv (.k (.c (.full []))),none⟩] [2])
 (.seq (.region [⟨(some 3),.mv (.k (.c (.full []))),none⟩] [])
 (.seq (.seq (.region [⟨(some 6),.mv (.t 0),none⟩,
 ⟨(some 7),.len 1 (.t 6),none⟩,
 ⟨(some 8),.mv (.k (.c (.d (.int .i64 0)))),none⟩] [0])
 (.block 0 (.loop (.seq (.region [⟨(some 9),.bin .lss (.t 8) (.t 7),none⟩] [])
 (.seq (.cond (.t 9)
 (.skip)
 (.exit 0))
 (.seq (.block 1 (.seq (.region [⟨(some 10),.indexAddr 4 (.t 6) (.t 8),none⟩,
 ⟨(some 11),.load (some 4) (.t 10),none⟩,
 ⟨(some 5),.alloc [(.d (.int .i64 0)),(.d (.int .i64 0)),(.d (.str [])),(.full [])],none⟩,
 ⟨none,.store 4 (.t 5) (.t 11),none⟩] [9,10,11])
 (.region [⟨(some 12),.load (some 4) (.t 5),none⟩,
 ⟨(some 13),.mv (.t 3),none⟩,
 ⟨(some 14),.call true 71 [(.t 12),(.t 13)],none⟩,
 ⟨(some 3),.mv (.t 14),none⟩] [5,12,13,14])))
 (.region [⟨(some 15),.bin .add (.t 8) (.k (.c (.d (.int .i64 1)))),none⟩,
 ⟨(some 8),.mv (.t 15),none⟩] [15])))))))
 (.seq (.region [⟨(some 16),.mv (.t 3),none⟩,
 ⟨(some 2),.mv (.t 16),none⟩] [3,16])
 (.ret))))
theorem ac65_ok : cFunc Tryz.prog [71] [(0,[2],[]),(1,[],[]),(2,[0],[]),(3,[],[]),(4,[9,10,11],[]),(5,[5,12,13,14],[]),(6,[15],[]),(7,[3,16],[])] Tryz.f65 = some (ac65,[.tmp 2],17) := by kernel_rfl
theorem call_addL {P : Program} {f : FuncId} {args : List A} {sl : List A} {ext loc H₂ : Heap} {j : Nat} {g : Ob} {r r0 : A} {K : A → St → Prop} (hc : ACalls P f args H₂ (fun r' H' => H' = H₂.set (ext.length + j) g ∧ r' = r0)) (hg : Ob.re ext.length g = g) (hr : r0 = A.re ext.length r)
    (hf : Obs.fits ext.length 0 ext) (hH : H₂ = ext ++ loc.map (Ob.re ext.length)) (hk : K r ⟨sl, ext, loc.set j g⟩) : ACalls P f args H₂ (CallK K ⟨sl, ext, loc⟩) := by
  subst hH
  refine hc.mono fun r' H' ⟨h1, h2⟩ => ⟨ext, loc.set j g, r, ?_, rfl, by simp, hf, by rw [h2, hr], hk⟩
  rw [h1, List.set_append_right _ _ (by omega), Nat.add_sub_cancel_left, List.map_set, hg]
theorem varsOf_calls (l : List Tm) (hl : l.length ≤ 1048576) (h : ∀ t ∈ l, t.fits) (hc : Tm.cnt l ≤ 3000000) (H : Heap) : ACalls Tryz.prog 65 [.c (.d (.sl (l.map Tm.row)))] H
    (fun r H' => H' = H ++ [.grow (varsL l []).length 1] ∧ r = .c (.own (.e H.length) (varsL l []).length (intRows (varsL l [])))) := by
  have hli : inR .i64 (l.length : Int) := small_i64 (by omega) (by omega)
  refine acallsK Tryz.func65 (by kernel_rfl) ac65_ok fun hf => ?_
  simp -implicitDefEqProofs [ac65, hli, go_sem, -List.set_cons_succ, -List.set_cons_zero]
  refine loop_enter (St.le_token 3 1 rfl) ?_
  refine loop_set (σ := Nat) (fun j => [(8, .c (.d (.int .i64 j))), (3, .c (.own (.l 0) (varsL (l.take j) []).length (intRows (varsL (l.take j) []))))]) (fun _ => H) (fun j => [.grow (varsL (l.take j) []).length 1]) (fun j => j ≤ l.length) (fun j => l.length - j) 0 (by simp [setAll, varsL_nil, intRows]) (Nat.zero_le _) ?_
  intro j hj
  obtain ⟨W, hW⟩ : ∃ W, W = varsL (l.take j) [] := ⟨_, rfl⟩
  have hWl : W.length ≤ Tm.cnt (l.take j) := by
    have h1 := varsL_len (l.take j) []
    rw [hW]; simpa using h1
  rw [← hW]
  simp -implicitDefEqProofs [setAll, hli, go_sem, -List.set_cons_succ, -List.set_cons_zero]
  refine ⟨fun hjl => ?_, fun hje => ?_⟩
  · have hadd : inR .i64 ((j : Int) + 1) := small_i64 (by omega) (by omega)
    have hw1 := varsL_succ l [] hjl
    rw [← hW] at hw1
    have hs1 := cnt_take_sub l hjl
    refine row_of hjl (row_len _) ?_
    simp -implicitDefEqProofs [row_len, take_row, pure_d, re_d, hf, go_sem, -List.set_cons_succ, -List.set_cons_zero]
    refine call_addL (j := 0) (r := .c (.own (.l 0) (l[j].vars W).length (intRows (l[j].vars W)))) (addVars_calls l[j] (h _ (List.getElem_mem hjl)) W _ (H.length + 0) (by simp) (by omega)) rfl rfl hf (by simp [Ob.re, C.re, re_d]) ?_
    simp -implicitDefEqProofs [hadd, go_sem, -List.set_cons_succ, -List.set_cons_zero]
    rw [← hw1]
    refine loop_less (j + 1) (St.le_cut [_] ?_ (by simp [Sl.le, A.le_refl_iff, A.le_u_iff, As.lo, A.lo, C.lo, Ref.lo, Cs.lo, Obs.lo, Ob.lo, setAll, and_true, true_and, List.length_nil, List.length_cons]) rfl ⟨trivial, trivial⟩) hjl (by show l.length - (j + 1) < l.length - j; omega)
    simp [setAll, Sl.le, A.le_refl_iff, A.le_u_iff, As.lo, A.lo, C.lo, Ref.lo, Cs.lo, Obs.lo, Ob.lo, setAll, and_true, true_and, List.length_nil, List.length_cons]
  · obtain rfl : j = l.length := by omega
    rw [List.take_length] at hW
    rw [← hW]
    exact finK_ret _ ⟨trivial, trivial⟩ rfl ⟨rfl, rfl⟩
theorem sl_kill : ∀ (l : List A) (i : Nat), Sl.le l (l.set i .u)
  | [], _ => trivial
  | a :: l, 0 => ⟨.u a, slr l⟩
  | a :: l, i + 1 => ⟨.refl a, sl_kill l i⟩
theorem finK_kill {rs : List Rv} {Q : A → Heap → Prop} {sl : List A} {ext loc : Heap} (i : Nat) (r : A) (hlo : As.lo ext.length 0 (sl.set i .u)) (hok : r_ ⟨sl.set i .u, ext, []⟩ rs) (hr : resRaw ⟨sl.set i .u, ext, []⟩ rs = some r) (hq : Q (r.re ext.length) ext) : FinK rs Q .ret ⟨sl, ext, loc⟩ :=
  ⟨⟨sl.set i .u, ext, []⟩, St.le_cut loc (sl_kill sl i) hlo rfl trivial, hok, r, hr, by simpa using hq⟩
/-- a term whose variables have nothing below them -/
inductive Tm.clean : Tm → Prop
  | mk {k n : Int} {s : List UInt8} {l : List Tm} : (k = 1 → l = []) → (∀ t ∈ l, t.clean) → (Tm.mk k n s l).clean
theorem shape_clean : ∀ t : Tm, ∀ d, t.shape d = true → t.clean := by
  refine Tm.ind fun k n s l ih d h => ?_
  simp only [Tm.shape, Bool.and_eq_true] at h
  refine .mk (fun hk => own_leaf (by omega) h.2.1) ?_
  have hL : ∀ (l : List Tm), (∀ t ∈ l, ∀ d, t.shape d = true → t.clean) → shapes (d - 1) l = true → ∀ t ∈ l, t.clean := by
    intro l
    induction l with
    | nil => intro _ _ t ht; cases ht
    | cons x l ih2 =>
      intro h1 h2 t ht
      simp only [shapes, Bool.and_eq_true] at h2
      rcases List.mem_cons.1 ht with rfl | ht
      · exact h1 _ (by simp) _ h2.1
      · exact ih2 (fun t ht => h1 t (by simp [ht])) h2.2 t ht
  exact hL l ih h.2.2
def AddS (t : Tm) : Prop := ∀ (l : List Int) (H : Heap) (i : Nat), H[i]? = some (.grow l.length 1) → l.length + t.sub ≤ 3000000 → ACalls Tryz.prog 114 [.c (.own (.e i) l.length (intRows l)), .agg (t.row.map .d)] H
  (fun r H' => H' = H.set i (.grow (t.vars l).length 1) ∧ r = .c (.own (.e i) (t.vars l).length (intRows (t.vars l))))
theorem l1Vars_calls : ∀ t : Tm, t.fits → t.clean → AddS t := by
  refine Tm.ind fun k n s kids ih hfits hclean l H i hgi hlen => ?_
  obtain ⟨hk, hn, hs, hl, hkids⟩ := hfits
  obtain ⟨hck, hckids⟩ := hclean
  rw [sub_mk] at hlen
  have hilt : i < H.length := (List.getElem?_eq_some_iff.1 hgi).1
  have hli : inR .i64 (kids.length : Int) := small_i64 (by omega) (by omega)
  have hll : inR .i64 (l.length : Int) := small_i64 (by omega) (by omega)
  have hself : H.set i (.grow l.length 1) = H := by
    refine List.ext_getElem? fun j => ?_
    by_cases hj : j = i
    · subst hj; rw [List.getElem?_set_self hilt, hgi]
    · rw [List.getElem?_set_ne (fun h => hj h.symm)]
  refine acallsK Tryz.func114 (by kernel_rfl) ac114_ok fun hf => ?_
  simp -implicitDefEqProofs [ac114, row_mk, hli, go_sem, -List.set_cons_succ, -List.set_cons_zero]
  refine ⟨fun hk1 => ?_, fun hk1 => ?_⟩
  · obtain rfl := hk1
    obtain rfl := hck rfl
    have hv : (Tm.mk 1 n s []).vars l = addI l n := by rw [vars_mk, if_pos rfl, varsL_nil]
    rw [hv]
    refine loop_set (σ := Nat) (fun j => [(5, .c (.d (.int .i64 j)))]) (fun _ => H) (fun _ => [.cells [.d (.int .i64 1), .d (.int .i64 n), .d (.str s), .d (.sl [])]]) (fun j => j ≤ l.length ∧ n ∉ l.take j) (fun j => l.length - j) 0 (by simp [setAll]) ⟨Nat.zero_le _, by simp⟩ ?_
    rintro j ⟨hj, hno⟩
    simp -implicitDefEqProofs [setAll, hll, intRows_len, go_sem, -List.set_cons_succ, -List.set_cons_zero]
    refine ⟨fun hjl => ?_, fun hje => ?_⟩
    · have hadd : inR .i64 ((j : Int) + 1) := small_i64 (by omega) (by omega)
      refine row_nat [.int .i64 l[j]] (by simp [intRows, hjl]) rfl ?_
      simp -implicitDefEqProofs [hadd, go_sem, -List.set_cons_succ, -List.set_cons_zero]
      refine ⟨fun he => ?_, fun he => ?_⟩
      · have : addI l n = l := by rw [addI, if_pos]; subst he; simp
        rw [this]
        exact finK_cut _ (by simp [hilt, Sl.le, A.le_refl_iff, A.le_u_iff, As.lo, A.lo, C.lo, Ref.lo, Cs.lo, Obs.lo, Ob.lo, setAll, and_true, true_and, List.length_nil, List.length_cons]) ⟨trivial, trivial⟩ rfl ⟨hself.symm, rfl⟩
      · refine loop_back (j + 1) (by simp [setAll]) ⟨hjl, ?_⟩ (by show l.length - (j + 1) < l.length - j; omega)
        rw [List.take_succ_eq_append_getElem hjl, List.mem_append]
        rintro (h' | h')
        · exact hno h'
        · simp at h'; exact he h'.symm
    · rw [List.take_of_length_le hje] at hno
      have : addI l n = l ++ [n] := by rw [addI, if_neg]; simpa using hno
      rw [this]
      simp -implicitDefEqProofs [hgi, allLen_ints, go_sem, -List.set_cons_succ, -List.set_cons_zero]
      refine ⟨by have := intRows_len l; unfold maxApp; omega, ?_⟩
      exact finK_cut _ (by simp [hilt, Sl.le, A.le_refl_iff, A.le_u_iff, As.lo, A.lo, C.lo, Ref.lo, Cs.lo, Obs.lo, Ob.lo, setAll, and_true, true_and, List.length_nil, List.length_cons]) ⟨trivial, trivial⟩ rfl ⟨by simp, by simp [intRows, A.re, C.re, Ref.re, A.val]⟩
  · have hv : (Tm.mk k n s kids).vars l = varsL kids l := by rw [vars_mk, if_neg hk1]
    rw [hv]
    refine loop_set (σ := Nat) (fun j => [(6, .c (.d (.int .i64 j))), (0, .c (.own (.e i) (varsL (kids.take j) l).length (intRows (varsL (kids.take j) l))))]) (fun j => H.set i (.grow (varsL (kids.take j) l).length 1)) (fun _ => [.cells [.d (.int .i64 k), .d (.int .i64 n), .d (.str s), .d (.sl (kids.map Tm.row))]]) (fun j => j ≤ kids.length) (fun j => kids.length - j) 0 (by simp [setAll, varsL_nil, hself, intRows]) (Nat.zero_le _) ?_
    intro j hj
    obtain ⟨W, hW⟩ : ∃ W, W = varsL (kids.take j) l := ⟨_, rfl⟩
    have hWH : (H.set i (.grow W.length 1))[i]? = some (.grow W.length 1) := List.getElem?_set_self hilt
    have hfW : Obs.fits (H.set i (.grow W.length 1)).length 0 (H.set i (.grow W.length 1)) := by rw [List.length_set]; exact Obs_fits_set hf trivial
    rw [← hW]
    simp -implicitDefEqProofs [setAll, hli, go_sem, -List.set_cons_succ, -List.set_cons_zero]
    refine ⟨fun hjl => ?_, fun hje => ?_⟩
    · have hadd : inR .i64 ((j : Int) + 1) := small_i64 (by omega) (by omega)
      have hw1 := varsL_succ kids l hjl
      rw [← hW] at hw1
      have hs1 := cnt_take_sub kids hjl
      have hWb : W.length + kids[j].sub ≤ 3000000 := by
        have h1 := varsL_len (kids.take j) l
        rw [hW]; omega
      refine row_of hjl (row_len _) ?_
      simp -implicitDefEqProofs [row_len, take_row, pure_d, re_d, go_sem, -List.set_cons_succ, -List.set_cons_zero]
      refine call_addE (i := i) (ih kids[j] (List.getElem_mem hjl) (hkids _ (List.getElem_mem hjl)) (hckids _ (List.getElem_mem hjl)) W _ i (by rw [List.getElem?_append_left (by simpa using hilt)]; exact hWH) hWb) trivial (by simpa using hilt) rfl (by simpa using hfW) (by simp [Ob.re, C.re, re_d]) ?_
      simp -implicitDefEqProofs [hadd, go_sem, -List.set_cons_succ, -List.set_cons_zero]
      rw [← hw1]
      exact loop_back (j + 1) (by simp [setAll]) hjl (by show kids.length - (j + 1) < kids.length - j; omega)
    · obtain rfl : j = kids.length := by omega
      have hWV : varsL kids l = W := by rw [hW, List.take_length]
      rw [hWV]
      exact finK_kill 3 _ (by simp [hilt, Sl.le, A.le_refl_iff, A.le_u_iff, As.lo, A.lo, C.lo, Ref.lo, Cs.lo, Obs.lo, Ob.lo, setAll, and_true, true_and, List.length_nil, List.length_cons]) ⟨trivial, trivial⟩ rfl ⟨rfl, rfl⟩
end Go.Proofs.YtbblefjbgbocoaaGreatDoor
