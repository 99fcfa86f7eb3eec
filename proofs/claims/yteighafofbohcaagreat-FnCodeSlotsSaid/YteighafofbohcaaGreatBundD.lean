/-
  Contracts of functions that the law reaches, and plain lemmas: several texts in one.
  Conditions: none.
-/
import Derived.Test.YteighafofbohcaaGreatBundC
import Derived.Test.YteighafofbohcaaGreatBundA
import Derived.Test.YteighafofbohcaaGreatAbsN
import Derived.Test.YteighafofbohcaaGreatBundB
open Go Go.AM Go.Proofs
attribute [local go_sem] kw ew sw tw a_ b_ c_ A.ok A.val d_ e_ f_ g_ h_ i_ j_ k_ l_ m_ unA unD n_ AOp.total o_ p_ q_ r_ s_ t_ u_ v_ A.thaw C.thaw A.fits As.fits C.fits evs oks w_ A.pure C.pure A.re C.re x_ y_ cut A.cells C.rows? z_ A_ B_ C_ D_ Ob.re Cs.fits E_ F_ G_ H_ I_ J_ K_ L_ M_ N_ O_ C.toD P_ Q_ R_ S_ T_ Obs.fits U_ eqD V_ W_ X_ Y_ Z_
/-
  Heads as the program makes them.
  Conditions: none.
-/
open Go Go.AM Go.Proofs
namespace Go.Proofs.YteighafofbohcaaGreat
open Go.ChangeShapes Go.WideShapes Go.ChangeAt Go.RowKit
set_option linter.unusedVariables false
set_option linter.unusedSimpArgs false
set_option maxRecDepth 100000
theorem new_calls (H : Heap) : ACalls Tryz.prog 27 [] H (fun r H' => r = .c (.ptr (.e (H.length + 1)) 0) ∧ H' = H ++ [.map [], .cells [.map (.e H.length), .d (.int .i64 4), .own (.e (H.length + 2)) 0 []], .grow 0 4]) := by
  refine acallsK Tryz.func27 (by kernel_rfl) ac27_ok fun hf => ?_
  simp -implicitDefEqProofs [ac27, go_sem, -List.set_cons_succ, -List.set_cons_zero]
  exact ⟨_, St.le_tokenC 1 2 4 rfl rfl, ⟨trivial, trivial⟩, _, rfl, by simp [A.re, C.re, Ref.re, A.val], by simp [Ob.re, C.re, Ref.re]⟩
-- 28 (*loop.example/prologserver/impl.coding).head params 2 ntmps 109
-- loop head live: [0,4,13,14,15]
-- loop head live: [0,4]
-- loop head live: [0,4,84,85,86]
def ac28 : Cd := .seq (.region [⟨(some 4),.mv (.k (.c (.full []))),none⟩] [])
 (.seq (.seq (.region [⟨(some 13),.mv (.t 1),none⟩,
 ⟨(some 14),.len 1 (.t 13),none⟩,
 ⟨(some 15),.mv (.k (.c (.d (.int .i64 0)))),none⟩] [1])
 (.block 0 (.loop (.seq (.region [⟨(some 16),.bin .lss (.t 15) (.t 14),none⟩] [])
 (.seq (.cond (.t 16)
 (.skip)
 (.exit 0))
 (.seq (.block 1 (.seq (.region [⟨(some 17),.mv (.t 15),none⟩,
 ⟨(some 18),.indexAddr 4 (.t 13) (.t 15),none⟩,
 ⟨(some 19),.load (some 4) (.t 18),none⟩,
 ⟨(some 6),.alloc [(.d (.int .i64 0)),(.d (.int .i64 0)),(.d (.str [])),(.full [])],none⟩,
 ⟨(some 5),.mv (.t 17),none⟩,
 ⟨none,.store 4 (.t 6) (.t 19),none⟩] [16,17,18,19])
 (.seq (.region [⟨(some 20),.fieldAddr 0 (.t 6),none⟩,
 ⟨(some 21),.load none (.t 20),none⟩] [20])
 (.block 2 (.seq (.region [⟨(some 29),.bin .eql (.t 21) (.k (.c (.d (.int .i64 2)))),none⟩,
 ⟨(some 28),.mv (.t 29),none⟩] [29])
 (.cond (.t 28)
 (.region [⟨(some 30),.mv (.t 0),none⟩,
 ⟨(some 31),.fieldAddr 1 (.t 6),none⟩,
 ⟨(some 32),.load none (.t 31),none⟩,
 ⟨(some 33),.mv (.t 5),none⟩,
 ⟨(some 34),.build [(.d (.int .i64 0)),(.d (.int .i64 0)),(.d (.int .i64 0)),(.d (.str []))] [(0,1,(.k (.c (.d (.int .i64 2))))),(1,1,(.t 32)),(2,1,(.t 33))],none⟩,
 ⟨(some 35),.call false 54 [(.t 30),(.t 34)],none⟩] [5,6,21,28,30,31,32,33,34,35])
 (.seq (.region [⟨(some 37),.bin .eql (.t 21) (.k (.c (.d (.int .i64 1)))),none⟩,
 ⟨(some 36),.mv (.t 37),none⟩] [21,28,37])
 (.cond (.t 36)
 (.seq (.region [⟨(some 39),.mv (.t 0),none⟩,
 ⟨(some 40),.nilCheck (.t 39),none⟩,
 ⟨(some 41),.fieldAddr 0 (.t 40),none⟩,
 ⟨(some 43),.fieldAddr 1 (.t 6),none⟩,
 ⟨(some 42),.load none (.t 41),none⟩,
 ⟨(some 44),.load none (.t 43),none⟩,
 ⟨(some 45),.mapGet none [(.int .i64 0)] true (.t 42) (.t 44),none⟩,
 ⟨(some 38),.mv (.t 45),none⟩,
 ⟨(some 46),.extract 0 (.t 38),none⟩,
 ⟨(some 47),.extract 1 (.t 38),none⟩,
 ⟨(some 7),.mv (.t 46),none⟩,
 ⟨(some 8),.mv (.t 47),none⟩] [36,38,39,40,41,42,43,44,45,46,47])
 (.seq (.region [⟨(some 48),.mv (.t 8),none⟩] [8])
 (.cond (.t 48)
 (.region [⟨(some 49),.mv (.t 0),none⟩,
 ⟨(some 50),.mv (.t 7),none⟩,
 ⟨(some 51),.mv (.t 5),none⟩,
 ⟨(some 52),.build [(.d (.int .i64 0)),(.d (.int .i64 0)),(.d (.int .i64 0)),(.d (.str []))] [(0,1,(.k (.c (.d (.int .i64 1))))),(1,1,(.t 50)),(2,1,(.t 51))],none⟩,
 ⟨(some 53),.call false 54 [(.t 49),(.t 52)],none⟩] [5,6,7,48,49,50,51,52,53])
 (.region [⟨(some 54),.mv (.t 0),none⟩,
 ⟨(some 55),.nilCheck (.t 54),none⟩,
 ⟨(some 56),.fieldAddr 0 (.t 55),none⟩,
 ⟨(some 58),.fieldAddr 1 (.t 6),none⟩,
 ⟨(some 60),.mv (.t 5),none⟩,
 ⟨(some 57),.load none (.t 56),none⟩,
 ⟨(some 59),.load none (.t 58),none⟩,
 ⟨none,.mapSet (.t 57) (.t 59) (.t 60),none⟩] [5,6,7,48,54,55,56,57,58,59,60]))))
 (.region [⟨(some 22),.mv (.t 4),none⟩,
 ⟨(some 23),.load (some 4) (.t 6),none⟩,
 ⟨(some 24),.mv (.t 5),none⟩,
 ⟨(some 25),.build [(.d (.int .i64 0)),(.d (.int .i64 0)),(.d (.str [])),(.full []),(.d (.int .i64 0))] [(0,4,(.t 23)),(4,1,(.t 24))],none⟩,
 ⟨(some 26),.buildSlice 5 1 [(.int .i64 0),(.int .i64 0),(.str []),(.sl []),(.int .i64 0)] [(0,(.t 25))],none⟩,
 ⟨(some 27),.append false 5 (.t 22) (.t 26),none⟩,
 ⟨(some 4),.mv (.t 27),none⟩] [5,6,22,23,24,25,26,27,36])))))))))
 (.region [⟨(some 61),.bin .add (.t 15) (.k (.c (.d (.int .i64 1)))),none⟩,
 ⟨(some 15),.mv (.t 61),none⟩] [61])))))))
 (.block 3 (.loop (.seq (.seq (.region [⟨(some 62),.mv (.t 4),none⟩,
 ⟨(some 63),.len 1 (.t 62),none⟩,
 ⟨(some 64),.bin .gtr (.t 63) (.k (.c (.d (.int .i64 0)))),none⟩] [62,63])
 (.cond (.t 64)
 (.skip)
 (.exit 3)))
 (.block 4 (.seq (.region [⟨(some 65),.mv (.t 4),none⟩,
 ⟨(some 66),.indexAddr 5 (.t 65) (.k (.c (.d (.int .i64 0)))),none⟩,
 ⟨(some 67),.load (some 5) (.t 66),none⟩,
 ⟨(some 9),.alloc [(.d (.int .i64 0)),(.d (.int .i64 0)),(.d (.str [])),(.full []),(.d (.int .i64 0))],none⟩,
 ⟨none,.store 5 (.t 9) (.t 67),none⟩] [64,65,66,67])
 (.seq (.region [⟨(some 68),.mv (.t 4),none⟩,
 ⟨(some 69),.slice 5 (.t 68) (some (.k (.c (.d (.int .i64 1))))) none none,none⟩,
 ⟨(some 4),.mv (.t 69),none⟩] [68,69])
 (.seq (.region [⟨(some 70),.mv (.t 0),none⟩,
 ⟨(some 71),.fieldAddr 0 (.t 9),none⟩,
 ⟨(some 72),.fieldAddr 3 (.t 71),none⟩,
 ⟨(some 73),.load none (.t 72),none⟩,
 ⟨(some 74),.len 1 (.t 73),none⟩,
 ⟨(some 75),.fieldAddr 4 (.t 9),none⟩,
 ⟨(some 76),.load none (.t 75),none⟩,
 ⟨(some 77),.fieldAddr 0 (.t 9),none⟩,
 ⟨(some 78),.fieldAddr 2 (.t 77),none⟩,
 ⟨(some 79),.load none (.t 78),none⟩,
 ⟨(some 80),.build [(.d (.int .i64 0)),(.d (.int .i64 0)),(.d (.int .i64 0)),(.d (.str []))] [(0,1,(.k (.c (.d (.int .i64 3))))),(1,1,(.t 74)),(2,1,(.t 76)),(3,1,(.t 79))],none⟩,
 ⟨(some 81),.call false 54 [(.t 70),(.t 80)],none⟩] [70,71,72,73,74,75,76,77,78,79,80,81])
 (.seq (.region [⟨(some 82),.fieldAddr 0 (.t 9),none⟩,
 ⟨(some 83),.fieldAddr 3 (.t 82),none⟩,
 ⟨(some 84),.load none (.t 83),none⟩,
 ⟨(some 85),.len 1 (.t 84),none⟩,
 ⟨(some 86),.mv (.k (.c (.d (.int .i64 0)))),none⟩] [9,82,83])
 (.block 5 (.loop (.seq (.region [⟨(some 87),.bin .lss (.t 86) (.t 85),none⟩] [])
 (.seq (.cond (.t 87)
 (.skip)
 (.exit 5))
 (.seq (.block 6 (.seq (.region [⟨(some 88),.indexAddr 4 (.t 84) (.t 86),none⟩,
 ⟨(some 89),.load (some 4) (.t 88),none⟩,
 ⟨(some 11),.alloc [(.d (.int .i64 0)),(.d (.int .i64 0)),(.d (.str [])),(.full [])],none⟩,
 ⟨none,.store 4 (.t 11) (.t 89),none⟩] [87,88,89])
 (.seq (.seq (.region [⟨(some 90),.fieldAddr 0 (.t 11),none⟩,
 ⟨(some 91),.load none (.t 90),none⟩,
 ⟨(some 92),.bin .neq (.t 91) (.k (.c (.d (.int .i64 3)))),none⟩] [90,91])
 (.cond (.t 92)
 (.seq (.region [⟨(some 93),.mv (.t 0),none⟩,
 ⟨(some 94),.load (some 4) (.t 11),none⟩,
 ⟨(some 95),.call false 55 [(.t 93),(.t 94)],none⟩] [11,92,93,94,95])
 (.exit 6))
 (.skip)))
 (.seq (.region [⟨(some 96),.mv (.t 0),none⟩,
 ⟨(some 97),.call false 56 [(.t 96)],none⟩,
 ⟨(some 12),.mv (.t 97),none⟩] [92,96,97])
 (.seq (.region [⟨(some 98),.mv (.t 0),none⟩,
 ⟨(some 99),.mv (.t 12),none⟩,
 ⟨(some 100),.build [(.d (.int .i64 0)),(.d (.int .i64 0)),(.d (.int .i64 0)),(.d (.str []))] [(0,1,(.k (.c (.d (.int .i64 4))))),(1,1,(.t 99))],none⟩,
 ⟨(some 101),.call false 54 [(.t 98),(.t 100)],none⟩] [98,99,100,101])
 (.region [⟨(some 102),.mv (.t 4),none⟩,
 ⟨(some 103),.load (some 4) (.t 11),none⟩,
 ⟨(some 104),.mv (.t 12),none⟩,
 ⟨(some 105),.build [(.d (.int .i64 0)),(.d (.int .i64 0)),(.d (.str [])),(.full []),(.d (.int .i64 0))] [(0,4,(.t 103)),(4,1,(.t 104))],none⟩,
 ⟨(some 106),.buildSlice 5 1 [(.int .i64 0),(.int .i64 0),(.str []),(.sl []),(.int .i64 0)] [(0,(.t 105))],none⟩,
 ⟨(some 107),.append false 5 (.t 102) (.t 106),none⟩,
 ⟨(some 4),.mv (.t 107),none⟩] [11,12,102,103,104,105,106,107]))))))
 (.region [⟨(some 108),.bin .add (.t 86) (.k (.c (.d (.int .i64 1)))),none⟩,
 ⟨(some 86),.mv (.t 108),none⟩] [108])))))))))))))))
theorem ac28_ok : cFunc Tryz.prog [] [(0,[],[]),(1,[1],[]),(2,[],[]),(3,[16,17,18,19],[]),(4,[20],[]),(6,[29],[]),(7,[5,6,21,28,30,31,32,33,34,35],[]),(8,[21,28,37],[]),(9,[36,38,39,40,41,42,43,44,45,46,47],[0,1,2,4,3,5,6,7,8,9,10,11]),(10,[8],[]),(11,[5,6,7,48,49,50,51,52,53],[]),(12,[5,6,7,48,54,55,56,57,58,59,60],[0,1,2,4,6,3,5,7]),(5,[5,6,22,23,24,25,26,27,36],[]),(13,[61],[]),(14,[62,63],[]),(15,[64,65,66,67],[]),(16,[68,69],[]),(17,[70,71,72,73,74,75,76,77,78,79,80,81],[]),(18,[9,82,83],[]),(19,[],[]),(20,[87,88,89],[]),(21,[90,91],[]),(22,[11,92,93,94,95],[]),(23,[92,96,97],[]),(24,[98,99,100,101],[]),(25,[11,12,102,103,104,105,106,107],[]),(26,[108],[])] Tryz.f28 = some (ac28,[],109) := by kernel_rfl
theorem take_partR (p : Tm × Nat) : List.take 5 ((partR p).map C.d) = (partR p).map C.d := List.take_of_length_le (by simp [partR_len])
theorem head_makes (l : List Tm) (hl : l.length ≤ 4) (hz : sizes l ≤ 1000) (hg : ∀ t ∈ l, t.good) (M : Mk) (B : Nat) (hB4 : 4 ≤ B) (hB : B ≤ 10000) (hM : M.fit B) : Makes 28 [.c (.d (.sl (l.map Tm.row)))] M (headT l M) (.tup []) := fun H i hi => by
  refine acalls Tryz.func28 (by kernel_rfl) ac28_ok fun hf => ?_
  rw [cd_len] at hf
  have hf1 := fun M' => cd_fits (M' := M') hf hi
  have hli : inR .i64 (l.length : Int) := small_i64 (by omega) (by omega)
  simp -implicitDefEqProofs [ac28, hli, go_sem, -List.set_cons_succ, -List.set_cons_zero]
  refine loop_enter (St.le_token 4 5 rfl) ?_
  obtain ⟨F, hF⟩ : ∃ F, F = headA l 0 M := ⟨_, rfl⟩
  have hFT : headT l M = headQ (qsize F.2) F.2 F.1 := by rw [hF]; rfl
  rw [hFT]
  have hFf := headA_fit l 0 M B hM (by omega)
  rw [← hF] at hFf
  refine loop_set (σ := Nat × Mk × List (Tm × Nat)) (fun x => [(15, .c (.d (.int .i64 x.1))), (4, .c (.own (.l 0) x.2.2.length (x.2.2.map partR)))]) (fun x => cd H i x.2.1)
    (fun x => [.grow x.2.2.length 5])
    (fun x => x.1 ≤ l.length ∧ x.2.1.fit (B + x.1) ∧ F.1 = (headA (l.drop x.1) x.1 x.2.1).1 ∧ F.2 = x.2.2 ++ (headA (l.drop x.1) x.1 x.2.1).2 ∧ x.2.2.length ≤ x.1) (fun x => l.length - x.1) (0, M, []) (by simp [setAll]) ⟨Nat.zero_le _, hM.mono (by omega), by simp [hF], by simp [hF], by simp⟩ ?_
  rintro ⟨j, N, left⟩ ⟨hj, hN, h1, h2, h3⟩
  simp only at hj hN h1 h2 h3
  simp -implicitDefEqProofs [setAll, hli, go_sem, -List.set_cons_succ, -List.set_cons_zero]
  refine ⟨fun hlt => ?_, fun hge => ?_⟩
  · have hadd : inR .i64 ((j : Int) + 1) := small_i64 (by omega) (by omega)
    have hnx := hN.next
    have hcd := hN.code
    have hal := hN.all
    have hgt := hg l[j] (List.getElem_mem hlt)
    have hd : l.drop j = l[j] :: l.drop (j + 1) := List.drop_eq_getElem_cons hlt
    rw [hd, headA] at h1 h2
    have hrow : (l.map Tm.row)[j]? = some l[j].row := by simp [hlt]
    have hvs := var_slot hgt
    obtain ⟨t, ht⟩ : ∃ t, t = l[j] := ⟨_, rfl⟩
    rw [← ht] at hgt h1 h2 hrow hvs
    clear ht
    obtain ⟨k, n, s, kids⟩ := t
    refine row_nat _ hrow rfl ?_
    cases hgt with
    | mk ho hk =>
      rcases own_cases ho with ⟨rfl, n0, n1, rfl, rfl⟩ | ⟨rfl, n0, n1, rfl, rfl⟩ | ⟨rfl, rfl, hs2, hl4⟩
      · obtain ⟨v, hv, hv26⟩ := hvs rfl
        simp only [Tm.n] at hv
        subst hv
        simp [Tm.k, Tm.n] at h1 h2
        cases hsv : slotO N.sl v with
        | some u =>
          simp only [hsv] at h1 h2
          simp -implicitDefEqProofs [row_mk, cd_0 N hi, cd_1 N hi, cd_2 N hi, cd_len, Ref.re, hf1, slotsM_row, hsv, go_sem, -List.set_cons_succ, -List.set_cons_zero]
          refine call_mk (add_makes N 1 u j [] (by omega) hal) hi (by simp [Ob.re, C.re]) rfl (hf1 _) ?_
          simp -implicitDefEqProofs [hadd, cd_len, go_sem, -List.set_cons_succ, -List.set_cons_zero]
          refine loop_less (j + 1, N.emit 1 u j [], left) (St.le_cut [_] ?_ (by simp [cd_len, Sl.le, A.le_refl_iff, A.le_u_iff, As.lo, A.lo, C.lo, Ref.lo, Cs.lo, Obs.lo, Ob.lo, setAll, and_true, true_and, List.length_nil, List.length_cons]; omega) rfl (by simp [Sl.le, A.le_refl_iff, A.le_u_iff, As.lo, A.lo, C.lo, Ref.lo, Cs.lo, Obs.lo, Ob.lo, setAll, and_true, true_and, List.length_nil, List.length_cons])) ⟨hlt, (hN.emit ..).mono (by omega), h1, h2, by simp only; omega⟩ (by show l.length - (j + 1) < l.length - j; omega)
          simp [setAll, Sl.le, A.le_refl_iff, A.le_u_iff, As.lo, A.lo, C.lo, Ref.lo, Cs.lo, Obs.lo, Ob.lo, setAll, and_true, true_and, List.length_nil, List.length_cons]
        | none =>
          simp only [hsv] at h1 h2
          have hput := slotsM_put v j N.sl hsv
          have hset := cd_set0 H i N (N.give v j) rfl rfl
          simp -implicitDefEqProofs [row_mk, cd_0 N hi, cd_1 N hi, cd_2 N hi, cd_len, Ref.re, hf1, slotsM_row, hsv, go_sem, -List.set_cons_succ, -List.set_cons_zero]
          rw [hput, show N.sl ++ [((v : Int), j)] = (N.give v j).sl from rfl, hset]
          refine ⟨hf1 _, ?_⟩
          simp -implicitDefEqProofs [hadd, cd_len, go_sem, -List.set_cons_succ, -List.set_cons_zero]
          refine loop_less (j + 1, N.give v j, left) (St.le_cut [_] ?_ (by simp [cd_len, Sl.le, A.le_refl_iff, A.le_u_iff, As.lo, A.lo, C.lo, Ref.lo, Cs.lo, Obs.lo, Ob.lo, setAll, and_true, true_and, List.length_nil, List.length_cons]; omega) rfl (by simp [Sl.le, A.le_refl_iff, A.le_u_iff, As.lo, A.lo, C.lo, Ref.lo, Cs.lo, Obs.lo, Ob.lo, setAll, and_true, true_and, List.length_nil, List.length_cons])) ⟨hlt, (hN.give _ _ (by omega)).mono (by omega), h1, h2, by simp only; omega⟩ (by show l.length - (j + 1) < l.length - j; omega)
          simp [setAll, Sl.le, A.le_refl_iff, A.le_u_iff, As.lo, A.lo, C.lo, Ref.lo, Cs.lo, Obs.lo, Ob.lo, setAll, and_true, true_and, List.length_nil, List.length_cons]
      · simp [Tm.k, Tm.n] at h1 h2
        simp -implicitDefEqProofs [row_mk, cd_0 N hi, cd_1 N hi, cd_2 N hi, cd_len, Ref.re, hf1, go_sem, -List.set_cons_succ, -List.set_cons_zero]
        refine call_mk (add_makes N 2 n j [] (by omega) hal) hi (by simp [Ob.re, C.re]) rfl (hf1 _) ?_
        simp -implicitDefEqProofs [hadd, cd_len, go_sem, -List.set_cons_succ, -List.set_cons_zero]
        refine loop_less (j + 1, N.emit 2 n j [], left) (St.le_cut [_] ?_ (by simp [cd_len, Sl.le, A.le_refl_iff, A.le_u_iff, As.lo, A.lo, C.lo, Ref.lo, Cs.lo, Obs.lo, Ob.lo, setAll, and_true, true_and, List.length_nil, List.length_cons]; omega) rfl (by simp [Sl.le, A.le_refl_iff, A.le_u_iff, As.lo, A.lo, C.lo, Ref.lo, Cs.lo, Obs.lo, Ob.lo, setAll, and_true, true_and, List.length_nil, List.length_cons])) ⟨hlt, (hN.emit ..).mono (by omega), h1, h2, by simp only; omega⟩ (by show l.length - (j + 1) < l.length - j; omega)
        simp [setAll, Sl.le, A.le_refl_iff, A.le_u_iff, As.lo, A.lo, C.lo, Ref.lo, Cs.lo, Obs.lo, Ob.lo, setAll, and_true, true_and, List.length_nil, List.length_cons]
      · simp [Tm.k] at h1 h2
        simp -implicitDefEqProofs [row_mk, cd_0 N hi, cd_1 N hi, cd_2 N hi, cd_len, Ref.re, hf1, go_sem, -List.set_cons_succ, -List.set_cons_zero]
        refine ⟨allLen_map partR_len, by unfold maxApp; omega, ?_⟩
        simp -implicitDefEqProofs [hadd, cd_len, go_sem, -List.set_cons_succ, -List.set_cons_zero]
        refine loop_less (j + 1, N, left ++ [(.mk 3 0 s kids, j)]) (St.le_cut [_] ?_ (by simp [cd_len, Sl.le, A.le_refl_iff, A.le_u_iff, As.lo, A.lo, C.lo, Ref.lo, Cs.lo, Obs.lo, Ob.lo, setAll, and_true, true_and, List.length_nil, List.length_cons]; omega) (by simp; rfl) (by simp [Sl.le, A.le_refl_iff, A.le_u_iff, As.lo, A.lo, C.lo, Ref.lo, Cs.lo, Obs.lo, Ob.lo, setAll, and_true, true_and, List.length_nil, List.length_cons])) ⟨hlt, hN.mono (by omega), h1, by simp [h2], by simp; omega⟩ (by show l.length - (j + 1) < l.length - j; omega)
        simp [setAll, partR, row_mk, Sl.le, A.le_refl_iff, A.le_u_iff, As.lo, A.lo, C.lo, Ref.lo, Cs.lo, Obs.lo, Ob.lo, setAll, and_true, true_and, List.length_nil, List.length_cons]
  · obtain rfl : j = l.length := by omega
    simp [headA] at h1 h2
    rw [h1, h2]
    rw [h1, h2] at hFf
    obtain ⟨_, g2, g3, g4⟩ := hFf
    obtain ⟨G, hG⟩ : ∃ G, G = headQ (qsize left) left N := ⟨_, rfl⟩
    rw [← hG]
    refine loop_set (σ := Nat × Nat × Mk × List (Tm × Nat)) (fun x => [(4, .c (.own (.l 0) x.2.1 (x.2.2.2.map partR)))]) (fun x => cd H i x.2.2.1)
      (fun x => [.grow x.2.1 5])
      (fun x => headQ x.1 x.2.2.2 x.2.2.1 = G ∧ qsize x.2.2.2 ≤ x.1 ∧ (∃ cc, x.2.2.1.fit cc ∧ cc + 6 * qsize x.2.2.2 ≤ 20000 + 4 * x.2.2.2.length) ∧ qsize x.2.2.2 ≤ 1000 ∧ ∀ p ∈ x.2.2.2, p.1.good) (fun x => qsize x.2.2.2) (qsize left, left.length, N, left) (by simp [setAll]) ⟨by simp [hG], by simp, ⟨_, hN, by simp; omega⟩, by simp; omega, by simpa using fun p hp => hg _ (g2 p hp).1⟩ ?_
    rintro ⟨f, pos, P, work⟩ ⟨e1, e2, ⟨cc, hP, e3⟩, e4, e5⟩
    simp only at e1 e2 hP e3 e4 e5
    have hwl := qsize_pos work
    have hwi : inR .i64 (work.length : Int) := small_i64 (by omega) (by omega)
    simp -implicitDefEqProofs [setAll, hwi, go_sem, -List.set_cons_succ, -List.set_cons_zero]
    cases work with
    | nil =>
      simp [headQ] at e1
      subst e1
      simp -implicitDefEqProofs [cd_len, go_sem, -List.set_cons_succ, -List.set_cons_zero]
    | cons p work =>
      obtain ⟨⟨k, n, s, kids⟩, at'⟩ := p
      have hpg := e5 _ (List.mem_cons_self ..)
      have hkg := good_kids hpg
      have hz1 := args_size kids (P.emit 3 kids.length at' s)
      have hsz : (Tm.mk k n s kids).size = 1 + sizes kids := by rw [Tm.size]
      simp only [qsize, List.map_cons, List.sum_cons, List.length_cons, hsz] at e2 e3 e4 hwl
      rw [← qsize] at e2 e3 e4
      have hwt := qsize_pos work
      cases f with
      | zero => omega
      | succ f =>
        rw [headQ] at e1
        simp only [Tm.kids, Tm.s] at e1
        have hcd := hP.code
        have hal := hP.all
        have hci : inR .i64 (kids.length : Int) := small_i64 (by omega) (by omega)
        have hP2 := hP.emit 3 kids.length at' s
        have hfa := args_fit kids _ _ hP2
        obtain ⟨R, hR⟩ : ∃ R, R = argsT kids (P.emit 3 kids.length at' s) := ⟨_, rfl⟩
        rw [← hR] at hz1 e1 hfa
        simp -implicitDefEqProofs [partR, row_mk, go_sem, -List.set_cons_succ, -List.set_cons_zero]
        refine row_int [.int .i64 k, .int .i64 n, .str s, .sl (kids.map Tm.row), .int .i64 at'] (by omega) (by simp) rfl ?_
        have hwa : allLen 5 (work.map partR) := allLen_map partR_len
        simp -implicitDefEqProofs [hwa, hci, cd_len, Ref.re, hf1, go_sem, -List.set_cons_succ, -List.set_cons_zero]
        refine ⟨by omega, call_mk (add_makes P 3 kids.length at' s (by omega) hal) hi (by simp [Ob.re, C.re]) rfl (hf1 _) ?_⟩
        simp -implicitDefEqProofs [hci, cd_len, go_sem, -List.set_cons_succ, -List.set_cons_zero]
        refine loop_set (σ := Nat × Mk × List (Tm × Nat)) (fun x => [(86, .c (.d (.int .i64 x.1))), (4, .c (.own (.l 0) (pos + x.2.2.length) ((work ++ x.2.2).map partR)))]) (fun x => cd H i x.2.1)
          (fun x => [.grow (pos + x.2.2.length) 5, .cells [.d (.int .i64 k), .d (.int .i64 n), .d (.str s), .d (.sl (kids.map Tm.row)), .d (.int .i64 at')]])
          (fun x => x.1 ≤ kids.length ∧ x.2.1.fit (cc + 1 + 2 * x.1) ∧ R.1 = (argsT (kids.drop x.1) x.2.1).1 ∧ R.2 = x.2.2 ++ (argsT (kids.drop x.1) x.2.1).2 ∧ x.2.2.length ≤ x.1) (fun x => kids.length - x.1) (0, P.emit 3 kids.length at' s, []) (by simp [setAll]) ⟨Nat.zero_le _, hP2, by simp [hR], by simp [hR], by simp⟩ ?_
        rintro ⟨j, N, new⟩ ⟨hj, hN, h1, h2, h3⟩
        simp only at hj hN h1 h2 h3
        have hNn := hN.next
        have hNc := hN.code
        have hNa := hN.all
        simp -implicitDefEqProofs [setAll, hci, go_sem, -List.set_cons_succ, -List.set_cons_zero]
        refine ⟨fun hlt => ?_, fun hge => ?_⟩
        · have hadd : inR .i64 ((j : Int) + 1) := small_i64 (by omega) (by omega)
          have hd : kids.drop j = kids[j] :: kids.drop (j + 1) := List.drop_eq_getElem_cons hlt
          rw [hd, argsT] at h1 h2
          have hrow : (kids.map Tm.row)[j]? = some kids[j].row := by simp [hlt]
          have hgt := hkg.2 kids[j] (List.getElem_mem hlt)
          obtain ⟨t, ht⟩ : ∃ t, t = kids[j] := ⟨_, rfl⟩
          rw [← ht] at hgt h1 h2 hrow
          clear ht
          refine row_nat _ hrow (row_len _) ?_
          by_cases hk3 : t.k = 3
          · obtain ⟨k', n', s', l'⟩ := t
            obtain rfl : k' = 3 := hk3
            simp [Tm.k] at h1 h2
            simp -implicitDefEqProofs [row_mk, cd_len, Ref.re, hf1, go_sem, -List.set_cons_succ, -List.set_cons_zero]
            refine call_mk (slot_makes N (by omega)) hi (by simp [Ob.re, C.re]) rfl (hf1 _) ?_
            simp -implicitDefEqProofs [cd_len, go_sem, -List.set_cons_succ, -List.set_cons_zero]
            refine call_mk (add_makes N.bump 4 N.next 0 [] (by show N.code.length ≤ _; omega) hNa) hi (by simp [Ob.re, C.re]) rfl (hf1 _) ?_
            simp -implicitDefEqProofs [hadd, cd_len, go_sem, -List.set_cons_succ, -List.set_cons_zero]
            refine ⟨⟨allLen_map partR_len, allLen_map partR_len⟩, by unfold maxApp; omega, ?_⟩
            refine loop_less (j + 1, (N.emit 4 N.next 0 []).bump, new ++ [(.mk 3 n' s' l', N.next)]) (St.le_cut [_] ?_ (by simp [cd_len, Sl.le, A.le_refl_iff, A.le_u_iff, As.lo, A.lo, C.lo, Ref.lo, Cs.lo, Obs.lo, Ob.lo, setAll, and_true, true_and, List.length_nil, List.length_cons]; omega) (by simp [Nat.add_assoc]; rfl) (by simp [Sl.le, A.le_refl_iff, A.le_u_iff, As.lo, A.lo, C.lo, Ref.lo, Cs.lo, Obs.lo, Ob.lo, setAll, and_true, true_and, List.length_nil, List.length_cons])) ⟨hlt, (hN.emit ..).bump.mono (by dsimp only; omega), h1, by rw [h2]; simp, by simp; omega⟩ (by show kids.length - (j + 1) < kids.length - j; omega)
            simp [setAll, partR, row_mk, Nat.add_assoc, Sl.le, A.le_refl_iff, A.le_u_iff, As.lo, A.lo, C.lo, Ref.lo, Cs.lo, Obs.lo, Ob.lo, setAll, and_true, true_and, List.length_nil, List.length_cons]
          · have cde := described_makes t hgt hk3 N _ hN (by omega)
            rw [if_neg hk3] at h1 h2
            rw [row_eq] at cde ⊢
            simp only [List.map_cons, List.map_nil] at cde
            simp -implicitDefEqProofs [hk3, cd_len, Ref.re, hf1, go_sem, -List.set_cons_succ, -List.set_cons_zero]
            refine call_mk cde hi (by simp [Ob.re, C.re]) rfl (hf1 _) ?_
            simp -implicitDefEqProofs [hadd, cd_len, go_sem, -List.set_cons_succ, -List.set_cons_zero]
            refine loop_less (j + 1, N.desc t, new) (St.le_cut [_] ?_ (by simp [cd_len, Sl.le, A.le_refl_iff, A.le_u_iff, As.lo, A.lo, C.lo, Ref.lo, Cs.lo, Obs.lo, Ob.lo, setAll, and_true, true_and, List.length_nil, List.length_cons]; omega) rfl (by simp [Sl.le, A.le_refl_iff, A.le_u_iff, As.lo, A.lo, C.lo, Ref.lo, Cs.lo, Obs.lo, Ob.lo, setAll, and_true, true_and, List.length_nil, List.length_cons])) ⟨hlt, (hN.desc t).mono (by dsimp only; omega), h1, h2, by simp only; omega⟩ (by show kids.length - (j + 1) < kids.length - j; omega)
            simp [setAll, Sl.le, A.le_refl_iff, A.le_u_iff, As.lo, A.lo, C.lo, Ref.lo, Cs.lo, Obs.lo, Ob.lo, setAll, and_true, true_and, List.length_nil, List.length_cons]
        · obtain rfl : j = kids.length := by omega
          simp [argsT] at h1 h2
          rw [h1, h2] at e1 hfa
          rw [h2] at hz1
          refine loop_less (f, pos + new.length, N, work ++ new) (St.le_cut [_] ?_ (by simp [cd_len, Sl.le, A.le_refl_iff, A.le_u_iff, As.lo, A.lo, C.lo, Ref.lo, Cs.lo, Obs.lo, Ob.lo, setAll, and_true, true_and, List.length_nil, List.length_cons]; omega) rfl (by simp [Sl.le, A.le_refl_iff, A.le_u_iff, As.lo, A.lo, C.lo, Ref.lo, Cs.lo, Obs.lo, Ob.lo, setAll, and_true, true_and, List.length_nil, List.length_cons])) ⟨e1, ?_, ⟨_, hN, ?_⟩, ?_, ?_⟩ ?_
          · simp [setAll, Sl.le, A.le_refl_iff, A.le_u_iff, As.lo, A.lo, C.lo, Ref.lo, Cs.lo, Obs.lo, Ob.lo, setAll, and_true, true_and, List.length_nil, List.length_cons]
          · show qsize (work ++ new) ≤ f
            rw [qsize_app]; omega
          · show cc + 1 + 2 * kids.length + 6 * qsize (work ++ new) ≤ 20000 + 4 * (work ++ new).length
            rw [qsize_app, List.length_append]; omega
          · show qsize (work ++ new) ≤ 1000
            rw [qsize_app]; omega
          · show ∀ a b, (a, b) ∈ work ++ new → a.good
            intro a b hp
            rcases List.mem_append.1 hp with hp | hp
            · exact e5 (a, b) (by simp [hp])
            · exact hkg.2 _ (hfa.2 (a, b) hp).1
          · show qsize (work ++ new) < qsize ((Tm.mk k n s kids, at') :: work)
            rw [qsize_app]
            simp only [qsize, List.map_cons, List.sum_cons, hsz]
            simp only [← qsize.eq_def]
            omega
end Go.Proofs.YteighafofbohcaaGreat

/-
  Bodies as the program makes them.
  Conditions: none.
-/
open Go Go.AM Go.Proofs
namespace Go.Proofs.YteighafofbohcaaGreat
open Go.ChangeShapes Go.WideShapes Go.ChangeAt Go.RowKit
set_option linter.unusedVariables false
set_option linter.unusedSimpArgs false
set_option maxRecDepth 100000
-- 81 (*loop.example/prologserver/impl.coding).build params 2 ntmps 67
-- loop head live: [0,3,5,16,17,18]
-- loop head live: [0,5,8,45,46,47]
def ac81 : Cd := .seq (.region [⟨(some 3),.box (.t 1),none⟩,
 ⟨(some 4),.mv (.k (.c (.d (.int .i64 0)))),none⟩] [1,4])
 (.seq (.region [⟨(some 11),.fieldAddr 3 (.t 3),none⟩,
 ⟨(some 12),.load none (.t 11),none⟩,
 ⟨(some 13),.len 1 (.t 12),none⟩,
 ⟨(some 14),.mkSlice [(.int .i64 0)] (.t 13),none⟩,
 ⟨(some 5),.mv (.t 14),none⟩] [11,12,13,14])
 (.seq (.seq (.region [⟨(some 15),.fieldAddr 3 (.t 3),none⟩,
 ⟨(some 16),.load none (.t 15),none⟩,
 ⟨(some 17),.len 1 (.t 16),none⟩,
 ⟨(some 18),.mv (.k (.c (.d (.int .i64 0)))),none⟩] [15])
 (.block 0 (.loop (.seq (.region [⟨(some 19),.bin .lss (.t 18) (.t 17),none⟩] [])
 (.seq (.cond (.t 19)
 (.skip)
 (.exit 0))
 (.seq (.block 1 (.seq (.region [⟨(some 20),.mv (.t 18),none⟩,
 ⟨(some 21),.indexAddr 4 (.t 16) (.t 18),none⟩,
 ⟨(some 22),.load (some 4) (.t 21),none⟩,
 ⟨(some 7),.alloc [(.d (.int .i64 0)),(.d (.int .i64 0)),(.d (.str [])),(.full [])],none⟩,
 ⟨(some 6),.mv (.t 20),none⟩,
 ⟨none,.store 4 (.t 7) (.t 22),none⟩] [19,20,21,22])
 (.seq (.region [⟨(some 23),.fieldAddr 0 (.t 7),none⟩,
 ⟨(some 24),.load none (.t 23),none⟩,
 ⟨(some 25),.bin .eql (.t 24) (.k (.c (.d (.int .i64 3)))),none⟩] [23,24])
 (.cond (.t 25)
 (.region [⟨(some 26),.mv (.t 5),none⟩,
 ⟨(some 27),.mv (.t 6),none⟩,
 ⟨(some 28),.mv (.t 0),none⟩,
 ⟨(some 29),.load (some 4) (.t 7),none⟩,
 ⟨(some 30),.call false 81 [(.t 28),(.t 29)],none⟩,
 ⟨(some 31),.indexAddr 1 (.t 26) (.t 27),none⟩,
 ⟨none,.store 1 (.t 31) (.t 30),none⟩] [6,7,25,26,27,28,29,30,31])
 (.skip)))))
 (.region [⟨(some 32),.bin .add (.t 18) (.k (.c (.d (.int .i64 1)))),none⟩,
 ⟨(some 18),.mv (.t 32),none⟩] [6,7,25,32])))))))
 (.seq (.region [⟨(some 33),.mv (.t 0),none⟩,
 ⟨(some 34),.call false 56 [(.t 33)],none⟩,
 ⟨(some 8),.mv (.t 34),none⟩] [33,34])
 (.seq (.region [⟨(some 35),.mv (.t 0),none⟩,
 ⟨(some 36),.fieldAddr 3 (.t 3),none⟩,
 ⟨(some 37),.load none (.t 36),none⟩,
 ⟨(some 38),.len 1 (.t 37),none⟩,
 ⟨(some 39),.mv (.t 8),none⟩,
 ⟨(some 40),.fieldAddr 2 (.t 3),none⟩,
 ⟨(some 41),.load none (.t 40),none⟩,
 ⟨(some 42),.build [(.d (.int .i64 0)),(.d (.int .i64 0)),(.d (.int .i64 0)),(.d (.str []))] [(0,1,(.k (.c (.d (.int .i64 7))))),(1,1,(.t 38)),(2,1,(.t 39)),(3,1,(.t 41))],none⟩,
 ⟨(some 43),.call false 54 [(.t 35),(.t 42)],none⟩] [35,36,37,38,39,40,41,42,43])
 (.seq (.seq (.region [⟨(some 44),.fieldAddr 3 (.t 3),none⟩,
 ⟨(some 45),.load none (.t 44),none⟩,
 ⟨(some 46),.len 1 (.t 45),none⟩,
 ⟨(some 47),.mv (.k (.c (.d (.int .i64 0)))),none⟩] [3,44])
 (.block 2 (.loop (.seq (.region [⟨(some 48),.bin .lss (.t 47) (.t 46),none⟩] [])
 (.seq (.cond (.t 48)
 (.skip)
 (.exit 2))
 (.seq (.block 3 (.seq (.region [⟨(some 49),.mv (.t 47),none⟩,
 ⟨(some 50),.indexAddr 4 (.t 45) (.t 47),none⟩,
 ⟨(some 51),.load (some 4) (.t 50),none⟩,
 ⟨(some 10),.alloc [(.d (.int .i64 0)),(.d (.int .i64 0)),(.d (.str [])),(.full [])],none⟩,
 ⟨(some 9),.mv (.t 49),none⟩,
 ⟨none,.store 4 (.t 10) (.t 51),none⟩] [48,49,50,51])
 (.seq (.region [⟨(some 52),.fieldAddr 0 (.t 10),none⟩,
 ⟨(some 53),.load none (.t 52),none⟩,
 ⟨(some 54),.bin .eql (.t 53) (.k (.c (.d (.int .i64 3)))),none⟩] [52,53])
 (.cond (.t 54)
 (.region [⟨(some 55),.mv (.t 0),none⟩,
 ⟨(some 56),.mv (.t 5),none⟩,
 ⟨(some 57),.mv (.t 9),none⟩,
 ⟨(some 58),.indexAddr 1 (.t 56) (.t 57),none⟩,
 ⟨(some 59),.load none (.t 58),none⟩,
 ⟨(some 60),.build [(.d (.int .i64 0)),(.d (.int .i64 0)),(.d (.int .i64 0)),(.d (.str []))] [(0,1,(.k (.c (.d (.int .i64 5))))),(1,1,(.t 59))],none⟩,
 ⟨(some 61),.call false 54 [(.t 55),(.t 60)],none⟩] [9,10,54,55,56,57,58,59,60,61])
 (.region [⟨(some 62),.mv (.t 0),none⟩,
 ⟨(some 63),.load (some 4) (.t 10),none⟩,
 ⟨(some 64),.call false 55 [(.t 62),(.t 63)],none⟩] [9,10,54,62,63,64])))))
 (.region [⟨(some 65),.bin .add (.t 47) (.k (.c (.d (.int .i64 1)))),none⟩,
 ⟨(some 47),.mv (.t 65),none⟩] [65])))))))
 (.seq (.region [⟨(some 66),.mv (.t 8),none⟩,
 ⟨(some 4),.mv (.t 66),none⟩] [8,66])
 (.ret)))))))
theorem ac81_ok : cFunc Tryz.prog [] [(0,[1,4],[]),(1,[11,12,13,14],[]),(2,[15],[]),(3,[],[]),(4,[19,20,21,22],[]),(5,[23,24],[]),(6,[6,7,25,26,27,28,29,30,31],[]),(7,[6,7,25,32],[]),(8,[33,34],[]),(9,[35,36,37,38,39,40,41,42,43],[]),(10,[3,44],[]),(11,[],[]),(12,[48,49,50,51],[]),(13,[52,53],[]),(14,[9,10,54,55,56,57,58,59,60,61],[]),(15,[9,10,54,62,63,64],[]),(16,[65],[]),(17,[8,66],[])] Tryz.f81 = some (ac81,[.tmp 4],67) := by kernel_rfl
/-- the slots of what has been built -/
def bz (b : Int) : Int := if b < 0 then 0 else b
def bzs (n : Nat) (bs : List Int) : List (List D) := intRows (bs.map bz ++ List.replicate (n - bs.length) 0)
theorem bzs_len (n : Nat) (bs : List Int) (h : bs.length ≤ n) : (bzs n bs).length = n := by simp [bzs, intRows]; omega
theorem bzs_all (n : Nat) (bs : List Int) : allLen 1 (bzs n bs) := allLen_map fun _ => rfl
theorem bzs_set (n : Nat) (bs : List Int) (b : Int) (h : bs.length < n) (hb : 0 ≤ b) : (bzs n bs).set bs.length [.int .i64 b] = bzs n (bs ++ [b]) := by
  obtain ⟨k, hk⟩ : ∃ k, n - bs.length = k + 1 := ⟨n - bs.length - 1, by omega⟩
  have hk2 : n - (bs ++ [b]).length = k := by simp; omega
  have hb2 : bz b = b := by unfold bz; rw [if_neg (by omega)]
  have hm : (bs.map bz).length = bs.length := by simp
  simp only [bzs, intRows, hk, hk2, List.map_append, List.replicate_succ, List.map_cons]
  rw [List.set_append_right _ _ (by simp)]
  simp [hb2]
theorem bzs_skip (n : Nat) (bs : List Int) (h : bs.length < n) : bzs n (bs ++ [-1]) = bzs n bs := by
  obtain ⟨k, hk⟩ : ∃ k, n - bs.length = k + 1 := ⟨n - bs.length - 1, by omega⟩
  have hk2 : n - (bs ++ [(-1 : Int)]).length = k := by simp; omega
  have hb2 : bz (-1) = 0 := rfl
  simp only [bzs, hk, hk2, List.map_append, List.map_cons, List.map_nil, hb2, List.replicate_succ, List.append_assoc, List.singleton_append]
theorem bzs_get {n : Nat} {bs : List Int} {i : Nat} (h : i < bs.length) (h0 : 0 ≤ bs[i]) : (bzs n bs)[i]? = some [.int .i64 bs[i]] := by
  have hb2 : bz bs[i] = bs[i] := by unfold bz; rw [if_neg (by omega)]
  simp [bzs, intRows, h, hb2, List.getElem?_append_left]
theorem bzs_at {n : Nat} {bs : List Int} (h : bs.length < n) : (bzs n bs)[bs.length]? = some [.int .i64 0] := by
  obtain ⟨k, hk⟩ : ∃ k, n - bs.length = k + 1 := ⟨n - bs.length - 1, by omega⟩
  simp only [bzs, intRows, hk, List.map_append]
  rw [List.getElem?_append_right (by simp)]
  simp [List.replicate_succ]
theorem build_makes : ∀ t : Tm, t.good → ∀ (M : Mk) (B : Nat), B + 6 * t.size ≤ 800000 → M.fit B → Makes 81 [.agg (t.row.map .d)] M (buildT t M).1 (.c (.d (.int .i64 (buildT t M).2))) := by
  refine Tm.ind fun k n s l ih hg M B hB hM H i hi => ?_
  have hl4 := (good_kids hg).1
  have hkg := (good_kids hg).2
  rw [Tm.size] at hB
  refine acalls Tryz.func81 (by kernel_rfl) ac81_ok fun hf => ?_
  rw [cd_len] at hf
  have hf1 := fun M' => cd_fits (M' := M') hf hi
  have hli : inR .i64 (l.length : Int) := small_i64 (by omega) (by omega)
  simp -implicitDefEqProofs [ac81, hli, row_mk, go_sem, -List.set_cons_succ, -List.set_cons_zero]
  refine ⟨by unfold maxApp; omega, ?_⟩
  obtain ⟨F, hF⟩ : ∃ F, F = buildL l M := ⟨_, rfl⟩
  have hFl := buildL_len l M
  have hFs := buildL_sign l M
  have hR : buildT (.mk k n s l) M = (partsT l F.2 (F.1.bump.emit 7 l.length F.1.next s), F.1.next) := by rw [buildT, hF]
  rw [hR]
  rw [← hF] at hFl hFs
  refine loop_set (σ := Nat × Mk × List Int) (fun x => [(18, .c (.d (.int .i64 x.1)))]) (fun x => cd H i x.2.1)
    (fun x => [.cells [.d (.int .i64 k), .d (.int .i64 n), .d (.str s), .d (.sl (l.map Tm.row))], .rows (bzs l.length x.2.2)])
    (fun x => x.1 ≤ l.length ∧ (∃ cc, x.2.1.fit cc ∧ cc + 6 * sizes (l.drop x.1) ≤ B + 6 * sizes l) ∧ F.1 = (buildL (l.drop x.1) x.2.1).1 ∧ F.2 = x.2.2 ++ (buildL (l.drop x.1) x.2.1).2 ∧ x.2.2.length = x.1) (fun x => l.length - x.1) (0, M, []) (by simp [setAll, intRows, bzs]) ⟨Nat.zero_le _, ⟨B, hM, by simp⟩, by simp [hF], by simp [hF], rfl⟩ ?_
  rintro ⟨j, N, bs⟩ ⟨hj, ⟨cc, hN, hC⟩, h1, h2, h3⟩
  simp only at hj hN hC h1 h2 h3
  simp -implicitDefEqProofs [setAll, hli, go_sem, -List.set_cons_succ, -List.set_cons_zero]
  refine ⟨fun hlt => ?_, fun hge => ?_⟩
  · have hadd : inR .i64 ((j : Int) + 1) := small_i64 (by omega) (by omega)
    have hd : l.drop j = l[j] :: l.drop (j + 1) := List.drop_eq_getElem_cons hlt
    rw [hd, buildL] at h1 h2
    rw [hd, sizes] at hC
    have ihi := ih l[j] (List.getElem_mem hlt) (hkg _ (List.getElem_mem hlt)) N cc (by omega) hN
    have hft := build_fit l[j] N cc hN
    refine row_of hlt (row_len _) ?_
    by_cases hk3 : l[j].k = 3
    · simp only [hk3, if_true] at h1 h2
      obtain ⟨R, hRR⟩ : ∃ R, R = buildT l[j] N := ⟨_, rfl⟩
      rw [← hRR] at h1 h2 ihi hft
      rw [row_eq] at ihi ⊢
      simp only [List.map_cons, List.map_nil] at ihi
      simp -implicitDefEqProofs [hf1, hk3, cd_len, Ref.re, go_sem, -List.set_cons_succ, -List.set_cons_zero]
      rw [hk3] at ihi
      refine call_mk ihi hi (by simp [Ob.re, C.re]) rfl (hf1 _) ?_
      simp -implicitDefEqProofs [hf1, cd_len, go_sem, -List.set_cons_succ, -List.set_cons_zero]
      refine ⟨by omega, ?_⟩
      have hga := bzs_at (n := l.length) (bs := bs) (by omega)
      rw [h3] at hga
      simp -implicitDefEqProofs [hf1, hga, hadd, cd_len, go_sem, -List.set_cons_succ, -List.set_cons_zero]
      have hset := bzs_set l.length bs R.2 (by omega) (by omega)
      rw [h3] at hset
      refine loop_less (j + 1, R.1, bs ++ [(R.2 : Int)]) (St.le_cut [_] ?_ (by simp [cd_len, Sl.le, A.le_refl_iff, A.le_u_iff, As.lo, A.lo, C.lo, Ref.lo, Cs.lo, Obs.lo, Ob.lo, setAll, and_true, true_and, List.length_nil, List.length_cons]; omega) (by simp [hset]; rfl) (by simp [Sl.le, A.le_refl_iff, A.le_u_iff, As.lo, A.lo, C.lo, Ref.lo, Cs.lo, Obs.lo, Ob.lo, setAll, and_true, true_and, List.length_nil, List.length_cons])) ⟨hlt, ⟨_, hft.1, by dsimp only; omega⟩, h1, by rw [h2]; simp, by simp; omega⟩ (by show l.length - (j + 1) < l.length - j; omega)
      simp [setAll, Sl.le, A.le_refl_iff, A.le_u_iff, As.lo, A.lo, C.lo, Ref.lo, Cs.lo, Obs.lo, Ob.lo, setAll, and_true, true_and, List.length_nil, List.length_cons]
    · simp only [hk3, if_false] at h1 h2
      rw [row_eq]
      simp -implicitDefEqProofs [hf1, hk3, hadd, cd_len, Ref.re, go_sem, -List.set_cons_succ, -List.set_cons_zero]
      have hskip := bzs_skip l.length bs (by omega)
      have hsz := size_pos l[j]
      refine loop_less (j + 1, N, bs ++ [-1]) (St.le_cut [_] ?_ (by simp [cd_len, Sl.le, A.le_refl_iff, A.le_u_iff, As.lo, A.lo, C.lo, Ref.lo, Cs.lo, Obs.lo, Ob.lo, setAll, and_true, true_and, List.length_nil, List.length_cons]; omega) (by simp [hskip]; rfl) (by simp [Sl.le, A.le_refl_iff, A.le_u_iff, As.lo, A.lo, C.lo, Ref.lo, Cs.lo, Obs.lo, Ob.lo, setAll, and_true, true_and, List.length_nil, List.length_cons])) ⟨hlt, ⟨cc, hN, by dsimp only; omega⟩, h1, by rw [h2]; simp, by simp; omega⟩ (by show l.length - (j + 1) < l.length - j; omega)
      simp [setAll, Sl.le, A.le_refl_iff, A.le_u_iff, As.lo, A.lo, C.lo, Ref.lo, Cs.lo, Obs.lo, Ob.lo, setAll, and_true, true_and, List.length_nil, List.length_cons]
  · obtain rfl : j = l.length := by omega
    simp [buildL] at h1 h2
    rw [List.drop_of_length_le (by omega)] at hC
    simp only [sizes, Nat.mul_zero, Nat.add_zero] at hC
    have hnx := hN.next
    have hcd := hN.code
    have hal := hN.all
    rw [h1, h2]
    rw [h2] at hFl hFs
    simp -implicitDefEqProofs [hli, hf1, cd_len, Ref.re, go_sem, -List.set_cons_succ, -List.set_cons_zero]
    refine call_mk (slot_makes N (by omega)) hi (by simp [Ob.re, C.re]) rfl (hf1 _) ?_
    simp -implicitDefEqProofs [hli, hf1, cd_len, Ref.re, go_sem, -List.set_cons_succ, -List.set_cons_zero]
    refine call_mk (add_makes N.bump 7 l.length N.next s (by show N.code.length ≤ _; omega) hal) hi (by simp [Ob.re, C.re]) rfl (hf1 _) ?_
    simp -implicitDefEqProofs [hli, hf1, cd_len, Ref.re, go_sem, -List.set_cons_succ, -List.set_cons_zero]
    obtain ⟨G, hG⟩ : ∃ G, G = partsT l bs (N.bump.emit 7 l.length N.next s) := ⟨_, rfl⟩
    rw [← hG]
    have hN2 := hN.bump.emit 7 l.length N.next s
    refine loop_set (σ := Nat × Mk) (fun x => [(47, .c (.d (.int .i64 x.1)))]) (fun x => cd H i x.2)
      (fun x => [.cells [.d (.int .i64 k), .d (.int .i64 n), .d (.str s), .d (.sl (l.map Tm.row))], .rows (bzs l.length bs)])
      (fun x => x.1 ≤ l.length ∧ x.2.fit (cc + 2 + 2 * x.1) ∧ partsT (l.drop x.1) (bs.drop x.1) x.2 = G) (fun x => l.length - x.1) (0, N.bump.emit 7 l.length N.next s) (by simp [setAll]) ⟨Nat.zero_le _, hN2.mono (by omega), by simp [hG]⟩ ?_
    rintro ⟨j, P⟩ ⟨hj, hP, e1⟩
    simp only at hj hP e1
    simp -implicitDefEqProofs [setAll, hli, go_sem, -List.set_cons_succ, -List.set_cons_zero]
    refine ⟨fun hlt => ?_, fun hge => ?_⟩
    · have hadd : inR .i64 ((j : Int) + 1) := small_i64 (by omega) (by omega)
      have hlb : j < bs.length := by omega
      have hd : l.drop j = l[j] :: l.drop (j + 1) := List.drop_eq_getElem_cons hlt
      have hdb : bs.drop j = bs[j] :: bs.drop (j + 1) := List.drop_eq_getElem_cons hlb
      rw [hd, hdb, partsT] at e1
      have hsg := hFs j l[j] bs[j] (by simp) (by simp)
      have hPn := hP.next
      have hPc := hP.code
      have hPa := hP.all
      refine row_of hlt (row_len _) ?_
      by_cases hk3 : l[j].k = 3
      · have h0 := hsg.1 hk3
        have hge := bzs_get (n := l.length) hlb h0
        simp only [hk3, if_true] at e1
        rw [row_eq]
        simp -implicitDefEqProofs [hf1, hk3, hge, cd_len, Ref.re, go_sem, -List.set_cons_succ, -List.set_cons_zero]
        refine ⟨by omega, ?_⟩
        refine call_mk (add_makes P 5 bs[j] 0 [] (by omega) hPa) hi (by simp [Ob.re, C.re]) rfl (hf1 _) ?_
        simp -implicitDefEqProofs [hadd, cd_len, go_sem, -List.set_cons_succ, -List.set_cons_zero]
        refine loop_less (j + 1, P.emit 5 bs[j] 0 []) (St.le_cut [_] ?_ (by simp [cd_len, Sl.le, A.le_refl_iff, A.le_u_iff, As.lo, A.lo, C.lo, Ref.lo, Cs.lo, Obs.lo, Ob.lo, setAll, and_true, true_and, List.length_nil, List.length_cons]; omega) (by simp; rfl) (by simp [Sl.le, A.le_refl_iff, A.le_u_iff, As.lo, A.lo, C.lo, Ref.lo, Cs.lo, Obs.lo, Ob.lo, setAll, and_true, true_and, List.length_nil, List.length_cons])) ⟨hlt, (hP.emit ..).mono (by dsimp only; omega), e1⟩ (by show l.length - (j + 1) < l.length - j; omega)
        simp [setAll, Sl.le, A.le_refl_iff, A.le_u_iff, As.lo, A.lo, C.lo, Ref.lo, Cs.lo, Obs.lo, Ob.lo, setAll, and_true, true_and, List.length_nil, List.length_cons]
      · simp only [hk3, if_false] at e1
        have cde := described_makes l[j] (hkg _ (List.getElem_mem hlt)) hk3 P _ hP (by omega)
        rw [row_eq] at cde ⊢
        simp only [List.map_cons, List.map_nil] at cde
        simp -implicitDefEqProofs [hf1, hk3, cd_len, Ref.re, go_sem, -List.set_cons_succ, -List.set_cons_zero]
        refine call_mk cde hi (by simp [Ob.re, C.re]) rfl (hf1 _) ?_
        simp -implicitDefEqProofs [hadd, cd_len, go_sem, -List.set_cons_succ, -List.set_cons_zero]
        refine loop_less (j + 1, P.desc l[j]) (St.le_cut [_] ?_ (by simp [cd_len, Sl.le, A.le_refl_iff, A.le_u_iff, As.lo, A.lo, C.lo, Ref.lo, Cs.lo, Obs.lo, Ob.lo, setAll, and_true, true_and, List.length_nil, List.length_cons]; omega) (by simp; rfl) (by simp [Sl.le, A.le_refl_iff, A.le_u_iff, As.lo, A.lo, C.lo, Ref.lo, Cs.lo, Obs.lo, Ob.lo, setAll, and_true, true_and, List.length_nil, List.length_cons])) ⟨hlt, (hP.desc _).mono (by dsimp only; omega), e1⟩ (by show l.length - (j + 1) < l.length - j; omega)
        simp [setAll, Sl.le, A.le_refl_iff, A.le_u_iff, As.lo, A.lo, C.lo, Ref.lo, Cs.lo, Obs.lo, Ob.lo, setAll, and_true, true_and, List.length_nil, List.length_cons]
    · obtain rfl : j = l.length := by omega
      rw [List.drop_of_length_le (by omega), partsT] at e1
      · subst e1
        simp -implicitDefEqProofs [hf1, cd_len, go_sem, -List.set_cons_succ, -List.set_cons_zero]
      · simp

-- 57 (*loop.example/prologserver/impl.coding).goal params 2 ntmps 90
-- loop head live: [0,3,16,17,18]
def ac57 : Cd := .seq (.region [⟨(some 3),.box (.t 1),none⟩] [1])
 (.seq (.seq (.region [⟨(some 10),.load (some 4) (.t 3),none⟩,
 ⟨(some 11),.qcall 80 [(.t 10)],none⟩] [10])
 (.cond (.t 11)
 (.seq (.region [⟨(some 12),.mv (.t 0),none⟩,
 ⟨(some 13),.build [(.d (.int .i64 0)),(.d (.int .i64 0)),(.d (.int .i64 0)),(.d (.str []))] [(0,1,(.k (.c (.d (.int .i64 13)))))],none⟩,
 ⟨(some 14),.call false 54 [(.t 12),(.t 13)],none⟩] [0,3,11,12,13,14])
 (.ret))
 (.skip)))
 (.seq (.seq (.region [⟨(some 15),.fieldAddr 3 (.t 3),none⟩,
 ⟨(some 16),.load none (.t 15),none⟩,
 ⟨(some 17),.len 1 (.t 16),none⟩,
 ⟨(some 18),.mv (.k (.c (.d (.int .i64 0)))),none⟩] [11,15])
 (.block 0 (.loop (.seq (.region [⟨(some 19),.bin .lss (.t 18) (.t 17),none⟩] [])
 (.seq (.cond (.t 19)
 (.skip)
 (.exit 0))
 (.seq (.block 1 (.seq (.region [⟨(some 20),.mv (.t 18),none⟩,
 ⟨(some 21),.indexAddr 4 (.t 16) (.t 18),none⟩,
 ⟨(some 22),.load (some 4) (.t 21),none⟩,
 ⟨(some 5),.alloc [(.d (.int .i64 0)),(.d (.int .i64 0)),(.d (.str [])),(.full [])],none⟩,
 ⟨(some 4),.mv (.t 20),none⟩,
 ⟨none,.store 4 (.t 5) (.t 22),none⟩] [19,20,21,22])
 (.seq (.region [⟨(some 23),.fieldAddr 0 (.t 5),none⟩,
 ⟨(some 24),.load none (.t 23),none⟩] [23])
 (.block 2 (.seq (.region [⟨(some 34),.bin .eql (.t 24) (.k (.c (.d (.int .i64 2)))),none⟩,
 ⟨(some 33),.mv (.t 34),none⟩] [34])
 (.cond (.t 33)
 (.region [⟨(some 35),.mv (.t 0),none⟩,
 ⟨(some 36),.fieldAddr 1 (.t 5),none⟩,
 ⟨(some 37),.load none (.t 36),none⟩,
 ⟨(some 38),.mv (.t 4),none⟩,
 ⟨(some 39),.build [(.d (.int .i64 0)),(.d (.int .i64 0)),(.d (.int .i64 0)),(.d (.str []))] [(0,1,(.k (.c (.d (.int .i64 10))))),(1,1,(.t 37)),(2,1,(.t 38))],none⟩,
 ⟨(some 40),.call false 54 [(.t 35),(.t 39)],none⟩] [4,5,24,33,35,36,37,38,39,40])
 (.seq (.region [⟨(some 42),.bin .eql (.t 24) (.k (.c (.d (.int .i64 1)))),none⟩,
 ⟨(some 41),.mv (.t 42),none⟩] [24,33,42])
 (.cond (.t 41)
 (.seq (.region [⟨(some 44),.mv (.t 0),none⟩,
 ⟨(some 45),.nilCheck (.t 44),none⟩,
 ⟨(some 46),.fieldAddr 0 (.t 45),none⟩,
 ⟨(some 48),.fieldAddr 1 (.t 5),none⟩,
 ⟨(some 47),.load none (.t 46),none⟩,
 ⟨(some 49),.load none (.t 48),none⟩,
 ⟨(some 50),.mapGet none [(.int .i64 0)] true (.t 47) (.t 49),none⟩,
 ⟨(some 43),.mv (.t 50),none⟩,
 ⟨(some 51),.extract 0 (.t 43),none⟩,
 ⟨(some 52),.extract 1 (.t 43),none⟩,
 ⟨(some 6),.mv (.t 51),none⟩,
 ⟨(some 7),.mv (.t 52),none⟩] [41,43,44,45,46,47,48,49,50,51,52])
 (.seq (.region [⟨(some 53),.mv (.t 7),none⟩] [7])
 (.cond (.t 53)
 (.region [⟨(some 54),.mv (.t 0),none⟩,
 ⟨(some 55),.mv (.t 6),none⟩,
 ⟨(some 56),.mv (.t 4),none⟩,
 ⟨(some 57),.build [(.d (.int .i64 0)),(.d (.int .i64 0)),(.d (.int .i64 0)),(.d (.str []))] [(0,1,(.k (.c (.d (.int .i64 9))))),(1,1,(.t 55)),(2,1,(.t 56))],none⟩,
 ⟨(some 58),.call false 54 [(.t 54),(.t 57)],none⟩] [4,5,6,53,54,55,56,57,58])
 (.seq (.region [⟨(some 59),.mv (.t 0),none⟩,
 ⟨(some 60),.nilCheck (.t 59),none⟩,
 ⟨(some 61),.fieldAddr 0 (.t 60),none⟩,
 ⟨(some 63),.fieldAddr 1 (.t 5),none⟩,
 ⟨(some 65),.mv (.t 0),none⟩,
 ⟨(some 62),.loadL true none (.t 61),none⟩,
 ⟨(some 64),.loadL false none (.t 63),none⟩,
 ⟨(some 66),.callL true false 56 [(.t 65)],none⟩,
 ⟨none,.mapSet (.t 62) (.t 64) (.t 66),none⟩] [6,53,59,60,61,62,63,64,65,66])
 (.region [⟨(some 67),.mv (.t 0),none⟩,
 ⟨(some 68),.mv (.t 0),none⟩,
 ⟨(some 69),.nilCheck (.t 68),none⟩,
 ⟨(some 70),.fieldAddr 0 (.t 69),none⟩,
 ⟨(some 72),.fieldAddr 1 (.t 5),none⟩,
 ⟨(some 75),.mv (.t 4),none⟩,
 ⟨(some 71),.load none (.t 70),none⟩,
 ⟨(some 73),.load none (.t 72),none⟩,
 ⟨(some 74),.mapGet none [(.int .i64 0)] false (.t 71) (.t 73),none⟩,
 ⟨(some 76),.build [(.d (.int .i64 0)),(.d (.int .i64 0)),(.d (.int .i64 0)),(.d (.str []))] [(0,1,(.k (.c (.d (.int .i64 8))))),(1,1,(.t 74)),(2,1,(.t 75))],none⟩,
 ⟨(some 77),.call false 54 [(.t 67),(.t 76)],none⟩] [4,5,67,68,69,70,71,72,73,74,75,76,77])))))
 (.seq (.region [⟨(some 25),.mv (.t 0),none⟩,
 ⟨(some 26),.load (some 4) (.t 5),none⟩,
 ⟨(some 27),.call false 81 [(.t 25),(.t 26)],none⟩,
 ⟨(some 8),.mv (.t 27),none⟩] [5,25,26,27,41])
 (.region [⟨(some 28),.mv (.t 0),none⟩,
 ⟨(some 29),.mv (.t 8),none⟩,
 ⟨(some 30),.mv (.t 4),none⟩,
 ⟨(some 31),.build [(.d (.int .i64 0)),(.d (.int .i64 0)),(.d (.int .i64 0)),(.d (.str []))] [(0,1,(.k (.c (.d (.int .i64 9))))),(1,1,(.t 29)),(2,1,(.t 30))],none⟩,
 ⟨(some 32),.call false 54 [(.t 28),(.t 31)],none⟩] [4,8,28,29,30,31,32]))))))))))
 (.region [⟨(some 78),.bin .add (.t 18) (.k (.c (.d (.int .i64 1)))),none⟩,
 ⟨(some 18),.mv (.t 78),none⟩] [78])))))))
 (.seq (.region [⟨(some 9),.mv (.k (.c (.d (.int .i64 11)))),none⟩] [])
 (.seq (.seq (.region [⟨(some 79),.load (some 4) (.t 3),none⟩,
 ⟨(some 80),.qcall 51 [(.t 79)],none⟩] [79])
 (.cond (.t 80)
 (.region [⟨(some 9),.mv (.k (.c (.d (.int .i64 12)))),none⟩] [80])
 (.skip)))
 (.region [⟨(some 81),.mv (.t 0),none⟩,
 ⟨(some 82),.mv (.t 9),none⟩,
 ⟨(some 83),.fieldAddr 3 (.t 3),none⟩,
 ⟨(some 84),.load none (.t 83),none⟩,
 ⟨(some 85),.len 1 (.t 84),none⟩,
 ⟨(some 86),.fieldAddr 2 (.t 3),none⟩,
 ⟨(some 87),.load none (.t 86),none⟩,
 ⟨(some 88),.build [(.d (.int .i64 0)),(.d (.int .i64 0)),(.d (.int .i64 0)),(.d (.str []))] [(0,1,(.t 82)),(1,1,(.t 85)),(3,1,(.t 87))],none⟩,
 ⟨(some 89),.call false 54 [(.t 81),(.t 88)],none⟩] [0,3,9,80,81,82,83,84,85,86,87,88,89])))))
theorem ac57_ok : cFunc Tryz.prog [1000051,1000080,12000056,11000061,5000063] [(0,[1],[]),(1,[10],[]),(2,[0,3,11,12,13,14],[]),(3,[11,15],[]),(4,[],[]),(5,[19,20,21,22],[]),(6,[23],[]),(9,[34],[]),(10,[4,5,24,33,35,36,37,38,39,40],[]),(11,[24,33,42],[]),(12,[41,43,44,45,46,47,48,49,50,51,52],[0,1,2,4,3,5,6,7,8,9,10,11]),(13,[7],[]),(14,[4,5,6,53,54,55,56,57,58],[]),(15,[6,53,59,60,61,62,63,64,65,66],[0,1,2,4,6,3,5,7,8]),(16,[4,5,67,68,69,70,71,72,73,74,75,76,77],[0,1,2,3,5,8,4,6,7,9,10]),(7,[5,25,26,27,41],[]),(8,[4,8,28,29,30,31,32],[]),(17,[78],[]),(18,[],[]),(19,[79],[]),(20,[80],[]),(21,[0,3,9,80,81,82,83,84,85,86,87,88,89],[])] Tryz.f57 = some (ac57,[],90) := by kernel_rfl
set_option maxHeartbeats 1600000 in
theorem goal_makes (g : Tm) (hfit : g.fits) (hgd : g.good) (hk3 : g.k = 3) (hz : g.size ≤ 200) (M : Mk) (B : Nat) (hB : B ≤ 100000) (hM : M.fit B) : Makes 57 [.agg (g.row.map .d)] M (goalT g M) (.tup []) := fun H i hi => by
  have c1 := cutImpl_calls g hfit
  have c2 := isBuilt_calls g hfit
  have hnx := hM.next
  have hcd := hM.code
  have hal := hM.all
  obtain ⟨k, n, s, l⟩ := g
  obtain rfl : k = 3 := hk3
  rw [Tm.size] at hz
  have hkg := good_kids hgd
  have hbt : (Tm.mk 3 n s l).built = builtB s l.length := by simp [Tm.built, Tm.k, Tm.s, Tm.kids]
  rw [hbt] at c2
  rw [row_mk] at c1 c2
  simp only [List.map_cons, List.map_nil] at c1 c2
  refine acalls Tryz.func57 (by kernel_rfl) ac57_ok fun hf => ?_
  rw [cd_len] at hf
  have hf1 := fun M' => cd_fits (M' := M') hf hi
  have hli : inR .i64 (l.length : Int) := small_i64 (by omega) (by omega)
  simp -implicitDefEqProofs [ac57, hli, row_mk, go_sem, -List.set_cons_succ, -List.set_cons_zero]
  refine qcall_pure c1 (by simpa [cd_len] using hf) rfl ?_
  cases hcut : (Tm.mk 3 n s l).cutB with
  | true =>
    have e : goalT (.mk 3 n s l) M = M.emit 13 0 0 [] := by rw [goalT, hcut]; rfl
    rw [e]
    simp -implicitDefEqProofs [hf1, cd_len, Ref.re, go_sem, -List.set_cons_succ, -List.set_cons_zero]
    refine call_mk (add_makes M 13 0 0 [] (by omega) hal) hi (by simp [Ob.re, C.re]) rfl (hf1 _) ?_
    simp -implicitDefEqProofs [cd_len, go_sem, -List.set_cons_succ, -List.set_cons_zero]
  | false =>
    obtain ⟨G, hG⟩ : ∃ G, G = putsT l 0 M := ⟨_, rfl⟩
    have hGf := puts_fit l 0 M _ hM
    have e : goalT (.mk 3 n s l) M = G.emit (if builtB s l.length then 12 else 11) l.length 0 s := by rw [goalT, hcut, hG]; rfl
    rw [e]
    rw [← hG] at hGf
    simp -implicitDefEqProofs [hli, hf1, cd_len, Ref.re, go_sem, -List.set_cons_succ, -List.set_cons_zero]
    refine loop_set (σ := Nat × Mk) (fun x => [(18, .c (.d (.int .i64 x.1)))]) (fun x => cd H i x.2)
      (fun x => [.cells [.d (.int .i64 3), .d (.int .i64 n), .d (.str s), .d (.sl (l.map Tm.row))]])
      (fun x => x.1 ≤ l.length ∧ x.2 = putsT (l.take x.1) 0 M) (fun x => l.length - x.1) (0, M) (by simp [setAll]) ⟨Nat.zero_le _, by simp [putsT]⟩ ?_
    rintro ⟨j, P⟩ ⟨hj, e1⟩
    simp only at hj e1
    simp -implicitDefEqProofs [setAll, hli, go_sem, -List.set_cons_succ, -List.set_cons_zero]
    refine ⟨fun hlt => ?_, fun hge => ?_⟩
    · have hadd : inR .i64 ((j : Int) + 1) := small_i64 (by omega) (by omega)
      have hPf := puts_fit (l.take j) 0 M _ hM
      have hszj : sizes (l.take j) + l[j].size ≤ sizes l := by
        have e2 : sizes (l.take (j + 1)) = sizes (l.take j) + l[j].size := by
          rw [List.take_succ_eq_append_getElem hlt, sizes_app]; simp [sizes]
        have e3 : sizes l = sizes (l.take (j + 1)) + sizes (l.drop (j + 1)) := by rw [← sizes_app, List.take_append_drop]
        omega
      have hput : putT P l[j] j = putsT (l.take (j + 1)) 0 M := by
        rw [List.take_succ_eq_append_getElem hlt, puts_last, e1]
        congr 1
        simp
        omega
      have hjt : (l.take j).length ≤ 4 := by simp; omega
      rw [← e1] at hPf
      have hPn := hPf.next
      have hPc := hPf.code
      have hPa := hPf.all
      have hgt := hkg.2 l[j] (List.getElem_mem hlt)
      have hbm := build_makes l[j] hgt P _ (by omega) hPf
      have hbf := build_fit l[j] P _ hPf
      have hrow : (l.map Tm.row)[j]? = some l[j].row := by simp [hlt]
      obtain ⟨W, hW⟩ : ∃ W, W = putsT (l.take (j + 1)) 0 M := ⟨_, rfl⟩
      rw [← hW] at hput
      have hback : ∀ (sl : List A) (x : List C), True := fun _ _ => trivial
      have hvs := var_slot hgt
      obtain ⟨t, ht⟩ : ∃ t, t = l[j] := ⟨_, rfl⟩
      rw [← ht] at hgt hbm hbf hrow hput hvs hszj
      clear ht
      obtain ⟨R, hR⟩ : ∃ R, R = buildT t P := ⟨_, rfl⟩
      rw [← hR] at hbm hbf
      obtain ⟨k', n', s', kids⟩ := t
      have hpt : putT P (.mk k' n' s' kids) j = if k' = 2 then P.emit 10 n' j [] else if k' = 1 then (match slotO P.sl n' with | some v => P.emit 9 v j [] | none => ((P.give n' P.next).bump).emit 8 P.next j []) else R.1.emit 9 R.2 j [] := by
        rw [hR]; rfl
      rw [hpt] at hput
      refine row_nat _ hrow rfl ?_
      cases hgt with
      | mk ho hk =>
        rcases own_cases ho with ⟨rfl, n0, n1, rfl, rfl⟩ | ⟨rfl, n0, n1, rfl, rfl⟩ | ⟨rfl, rfl, hs2, hl4⟩
        · obtain ⟨v, hv, hv26⟩ := hvs rfl
          simp only [Tm.n] at hv
          subst hv
          simp at hput
          cases hsv : slotO P.sl v with
          | some u =>
            simp only [hsv] at hput
            simp -implicitDefEqProofs [row_mk, cd_0 P hi, cd_1 P hi, cd_2 P hi, cd_len, Ref.re, hf1, slotsM_row, hsv, go_sem, -List.set_cons_succ, -List.set_cons_zero]
            refine call_mk (add_makes P 9 u j [] (by omega) hPa) hi (by simp [Ob.re, C.re]) rfl (hf1 _) ?_
            rw [hput]
            simp -implicitDefEqProofs [hadd, cd_len, go_sem, -List.set_cons_succ, -List.set_cons_zero]
            refine loop_less (j + 1, W) (St.le_cut [_] ?_ (by simp [cd_len, Sl.le, A.le_refl_iff, A.le_u_iff, As.lo, A.lo, C.lo, Ref.lo, Cs.lo, Obs.lo, Ob.lo, setAll, and_true, true_and, List.length_nil, List.length_cons]; omega) rfl (by simp [Sl.le, A.le_refl_iff, A.le_u_iff, As.lo, A.lo, C.lo, Ref.lo, Cs.lo, Obs.lo, Ob.lo, setAll, and_true, true_and, List.length_nil, List.length_cons])) ⟨hlt, hW⟩ (by show l.length - (j + 1) < l.length - j; omega)
            simp [setAll, Sl.le, A.le_refl_iff, A.le_u_iff, As.lo, A.lo, C.lo, Ref.lo, Cs.lo, Obs.lo, Ob.lo, setAll, and_true, true_and, List.length_nil, List.length_cons]
          | none =>
            simp only [hsv] at hput
            have hpu := slotsM_put v P.next P.sl hsv
            have hset := cd_set0 H i P.bump (P.give v P.next).bump rfl rfl
            have hse2 : slotO (P.sl ++ [((v : Int), P.next)]) v = some P.next := by rw [slotO_snoc _ _ _ _ hsv, if_pos rfl]
            simp -implicitDefEqProofs [row_mk, cd_0 P hi, cd_1 P hi, cd_2 P hi, cd_len, Ref.re, hf1, slotsM_row, hsv, go_sem, -List.set_cons_succ, -List.set_cons_zero]
            refine call_mk (slot_makes P (by omega)) hi (by simp [Ob.re, C.re]) rfl (hf1 _) ?_
            refine ⟨⟨LocSame.refl _, cd_head _ _ hi⟩, ?_⟩
            simp -implicitDefEqProofs [cd_0 P.bump hi, cd_len, go_sem, -List.set_cons_succ, -List.set_cons_zero]
            have hs0 : P.bump.sl = P.sl := rfl
            rw [hs0, hpu, show P.sl ++ [((v : Int), P.next)] = (P.give v P.next).bump.sl from rfl, hset]
            refine ⟨hf1 _, ?_⟩
            simp -implicitDefEqProofs [cd_0 _ hi, cd_1 _ hi, cd_2 _ hi, cd_len, Ref.re, hf1, slotsM_row, go_sem, -List.set_cons_succ, -List.set_cons_zero]
            rw [show (P.give v P.next).bump.sl = P.sl ++ [((v : Int), P.next)] from rfl, hse2]
            simp -implicitDefEqProofs [cd_len, go_sem, -List.set_cons_succ, -List.set_cons_zero]
            refine call_mk (add_makes (P.give v P.next).bump 8 P.next j [] (by show P.code.length ≤ _; omega) hPa) hi (by simp [Ob.re, C.re]) rfl (hf1 _) ?_
            rw [hput]
            simp -implicitDefEqProofs [hadd, cd_len, go_sem, -List.set_cons_succ, -List.set_cons_zero]
            refine loop_less (j + 1, W) (St.le_cut [_] ?_ (by simp [cd_len, Sl.le, A.le_refl_iff, A.le_u_iff, As.lo, A.lo, C.lo, Ref.lo, Cs.lo, Obs.lo, Ob.lo, setAll, and_true, true_and, List.length_nil, List.length_cons]; omega) rfl (by simp [Sl.le, A.le_refl_iff, A.le_u_iff, As.lo, A.lo, C.lo, Ref.lo, Cs.lo, Obs.lo, Ob.lo, setAll, and_true, true_and, List.length_nil, List.length_cons])) ⟨hlt, hW⟩ (by show l.length - (j + 1) < l.length - j; omega)
            simp [setAll, Sl.le, A.le_refl_iff, A.le_u_iff, As.lo, A.lo, C.lo, Ref.lo, Cs.lo, Obs.lo, Ob.lo, setAll, and_true, true_and, List.length_nil, List.length_cons]
        · simp at hput
          simp -implicitDefEqProofs [row_mk, cd_0 P hi, cd_1 P hi, cd_2 P hi, cd_len, Ref.re, hf1, go_sem, -List.set_cons_succ, -List.set_cons_zero]
          refine call_mk (add_makes P 10 n' j [] (by omega) hPa) hi (by simp [Ob.re, C.re]) rfl (hf1 _) ?_
          rw [hput]
          simp -implicitDefEqProofs [hadd, cd_len, go_sem, -List.set_cons_succ, -List.set_cons_zero]
          refine loop_less (j + 1, W) (St.le_cut [_] ?_ (by simp [cd_len, Sl.le, A.le_refl_iff, A.le_u_iff, As.lo, A.lo, C.lo, Ref.lo, Cs.lo, Obs.lo, Ob.lo, setAll, and_true, true_and, List.length_nil, List.length_cons]; omega) rfl (by simp [Sl.le, A.le_refl_iff, A.le_u_iff, As.lo, A.lo, C.lo, Ref.lo, Cs.lo, Obs.lo, Ob.lo, setAll, and_true, true_and, List.length_nil, List.length_cons])) ⟨hlt, hW⟩ (by show l.length - (j + 1) < l.length - j; omega)
          simp [setAll, Sl.le, A.le_refl_iff, A.le_u_iff, As.lo, A.lo, C.lo, Ref.lo, Cs.lo, Obs.lo, Ob.lo, setAll, and_true, true_and, List.length_nil, List.length_cons]
        · simp at hput
          rw [row_mk] at hbm
          simp only [List.map_cons, List.map_nil] at hbm
          have hcd2 := hbf.1.code
          simp -implicitDefEqProofs [row_mk, cd_0 P hi, cd_1 P hi, cd_2 P hi, cd_len, Ref.re, hf1, go_sem, -List.set_cons_succ, -List.set_cons_zero]
          refine call_mk hbm hi (by simp [Ob.re, C.re]) rfl (hf1 _) ?_
          simp -implicitDefEqProofs [cd_len, Ref.re, hf1, go_sem, -List.set_cons_succ, -List.set_cons_zero]
          refine call_mk (add_makes R.1 9 R.2 j [] (by omega) hbf.1.all) hi (by simp [Ob.re, C.re]) rfl (hf1 _) ?_
          rw [hput]
          simp -implicitDefEqProofs [hadd, cd_len, go_sem, -List.set_cons_succ, -List.set_cons_zero]
          refine loop_less (j + 1, W) (St.le_cut [_] ?_ (by simp [cd_len, Sl.le, A.le_refl_iff, A.le_u_iff, As.lo, A.lo, C.lo, Ref.lo, Cs.lo, Obs.lo, Ob.lo, setAll, and_true, true_and, List.length_nil, List.length_cons]; omega) rfl (by simp [Sl.le, A.le_refl_iff, A.le_u_iff, As.lo, A.lo, C.lo, Ref.lo, Cs.lo, Obs.lo, Ob.lo, setAll, and_true, true_and, List.length_nil, List.length_cons])) ⟨hlt, hW⟩ (by show l.length - (j + 1) < l.length - j; omega)
          simp [setAll, Sl.le, A.le_refl_iff, A.le_u_iff, As.lo, A.lo, C.lo, Ref.lo, Cs.lo, Obs.lo, Ob.lo, setAll, and_true, true_and, List.length_nil, List.length_cons]
    · obtain rfl : j = l.length := by omega
      rw [List.take_length, ← hG] at e1
      subst e1
      have hPc := hGf.code
      have hPa := hGf.all
      simp -implicitDefEqProofs [hf1, cd_len, go_sem, -List.set_cons_succ, -List.set_cons_zero]
      refine qcall_pure c2 (by simpa [cd_len] using hf1 P) rfl ?_
      cases hbb : builtB s l.length with
      | true =>
        simp -implicitDefEqProofs [hli, hf1, cd_len, Ref.re, go_sem, -List.set_cons_succ, -List.set_cons_zero]
        refine call_mk (add_makes P 12 l.length 0 s (by omega) hPa) hi (by simp [Ob.re, C.re]) rfl (hf1 _) ?_
        simp -implicitDefEqProofs [cd_len, go_sem, -List.set_cons_succ, -List.set_cons_zero]
      | false =>
        simp -implicitDefEqProofs [hli, hf1, cd_len, Ref.re, go_sem, -List.set_cons_succ, -List.set_cons_zero]
        refine call_mk (add_makes P 11 l.length 0 s (by omega) hPa) hi (by simp [Ob.re, C.re]) rfl (hf1 _) ?_
        simp -implicitDefEqProofs [cd_len, go_sem, -List.set_cons_succ, -List.set_cons_zero]
end Go.Proofs.YteighafofbohcaaGreat

/-
  Terms: how many there are.
  Conditions: none.
-/
open Go Go.AM Go.Proofs
namespace Go.Proofs.YteighafofbohcaaGreat
open Go.ChangeShapes Go.WideShapes Go.ChangeAt Go.RowKit
set_option linter.unusedVariables false
set_option linter.unusedSimpArgs false
set_option maxRecDepth 100000
mutual
/-- what a law's size takes off for a term -/
def Tm.wt : Tm → Nat
  | .mk _ _ s l => s.length + Tm.wts l
def Tm.wts : List Tm → Nat
  | [] => 0
  | t :: l => 1 + t.wt + Tm.wts l
end
mutual
/-- the terms below a term -/
def Tm.sub : Tm → Nat
  | .mk _ _ _ l => Tm.cnt l
def Tm.cnt : List Tm → Nat
  | [] => 0
  | t :: l => 1 + t.sub + Tm.cnt l
end
theorem sub_mk (k n : Int) (s : List UInt8) (l : List Tm) : (Tm.mk k n s l).sub = Tm.cnt l := by rw [Tm.sub]
theorem sub_eq (t : Tm) : t.sub = Tm.cnt t.kids := by cases t; rw [Tm.sub]; rfl
theorem cnt_nil : Tm.cnt [] = 0 := by rw [Tm.cnt]
theorem cnt_cons (t : Tm) (l : List Tm) : Tm.cnt (t :: l) = 1 + t.sub + Tm.cnt l := by rw [Tm.cnt]
theorem wts_cons (t : Tm) (l : List Tm) : Tm.wts (t :: l) = 1 + t.wt + Tm.wts l := by rw [Tm.wts]
theorem wts_append (l r : List Tm) : Tm.wts (l ++ r) = Tm.wts l + Tm.wts r := by
  induction l with
  | nil => simp [Tm.wts]
  | cons t l ih => rw [List.cons_append, wts_cons, wts_cons, ih]; omega
theorem cnt_append (l r : List Tm) : Tm.cnt (l ++ r) = Tm.cnt l + Tm.cnt r := by
  induction l with
  | nil => simp [Tm.cnt]
  | cons t l ih => rw [List.cons_append, cnt_cons, cnt_cons, ih]; omega
theorem cnt_take_succ (l : List Tm) {i : Nat} (h : i < l.length) : Tm.cnt (l.take (i + 1)) = Tm.cnt (l.take i) + 1 + l[i].sub := by
  rw [List.take_succ_eq_append_getElem h, cnt_append, cnt_cons, cnt_nil]; omega
theorem wts_take_succ (l : List Tm) {i : Nat} (h : i < l.length) : Tm.wts (l.take (i + 1)) = Tm.wts (l.take i) + 1 + l[i].wt := by
  rw [List.take_succ_eq_append_getElem h, wts_append, wts_cons, Tm.wts]; omega
theorem cnt_take_le (l : List Tm) (i : Nat) : Tm.cnt (l.take i) ≤ Tm.cnt l := by
  have := cnt_append (l.take i) (l.drop i)
  rw [List.take_append_drop] at this
  omega
theorem cnt_take_sub (l : List Tm) {i : Nat} (h : i < l.length) : Tm.cnt (l.take i) + 1 + l[i].sub ≤ Tm.cnt l := by
  rw [← cnt_take_succ l h]; exact cnt_take_le l _
theorem cnt_len (l : List Tm) : l.length ≤ Tm.cnt l := by
  induction l with
  | nil => simp
  | cons t l ih => rw [cnt_cons]; simp; omega
theorem sub_wt : ∀ t : Tm, t.sub ≤ t.wt := by
  refine Tm.ind fun k n s l ih => ?_
  rw [Tm.sub, Tm.wt]
  have : Tm.cnt l ≤ Tm.wts l := by
    clear k n s
    induction l with
    | nil => simp [Tm.cnt]
    | cons t l ih2 =>
      rw [cnt_cons, wts_cons]
      have := ih t (by simp)
      have := ih2 fun t ht => ih t (by simp [ht])
      omega
  omega
theorem cnt_wts (l : List Tm) : Tm.cnt l ≤ Tm.wts l := by
  induction l with
  | nil => simp [Tm.cnt]
  | cons t l ih => rw [cnt_cons, wts_cons]; have := sub_wt t; omega
/-- what is left, where enough is -/
def LeftW (m : Int) (p : Prop) (w : Nat) (r : A) : Prop := ∃ q : Int, r = .c (.d (.int .i64 q)) ∧ -1 ≤ q ∧ q ≤ m ∧ (0 ≤ q → p ∧ q + w ≤ m)
theorem LeftW.re {n : Nat} {m : Int} {p : Prop} {w : Nat} {r : A} (h : LeftW m p w r) : A.re n r = r := by
  obtain ⟨q, rfl, _⟩ := h
  rfl
theorem LeftW.left {m : Int} {p : Prop} {w : Nat} {r : A} (h : LeftW m p w r) : Left m p r := by
  obtain ⟨q, h1, h2, h3, h4⟩ := h
  exact ⟨q, h1, h2, h3, fun h => (h4 h).1⟩
end Go.Proofs.YteighafofbohcaaGreat

/-
  Rows that are marked one after the other.
  Conditions: none.
-/
open Go Go.AM Go.Proofs
namespace Go.Proofs.YteighafofbohcaaGreat
set_option linter.unusedVariables false
set_option linter.unusedSimpArgs false
/-- the first i rows are new ones -/
def mixed {α : Type} (f : Nat → α) (rows : List α) (i : Nat) : List α := (List.range i).map f ++ rows.drop i
theorem mixed_zero {α : Type} (f : Nat → α) (rows : List α) : mixed f rows 0 = rows := by simp [mixed]
theorem mixed_all {α : Type} (f : Nat → α) (rows : List α) : mixed f rows rows.length = (List.range rows.length).map f := by simp [mixed]
theorem mixed_len {α : Type} (f : Nat → α) (rows : List α) {i : Nat} (h : i ≤ rows.length) : (mixed f rows i).length = rows.length := by simp [mixed]; omega
theorem mixed_get {α : Type} (f : Nat → α) (rows : List α) {i : Nat} (h : i < rows.length) : (mixed f rows i)[i]? = some rows[i] := by
  rw [mixed, List.getElem?_append_right (by simp)]
  simp [h]
theorem mixed_set {α : Type} (f : Nat → α) (rows : List α) {i : Nat} (h : i < rows.length) : (mixed f rows i).set i (f i) = mixed f rows (i + 1) := by
  rw [mixed, mixed, List.set_append_right _ _ (by simp), List.drop_eq_getElem_cons h, List.range_succ]
  simp only [List.length_map, List.length_range, Nat.sub_self, List.set_cons_zero, List.map_append, List.map_cons, List.map_nil, List.append_assoc, List.cons_append, List.nil_append]
theorem mixed_get' {α : Type} (f : Nat → α) (rows : List α) {i j : Nat} (h : i ≤ rows.length) : (mixed f rows i)[j]? = if j < i then some (f j) else rows[j]? := by
  rw [mixed]
  by_cases hj : j < i
  · rw [List.getElem?_append_left (by simpa using hj), if_pos hj]; simp [hj]
  · rw [List.getElem?_append_right (by simp; omega), if_neg hj, List.getElem?_drop]
    congr 1
    simp; omega
theorem range_row {f : Nat → List D} {n i : Nat} (h : i < n) : ((List.range n).map f)[i]? = some (f i) := by simp [h]
end Go.Proofs.YteighafofbohcaaGreat

/-
  The law's text for a mark.
  Conditions: none.
-/
open Go Go.AM Go.Proofs
namespace Go.Proofs.YteighafofbohcaaGreat
open Go.ChangeShapes Go.WideShapes Go.ChangeAt Go.RowKit
set_option linter.unusedVariables false
set_option linter.unusedSimpArgs false
set_option maxRecDepth 100000
def digs (k : Nat) (out : List UInt8) : List UInt8 := if h : k = 0 then out else digs (k / 10) (UInt8.ofNat (48 + k % 10) :: out)
termination_by k
decreasing_by omega
theorem digs_go {k : Nat} {out : List UInt8} (h : 0 < k) : digs k out = digs (k / 10) (UInt8.ofNat (48 + k % 10) :: out) := by rw [digs, dif_neg (by omega)]
theorem digs_zero (out : List UInt8) : digs 0 out = out := by rw [digs, dif_pos rfl]
def mText (k : Int) : List UInt8 := if k ≤ 0 then [109, 48] else 109 :: digs k.toNat []
end Go.Proofs.YteighafofbohcaaGreat

/-
  Terms are marked, and looked at again.
  Conditions: none.
-/
open Go Go.AM Go.Proofs
namespace Go.Proofs.YteighafofbohcaaGreat
open Go.ChangeShapes Go.WideShapes Go.ChangeAt Go.RowKit
set_option linter.unusedVariables false
set_option linter.unusedSimpArgs false
set_option maxRecDepth 100000
mutual
/-- a term that bears marks -/
def mTm (k : Int) : Tm → Tm
  | .mk _ _ _ l => .mk k (k + 1) (mText (k + 2)) (mTms (k + 3) l)
def mTms (k : Int) : List Tm → List Tm
  | [] => []
  | t :: l => mTm k t :: mTms (k + 3 + 3 * t.sub) l
end
theorem mTms_nil (k : Int) : mTms k [] = [] := by rw [mTms]
theorem mTms_cons (k : Int) (t : Tm) (l : List Tm) : mTms k (t :: l) = mTm k t :: mTms (k + 3 + 3 * t.sub) l := by rw [mTms]
theorem mTms_len : ∀ (k : Int) (l : List Tm), (mTms k l).length = l.length
  | k, [] => by rw [mTms]
  | k, t :: l => by rw [mTms_cons, List.length_cons, mTms_len, List.length_cons]
theorem mTms_get : ∀ (k : Int) (l : List Tm) (i : Nat) (h : i < l.length), (mTms k l)[i]? = some (mTm (k + 3 * Tm.cnt (l.take i)) l[i])
  | k, t :: l, 0, h => by rw [mTms_cons]; simp [Tm.cnt]
  | k, t :: l, i + 1, h => by
    rw [mTms_cons, List.getElem?_cons_succ, mTms_get _ l i (by simpa using h)]
    simp only [List.take_succ_cons, cnt_cons, List.getElem_cons_succ]
    congr 2
    simp only [Int.natCast_add]
    omega
theorem mTm_row (k : Int) (t : Tm) : (mTm k t).row = [.int .i64 k, .int .i64 (k + 1), .str (mText (k + 2)), .sl ((mTms (k + 3) t.kids).map Tm.row)] := by
  obtain ⟨a, n, s, l⟩ := t
  rw [mTm, row_mk]
  rfl
/-- a term's cells, its kids cut off -/
def srow (t : Tm) (v : Value) : List D := [.int .i64 t.k, .int .i64 t.n, .str t.s, .v v]
def ktree (t : Tm) (v : Value) : Ob := .tree v (t.kids.map Tm.row)
theorem strip_terms : ∀ (l : List Tm) (vs : List Value), vs.length = l.length → Strip (l.map Tm.row).flatten (List.zipWith srow l vs).flatten (List.zipWith ktree l vs)
  | [], [], _ => ⟨rfl, rfl⟩
  | [], _ :: _, h => by simp at h
  | _ :: _, [], h => by simp at h
  | t :: l, v :: vs, h => by
    simp only [List.map_cons, List.flatten_cons, List.zipWith_cons_cons, row_eq, srow, List.cons_append, List.nil_append]
    exact ⟨_, rfl, _, rfl, _, rfl, _, _, _, rfl, rfl, strip_terms l vs (by simpa using h)⟩
theorem strip_inv : ∀ (l : List Tm) (c : List D) (t : Heap), Strip (l.map Tm.row).flatten c t → ∃ vs : List Value, vs.length = l.length ∧ c = (List.zipWith srow l vs).flatten ∧ t = List.zipWith ktree l vs
  | [], c, t, ⟨h1, h2⟩ => ⟨[], rfl, h1, h2⟩
  | x :: l, c, t, h => by
    simp only [List.map_cons, List.flatten_cons, row_eq, List.cons_append, List.nil_append] at h
    obtain ⟨c1, rfl, c2, rfl, c3, rfl, v, c4, t4, rfl, rfl, h5⟩ := h
    obtain ⟨vs, h6, rfl, rfl⟩ := strip_inv l c4 t4 h5
    exact ⟨v :: vs, by simp [h6], rfl, rfl⟩
theorem zip_lens {l : List Tm} {vs : List Value} (h : vs.length = l.length) : (List.zipWith srow l vs).map List.length = (l.map Tm.row).map List.length := by
  refine List.ext_getElem? fun i => ?_
  rcases Nat.lt_or_ge i l.length with hi | hi
  · simp [List.getElem?_zipWith, hi, h, row_len, srow]
  · rw [List.getElem?_eq_none (by simp [h]; omega), List.getElem?_eq_none (by simp; omega)]
theorem term_rows (l : List Tm) : ∀ r ∈ l.map Tm.row, r.length = 4 := fun r hr => by obtain ⟨t, _, rfl⟩ := List.mem_map.1 hr; exact row_len t
theorem fits_trees {n : Nat} : ∀ {l : Heap}, l.all Ob.isTreeB = true → Obs.fits n 0 l
  | [], _ => trivial
  | o :: l, h => by
    simp only [List.all_cons, Bool.and_eq_true] at h
    refine ⟨?_, fits_trees h.2⟩
    cases o <;> first | trivial | cases h.1
theorem all_mixed {f : Nat → Ob} {l : Heap} {i : Nat} (hf : ∀ j, (f j).isTreeB = true) (hl : l.all Ob.isTreeB = true) : (mixed f l i).all Ob.isTreeB = true := by
  rw [List.all_eq_true] at hl ⊢
  intro o ho
  rcases List.mem_append.1 ho with h | h
  · obtain ⟨j, _, rfl⟩ := List.mem_map.1 h; exact hf j
  · exact hl o (List.mem_of_mem_drop h)
theorem zip_trees (l : List Tm) (vs : List Value) : (List.zipWith ktree l vs).all Ob.isTreeB = true := by
  induction l generalizing vs with
  | nil => rfl
  | cons t l ih =>
    cases vs with
    | nil => rfl
    | cons v vs => simp only [List.zipWith_cons_cons, List.all_cons, ih, Bool.and_true]; rfl
end Go.Proofs.YteighafofbohcaaGreat

/-
  Copies of terms that stand in arrays of their own.
  Conditions: none.
-/
open Go Go.AM Go.Proofs
namespace Go.Proofs.YteighafofbohcaaGreat
open Go.ChangeShapes Go.WideShapes Go.ChangeAt Go.RowKit
set_option linter.unusedVariables false
set_option linter.unusedSimpArgs false
set_option maxRecDepth 100000
namespace Own
end Own
/-- what is handed out: rows in an array of their own -/
def HandsRows (rows : List (List D)) (r : A) (H : Heap) : Prop := ∃ v : Value, r = .c (.d (.v v)) ∧ H = [.tree v rows]
theorem HandsRows.handed {rows : List (List D)} {r : A} {H : Heap} (h : HandsRows rows r H) : Handed r H := by
  obtain ⟨v, rfl, rfl⟩ := h
  exact ⟨rfl, rfl⟩
/-- .. a term -/
def HandsTm (t : Tm) (r : A) (H : Heap) : Prop := ∃ v : Value, r = .agg [.d (.int .i64 t.k), .d (.int .i64 t.n), .d (.str t.s), .d (.v v)] ∧ H = [.tree v (t.kids.map Tm.row)]
theorem HandsTm.handed {t : Tm} {r : A} {H : Heap} (h : HandsTm t r H) : Handed r H := by
  obtain ⟨v, rfl, rfl⟩ := h
  exact ⟨rfl, rfl⟩
def zrow : List D := [.int .i64 0, .int .i64 0, .str [], .sl []]
/-- rows of which the first are made -/
def fillv (l : List Tm) (vs : List Value) : List (List D) := List.zipWith srow l vs ++ List.replicate (l.length - vs.length) zrow
theorem fillv_nil (l : List Tm) : fillv l [] = List.replicate l.length zrow := by simp [fillv]
theorem fillv_all {l : List Tm} {vs : List Value} (h : vs.length = l.length) : fillv l vs = List.zipWith srow l vs := by simp [fillv, h]
theorem fillv_get {l : List Tm} {vs : List Value} (h : vs.length < l.length) : (fillv l vs)[vs.length]? = some zrow := by
  rw [fillv, List.getElem?_append_right (by simp; omega)]
  have : vs.length - (List.zipWith srow l vs).length = 0 := by simp; omega
  rw [this, List.getElem?_replicate, if_pos (by omega)]
theorem zip_snoc {α β γ : Type} (f : α → β → γ) (l : List α) (vs : List β) (v : β) (h : vs.length < l.length) : List.zipWith f l (vs ++ [v]) = List.zipWith f l vs ++ [f l[vs.length] v] := by
  induction vs generalizing l with
  | nil => cases l with
    | nil => simp at h
    | cons x l => simp
  | cons w vs ih => cases l with
    | nil => simp at h
    | cons x l => simp only [List.cons_append, List.zipWith_cons_cons, List.length_cons, List.getElem_cons_succ]; rw [ih l (by simpa using h)]
theorem fillv_set {l : List Tm} {vs : List Value} (v : Value) (h : vs.length < l.length) : (fillv l vs).set vs.length (srow l[vs.length] v) = fillv l (vs ++ [v]) := by
  have e : l.length - vs.length = (l.length - (vs ++ [v]).length) + 1 := by simp; omega
  rw [fillv, fillv, List.set_append_right _ _ (by simp; omega), zip_snoc _ _ _ _ h, e, List.replicate_succ]
  have : vs.length - (List.zipWith srow l vs).length = 0 := by simp; omega
  rw [this]
  simp
end Go.Proofs.YteighafofbohcaaGreat

/-
  Code of queries and clauses, as values and as memory that is handed out.
  Conditions: none.
-/
open Go Go.AM Go.Proofs
namespace Go.Proofs.YteighafofbohcaaGreat
open Go.ChangeShapes Go.WideShapes Go.ChangeAt Go.RowKit
set_option linter.unusedVariables false
set_option linter.unusedSimpArgs false
set_option maxRecDepth 100000
-- 29 (*loop.example/prologserver/impl.coding).body params 2 ntmps 24
-- loop head live: [0,7,8,9]
def ac29 : Cd := .seq (.region [⟨(some 4),.mv (.k (.c (.full []))),none⟩] [4])
 (.seq (.seq (.region [⟨(some 7),.mv (.t 1),none⟩,
 ⟨(some 8),.len 1 (.t 7),none⟩,
 ⟨(some 9),.mv (.k (.c (.d (.int .i64 0)))),none⟩] [1])
 (.block 0 (.loop (.seq (.region [⟨(some 10),.bin .lss (.t 9) (.t 8),none⟩] [])
 (.seq (.cond (.t 10)
 (.skip)
 (.exit 0))
 (.seq (.block 1 (.seq (.region [⟨(some 11),.indexAddr 4 (.t 7) (.t 9),none⟩,
 ⟨(some 12),.load (some 4) (.t 11),none⟩,
 ⟨(some 6),.alloc [(.d (.int .i64 0)),(.d (.int .i64 0)),(.d (.str [])),(.full [])],none⟩,
 ⟨none,.store 4 (.t 6) (.t 12),none⟩] [10,11,12])
 (.region [⟨(some 13),.mv (.t 0),none⟩,
 ⟨(some 14),.load (some 4) (.t 6),none⟩,
 ⟨(some 15),.call false 57 [(.t 13),(.t 14)],none⟩] [6,13,14,15])))
 (.region [⟨(some 16),.bin .add (.t 9) (.k (.c (.d (.int .i64 1)))),none⟩,
 ⟨(some 9),.mv (.t 16),none⟩] [16])))))))
 (.seq (.region [⟨(some 17),.mv (.t 0),none⟩,
 ⟨(some 18),.build [(.d (.int .i64 0)),(.d (.int .i64 0)),(.d (.int .i64 0)),(.d (.str []))] [(0,1,(.k (.c (.d (.int .i64 14)))))],none⟩,
 ⟨(some 19),.call false 54 [(.t 17),(.t 18)],none⟩] [17,18,19])
 (.seq (.region [⟨(some 20),.mv (.t 0),none⟩,
 ⟨(some 21),.nilCheck (.t 20),none⟩,
 ⟨(some 22),.fieldAddr 2 (.t 21),none⟩,
 ⟨(some 23),.load none (.t 22),none⟩,
 ⟨(some 4),.mv (.t 23),none⟩] [0,20,21,22,23])
 (.ret))))
theorem ac29_ok : cFunc Tryz.prog [] [(0,[4],[]),(1,[1],[]),(2,[],[]),(3,[10,11,12],[]),(4,[6,13,14,15],[]),(5,[16],[]),(6,[17,18,19],[]),(7,[0,20,21,22,23],[])] Tryz.f29 = some (ac29,[.tmp 4],24) := by kernel_rfl
theorem body_calls (l : List Tm) (hl : l.length ≤ 6) (hft : ∀ t ∈ l, t.fits) (hg : ∀ t ∈ l, t.goal = true) (M : Mk) (B : Nat) (hB : B ≤ 10000) (hM : M.fit B) (H : Heap) (i : Nat) (hi : i + 2 < H.length) :
    ACalls Tryz.prog 29 [.c (.ptr (.e (i + 1)) 0), .c (.d (.sl (l.map Tm.row)))] (cd H i M) (fun r H' => r = .c (.own (.e (i + 2)) (bodyT l M).code.length (bodyT l M).code) ∧ H' = cd H i (bodyT l M)) := by
  refine acalls Tryz.func29 (by kernel_rfl) ac29_ok fun hf => ?_
  rw [cd_len] at hf
  have hf1 := fun M' => cd_fits (M' := M') hf hi
  have hli : inR .i64 (l.length : Int) := small_i64 (by omega) (by omega)
  have hsz := goals_sizes l hg
  simp -implicitDefEqProofs [ac29, hli, go_sem, -List.set_cons_succ, -List.set_cons_zero]
  refine loop_set (σ := Nat × Mk) (fun x => [(9, .c (.d (.int .i64 x.1)))]) (fun x => cd H i x.2) (fun x => [])
    (fun x => x.1 ≤ l.length ∧ (∃ cc, x.2.fit cc ∧ cc + 9 * sizes (l.drop x.1) ≤ B + 9 * sizes l) ∧ bodyT (l.drop x.1) x.2 = bodyT l M) (fun x => l.length - x.1) (0, M) (by simp [setAll]) ⟨Nat.zero_le _, ⟨B, hM, by simp⟩, by simp⟩ ?_
  rintro ⟨j, N⟩ ⟨hj, ⟨cc, hN, hC⟩, h1⟩
  simp only at hj hN hC h1
  have hnx := hN.next
  have hcd := hN.code
  have hal := hN.all
  simp -implicitDefEqProofs [setAll, hli, go_sem, -List.set_cons_succ, -List.set_cons_zero]
  refine ⟨fun hlt => ?_, fun hge => ?_⟩
  · have hadd : inR .i64 ((j : Int) + 1) := small_i64 (by omega) (by omega)
    have hd : l.drop j = l[j] :: l.drop (j + 1) := List.drop_eq_getElem_cons hlt
    rw [hd, sizes] at hC
    have hgf := goal_fit l[j] hN
    rw [hd, bodyT, goalsT] at h1
    have hgo := hg _ (List.getElem_mem hlt)
    simp only [Tm.goal, Bool.and_eq_true] at hgo
    have hv := hgo.1
    simp only [Tm.valid, Bool.and_eq_true, decide_eq_true_eq] at hv
    have hk3 : l[j].k = 3 := by
      have h2 := hgo.2
      simp [Tm.plain, Tm.built, Tm.cutB] at h2
      rcases h2 with (h2 | h2) | h2 <;> exact h2.1
    have hps := size_pos l[j]
    have cg := goal_makes l[j] (hft _ (List.getElem_mem hlt)) (shape_good _ _ hv.1) hk3 (by omega) N _ (by omega) hN
    refine row_of hlt (row_len _) ?_
    rw [row_eq] at cg ⊢
    simp only [List.map_cons, List.map_nil] at cg
    simp -implicitDefEqProofs [hf1, cd_len, Ref.re, go_sem, -List.set_cons_succ, -List.set_cons_zero]
    refine call_mk cg hi (by simp [Ob.re, C.re]) rfl (hf1 _) ?_
    simp -implicitDefEqProofs [hadd, cd_len, go_sem, -List.set_cons_succ, -List.set_cons_zero]
    refine loop_less (j + 1, goalT l[j] N) (St.le_cut [_] ?_ (by simp [cd_len, Sl.le, A.le_refl_iff, A.le_u_iff, As.lo, A.lo, C.lo, Ref.lo, Cs.lo, Obs.lo, Ob.lo, setAll, and_true, true_and, List.length_nil, List.length_cons]; omega) rfl (by simp [Sl.le, A.le_refl_iff, A.le_u_iff, As.lo, A.lo, C.lo, Ref.lo, Cs.lo, Obs.lo, Ob.lo, setAll, and_true, true_and, List.length_nil, List.length_cons])) ⟨hlt, ⟨_, hgf, by dsimp only; omega⟩, h1⟩ (by show l.length - (j + 1) < l.length - j; omega)
    simp [setAll, Sl.le, A.le_refl_iff, A.le_u_iff, As.lo, A.lo, C.lo, Ref.lo, Cs.lo, Obs.lo, Ob.lo, setAll, and_true, true_and, List.length_nil, List.length_cons]
  · obtain rfl : j = l.length := by omega
    rw [List.drop_of_length_le (by omega)] at h1
    have e : bodyT [] N = N.emit 14 0 0 [] := rfl
    rw [← h1, e]
    simp -implicitDefEqProofs [hf1, cd_len, Ref.re, go_sem, -List.set_cons_succ, -List.set_cons_zero]
    refine call_mk (add_makes N 14 0 0 [] (by omega) hal) hi (by simp [Ob.re, C.re]) rfl (hf1 _) ?_
    simp -implicitDefEqProofs [cd_1 (N.emit 14 0 0 []) hi, cd_len, hf1, go_sem, -List.set_cons_succ, -List.set_cons_zero]
    show i + 2 < H.length + 0
    omega
def cdCl (j : Nat) (M : Mk) : Ob := .cells [.map (.l j), .d (.int .i64 M.next), .own (.l (j + 2)) M.code.length M.code]
theorem cd_mid (H T : Heap) (a b c : Ob) (M : Mk) : cd (H ++ a :: b :: c :: T) H.length M = H ++ cdM M :: cdC H.length M :: cdG M :: T := by
  simp only [cd]
  rw [List.set_append_right _ _ (by omega), List.set_append_right _ _ (by omega), List.set_append_right _ _ (by omega)]
  simp
theorem loc_re (n : Nat) (pre post : Heap) (M : Mk) : (pre ++ cdM M :: cdCl pre.length M :: cdG M :: post).map (Ob.re n) = pre.map (Ob.re n) ++ cdM M :: cdC (n + pre.length) M :: cdG M :: post.map (Ob.re n) := by
  simp [cdM, cdC, cdCl, cdG, Ob.re, C.re, Ref.re, Nat.add_assoc]
/-- the code that is made, among the own objects -/
theorem heap_cd (ext pre post : Heap) (M M' : Mk) : cd (ext ++ (pre ++ cdM M :: cdCl pre.length M :: cdG M :: post).map (Ob.re ext.length)) (ext.length + pre.length) M' = ext ++ (pre ++ cdM M' :: cdCl pre.length M' :: cdG M' :: post).map (Ob.re ext.length) := by
  rw [loc_re, loc_re, ← List.append_assoc, ← List.append_assoc]
  have := cd_mid (ext ++ pre.map (Ob.re ext.length)) (post.map (Ob.re ext.length)) (cdM M) (cdC (ext.length + pre.length) M) (cdG M) M'
  simp only [List.length_append, List.length_map] at this
  exact this
theorem call_mkL {f : FuncId} {xs : List A} {M M' : Mk} {r : A} (hd : Makes f xs M M' r) {sl : List A} {ext pre post H₂ : Heap} {q : Nat} {K : A → St → Prop} (hq : q = ext.length + pre.length + 1)
    (hH : H₂ = ext ++ (pre ++ cdM M :: cdCl pre.length M :: cdG M :: post).map (Ob.re ext.length)) (hr : A.re ext.length r = r) (hf : Obs.fits ext.length 0 ext) (hk : K r ⟨sl, ext, pre ++ cdM M' :: cdCl pre.length M' :: cdG M' :: post⟩) :
    ACalls Tryz.prog f (.c (.ptr (.e q) 0) :: xs) H₂ (CallK K ⟨sl, ext, pre ++ cdM M :: cdCl pre.length M :: cdG M :: post⟩) := by
  subst hH; subst hq
  have h := hd (ext ++ (pre ++ cdM M :: cdCl pre.length M :: cdG M :: post).map (Ob.re ext.length)) (ext.length + pre.length) (by simp; omega)
  rw [heap_cd, heap_cd] at h
  exact h.mono fun r' H' ⟨h1, h2⟩ => ⟨ext, _, r, h2, rfl, by simp, hf, by rw [h1, hr], hk⟩
theorem call_newC {sl : List A} {ext loc H₂ : Heap} {K : A → St → Prop} (hH : H₂ = ext ++ loc.map (Ob.re ext.length)) (hf : Obs.fits ext.length 0 ext) (hk : K (.c (.ptr (.l (loc.length + 1)) 0)) ⟨sl, ext, loc ++ [cdM mk0, cdCl loc.length mk0, cdG mk0]⟩) :
    ACalls Tryz.prog 27 [] H₂ (CallK K ⟨sl, ext, loc⟩) := by
  subst hH
  refine (new_calls _).mono fun r' H' ⟨h1, h2⟩ => ⟨ext, loc ++ [cdM mk0, cdCl loc.length mk0, cdG mk0], .c (.ptr (.l (loc.length + 1)) 0), ?_, rfl, by simp, hf, ?_, hk⟩
  · rw [h2]
    simp [cdM, cdCl, cdG, mk0, slotsM, Ob.re, C.re, Ref.re, Nat.add_assoc]
  · rw [h1]
    simp [A.re, C.re, Ref.re, Nat.add_assoc]
theorem call_body {l : List Tm} (hl : l.length ≤ 6) (hft : ∀ t ∈ l, t.fits) (hg : ∀ t ∈ l, t.goal = true) {M : Mk} {B : Nat} (hB : B ≤ 10000) (hM : M.fit B) {sl : List A} {ext H₂ : Heap} (pre post : Heap) {q : Nat} {K : A → St → Prop} (hq : q = ext.length + pre.length + 1)
    (hH : H₂ = ext ++ (pre ++ cdM M :: cdCl pre.length M :: cdG M :: post).map (Ob.re ext.length)) (hf : Obs.fits ext.length 0 ext)
    (hk : K (.c (.own (.l (pre.length + 2)) (bodyT l M).code.length (bodyT l M).code)) ⟨sl, ext, pre ++ cdM (bodyT l M) :: cdCl pre.length (bodyT l M) :: cdG (bodyT l M) :: post⟩) :
    ACalls Tryz.prog 29 [.c (.ptr (.e q) 0), .c (.d (.sl (l.map Tm.row)))] H₂ (CallK K ⟨sl, ext, pre ++ cdM M :: cdCl pre.length M :: cdG M :: post⟩) := by
  subst hH; subst hq
  have h := body_calls l hl hft hg M B hB hM (ext ++ (pre ++ cdM M :: cdCl pre.length M :: cdG M :: post).map (Ob.re ext.length)) (ext.length + pre.length) (by simp; omega)
  rw [heap_cd, heap_cd] at h
  exact h.mono fun r' H' ⟨h1, h2⟩ => ⟨ext, _, _, h2, rfl, by simp, hf, by rw [h1]; rfl, hk⟩
theorem goalsB_all {l : List Tm} (h : goalsB l = true) : l.length ≤ 6 ∧ ∀ t ∈ l, t.goal = true := by
  simpa [goalsB] using h
theorem code_flat (M : Mk) (B : Nat) (h : M.fit B) : Flat M.code := by
  intro x hx
  obtain ⟨r, hr, hx⟩ := List.mem_flatten.1 hx
  obtain ⟨y, rfl⟩ := h.rows r hr
  simp [Ins.row] at hx
  rcases hx with rfl | rfl | rfl | rfl <;> rfl
/-- rows and a bool are handed out -/
def HandsCode (rows : List (List D)) (b : Bool) (r : A) (H : Heap) : Prop := ∃ v : Value, r = .tup [.c (.d (.v v)), .c (.d (.bool b))] ∧ H = [.tree v rows]
theorem HandsCode.handed {rows : List (List D)} {b : Bool} {r : A} {H : Heap} (h : HandsCode rows b r H) : Handed r H := by
  obtain ⟨v, rfl, rfl⟩ := h
  exact ⟨rfl, rfl⟩
namespace Own
-- 15 loop.example/prologserver/impl.compileClause params 1 ntmps 14
def ac15 : Cd := .seq (.region [⟨(some 1),.box (.t 0),none⟩,
 ⟨(some 2),.mv (.k (.c (.full []))),none⟩] [0,2])
 (.seq (.region [⟨(some 4),.call false 27 [],none⟩,
 ⟨(some 3),.mv (.t 4),none⟩] [4])
 (.seq (.region [⟨(some 5),.mv (.t 3),none⟩,
 ⟨(some 6),.fieldAddr 0 (.t 1),none⟩,
 ⟨(some 7),.fieldAddr 3 (.t 6),none⟩,
 ⟨(some 8),.load none (.t 7),none⟩,
 ⟨(some 9),.call false 28 [(.t 5),(.t 8)],none⟩] [5,6,7,8,9])
 (.seq (.region [⟨(some 10),.mv (.t 3),none⟩,
 ⟨(some 11),.fieldAddr 4 (.t 1),none⟩,
 ⟨(some 12),.load none (.t 11),none⟩,
 ⟨(some 13),.call false 29 [(.t 10),(.t 12)],none⟩,
 ⟨(some 2),.mv (.t 13),none⟩] [1,3,10,11,12,13])
 (.ret))))
theorem ac15_ok : cFunc Tryz.prog [] [(0,[0,2],[]),(1,[4],[]),(2,[5,6,7,8,9],[]),(3,[1,3,10,11,12,13],[])] Tryz.f15 = some (ac15,[.tmp 2],14) := by kernel_rfl
-- 6 loop.example/prologserver/impl.CompileClause params 1 ntmps 9
def ac6 : Cd := .seq (.region [⟨(some 1),.box (.t 0),none⟩,
 ⟨(some 2),.mv (.k (.c (.full []))),none⟩,
 ⟨(some 3),.mv (.k (.c (.d (.bool false)))),none⟩] [0,2,3])
 (.seq (.seq (.region [⟨(some 4),.load (some 5) (.t 1),none⟩,
 ⟨(some 5),.qcall 14 [(.t 4)],none⟩,
 ⟨(some 6),.un .not (.t 5),none⟩] [4,5])
 (.cond (.t 6)
 (.seq (.region [⟨(some 2),.mv (.k (.c (.full []))),none⟩,
 ⟨(some 3),.mv (.k (.c (.d (.bool false)))),none⟩] [1,6])
 (.ret))
 (.skip)))
 (.seq (.region [⟨(some 7),.load (some 5) (.t 1),none⟩,
 ⟨(some 8),.call false 15 [(.t 7)],none⟩,
 ⟨(some 2),.mv (.t 8),none⟩,
 ⟨(some 3),.mv (.k (.c (.d (.bool true)))),none⟩] [1,6,7,8])
 (.ret)))
theorem ac6_ok : cFunc Tryz.prog [1000014] [(0,[0,2,3],[]),(1,[4,5],[]),(2,[1,6],[]),(3,[1,6,7,8],[])] Tryz.f6 = some (ac6,[.tmp 2,.tmp 3],9) := by kernel_rfl
end Own
end Go.Proofs.YteighafofbohcaaGreat

/-
  A term's kids are marked, and looked at again.
  Conditions: none.
-/
open Go Go.AM Go.Proofs
namespace Go.Proofs.YteighafofbohcaaGreat
open Go.ChangeShapes Go.WideShapes Go.ChangeAt Go.RowKit
set_option linter.unusedVariables false
set_option linter.unusedSimpArgs false
set_option maxRecDepth 100000
theorem fz_tm {H : Heap} {i : Nat} {v : Value} {t : Tm} (h : H[i]? = some (.tree v (t.kids.map Tm.row))) : FzA H [] (.agg [.d (.int .i64 t.k), .d (.int .i64 t.n), .d (.str t.s), .d (.v v)]) (.agg (t.row.map .d)) := by
  rw [row_eq]
  exact .agg (.cons .d (.cons .d (.cons .d (.cons (.tree h (by simp)) .nil))))
theorem fz_row {H : Heap} {J : List Nat} {t : Tm} : FzA H J (.agg (t.row.map .d)) (.agg (t.row.map .d)) := .agg (fzCs_id _)
end Go.Proofs.YteighafofbohcaaGreat

/-
  Rows whose slices are cut off and stand as trees.
  Conditions: none.
-/
open Go Go.AM Go.Proofs
namespace Go.Proofs.YteighafofbohcaaGreat
set_option linter.unusedVariables false
set_option linter.unusedSimpArgs false
/-- the slices of a row -/
def nsl : List D → Nat
  | [] => 0
  | .sl _ :: l => nsl l + 1
  | _ :: l => nsl l
/-- a row, its slices cut off -/
def cutR : List D → List Value → List D
  | .sl _ :: l, v :: vs => .v v :: cutR l vs
  | x :: l, vs => x :: cutR l vs
  | [], _ => []
/-- .. and these slices -/
def trs : List D → List Value → Heap
  | .sl d :: l, v :: vs => .tree v d :: trs l vs
  | _ :: l, vs => trs l vs
  | [], _ => []
theorem cut_sl (d : List (List D)) (l : List D) (v : Value) (vs : List Value) : cutR (.sl d :: l) (v :: vs) = .v v :: cutR l vs := rfl
theorem trs_sl (d : List (List D)) (l : List D) (v : Value) (vs : List Value) : trs (.sl d :: l) (v :: vs) = .tree v d :: trs l vs := rfl
theorem cut_ne {x : D} (h : x.isSl = false) (l : List D) (vs : List Value) : cutR (x :: l) vs = x :: cutR l vs := by cases x <;> first | rfl | cases h
theorem trs_ne {x : D} (h : x.isSl = false) (l : List D) (vs : List Value) : trs (x :: l) vs = trs l vs := by cases x <;> first | rfl | cases h
theorem nsl_ne {x : D} (h : x.isSl = false) (l : List D) : nsl (x :: l) = nsl l := by cases x <;> first | rfl | cases h
theorem cut_nil (vs : List Value) : cutR [] vs = [] := rfl
theorem trs_nil (vs : List Value) : trs [] vs = [] := rfl
theorem cut_len : ∀ (l : List D) (vs : List Value), (cutR l vs).length = l.length
  | [], _ => rfl
  | x :: l, vs => by
    by_cases hx : x.isSl = false
    · rw [cut_ne hx, List.length_cons, cut_len l vs, List.length_cons]
    · cases x with
      | sl d => cases vs with
        | nil => show (D.sl d :: cutR l []).length = _; rw [List.length_cons, cut_len l, List.length_cons]
        | cons v vs => rw [cut_sl, List.length_cons, cut_len l vs, List.length_cons]
      | _ => simp [D.isSl] at hx
theorem trs_len : ∀ (l : List D) (vs : List Value), vs.length = nsl l → (trs l vs).length = nsl l
  | [], _, _ => rfl
  | x :: l, vs, h => by
    by_cases hx : x.isSl = false
    · rw [nsl_ne hx] at h ⊢; rw [trs_ne hx]; exact trs_len l vs h
    · cases x with
      | sl d => cases vs with
        | nil => simp [nsl] at h
        | cons v vs => rw [trs_sl, List.length_cons, trs_len l vs (by simpa [nsl] using h)]; rfl
      | _ => simp [D.isSl] at hx
theorem trs_trees : ∀ (l : List D) (vs : List Value), (trs l vs).all Ob.isTreeB = true
  | [], _ => rfl
  | x :: l, vs => by
    by_cases hx : x.isSl = false
    · rw [trs_ne hx]; exact trs_trees l vs
    · cases x with
      | sl d => cases vs with
        | nil => exact trs_trees l []
        | cons v vs => rw [trs_sl, List.all_cons, trs_trees l vs]; rfl
      | _ => simp [D.isSl] at hx
theorem cut_port : ∀ (l : List D) (vs : List Value), vs.length = nsl l → ((cutR l vs).map C.d).all C.portB = true
  | [], _, _ => rfl
  | x :: l, vs, h => by
    by_cases hx : x.isSl = false
    · rw [nsl_ne hx] at h
      rw [cut_ne hx, List.map_cons, List.all_cons, cut_port l vs h]
      cases x <;> first | rfl | (simp [D.isSl] at hx)
    · cases x with
      | sl d => cases vs with
        | nil => simp [nsl] at h
        | cons v vs => rw [cut_sl, List.map_cons, List.all_cons, cut_port l vs (by simpa [nsl] using h)]; rfl
      | _ => simp [D.isSl] at hx
theorem strip_app : ∀ (l : List D) (vs : List Value) (r c : List D) (t : Heap), vs.length = nsl l → Strip r c t → Strip (l ++ r) (cutR l vs ++ c) (trs l vs ++ t)
  | [], _, r, c, t, _, h => h
  | x :: l, vs, r, c, t, h, hs => by
    by_cases hx : x.isSl = false
    · rw [nsl_ne hx] at h
      rw [List.cons_append, cut_ne hx, trs_ne hx]
      exact (strip_cons hx).2 ⟨_, rfl, strip_app l vs r c t h hs⟩
    · cases x with
      | sl d => cases vs with
        | nil => simp [nsl] at h
        | cons v vs => exact ⟨v, _, _, rfl, rfl, strip_app l vs r c t (by simpa [nsl] using h) hs⟩
      | _ => simp [D.isSl] at hx
theorem strip_unapp : ∀ (l r c : List D) (t : Heap), Strip (l ++ r) c t → ∃ vs c' t', vs.length = nsl l ∧ c = cutR l vs ++ c' ∧ t = trs l vs ++ t' ∧ Strip r c' t'
  | [], r, c, t, h => ⟨[], c, t, rfl, rfl, rfl, h⟩
  | x :: l, r, c, t, h => by
    by_cases hx : x.isSl = false
    · obtain ⟨c1, rfl, h1⟩ := (strip_cons hx).1 h
      obtain ⟨vs, c', t', h2, rfl, rfl, h3⟩ := strip_unapp l r c1 t h1
      exact ⟨vs, c', t', by rw [nsl_ne hx]; exact h2, by rw [cut_ne hx]; rfl, by rw [trs_ne hx], h3⟩
    · cases x with
      | sl d =>
        obtain ⟨v, c1, t1, rfl, rfl, h1⟩ := h
        obtain ⟨vs, c', t', h2, rfl, rfl, h3⟩ := strip_unapp l r c1 t1 h1
        exact ⟨v :: vs, c', t', by simp [nsl, h2], rfl, rfl, h3⟩
      | _ => simp [D.isSl] at hx
/-- values for the slices of rows -/
def Vals (m : Nat) (rows : List (List D)) (vss : List (List Value)) : Prop := vss.length = rows.length ∧ (∀ r ∈ rows, nsl r = m) ∧ ∀ vs ∈ vss, vs.length = m
theorem strip_rows {m : Nat} : ∀ (rows : List (List D)) (vss : List (List Value)), Vals m rows vss → Strip rows.flatten (List.zipWith cutR rows vss).flatten (List.zipWith trs rows vss).flatten
  | [], [], _ => ⟨rfl, rfl⟩
  | [], _ :: _, h => by have := h.1; simp at this
  | _ :: _, [], h => by have := h.1; simp at this
  | r :: rows, vs :: vss, h => by
    simp only [List.zipWith_cons_cons, List.flatten_cons]
    refine strip_app r vs _ _ _ ?_ (strip_rows rows vss ⟨by simpa using h.1, fun r hr => h.2.1 r (by simp [hr]), fun vs hv => h.2.2 vs (by simp [hv])⟩)
    rw [h.2.1 r (by simp), h.2.2 vs (by simp)]
theorem rows_unstrip {m : Nat} : ∀ (rows : List (List D)) (c : List D) (t : Heap), (∀ r ∈ rows, nsl r = m) → Strip rows.flatten c t → ∃ vss, Vals m rows vss ∧ c = (List.zipWith cutR rows vss).flatten ∧ t = (List.zipWith trs rows vss).flatten
  | [], c, t, _, ⟨h1, h2⟩ => ⟨[], ⟨rfl, fun r h => by simp at h, fun r h => by simp at h⟩, h1, h2⟩
  | r :: rows, c, t, hm, h => by
    rw [List.flatten_cons] at h
    obtain ⟨vs, c', t', h1, rfl, rfl, h2⟩ := strip_unapp r _ c t h
    obtain ⟨vss, h3, rfl, rfl⟩ := rows_unstrip rows c' t' (fun r hr => hm r (by simp [hr])) h2
    refine ⟨vs :: vss, ⟨by simp [h3.1], hm, fun ws hw => ?_⟩, rfl, rfl⟩
    rcases List.mem_cons.1 hw with rfl | hw
    · rw [h1]; exact hm r (by simp)
    · exact h3.2.2 ws hw
theorem cut_lens {rows : List (List D)} {vss : List (List Value)} (h : vss.length = rows.length) : (List.zipWith cutR rows vss).map List.length = rows.map List.length := by
  refine List.ext_getElem? fun i => ?_
  rcases Nat.lt_or_ge i rows.length with hi | hi
  · simp [List.getElem?_zipWith, hi, h, cut_len]
  · rw [List.getElem?_eq_none (by simp [h]; omega), List.getElem?_eq_none (by simp; omega)]
theorem fl_get {α : Type} {L : List (List α)} {m : Nat} (h : ∀ p ∈ L, p.length = m) {i j : Nat} {p : List α} (hi : L[i]? = some p) (hj : j < m) : L.flatten[i * m + j]? = p[j]? := by
  induction L generalizing i with
  | nil => simp at hi
  | cons a l ih =>
    have ha : a.length = m := h a (by simp)
    cases i with
    | zero =>
      simp at hi; subst hi
      rw [List.flatten_cons, Nat.zero_mul, Nat.zero_add, List.getElem?_append_left (by omega)]
    | succ i =>
      rw [List.flatten_cons, List.getElem?_append_right (by rw [ha, Nat.succ_mul]; omega), ← ih (fun r hr => h r (by simp [hr])) (i := i) (by simpa using hi)]
      congr 1
      rw [ha, Nat.succ_mul]; omega
theorem fl_set {α : Type} {L : List (List α)} {m : Nat} (h : ∀ p ∈ L, p.length = m) {i j : Nat} {p : List α} (hi : L[i]? = some p) (hj : j < m) (x : α) : L.flatten.set (i * m + j) x = (L.set i (p.set j x)).flatten := by
  induction L generalizing i with
  | nil => simp at hi
  | cons a l ih =>
    have ha : a.length = m := h a (by simp)
    cases i with
    | zero =>
      simp at hi; subst hi
      rw [List.flatten_cons, Nat.zero_mul, Nat.zero_add, List.set_append_left _ _ (by omega)]
      rfl
    | succ i =>
      rw [List.flatten_cons, List.set_append_right _ _ (by rw [ha, Nat.succ_mul]; omega), List.set_cons_succ, List.flatten_cons, ← ih (fun r hr => h r (by simp [hr])) (i := i) (by simpa using hi)]
      congr 2
      rw [ha, Nat.succ_mul]; omega
theorem zipt_lens {m : Nat} {rows : List (List D)} {vss : List (List Value)} (h : Vals m rows vss) : ∀ p ∈ List.zipWith trs rows vss, p.length = m := by
  intro p hp
  obtain ⟨i, hi⟩ := List.mem_iff_getElem?.1 hp
  rw [List.getElem?_zipWith] at hi
  cases h1 : rows[i]? with
  | none => rw [h1] at hi; simp at hi
  | some r =>
    cases h2 : vss[i]? with
    | none => rw [h1, h2] at hi; simp at hi
    | some vs =>
      rw [h1, h2] at hi
      simp at hi
      have e1 := h.2.1 r (List.mem_of_getElem? h1)
      have e2 := h.2.2 vs (List.mem_of_getElem? h2)
      rw [← hi, trs_len _ _ (by omega), e1]
theorem zipt_trees (rows : List (List D)) (vss : List (List Value)) : ∀ p ∈ List.zipWith trs rows vss, p.all Ob.isTreeB = true := by
  intro p hp
  obtain ⟨i, hi⟩ := List.mem_iff_getElem?.1 hp
  rw [List.getElem?_zipWith] at hi
  cases h1 : rows[i]? with
  | none => rw [h1] at hi; simp at hi
  | some r =>
    cases h2 : vss[i]? with
    | none => rw [h1, h2] at hi; simp at hi
    | some vs =>
      rw [h1, h2] at hi
      simp at hi
      rw [← hi]; exact trs_trees r vs
/-- what is handed out: a row whose slices stand in arrays of their own -/
def HandsRow (row : List D) (r : A) (H : Heap) : Prop := ∃ vs : List Value, vs.length = nsl row ∧ r = .agg ((cutR row vs).map .d) ∧ H = trs row vs
theorem HandsRow.handed {row : List D} {r : A} {H : Heap} (h : HandsRow row r H) : Handed r H := by
  obtain ⟨vs, h1, rfl, rfl⟩ := h
  exact ⟨cut_port row vs h1, trs_trees row vs⟩
/-- rows of which the first are made -/
def fillR (rows : List (List D)) (vss : List (List Value)) (z : List D) : List (List D) := List.zipWith cutR rows vss ++ List.replicate (rows.length - vss.length) z
theorem fillR_nil (rows : List (List D)) (z : List D) : fillR rows [] z = List.replicate rows.length z := by simp [fillR]
theorem fillR_all {rows : List (List D)} {vss : List (List Value)} (z : List D) (h : vss.length = rows.length) : fillR rows vss z = List.zipWith cutR rows vss := by simp [fillR, h]
theorem fillR_get {rows : List (List D)} {vss : List (List Value)} (z : List D) (h : vss.length < rows.length) : (fillR rows vss z)[vss.length]? = some z := by
  rw [fillR, List.getElem?_append_right (by simp; omega)]
  have : vss.length - (List.zipWith cutR rows vss).length = 0 := by simp; omega
  rw [this, List.getElem?_replicate, if_pos (by omega)]
theorem zipR_snoc {α β γ : Type} (f : α → β → γ) (l : List α) (vs : List β) (v : β) (h : vs.length < l.length) : List.zipWith f l (vs ++ [v]) = List.zipWith f l vs ++ [f l[vs.length] v] := by
  induction vs generalizing l with
  | nil => cases l with
    | nil => simp at h
    | cons x l => simp
  | cons w vs ih => cases l with
    | nil => simp at h
    | cons x l => simp only [List.cons_append, List.zipWith_cons_cons, List.length_cons, List.getElem_cons_succ]; rw [ih l (by simpa using h)]
theorem fillR_set {rows : List (List D)} {vss : List (List Value)} (z : List D) (vs : List Value) (h : vss.length < rows.length) : (fillR rows vss z).set vss.length (cutR rows[vss.length] vs) = fillR rows (vss ++ [vs]) z := by
  have e : rows.length - vss.length = (rows.length - (vss ++ [vs]).length) + 1 := by simp; omega
  rw [fillR, fillR, List.set_append_right _ _ (by simp; omega), zipR_snoc _ _ _ _ h, e, List.replicate_succ]
  have : vss.length - (List.zipWith cutR rows vss).length = 0 := by simp; omega
  rw [this]
  simp
theorem trees_map_re {H : Heap} (h : H.all Ob.isTreeB = true) (n : Nat) : H.map (Ob.re n) = H := trees_re h n
theorem flat_trees {L : List Heap} (h : ∀ p ∈ L, p.all Ob.isTreeB = true) : L.flatten.all Ob.isTreeB = true := by
  rw [List.all_eq_true]
  intro o ho
  obtain ⟨p, h1, h2⟩ := List.mem_flatten.1 ho
  exact List.all_eq_true.1 (h p h1) o h2
theorem trees_fits {n : Nat} : ∀ {l : Heap}, l.all Ob.isTreeB = true → Obs.fits n 0 l
  | [], _ => trivial
  | o :: l, h => by
    simp only [List.all_cons, Bool.and_eq_true] at h
    refine ⟨?_, trees_fits h.2⟩
    cases o <;> first | trivial | cases h.1
/-- so many things, each with what is below it -/
def wsum {α : Type} (f : α → Nat) : List α → Nat
  | [] => 0
  | x :: l => 1 + f x + wsum f l
theorem wsum_append {α : Type} (f : α → Nat) (l r : List α) : wsum f (l ++ r) = wsum f l + wsum f r := by
  induction l with
  | nil => simp [wsum]
  | cons t l ih => simp only [List.cons_append, wsum, ih]; omega
theorem wsum_take_succ {α : Type} (f : α → Nat) (l : List α) {i : Nat} (h : i < l.length) : wsum f (l.take (i + 1)) = wsum f (l.take i) + 1 + f l[i] := by
  rw [List.take_succ_eq_append_getElem h, wsum_append]; simp only [wsum]; omega
theorem wsum_take_sub {α : Type} (f : α → Nat) (l : List α) {i : Nat} (h : i < l.length) : wsum f (l.take i) + 1 + f l[i] ≤ wsum f l := by
  rw [← wsum_take_succ f l h]
  have := wsum_append f (l.take (i + 1)) (l.drop (i + 1))
  rw [List.take_append_drop] at this
  omega
theorem wsum_le {α : Type} {f g : α → Nat} (h : ∀ x, f x ≤ g x) (l : List α) : wsum f l ≤ wsum g l := by
  induction l with
  | nil => simp [wsum]
  | cons t l ih => simp only [wsum]; have := h t; omega
theorem sum_len {α : Type} {L : List (List α)} {m : Nat} (h : ∀ p ∈ L, p.length = m) : (L.map List.length).sum = L.length * m := by
  induction L with
  | nil => simp
  | cons a l ih =>
    rw [List.map_cons, List.sum_cons, ih (fun p hp => h p (by simp [hp])), h a (by simp), List.length_cons, Nat.succ_mul]
    omega
end Go.Proofs.YteighafofbohcaaGreat

/-
  Copies of clauses that stand in arrays of their own.
  Conditions: none.
-/
open Go Go.AM Go.Proofs
namespace Go.Proofs.YteighafofbohcaaGreat
open Go.ChangeShapes Go.WideShapes Go.ChangeAt Go.RowKit
set_option linter.unusedVariables false
set_option linter.unusedSimpArgs false
set_option maxRecDepth 100000
namespace Own
end Own
end Go.Proofs.YteighafofbohcaaGreat

/-
  Code of clauses, as values and as memory that is handed out.
  Conditions: none.
-/
open Go Go.AM Go.Proofs
namespace Go.Proofs.YteighafofbohcaaGreat
open Go.ChangeShapes Go.WideShapes Go.ChangeAt Go.RowKit
set_option linter.unusedVariables false
set_option linter.unusedSimpArgs false
set_option maxRecDepth 100000
theorem codeC_fit (c : Cl) (hv : c.validB = true) : ∃ B, B ≤ 100000 ∧ (bodyT c.body (headT c.head.kids mk0)).fit B := by
  obtain ⟨g1, g2, g3, g4⟩ := validB_head hv
  obtain ⟨h1, h2, h3⟩ := goalsB_iff g4
  have hk := good_kids (k := c.head.k) (n := c.head.n) (s := c.head.s) (l := c.head.kids) (by cases hc : c.head; rw [hc] at g1; exact g1)
  have hz : sizes c.head.kids ≤ 120 := by cases hc : c.head; rw [hc, Tm.size] at g2; show sizes _ ≤ _; simp only [Tm.kids]; omega
  exact ⟨_, by omega, (goals_fit _ _ _ (headT_fit c.head.kids hk.1)).emit 14 0 0 []⟩
section
variable {c : Cl} (hft : c.fits) (hv : c.validB = true)
include hft hv
theorem ccv_calls (H : Heap) : ACalls Tryz.prog 15 [.agg (c.row.map .d)] H (fun r H' => H' = H ∧ r = .c (.d (.sl (codeC c)))) := by
  obtain ⟨g1, g2, g3, g4⟩ := validB_head hv
  obtain ⟨h1, h2, h3⟩ := goalsB_iff g4
  obtain ⟨_, h4⟩ := goalsB_all g4
  obtain ⟨hfh, _, hfb⟩ := hft
  obtain ⟨⟨k, n, s, kids⟩, body⟩ := c
  have hkg := good_kids g1
  rw [Tm.size] at g2
  refine acalls Tryz.func15 (by kernel_rfl) Own.ac15_ok fun hf => ?_
  simp -implicitDefEqProofs [Own.ac15, Cl.row, Tm.kids, Tm.k, Tm.n, Tm.s, go_sem, -List.set_cons_succ, -List.set_cons_zero]
  refine call_newC (by simp [Ob.re, C.re]) hf ?_
  simp -implicitDefEqProofs [hf, go_sem, -List.set_cons_succ, -List.set_cons_zero]
  refine call_mkL (pre := [.cells [.d (.int .i64 k), .d (.int .i64 n), .d (.str s), .d (.sl (kids.map Tm.row)), .d (.sl (body.map Tm.row))]]) (post := []) (head_makes kids hkg.1 (by omega) hkg.2 mk0 4 (by omega) (by omega) mk0_fit) rfl rfl rfl hf ?_
  simp -implicitDefEqProofs [hf, go_sem, -List.set_cons_succ, -List.set_cons_zero]
  refine call_body h1 hfb h4 (by omega) (headT_fit kids hkg.1) [.cells [.d (.int .i64 k), .d (.int .i64 n), .d (.str s), .d (.sl (kids.map Tm.row)), .d (.sl (body.map Tm.row))]] [] rfl rfl hf ?_
  simp -implicitDefEqProofs [hf, codeC, Tm.kids, go_sem, -List.set_cons_succ, -List.set_cons_zero]
theorem ccOwn_calls : ACalls Tryz.prog 15 [.agg (c.row.map .d)] [] (HandsRows (codeC c)) := by
  obtain ⟨BB, _, hfit⟩ := codeC_fit c hv
  obtain ⟨g1, g2, g3, g4⟩ := validB_head hv
  obtain ⟨h1, h2, h3⟩ := goalsB_iff g4
  obtain ⟨_, h4⟩ := goalsB_all g4
  obtain ⟨hfh, _, hfb⟩ := hft
  obtain ⟨⟨k, n, s, kids⟩, body⟩ := c
  have hkg := good_kids g1
  rw [Tm.size] at g2
  refine acallsT Tryz.func15 (by kernel_rfl) Own.ac15_ok ?_
  simp -implicitDefEqProofs [Own.ac15, Cl.row, Tm.kids, Tm.k, Tm.n, Tm.s, go_sem, -List.set_cons_succ, -List.set_cons_zero]
  refine call_newC (by simp [Ob.re, C.re]) trivial ?_
  simp -implicitDefEqProofs [go_sem, -List.set_cons_succ, -List.set_cons_zero]
  refine call_mkL (pre := [.cells [.d (.int .i64 k), .d (.int .i64 n), .d (.str s), .d (.sl (kids.map Tm.row)), .d (.sl (body.map Tm.row))]]) (post := []) (head_makes kids hkg.1 (by omega) hkg.2 mk0 4 (by omega) (by omega) mk0_fit) rfl rfl rfl trivial ?_
  simp -implicitDefEqProofs [go_sem, -List.set_cons_succ, -List.set_cons_zero]
  refine call_body h1 hfb h4 (by omega) (headT_fit kids hkg.1) [.cells [.d (.int .i64 k), .d (.int .i64 n), .d (.str s), .d (.sl (kids.map Tm.row)), .d (.sl (body.map Tm.row))]] [] rfl rfl trivial ?_
  simp -implicitDefEqProofs [codeC, Tm.kids, go_sem, -List.set_cons_succ, -List.set_cons_zero]
  exact finT_ret _ ⟨trivial, trivial⟩ rfl fun kv => ⟨_, _, _, .one (.c (.own (js := []) rfl rfl ((strip_flat (code_flat _ _ hfit)).2 ⟨rfl, rfl⟩) rfl (fun m hm => by simp at hm))), by simp, _, rfl, rfl⟩
end
theorem ccImpl_calls (c : Cl) (hft : c.fits) (H : Heap) : ACalls Tryz.prog 6 [.agg (c.row.map .d)] H
    (fun r H' => H' = H ∧ r = .tup [.c (.d (.sl (if c.validB then codeC c else []))), .c (.d (.bool c.validB))]) := by
  have c1 := cvImpl_calls c hft
  have c2 := fun hv => ccv_calls hft hv
  simp only [Cl.row, List.map_cons, List.map_nil] at c1 c2
  refine acalls Tryz.func6 (by kernel_rfl) Own.ac6_ok fun hf => ?_
  simp -implicitDefEqProofs [Own.ac6, Cl.row, go_sem, -List.set_cons_succ, -List.set_cons_zero]
  refine qcall_pure c1 hf rfl ?_
  cases hv : c.validB with
  | false => simp -implicitDefEqProofs [go_sem, -List.set_cons_succ, -List.set_cons_zero]
  | true =>
    simp -implicitDefEqProofs [go_sem, -List.set_cons_succ, -List.set_cons_zero]
    refine call_same (c2 hv _) (by simp [Ob.re, C.re]) rfl hf ?_
    simp -implicitDefEqProofs [go_sem, -List.set_cons_succ, -List.set_cons_zero]
theorem ccxOwn_calls (c : Cl) (hft : c.fits) : ACalls Tryz.prog 6 [.agg (c.row.map .d)] [] (HandsCode (if c.validB then codeC c else []) c.validB) := by
  have c1 := cvImpl_calls c hft
  have c2 := fun hv => ccOwn_calls hft hv
  simp only [Cl.row, List.map_cons, List.map_nil] at c1 c2
  refine acallsT Tryz.func6 (by kernel_rfl) Own.ac6_ok ?_
  simp -implicitDefEqProofs [Own.ac6, Cl.row, go_sem, -List.set_cons_succ, -List.set_cons_zero]
  refine qcall_pure c1 trivial rfl ?_
  cases hv : c.validB with
  | false =>
    simp -implicitDefEqProofs [go_sem, -List.set_cons_succ, -List.set_cons_zero]
    exact finT_ret _ ⟨trivial, trivial, trivial⟩ rfl fun kv => ⟨_, _, _, .tup (.cons (.c .full) (.cons (.c (.leaf rfl)) .nil)), by simp, _, rfl, rfl⟩
  | true =>
    simp -implicitDefEqProofs [go_sem, -List.set_cons_succ, -List.set_cons_zero]
    refine call_loc (J := []) (c2 hv) (fun r H' h => h.handed) (by simp [Ob.re, C.re]) (.cons (.agg (fzCs_id [.int .i64 c.head.k, .int .i64 c.head.n, .str c.head.s, .sl (c.head.kids.map Tm.row), .sl (c.body.map Tm.row)])) .nil) List.nodup_nil rfl rfl ?_
    rintro _ _ ⟨v, rfl, rfl⟩ _
    simp -implicitDefEqProofs [putAll, go_sem, -List.set_cons_succ, -List.set_cons_zero]
    exact finT_ret _ ⟨trivial, trivial, trivial⟩ rfl fun kv => ⟨_, _, _, .tup (.cons (.c (.tree (j := 1) rfl)) (.cons (.c (.leaf rfl)) .nil)), by simp, _, rfl, rfl⟩
theorem codeC_ins (c : Cl) : ∃ L : List Ins, (if c.validB then codeC c else []) = L.map Ins.row ∧ L.length ≤ 1000000 := by
  cases hv : c.validB with
  | false => exact ⟨[], by simp, by simp⟩
  | true =>
    obtain ⟨BB, hB, hfit⟩ := codeC_fit c hv
    obtain ⟨L, hL, _⟩ := list_of_ty (f := Ins.row) (p := fun _ => True) (rows := codeC c) fun r hr => by
      obtain ⟨x, hx⟩ := hfit.rows r hr
      exact ⟨x, hx, trivial⟩
    have hc : (codeC c).length ≤ _ := hfit.code
    refine ⟨L, by simpa using hL, ?_⟩
    rw [hL] at hc
    simp at hc
    omega
end Go.Proofs.YteighafofbohcaaGreat

/-
  What code looks like: which operations it has, how many slots it takes.
  Conditions: none.
-/
open Go Go.AM Go.Proofs
namespace Go.Proofs.YteighafofbohcaaGreat
set_option linter.unusedVariables false
set_option linter.unusedSimpArgs false
set_option maxRecDepth 100000
/-- the slot that an instruction works with, or -1 -/
def slotI (x : Ins) : Int := if x.op = 4 ∨ x.op = 5 ∨ x.op = 8 ∨ x.op = 9 ∨ x.op = 1 then x.a else if x.op = 7 then x.b else -1
/-- the fields of an instruction are in range, if there are few slots -/
def abI (n : Nat) (x : Ins) : Prop := n ≤ 1000000000 → inR .i64 x.a ∧ inR .i64 x.b
theorem z64 : inR .i64 0 := small_i64 (by omega) (by omega)
theorem n64 {n m : Nat} (h : n ≤ m) (hm : m ≤ 1000000000) : inR .i64 (n : Int) := small_i64 (by omega) (by omega)
theorem fits_n {t : Tm} (h : t.fits) : inR .i64 t.n ∧ t.kids.length ≤ 1048576 ∧ ∀ u ∈ t.kids, u.fits := by
  cases h with
  | mk _ h2 _ h4 h5 => exact ⟨h2, h4, h5⟩
def Mk.V (M : Mk) : Prop := ∀ p ∈ M.sl, p.2 < M.next
/-- code that goes on: at most n slots more, operations in S -/
structure Gr (n : Nat) (S : Int → Bool) (M M' : Mk) : Prop where
  lo : M.next ≤ M'.next
  hi : M'.next ≤ M.next + n
  val : M.V → M'.V
  code : M.V → ∃ new : List Ins, M'.code = M.code ++ new.map Ins.row ∧ ∀ x ∈ new, S x.op = true ∧ slotI x < M'.next ∧ abI M'.next x
theorem Gr.refl (S : Int → Bool) (M : Mk) : Gr 0 S M M := ⟨Nat.le_refl _, Nat.le_refl _, id, fun _ => ⟨[], by simp, by simp⟩⟩
theorem Gr.trans {n m : Nat} {S : Int → Bool} {M M' M'' : Mk} (h : Gr n S M M') (k : Gr m S M' M'') : Gr (n + m) S M M'' := by
  refine ⟨Nat.le_trans h.lo k.lo, by have := h.hi; have := k.hi; omega, fun v => k.val (h.val v), fun v => ?_⟩
  obtain ⟨a, ha, ha2⟩ := h.code v
  obtain ⟨b, hb, hb2⟩ := k.code (h.val v)
  refine ⟨a ++ b, by rw [hb, ha]; simp, fun x hx => ?_⟩
  rcases List.mem_append.1 hx with hx | hx
  · obtain ⟨h1, h2, h3⟩ := ha2 x hx
    have := k.lo
    exact ⟨h1, by omega, fun hn => h3 (by omega)⟩
  · exact hb2 x hx
theorem Gr.mono {n m : Nat} {S T : Int → Bool} {M M' : Mk} (h : Gr n S M M') (hn : n ≤ m) (hs : ∀ i, S i = true → T i = true) : Gr m T M M' :=
  ⟨h.lo, by have := h.hi; omega, h.val, fun v => let ⟨a, h1, h2⟩ := h.code v; ⟨a, h1, fun x hx => ⟨hs _ (h2 x hx).1, (h2 x hx).2⟩⟩⟩
theorem Gr.le {n m : Nat} {S : Int → Bool} {M M' : Mk} (h : Gr n S M M') (hn : n ≤ m) : Gr m S M M' := h.mono hn fun _ => id
theorem gr_emit {S : Int → Bool} (M : Mk) (op a b : Int) (s : List UInt8) (hs : S op = true) (h : M.V → slotI ⟨op, a, b, s⟩ < M.next) (hab : M.V → M.next ≤ 1000000000 → inR .i64 a ∧ inR .i64 b) : Gr 0 S M (M.emit op a b s) :=
  ⟨Nat.le_refl _, Nat.le_refl _, id, fun v => ⟨[⟨op, a, b, s⟩], by simp [Mk.emit, insR, Ins.row], fun x hx => by
    simp at hx
    subst hx
    exact ⟨hs, h v, hab v⟩⟩⟩
theorem gr_bump (S : Int → Bool) (M : Mk) : Gr 1 S M M.bump :=
  ⟨Nat.le_succ _, Nat.le_refl _, fun v p hp => Nat.lt_succ_of_lt (v p hp), fun _ => ⟨[], by simp [Mk.bump], by simp⟩⟩
theorem gr_give (S : Int → Bool) (M : Mk) (n : Int) (v : Nat) (hv : v < M.next) : Gr 0 S M (M.give n v) :=
  ⟨Nat.le_refl _, Nat.le_refl _, fun w p hp => by
    rcases List.mem_append.1 hp with hp | hp
    · exact w p hp
    · simp at hp; subst hp; exact hv, fun _ => ⟨[], by simp [Mk.give], by simp⟩⟩
theorem gr_new (S : Int → Bool) (M : Mk) (n : Int) : Gr 1 S M (M.give n M.next).bump :=
  ⟨Nat.le_succ _, Nat.le_refl _, fun w p hp => by
    rcases List.mem_append.1 hp with hp | hp
    · exact Nat.lt_succ_of_lt (w p hp)
    · simp at hp; subst hp; exact Nat.lt_succ_self _, fun _ => ⟨[], by simp [Mk.give, Mk.bump], by simp⟩⟩
def opsA (i : Int) : Bool := decide (i = 4 ∨ i = 5 ∨ i = 6)
theorem slot_lt (M : Mk) (v : M.V) {n : Int} {k : Nat} (h : slotO M.sl n = some k) : k < M.next := v _ (slotO_mem h)
theorem gr_desc (M : Mk) (t : Tm) (ht : t.fits) : Gr 1 opsA M (M.desc t) := by
  unfold Mk.desc
  split
  · exact (gr_emit M 6 t.n 0 [] rfl (fun _ => by simp [slotI]; omega) fun _ _ => ⟨(fits_n ht).1, z64⟩).le (by omega)
  · split
    · rename_i v hv
      exact (gr_emit M 5 v 0 [] rfl (fun w => by have := slot_lt M w hv; simp [slotI]; omega) fun w h => ⟨n64 (Nat.le_of_lt (slot_lt M w hv)) h, z64⟩).le (by omega)
    · have h := (gr_new opsA M t.n).trans (gr_emit (M.give t.n M.next).bump 4 M.next 0 [] rfl (fun _ => by simp [slotI, Mk.bump, Mk.give]; omega) fun _ h => ⟨n64 (Nat.le_succ _) h, z64⟩)
      exact h
theorem gr_args : ∀ (l : List Tm) (M : Mk), (∀ t ∈ l, t.fits) → Gr l.length opsA M (argsT l M).1
  | [], M, _ => Gr.refl _ M
  | t :: l, M, hf => by
    unfold argsT
    split
    · have h := (gr_bump opsA M).trans (gr_emit M.bump 4 M.next 0 [] rfl (fun _ => by simp [slotI, Mk.bump]; omega) fun _ h => ⟨n64 (Nat.le_succ _) h, z64⟩)
      exact (h.trans (gr_args l _ fun u hu => hf u (by simp [hu]))).le (by simp; omega)
    · exact ((gr_desc M t (hf t (by simp))).trans (gr_args l _ fun u hu => hf u (by simp [hu]))).le (by simp; omega)
theorem args_queue : ∀ (l : List Tm) (M : Mk), (∀ t ∈ l, t.fits) → ∀ p ∈ (argsT l M).2, p.1 ∈ l ∧ p.2 < (argsT l M).1.next
  | [], M, _, p, hp => by simp [argsT] at hp
  | t :: l, M, hf, p, hp => by
    have hf2 : ∀ u ∈ l, u.fits := fun u hu => hf u (by simp [hu])
    unfold argsT at hp ⊢
    split
    · rename_i hk
      rw [if_pos hk] at hp
      rcases List.mem_cons.1 hp with rfl | hp
      · refine ⟨by simp, ?_⟩
        have h1 := (gr_args l (M.emit 4 M.next 0 []).bump hf2).lo
        have h2 : (M.emit 4 M.next 0 []).bump.next = M.next + 1 := rfl
        simp only
        omega
      · obtain ⟨h1, h2⟩ := args_queue l _ hf2 p hp
        exact ⟨by simp [h1], h2⟩
    · rename_i hk
      rw [if_neg hk] at hp
      obtain ⟨h1, h2⟩ := args_queue l _ hf2 p hp
      exact ⟨by simp [h1], h2⟩
theorem args_cnt : ∀ (l : List Tm) (M : Mk), l.length + qsize (argsT l M).2 ≤ sizes l + (argsT l M).2.length
  | [], M => by simp [argsT, qsize, sizes]
  | t :: l, M => by
    have hp := size_pos t
    unfold argsT
    split
    · have ih := args_cnt l (M.emit 4 M.next 0 []).bump
      simp only [qsize, List.map_cons, List.sum_cons, List.length_cons, sizes] at ih ⊢
      omega
    · have ih := args_cnt l (M.desc t)
      simp only [List.length_cons, sizes] at ih ⊢
      omega
def opsH (i : Int) : Bool := decide (1 ≤ i ∧ i ≤ 6)
theorem opsA_H (i : Int) (h : opsA i = true) : opsH i = true := by simp only [opsA, opsH, decide_eq_true_eq] at *; omega
theorem gr_headQ : ∀ (f : Nat) (q : List (Tm × Nat)) (M : Mk) (n : Nat), qsize q ≤ n + q.length → (∀ p ∈ q, p.1.fits ∧ p.2 < M.next) → Gr n opsH M (headQ f q M)
  | _, [], M, n, _, _ => by unfold headQ; exact (Gr.refl _ M).le (by omega)
  | 0, _ :: _, M, n, _, _ => by unfold headQ; exact (Gr.refl _ M).le (by omega)
  | f + 1, p :: q, M, n, h, hqq => by
    obtain ⟨hp1, hp2⟩ := hqq p (by simp)
    obtain ⟨_, hp3, hp4⟩ := fits_n hp1
    unfold headQ
    have h1 := gr_emit (S := opsH) M 3 p.1.kids.length p.2 p.1.s rfl (fun _ => by simp [slotI]; omega) fun _ h => ⟨small_i64 (by omega) (by omega), n64 (Nat.le_of_lt hp2) h⟩
    have h2 := (gr_args p.1.kids (M.emit 3 p.1.kids.length p.2 p.1.s) hp4).mono (Nat.le_refl _) opsA_H
    have h3 := args_cnt p.1.kids (M.emit 3 p.1.kids.length p.2 p.1.s)
    have h4 : p.1.size = 1 + sizes p.1.kids := by obtain ⟨⟨k, n, s, kids⟩, i⟩ := p; rw [Tm.size]; rfl
    have hl := qsize_pos (argsT p.1.kids (M.emit 3 p.1.kids.length p.2 p.1.s)).2
    have hq := qsize_pos q
    simp only [qsize, List.map_cons, List.sum_cons, List.length_cons, h4] at h
    rw [← qsize] at h
    have h5 := gr_headQ f (q ++ (argsT p.1.kids (M.emit 3 p.1.kids.length p.2 p.1.s)).2) (argsT p.1.kids (M.emit 3 p.1.kids.length p.2 p.1.s)).1 (n - p.1.kids.length) (by rw [qsize_app, List.length_append]; omega) fun p2 hp => by
      have hlo := h2.lo
      rcases List.mem_append.1 hp with hp | hp
      · obtain ⟨k1, k2⟩ := hqq p2 (by simp [hp])
        exact ⟨k1, Nat.lt_of_lt_of_le k2 hlo⟩
      · obtain ⟨k1, k2⟩ := args_queue p.1.kids _ hp4 p2 hp
        exact ⟨hp4 _ k1, k2⟩
    exact ((h1.trans h2).trans h5).le (by omega)
theorem gr_headA : ∀ (l : List Tm) (i : Nat) (M : Mk), i + l.length ≤ M.next → (∀ t ∈ l, t.fits) → Gr 0 opsH M (headA l i M).1 ∧ ∀ p ∈ (headA l i M).2, p.1 ∈ l ∧ p.2 < M.next
  | [], _, M, _, _ => ⟨Gr.refl _ M, by simp [headA]⟩
  | t :: l, i, M, hi, hf => by
    simp only [List.length_cons] at hi
    have hf2 : ∀ u ∈ l, u.fits := fun u hu => hf u (by simp [hu])
    have mem : ∀ {N : Mk}, N.next = M.next → (∀ p ∈ (headA l (i + 1) N).2, p.1 ∈ l ∧ p.2 < N.next) → ∀ p ∈ (headA l (i + 1) N).2, p.1 ∈ t :: l ∧ p.2 < M.next := fun e h p hp => ⟨by simp [(h p hp).1], by have := (h p hp).2; omega⟩
    unfold headA
    split
    · obtain ⟨h1, h2⟩ := gr_headA l (i + 1) (M.emit 2 t.n i []) (by show i + 1 + l.length ≤ M.next; omega) hf2
      exact ⟨(gr_emit (S := opsH) M 2 t.n i [] rfl (fun _ => by simp [slotI]; omega) fun _ h => ⟨(fits_n (hf t (by simp))).1, n64 (by omega : i ≤ M.next) h⟩).trans h1, mem rfl h2⟩
    · split
      · cases hs : slotO M.sl t.n with
        | some v =>
          obtain ⟨h1, h2⟩ := gr_headA l (i + 1) (M.emit 1 v i []) (by show i + 1 + l.length ≤ M.next; omega) hf2
          exact ⟨(gr_emit (S := opsH) M 1 v i [] rfl (fun w => by have := slot_lt M w hs; simp [slotI]; omega) fun w h => ⟨n64 (Nat.le_of_lt (slot_lt M w hs)) h, n64 (by omega : i ≤ M.next) h⟩).trans h1, mem rfl h2⟩
        | none =>
          obtain ⟨h1, h2⟩ := gr_headA l (i + 1) (M.give t.n i) (by show i + 1 + l.length ≤ M.next; omega) hf2
          exact ⟨(gr_give opsH M t.n i (by omega)).trans h1, mem rfl h2⟩
      · obtain ⟨h1, h2⟩ := gr_headA l (i + 1) M (by omega) hf2
        refine ⟨h1, fun p hp => ?_⟩
        rcases List.mem_cons.1 hp with rfl | hp
        · exact ⟨by simp, by simp only; omega⟩
        · exact mem rfl h2 p hp
theorem gr_headT (l : List Tm) (hl : l.length ≤ 4) (hf : ∀ t ∈ l, t.fits) : Gr (sizes l) opsH mk0 (headT l mk0) := by
  obtain ⟨h1, hq⟩ := gr_headA l 0 mk0 (by show 0 + l.length ≤ 4; omega) hf
  obtain ⟨_, _, h3, _⟩ := headA_fit l 0 mk0 4 mk0_fit (by omega)
  have h2 := gr_headQ (qsize (headA l 0 mk0).2) (headA l 0 mk0).2 (headA l 0 mk0).1 (sizes l) (by omega) fun p hp => ⟨hf _ (hq p hp).1, Nat.lt_of_lt_of_le (hq p hp).2 h1.lo⟩
  exact (h1.trans h2).le (by omega)
def opsB (i : Int) : Bool := decide (4 ≤ i ∧ i ≤ 10)
theorem opsA_B (i : Int) (h : opsA i = true) : opsB i = true := by simp only [opsA, opsB, decide_eq_true_eq] at *; omega
/-- how many of some terms are no structures -/
def nsT : List Tm → Nat
  | [] => 0
  | t :: l => (if t.k = 3 then 0 else 1) + nsT l
theorem gr_parts : ∀ (l : List Tm) (bs : List Int) (M : Mk), (∀ b ∈ bs, -1 ≤ b ∧ b < M.next) → (∀ t ∈ l, t.fits) → Gr (nsT l) opsB M (partsT l bs M)
  | [], bs, M, _, _ => by unfold partsT; exact Gr.refl _ M
  | t :: l, [], M, _, _ => by unfold partsT; exact (Gr.refl _ M).le (by omega)
  | t :: l, b :: bs, M, h, hf => by
    have hf2 : ∀ u ∈ l, u.fits := fun u hu => hf u (by simp [hu])
    unfold partsT nsT
    split
    · obtain ⟨b0, b1⟩ := h b (by simp)
      have h1 := gr_emit (S := opsB) M 5 b 0 [] rfl (fun _ => by simp [slotI]; omega) fun _ h => ⟨small_i64 (by omega) (by omega), z64⟩
      exact h1.trans (gr_parts l bs _ (fun c hc => h c (by simp [hc])) hf2)
    · have h1 := (gr_desc M t (hf t (by simp))).mono (Nat.le_refl _) opsA_B
      exact h1.trans (gr_parts l bs _ (fun c hc => by have q1 := h c (by simp [hc]); have q2 := h1.lo; exact ⟨q1.1, by omega⟩) hf2)
theorem gr_build : ∀ (t : Tm), t.fits → ∀ (M : Mk), Gr t.size opsB M (buildT t M).1 ∧ (buildT t M).2 < (buildT t M).1.next := by
  refine Tm.ind fun k n s l ih hfit M => ?_
  obtain ⟨_, hlen, hkf⟩ := fits_n hfit
  simp only [Tm.kids] at hlen hkf
  have key : ∀ (l : List Tm), (∀ t ∈ l, ∀ M, Gr t.size opsB M (buildT t M).1 ∧ (buildT t M).2 < (buildT t M).1.next) → ∀ M, ∃ m, m + nsT l ≤ sizes l ∧ Gr m opsB M (buildL l M).1 ∧ ∀ b ∈ (buildL l M).2, -1 ≤ b ∧ b < (buildL l M).1.next := by
    intro l
    induction l with
    | nil => intro _ M; exact ⟨0, by simp [nsT], by unfold buildL; exact Gr.refl _ M, by unfold buildL; simp⟩
    | cons t l ih2 =>
      intro hh M
      have hp := size_pos t
      unfold buildL nsT
      split
      · obtain ⟨h1, h2⟩ := hh t (by simp) M
        obtain ⟨m, h3, h4, h5⟩ := ih2 (fun u hu => hh u (by simp [hu])) (buildT t M).1
        refine ⟨t.size + m, by simp only [sizes]; omega, h1.trans h4, fun b hb => ?_⟩
        rcases List.mem_cons.1 hb with rfl | hb
        · show -1 ≤ ((buildT t M).2 : Int) ∧ ((buildT t M).2 : Int) < ((buildL l (buildT t M).1).1.next : Int)
          have := h4.lo; omega
        · exact h5 b hb
      · obtain ⟨m, h3, h4, h5⟩ := ih2 (fun u hu => hh u (by simp [hu])) M
        refine ⟨m, by simp only [sizes]; omega, h4, fun b hb => ?_⟩
        rcases List.mem_cons.1 hb with rfl | hb
        · show (-1 : Int) ≤ -1 ∧ (-1 : Int) < ((buildL l M).1.next : Int)
          omega
        · exact h5 b hb
  obtain ⟨m, h1, h2, h3⟩ := key l (fun t ht => ih t ht (hkf t ht)) M
  unfold buildT
  have h4 := (h2.trans (gr_bump opsB _)).trans (gr_emit (S := opsB) (buildL l M).1.bump 7 l.length (buildL l M).1.next s rfl (fun _ => by simp [slotI, Mk.bump]; omega) fun _ h => ⟨small_i64 (by omega) (by omega), n64 (Nat.le_succ _) h⟩)
  have h5 := gr_parts l (buildL l M).2 ((buildL l M).1.bump.emit 7 l.length (buildL l M).1.next s) (fun b hb => by
    have := h3 b hb
    show -1 ≤ b ∧ b < ((buildL l M).1.next + 1 : Nat)
    omega) hkf
  refine ⟨(h4.trans h5).le (by simp only [Tm.size]; omega), ?_⟩
  show (buildL l M).1.next < (partsT l (buildL l M).2 ((buildL l M).1.bump.emit 7 l.length (buildL l M).1.next s)).next
  have := h5.lo
  have e : ((buildL l M).1.bump.emit 7 l.length (buildL l M).1.next s).next = (buildL l M).1.next + 1 := rfl
  omega
theorem gr_put (M : Mk) (t : Tm) (i : Nat) (ht : t.fits) (hi : i ≤ 1000000000) : Gr t.size opsB M (putT M t i) := by
  have hp := size_pos t
  have hi64 := n64 hi (Nat.le_refl _)
  unfold putT
  split
  · exact (gr_emit (S := opsB) M 10 t.n i [] rfl (fun _ => by simp [slotI]; omega) fun _ _ => ⟨(fits_n ht).1, hi64⟩).le (by omega)
  · split
    · split
      · rename_i v hv
        exact (gr_emit (S := opsB) M 9 v i [] rfl (fun w => by have := slot_lt M w hv; simp [slotI]; omega) fun w h => ⟨n64 (Nat.le_of_lt (slot_lt M w hv)) h, hi64⟩).le (by omega)
      · have h := (gr_new opsB M t.n).trans (gr_emit (S := opsB) (M.give t.n M.next).bump 8 M.next i [] rfl (fun _ => by simp [slotI, Mk.bump, Mk.give]; omega) fun _ h => ⟨n64 (Nat.le_succ _) h, hi64⟩)
        exact h.le (by omega)
    · obtain ⟨h1, h2⟩ := gr_build t ht M
      exact (h1.trans (gr_emit (S := opsB) _ 9 (buildT t M).2 i [] rfl (fun _ => by simp [slotI]; omega) fun _ h => ⟨n64 (Nat.le_of_lt h2) h, hi64⟩)).le (by omega)
theorem gr_puts : ∀ (l : List Tm) (i : Nat) (M : Mk), (∀ t ∈ l, t.fits) → i + l.length ≤ 1000000000 → Gr (sizes l) opsB M (putsT l i M)
  | [], _, M, _, _ => by unfold putsT; exact Gr.refl _ M
  | t :: l, i, M, hf, hi => by
    simp only [List.length_cons] at hi
    unfold putsT
    exact ((gr_put M t i (hf t (by simp)) (by omega)).trans (gr_puts l (i + 1) _ (fun u hu => hf u (by simp [hu])) (by omega))).le (by simp [sizes])
/-- the operations of goals -/
def opsG (i : Int) : Bool := decide (i = 11 ∨ i = 12 ∨ i = 13)
def isG : List D → Bool
  | .int _ i :: _ => opsG i
  | _ => false
def cntG (c : List (List D)) : Nat := (c.filter isG).length
theorem cntG_new {n : Nat} {S : Int → Bool} {M M' : Mk} (h : Gr n S M M') (v : M.V) (hs : ∀ i, S i = true → opsG i = false) : cntG M'.code = cntG M.code := by
  obtain ⟨new, h1, h2⟩ := h.code v
  have : (new.map Ins.row).filter isG = [] := by
    rw [List.filter_eq_nil_iff]
    intro r hr
    obtain ⟨x, hx, rfl⟩ := List.mem_map.1 hr
    have := hs _ (h2 x hx).1
    simp [Ins.row, isG, this]
  simp [cntG, h1, this]
def opsAll (i : Int) : Bool := decide (1 ≤ i ∧ i ≤ 14)
theorem opsB_All (i : Int) (h : opsB i = true) : opsAll i = true := by simp only [opsB, opsAll, decide_eq_true_eq] at *; omega
theorem opsH_All (i : Int) (h : opsH i = true) : opsAll i = true := by simp only [opsH, opsAll, decide_eq_true_eq] at *; omega
theorem opsB_G (i : Int) (h : opsB i = true) : opsG i = false := by simp only [opsB, opsG, decide_eq_true_eq, decide_eq_false_iff_not] at *; omega
theorem gr_goal (g : Tm) (hg : g.fits) (M : Mk) (v : M.V) : Gr g.size opsAll M (goalT g M) ∧ cntG (goalT g M).code = cntG M.code + 1 := by
  have hp := size_pos g
  obtain ⟨_, hgl, hgf⟩ := fits_n hg
  unfold goalT
  split
  · refine ⟨(gr_emit (S := opsAll) M 13 0 0 [] rfl (fun _ => by simp [slotI]; omega) fun _ _ => ⟨z64, z64⟩).le (by omega), ?_⟩
    simp [Mk.emit, insR, cntG, isG, opsG]
  · have h1 := gr_puts g.kids 0 M hgf (by omega)
    have hz : sizes g.kids ≤ g.size := by obtain ⟨k, n, s, l⟩ := g; simp [Tm.size, Tm.kids]
    have h2 := cntG_new h1 v opsB_G
    refine ⟨((h1.mono (Nat.le_refl _) opsB_All).trans (gr_emit (S := opsAll) _ _ _ _ _ (by split <;> rfl) (fun _ => by simp only [slotI]; split <;> simp <;> omega) fun _ _ => ⟨small_i64 (by omega) (by omega), z64⟩)).le (by omega), ?_⟩
    rw [← h2]
    split <;> simp [Mk.emit, insR, cntG, isG, opsG]
theorem gr_goals : ∀ (l : List Tm), (∀ t ∈ l, t.fits) → ∀ (M : Mk), M.V → Gr (sizes l) opsAll M (goalsT l M) ∧ cntG (goalsT l M).code = cntG M.code + l.length
  | [], _, M, _ => by unfold goalsT; exact ⟨Gr.refl _ M, rfl⟩
  | g :: l, hf, M, v => by
    obtain ⟨h1, h2⟩ := gr_goal g (hf g (by simp)) M v
    obtain ⟨h3, h4⟩ := gr_goals l (fun u hu => hf u (by simp [hu])) (goalT g M) (h1.val v)
    unfold goalsT
    exact ⟨(h1.trans h3).le (by simp [sizes]), by rw [h4, h2]; simp; omega⟩
theorem mk0_V : mk0.V := fun p hp => by cases hp
/-- the code of a query: a goal's operation for each goal, and the end -/
theorem codeQ_form (l : List Tm) (hf : ∀ t ∈ l, t.fits) : ∃ L : List Ins, codeQ l = L.map Ins.row ++ [insR 14 0 0 []] ∧ cntG (L.map Ins.row) = l.length := by
  obtain ⟨h1, h2⟩ := gr_goals l hf mk0 mk0_V
  obtain ⟨new, h3, _⟩ := h1.code mk0_V
  have e : mk0.code = [] := rfl
  rw [e, List.nil_append] at h3
  rw [h3] at h2
  refine ⟨new, by rw [codeQ, bodyT, Mk.emit, h3], by rw [h2]; simp [cntG, e]⟩
/-- the code of a fact: operations of a head, and the end -/
theorem codeC_fact (c : Cl) (hf : c.fits) (hb : c.body = []) (hl : c.head.kids.length ≤ 4) : ∃ L : List Ins, codeC c = L.map Ins.row ++ [insR 14 0 0 []] ∧ ∀ x ∈ L, 1 ≤ x.op ∧ x.op ≤ 6 := by
  obtain ⟨new, h3, h4⟩ := (gr_headT c.head.kids hl (fits_n hf.head).2.2).code mk0_V
  have e : mk0.code = [] := rfl
  rw [e, List.nil_append] at h3
  refine ⟨new, by rw [codeC, hb, bodyT, goalsT, Mk.emit, h3], fun x hx => ?_⟩
  have := (h4 x hx).1
  simpa [opsH] using this
/-- the slots of a clause's code -/
theorem codeC_slots (c : Cl) (hf : c.fits) (hl : c.head.kids.length ≤ 4) : ∃ L : List Ins, codeC c = L.map Ins.row ∧ ∀ x ∈ L, slotI x < 4 + sizes c.head.kids + sizes c.body ∧ (4 + sizes c.head.kids + sizes c.body ≤ 1000000000 → inR .i64 x.a ∧ inR .i64 x.b) := by
  have h1 := (gr_headT c.head.kids hl (fits_n hf.head).2.2).mono (Nat.le_refl _) opsH_All
  have hv := h1.val mk0_V
  obtain ⟨h2, _⟩ := gr_goals c.body hf.body (headT c.head.kids mk0) hv
  have h3 := (h1.trans h2).trans (gr_emit (S := opsAll) _ 14 0 0 [] rfl (fun _ => by simp [slotI]; omega) fun _ _ => ⟨z64, z64⟩)
  obtain ⟨new, h4, h5⟩ := h3.code mk0_V
  have e : mk0.code = [] := rfl
  have e2 : mk0.next = 4 := rfl
  rw [e, List.nil_append] at h4
  have := h3.hi
  refine ⟨new, h4, fun x hx => ?_⟩
  obtain ⟨_, h6, h7⟩ := h5 x hx
  exact ⟨by omega, fun hn => h7 (by omega)⟩
end Go.Proofs.YteighafofbohcaaGreat

/-
  Slots of code: what spec.CodeSlots and impl.CodeSlots answer.
  Conditions: none.
-/
open Go Go.AM Go.Proofs
namespace Go.Proofs.YteighafofbohcaaGreat
open Go.ChangeShapes Go.WideShapes Go.ChangeAt Go.RowKit
set_option linter.unusedVariables false
set_option linter.unusedSimpArgs false
set_option maxRecDepth 100000
-- 11 loop.example/prologserver/spec.CodeSlots params 1 ntmps 32
-- loop head live: [0,3,4]
def ac11 : Cd := .seq (.region [⟨(some 2),.mv (.k (.c (.d (.int .i64 0)))),none⟩] [2])
 (.seq (.region [⟨(some 3),.mv (.k (.c (.d (.int .i64 4)))),none⟩] [])
 (.seq (.seq (.region [⟨(some 4),.mv (.k (.c (.d (.int .i64 0)))),none⟩] [])
 (.block 0 (.loop (.seq (.seq (.region [⟨(some 5),.mv (.t 4),none⟩,
 ⟨(some 6),.mv (.t 0),none⟩,
 ⟨(some 7),.len 1 (.t 6),none⟩,
 ⟨(some 8),.bin .lss (.t 5) (.t 7),none⟩] [5,6,7])
 (.cond (.t 8)
 (.skip)
 (.exit 0)))
 (.seq (.block 1 (.seq (.region [⟨(some 11),.mv (.t 0),none⟩,
 ⟨(some 12),.mv (.t 4),none⟩,
 ⟨(some 13),.indexAddr 4 (.t 11) (.t 12),none⟩,
 ⟨(some 14),.load (some 4) (.t 13),none⟩,
 ⟨(some 15),.qcall 19 [(.t 14)],none⟩,
 ⟨(some 16),.mv (.t 3),none⟩,
 ⟨(some 17),.bin .geq (.t 15) (.t 16),none⟩,
 ⟨(some 18),.mv (.t 17),none⟩,
 ⟨(some 19),.mv (.t 3),some (18,true)⟩,
 ⟨(some 20),.bin .lss (.t 19) (.k (.c (.d (.int .i64 9223372036854775807)))),some (18,true)⟩,
 ⟨(some 21),.pick (.t 18) (.t 20) (.k (.c (.d (.bool false)))),none⟩] [8,11,12,13,14,15,16,17,18,19,20])
 (.cond (.t 21)
 (.seq (.region [⟨(some 22),.mv (.t 0),none⟩,
 ⟨(some 23),.mv (.t 4),none⟩,
 ⟨(some 24),.indexAddr 4 (.t 22) (.t 23),none⟩,
 ⟨(some 25),.load (some 4) (.t 24),none⟩,
 ⟨(some 26),.qcall 19 [(.t 25)],none⟩,
 ⟨(some 3),.mv (.t 26),none⟩] [21,22,23,24,25,26])
 (.seq (.region [⟨(some 27),.mv (.t 3),none⟩,
 ⟨(some 28),.bin .lss (.t 27) (.k (.c (.d (.int .i64 9223372036854775807)))),none⟩] [27])
 (.cond (.t 28)
 (.region [⟨(some 29),.mv (.t 3),none⟩,
 ⟨(some 30),.bin .add (.t 29) (.k (.c (.d (.int .i64 1)))),none⟩,
 ⟨(some 3),.mv (.t 30),none⟩] [28,29,30])
 (.skip))))
 (.skip))))
 (.region [⟨(some 9),.mv (.t 4),none⟩,
 ⟨(some 10),.bin .add (.t 9) (.k (.c (.d (.int .i64 1)))),none⟩,
 ⟨(some 4),.mv (.t 10),none⟩] [9,10,21,28]))))))
 (.seq (.region [⟨(some 31),.mv (.t 3),none⟩,
 ⟨(some 2),.mv (.t 31),none⟩] [3,31])
 (.ret))))
theorem ac11_ok : cFunc Tryz.prog [1000019] [(0,[2],[]),(1,[],[]),(2,[],[]),(3,[5,6,7],[]),(5,[8,11,12,13,14,15,16,17,18,19,20],[]),(6,[21,22,23,24,25,26],[]),(7,[27],[]),(8,[28,29,30],[]),(4,[9,10,21,28],[]),(9,[3,31],[])] Tryz.f11 = some (ac11,[.tmp 2],32) := by kernel_rfl
-- 10 loop.example/prologserver/impl.CodeSlots params 1 ntmps 37
-- loop head live: [3,7,8,9]
def ac10 : Cd := .seq (.region [⟨(some 2),.mv (.k (.c (.d (.int .i64 0)))),none⟩] [2])
 (.seq (.region [⟨(some 3),.mv (.k (.c (.d (.int .i64 4)))),none⟩] [])
 (.seq (.seq (.region [⟨(some 7),.mv (.t 0),none⟩,
 ⟨(some 8),.len 1 (.t 7),none⟩,
 ⟨(some 9),.mv (.k (.c (.d (.int .i64 0)))),none⟩] [0])
 (.block 0 (.loop (.seq (.region [⟨(some 10),.bin .lss (.t 9) (.t 8),none⟩] [])
 (.seq (.cond (.t 10)
 (.skip)
 (.exit 0))
 (.seq (.block 1 (.seq (.region [⟨(some 11),.indexAddr 4 (.t 7) (.t 9),none⟩,
 ⟨(some 12),.load (some 4) (.t 11),none⟩,
 ⟨(some 5),.alloc [(.d (.int .i64 0)),(.d (.int .i64 0)),(.d (.int .i64 0)),(.d (.str []))],none⟩,
 ⟨none,.store 4 (.t 5) (.t 12),none⟩] [10,11,12])
 (.seq (.region [⟨(some 6),.mv (.k (.c (.d (.int .i64 (-1))))),none⟩] [])
 (.seq (.seq (.region [⟨(some 13),.fieldAddr 0 (.t 5),none⟩,
 ⟨(some 14),.load none (.t 13),none⟩] [13])
 (.block 2 (.seq (.seq (.region [⟨(some 16),.bin .eql (.t 14) (.k (.c (.d (.int .i64 1)))),none⟩,
 ⟨(some 15),.mv (.t 16),none⟩] [16])
 (.cond (.t 15)
 (.skip)
 (.seq (.region [⟨(some 17),.bin .eql (.t 14) (.k (.c (.d (.int .i64 4)))),none⟩,
 ⟨(some 15),.mv (.t 17),none⟩] [17])
 (.cond (.t 15)
 (.skip)
 (.seq (.region [⟨(some 18),.bin .eql (.t 14) (.k (.c (.d (.int .i64 5)))),none⟩,
 ⟨(some 15),.mv (.t 18),none⟩] [18])
 (.cond (.t 15)
 (.skip)
 (.seq (.region [⟨(some 19),.bin .eql (.t 14) (.k (.c (.d (.int .i64 8)))),none⟩,
 ⟨(some 15),.mv (.t 19),none⟩] [19])
 (.cond (.t 15)
 (.skip)
 (.region [⟨(some 20),.bin .eql (.t 14) (.k (.c (.d (.int .i64 9)))),none⟩,
 ⟨(some 15),.mv (.t 20),none⟩] [20])))))))))
 (.cond (.t 15)
 (.region [⟨(some 21),.fieldAddr 1 (.t 5),none⟩,
 ⟨(some 22),.load none (.t 21),none⟩,
 ⟨(some 6),.mv (.t 22),none⟩] [5,14,15,21,22])
 (.seq (.region [⟨(some 24),.bin .eql (.t 14) (.k (.c (.d (.int .i64 7)))),none⟩,
 ⟨(some 23),.mv (.t 24),none⟩] [14,15,24])
 (.cond (.t 23)
 (.region [⟨(some 25),.fieldAddr 2 (.t 5),none⟩,
 ⟨(some 26),.load none (.t 25),none⟩,
 ⟨(some 6),.mv (.t 26),none⟩] [5,23,25,26])
 (.skip)))))))
 (.seq (.region [⟨(some 27),.mv (.t 6),none⟩,
 ⟨(some 28),.mv (.t 3),none⟩,
 ⟨(some 29),.bin .geq (.t 27) (.t 28),none⟩] [5,23,27,28])
 (.cond (.t 29)
 (.seq (.region [⟨(some 30),.mv (.t 6),none⟩,
 ⟨(some 3),.mv (.t 30),none⟩] [6,29,30])
 (.seq (.region [⟨(some 31),.mv (.t 3),none⟩,
 ⟨(some 32),.bin .lss (.t 31) (.k (.c (.d (.int .i64 9223372036854775807)))),none⟩] [31])
 (.cond (.t 32)
 (.region [⟨(some 33),.mv (.t 3),none⟩,
 ⟨(some 34),.bin .add (.t 33) (.k (.c (.d (.int .i64 1)))),none⟩,
 ⟨(some 3),.mv (.t 34),none⟩] [32,33,34])
 (.skip))))
 (.skip)))))))
 (.region [⟨(some 35),.bin .add (.t 9) (.k (.c (.d (.int .i64 1)))),none⟩,
 ⟨(some 9),.mv (.t 35),none⟩] [6,29,32,35])))))))
 (.seq (.region [⟨(some 36),.mv (.t 3),none⟩,
 ⟨(some 2),.mv (.t 36),none⟩] [3,36])
 (.ret))))
theorem ac10_ok : cFunc Tryz.prog [] [(0,[2],[]),(1,[],[]),(2,[0],[]),(3,[],[]),(4,[10,11,12],[]),(5,[],[]),(6,[13],[]),(7,[16],[]),(8,[17],[]),(9,[18],[]),(10,[19],[]),(11,[20],[]),(12,[5,14,15,21,22],[]),(13,[14,15,24],[]),(14,[5,23,25,26],[]),(15,[5,23,27,28],[]),(16,[6,29,30],[]),(17,[31],[]),(18,[32,33,34],[]),(19,[6,29,32,35],[]),(20,[3,36],[])] Tryz.f10 = some (ac10,[.tmp 2],37) := by kernel_rfl
-- 19 loop.example/prologserver/spec.l8Uses params 1 ntmps 17
def ac19 : Cd := .seq (.region [⟨(some 1),.box (.t 0),none⟩,
 ⟨(some 2),.mv (.k (.c (.d (.int .i64 0)))),none⟩] [0,2])
 (.seq (.seq (.region [⟨(some 3),.fieldAddr 0 (.t 1),none⟩,
 ⟨(some 4),.load none (.t 3),none⟩] [3])
 (.block 0 (.seq (.seq (.region [⟨(some 6),.bin .eql (.t 4) (.k (.c (.d (.int .i64 4)))),none⟩,
 ⟨(some 5),.mv (.t 6),none⟩] [6])
 (.cond (.t 5)
 (.skip)
 (.seq (.region [⟨(some 7),.bin .eql (.t 4) (.k (.c (.d (.int .i64 5)))),none⟩,
 ⟨(some 5),.mv (.t 7),none⟩] [7])
 (.cond (.t 5)
 (.skip)
 (.seq (.region [⟨(some 8),.bin .eql (.t 4) (.k (.c (.d (.int .i64 8)))),none⟩,
 ⟨(some 5),.mv (.t 8),none⟩] [8])
 (.cond (.t 5)
 (.skip)
 (.seq (.region [⟨(some 9),.bin .eql (.t 4) (.k (.c (.d (.int .i64 9)))),none⟩,
 ⟨(some 5),.mv (.t 9),none⟩] [9])
 (.cond (.t 5)
 (.skip)
 (.region [⟨(some 10),.bin .eql (.t 4) (.k (.c (.d (.int .i64 1)))),none⟩,
 ⟨(some 5),.mv (.t 10),none⟩] [10])))))))))
 (.cond (.t 5)
 (.seq (.region [⟨(some 11),.fieldAddr 1 (.t 1),none⟩,
 ⟨(some 12),.load none (.t 11),none⟩,
 ⟨(some 2),.mv (.t 12),none⟩] [1,4,5,11,12])
 (.ret))
 (.seq (.region [⟨(some 14),.bin .eql (.t 4) (.k (.c (.d (.int .i64 7)))),none⟩,
 ⟨(some 13),.mv (.t 14),none⟩] [4,5,14])
 (.cond (.t 13)
 (.seq (.region [⟨(some 15),.fieldAddr 2 (.t 1),none⟩,
 ⟨(some 16),.load none (.t 15),none⟩,
 ⟨(some 2),.mv (.t 16),none⟩] [1,13,15,16])
 (.ret))
 (.skip)))))))
 (.seq (.region [⟨(some 2),.mv (.k (.c (.d (.int .i64 (-1))))),none⟩] [1,13])
 (.ret)))
theorem ac19_ok : cFunc Tryz.prog [] [(0,[0,2],[]),(1,[3],[]),(2,[6],[]),(3,[7],[]),(4,[8],[]),(5,[9],[]),(6,[10],[]),(7,[1,4,5,11,12],[]),(8,[4,5,14],[]),(9,[1,13,15,16],[]),(10,[1,13],[])] Tryz.f19 = some (ac19,[.tmp 2],17) := by kernel_rfl
def Ins.slot (x : Ins) : Int := if x.op = 4 ∨ x.op = 5 ∨ x.op = 8 ∨ x.op = 9 ∨ x.op = 1 then x.a else if x.op = 7 then x.b else -1
/-- the number of slots behind an instruction -/
def Ins.next (n : Int) (x : Ins) : Int := if n ≤ x.slot then (if x.slot < 9223372036854775807 then x.slot + 1 else x.slot) else n
/-- both numbers of an instruction are in range -/
def Ins.ab (x : Ins) : Prop := inR .i64 x.a ∧ inR .i64 x.b
theorem Ins.ok.ab {x : Ins} (h : x.ok) : x.ab := ⟨h.a, h.b⟩
def slotsOf (l : List Ins) : Int := l.foldl Ins.next 4
theorem uses_calls (x : Ins) (H : Heap) : ACalls Tryz.prog 19 [.agg (x.row.map .d)] H (fun r H' => H' = H ∧ r = .c (.d (.int .i64 x.slot))) := by
  refine acalls Tryz.func19 (by kernel_rfl) ac19_ok fun hf => ?_
  simp -implicitDefEqProofs [ac19, Ins.row, go_sem, -List.set_cons_succ, -List.set_cons_zero]
  simp only [Ins.slot]
  (repeat' (first | (refine And.intro ?_ ?_) | intro _)) <;> simp_all
theorem slot_i64 (x : Ins) (hx : x.ab) : inR .i64 x.slot := by
  unfold Ins.slot
  split
  · exact hx.1
  · split
    · exact hx.2
    · exact small_i64 (by omega) (by omega)
theorem next_i64 {n : Int} (x : Ins) (hx : x.ab) (hn : inR .i64 n ∧ 4 ≤ n) : inR .i64 (Ins.next n x) ∧ 4 ≤ Ins.next n x := by
  have := slot_i64 x hx
  obtain ⟨h1, h2⟩ := hn
  unfold Ins.next
  rw [i64_def] at *
  split
  · split <;> omega
  · omega
theorem fold_i64 (l : List Ins) (hx : ∀ x ∈ l, x.ab) (i : Nat) : inR .i64 (slotsOf (l.take i)) ∧ 4 ≤ slotsOf (l.take i) := by
  unfold slotsOf
  have : ∀ (l : List Ins) (n : Int), (∀ x ∈ l, x.ab) → (inR .i64 n ∧ 4 ≤ n) → inR .i64 (l.foldl Ins.next n) ∧ 4 ≤ l.foldl Ins.next n := by
    intro l
    induction l with
    | nil => exact fun n _ h => h
    | cons x l ih => exact fun n h hn => ih _ (fun y hy => h y (by simp [hy])) (next_i64 x (h x (by simp)) hn)
  exact this _ _ (fun x h => hx x (List.mem_of_mem_take h)) ⟨small_i64 (by omega) (by omega), by omega⟩
theorem slotsOf_succ (l : List Ins) (i : Nat) (h : i < l.length) : slotsOf (l.take (i + 1)) = Ins.next (slotsOf (l.take i)) l[i] := by
  rw [List.take_succ_eq_append_getElem h]
  simp only [slotsOf, List.foldl_append, List.foldl_cons, List.foldl_nil]
theorem specCs_calls (l : List Ins) (hl : l.length ≤ reachBytes) (hx : ∀ x ∈ l, x.ab) (H : Heap) : ACalls Tryz.prog 11 [.c (.d (.sl (l.map Ins.row)))] H (fun r H' => H' = H ∧ r = .c (.d (.int .i64 (slotsOf l)))) := by
  refine acalls Tryz.func11 (by kernel_rfl) ac11_ok fun hf => ?_
  have hlen := reach_i64 hl
  have hsm := reach_small hl
  simp -implicitDefEqProofs [ac11, hlen, go_sem, -List.set_cons_succ, -List.set_cons_zero]
  refine loop_set (σ := Nat) (fun i => [(4, .c (.d (.int .i64 i))), (3, .c (.d (.int .i64 (slotsOf (l.take i)))))]) (fun _ => H) (fun _ => []) (fun i => i ≤ l.length) (fun i => l.length - i) 0 rfl (Nat.zero_le _) ?_
  intro i hi
  simp -implicitDefEqProofs [setAll, hlen, go_sem, -List.set_cons_succ, -List.set_cons_zero]
  refine ⟨fun hlt => ?_, fun hge => by rw [List.take_of_length_le hge]⟩
  have hs := slot_i64 l[i] (hx _ (List.getElem_mem hlt))
  have hn := fold_i64 l hx i
  have hnx := slotsOf_succ l i hlt
  have hadd : inR .i64 ((i : Int) + 1) := small_i64 (by omega) (by omega)
  refine row_of hlt rfl ?_
  simp -implicitDefEqProofs [Ins.row, go_sem, -List.set_cons_succ, -List.set_cons_zero]
  refine qcall_pure (uses_calls l[i]) hf rfl ?_
  simp -implicitDefEqProofs [hadd, hlt, Ins.row, go_sem, -List.set_cons_succ, -List.set_cons_zero]
  refine ⟨fun h1 h2 => ?_, fun h => ?_⟩
  · refine row_of hlt rfl ?_
    simp -implicitDefEqProofs [Ins.row, go_sem, -List.set_cons_succ, -List.set_cons_zero]
    refine qcall_pure (uses_calls l[i]) hf rfl ?_
    simp -implicitDefEqProofs [hadd, go_sem, -List.set_cons_succ, -List.set_cons_zero]
    have hsl : l[i].slot < 9223372036854775807 → inR .i64 (l[i].slot + 1) := fun h => by rw [i64_def] at *; omega
    refine ⟨fun h => ⟨hsl h, ?_⟩, fun h => ?_⟩
    · exact loop_back (i + 1) (by simp [setAll, hnx, Ins.next, h1, h]) hlt (by show l.length - (i + 1) < l.length - i; omega)
    · exact loop_back (i + 1) (by simp [setAll, hnx, Ins.next, h1, h]; intro h'; omega) hlt (by show l.length - (i + 1) < l.length - i; omega)
  · have e : Ins.next (slotsOf (l.take i)) l[i] = slotsOf (l.take i) := by
      rw [i64_def] at hs hn
      simp only [Ins.next]
      (repeat' split) <;> omega
    exact loop_back (i + 1) (by simp [setAll, hnx, e]) hlt (by show l.length - (i + 1) < l.length - i; omega)
theorem implCs_calls (l : List Ins) (hl : l.length ≤ reachBytes) (hx : ∀ x ∈ l, x.ab) (H : Heap) : ACalls Tryz.prog 10 [.c (.d (.sl (l.map Ins.row)))] H (fun r H' => H' = H ∧ r = .c (.d (.int .i64 (slotsOf l)))) := by
  refine acalls Tryz.func10 (by kernel_rfl) ac10_ok fun hf => ?_
  have hlen := reach_i64 hl
  have hsm := reach_small hl
  simp -implicitDefEqProofs [ac10, hlen, go_sem, -List.set_cons_succ, -List.set_cons_zero]
  refine loop_set (σ := Nat) (fun i => [(9, .c (.d (.int .i64 i))), (3, .c (.d (.int .i64 (slotsOf (l.take i)))))]) (fun _ => H) (fun _ => []) (fun i => i ≤ l.length) (fun i => l.length - i) 0 rfl (Nat.zero_le _) ?_
  intro i hi
  simp -implicitDefEqProofs [setAll, hlen, go_sem, -List.set_cons_succ, -List.set_cons_zero]
  refine ⟨fun hlt => ?_, fun hge => by rw [List.take_of_length_le hge]⟩
  have hs := slot_i64 l[i] (hx _ (List.getElem_mem hlt))
  have hn := fold_i64 l hx i
  have hnx := slotsOf_succ l i hlt
  have hadd : inR .i64 ((i : Int) + 1) := small_i64 (by omega) (by omega)
  refine row_of hlt rfl ?_
  simp -implicitDefEqProofs [Ins.row, go_sem, -List.set_cons_succ, -List.set_cons_zero]
  rw [i64_def] at hs
  obtain ⟨hn1, hn2⟩ := hn
  (repeat' (first | (with_reducible refine And.intro ?_ ?_) | intro _)) <;> first
    | exact hf
    | exact hadd
    | exact hn1
    | exact small_i64 (by omega) (by omega)
    | (rw [i64_def]; omega)
    | (refine loop_less (i + 1) ?_ hlt (by show l.length - (i + 1) < l.length - i; omega)
       refine St.le_cut [_] ?_ (by simp [Sl.le, A.le_refl_iff, A.le_u_iff, As.lo, A.lo, C.lo, Ref.lo, Cs.lo, Obs.lo, Ob.lo, setAll, and_true, true_and, List.length_nil, List.length_cons]) rfl trivial
       simp [hnx, Sl.le, A.le_refl_iff, A.le_u_iff, As.lo, A.lo, C.lo, Ref.lo, Cs.lo, Obs.lo, Ob.lo, setAll, and_true, true_and, List.length_nil, List.length_cons]
       try (refine A.le_int ?_; simp only [Ins.next, Ins.slot]; (repeat' split) <;> omega)
       done)

end Go.Proofs.YteighafofbohcaaGreat

/-
  Codes that are drawn.
  Conditions: none.
-/
open Go Go.AM Go.Proofs
namespace Go.Proofs.YteighafofbohcaaGreat
open Go.ChangeShapes Go.WideShapes Go.ChangeAt Go.RowKit
set_option linter.unusedVariables false
set_option linter.unusedSimpArgs false
set_option maxRecDepth 100000
-- 36 loop.example/prologserver/spec.l8Mutate params 2 ntmps 67
def ac36 : Cd := .seq (.region [⟨(some 4),.mv (.k (.c (.full []))),none⟩] [4])
 (.seq (.region [⟨(some 7),.buildSlice 4 0 [(.int .i64 0),(.int .i64 0),(.int .i64 0),(.str [])] [],none⟩,
 ⟨(some 8),.mv (.t 1),none⟩,
 ⟨(some 9),.appendF 4 (.t 7) (.t 8),none⟩,
 ⟨(some 5),.mv (.t 9),none⟩] [1,7,8,9])
 (.seq (.seq (.region [⟨(some 10),.mv (.t 5),none⟩,
 ⟨(some 11),.len 1 (.t 10),none⟩,
 ⟨(some 12),.bin .eql (.t 11) (.k (.c (.d (.int .i64 0)))),none⟩,
 ⟨(some 13),.mv (.t 12),none⟩,
 ⟨(some 14),.mv (.t 0),some (13,false)⟩,
 ⟨(some 15),.call false 42 [(.t 14),(.k (.c (.d (.int .i64 2))))],some (13,false)⟩,
 ⟨(some 16),.bin .eql (.t 15) (.k (.c (.d (.int .i64 0)))),some (13,false)⟩,
 ⟨(some 17),.pick (.t 13) (.k (.c (.d (.bool true)))) (.t 16),none⟩] [10,11,12,13,14,15,16])
 (.cond (.t 17)
 (.seq (.region [⟨(some 18),.mv (.t 5),none⟩,
 ⟨(some 4),.mv (.t 18),none⟩] [0,5,17,18])
 (.ret))
 (.skip)))
 (.seq (.region [⟨(some 19),.mv (.t 0),none⟩,
 ⟨(some 20),.mv (.t 5),none⟩,
 ⟨(some 21),.len 1 (.t 20),none⟩,
 ⟨(some 22),.call false 42 [(.t 19),(.t 21)],none⟩,
 ⟨(some 6),.mv (.t 22),none⟩] [4,17,19,20,21,22])
 (.seq (.seq (.region [⟨(some 23),.mv (.t 0),none⟩,
 ⟨(some 24),.call false 42 [(.t 23),(.k (.c (.d (.int .i64 8))))],none⟩] [23])
 (.block 0 (.seq (.region [⟨(some 26),.bin .eql (.t 24) (.k (.c (.d (.int .i64 0)))),none⟩,
 ⟨(some 25),.mv (.t 26),none⟩] [26])
 (.cond (.t 25)
 (.region [⟨(some 27),.mv (.t 5),none⟩,
 ⟨(some 28),.mv (.t 6),none⟩,
 ⟨(some 29),.mv (.t 0),none⟩,
 ⟨(some 30),.buildSlice 1 5 [(.int .i64 0)] [(0,(.k (.c (.d (.int .i64 0))))),(1,(.k (.c (.d (.int .i64 15))))),(2,(.k (.c (.d (.int .i64 1))))),(3,(.k (.c (.d (.int .i64 5))))),(4,(.k (.c (.d (.int .i64 8)))))],none⟩,
 ⟨(some 31),.call false 69 [(.t 29),(.t 30)],none⟩,
 ⟨(some 32),.indexAddr 4 (.t 27) (.t 28),none⟩,
 ⟨(some 33),.fieldAddr 0 (.t 32),none⟩,
 ⟨none,.store 1 (.t 33) (.t 31),none⟩] [0,6,24,25,27,28,29,30,31,32,33])
 (.seq (.region [⟨(some 35),.bin .eql (.t 24) (.k (.c (.d (.int .i64 1)))),none⟩,
 ⟨(some 34),.mv (.t 35),none⟩] [25,35])
 (.cond (.t 34)
 (.region [⟨(some 36),.mv (.t 5),none⟩,
 ⟨(some 37),.mv (.t 6),none⟩,
 ⟨(some 38),.mv (.t 0),none⟩,
 ⟨(some 39),.buildSlice 1 4 [(.int .i64 0)] [(0,(.k (.c (.d (.int .i64 0))))),(1,(.k (.c (.d (.int .i64 4))))),(2,(.k (.c (.d (.int .i64 (-1)))))),(3,(.k (.c (.d (.int .i64 1000)))))],none⟩,
 ⟨(some 40),.call false 69 [(.t 38),(.t 39)],none⟩,
 ⟨(some 41),.indexAddr 4 (.t 36) (.t 37),none⟩,
 ⟨(some 42),.fieldAddr 1 (.t 41),none⟩,
 ⟨none,.store 1 (.t 42) (.t 40),none⟩] [0,6,24,34,36,37,38,39,40,41,42])
 (.seq (.region [⟨(some 44),.bin .eql (.t 24) (.k (.c (.d (.int .i64 2)))),none⟩,
 ⟨(some 43),.mv (.t 44),none⟩] [34,44])
 (.cond (.t 43)
 (.region [⟨(some 45),.mv (.t 5),none⟩,
 ⟨(some 46),.mv (.t 6),none⟩,
 ⟨(some 47),.mv (.t 0),none⟩,
 ⟨(some 48),.buildSlice 1 4 [(.int .i64 0)] [(0,(.k (.c (.d (.int .i64 0))))),(1,(.k (.c (.d (.int .i64 5))))),(2,(.k (.c (.d (.int .i64 (-1)))))),(3,(.k (.c (.d (.int .i64 1000)))))],none⟩,
 ⟨(some 49),.call false 69 [(.t 47),(.t 48)],none⟩,
 ⟨(some 50),.indexAddr 4 (.t 45) (.t 46),none⟩,
 ⟨(some 51),.fieldAddr 2 (.t 50),none⟩,
 ⟨none,.store 1 (.t 51) (.t 49),none⟩] [0,6,24,43,45,46,47,48,49,50,51])
 (.seq (.region [⟨(some 53),.bin .eql (.t 24) (.k (.c (.d (.int .i64 3)))),none⟩,
 ⟨(some 52),.mv (.t 53),none⟩] [43,53])
 (.cond (.t 52)
 (.region [⟨(some 54),.mv (.t 5),none⟩,
 ⟨(some 55),.mv (.t 6),none⟩,
 ⟨(some 56),.mv (.t 0),none⟩,
 ⟨(some 57),.buildSlice 1 3 [(.str [])] [(0,(.k (.c (.d (.str []))))),(1,(.k (.c (.d (.str [102,111,111]))))),(2,(.k (.c (.d (.str [88])))))],none⟩,
 ⟨(some 58),.call false 46 [(.t 56),(.t 57)],none⟩,
 ⟨(some 59),.indexAddr 4 (.t 54) (.t 55),none⟩,
 ⟨(some 60),.fieldAddr 3 (.t 59),none⟩,
 ⟨none,.store 1 (.t 60) (.t 58),none⟩] [0,6,24,52,54,55,56,57,58,59,60])
 (.seq (.region [⟨(some 62),.bin .eql (.t 24) (.k (.c (.d (.int .i64 4)))),none⟩,
 ⟨(some 61),.mv (.t 62),none⟩] [0,24,52,62])
 (.cond (.t 61)
 (.weak (.region [⟨(some 63),.mv (.t 5),none⟩,
 ⟨(some 64),.mv (.t 6),none⟩,
 ⟨(some 65),.slice 4 (.t 63) none (some (.t 64)) none,none⟩,
 ⟨(some 5),.mv (.t 65),none⟩] [6,61,63,64,65]))
 (.skip)))))))))))))
 (.seq (.region [⟨(some 66),.mv (.t 5),none⟩,
 ⟨(some 4),.mv (.t 66),none⟩] [5,6,61,66])
 (.ret))))))
theorem ac36_ok : cFunc Tryz.prog [3000007,4000015] [(0,[4],[]),(1,[1,7,8,9],[]),(2,[10,11,12,13,14,15,16],[]),(3,[0,5,17,18],[]),(4,[4,17,19,20,21,22],[]),(5,[23],[]),(6,[26],[]),(7,[0,6,24,25,27,28,29,30,31,32,33],[]),(8,[25,35],[]),(9,[0,6,24,34,36,37,38,39,40,41,42],[]),(10,[34,44],[]),(11,[0,6,24,43,45,46,47,48,49,50,51],[]),(12,[43,53],[]),(13,[0,6,24,52,54,55,56,57,58,59,60],[]),(14,[0,24,52,62],[]),(15,[6,61,63,64,65],[]),(16,[5,6,61,66],[])] Tryz.f36 = some (ac36,[.tmp 4],67) := by kernel_rfl
-- 18 loop.example/prologserver/spec.DrawFormatCode params 1 ntmps 11
def ac18 : Cd := .seq (.region [⟨(some 2),.mv (.k (.c (.full []))),none⟩] [2])
 (.seq (.region [⟨(some 4),.mv (.t 0),none⟩,
 ⟨(some 5),.call false 21 [(.t 4)],none⟩,
 ⟨(some 3),.mv (.t 5),none⟩] [0,4,5])
 (.seq (.region [⟨(some 6),.mv (.t 3),none⟩,
 ⟨(some 7),.mv (.t 3),none⟩,
 ⟨(some 8),.call false 23 [(.t 7)],none⟩,
 ⟨(some 9),.qcall 17 [(.t 8)],none⟩,
 ⟨(some 10),.call false 36 [(.t 6),(.t 9)],none⟩,
 ⟨(some 2),.mv (.t 10),none⟩] [3,6,7,8,9,10])
 (.ret)))
theorem ac18_ok : cFunc Tryz.prog [1000017] [(0,[2],[]),(1,[0,4,5],[]),(2,[3,6,7,8,9,10],[])] Tryz.f18 = some (ac18,[.tmp 2],11) := by kernel_rfl
-- 9 loop.example/prologserver/spec.DrawCodeSlots params 1 ntmps 5
def ac9 : Cd := .seq (.region [⟨(some 2),.mv (.k (.c (.full []))),none⟩] [2])
 (.seq (.region [⟨(some 3),.mv (.t 0),none⟩,
 ⟨(some 4),.call false 18 [(.t 3)],none⟩,
 ⟨(some 2),.mv (.t 4),none⟩] [0,3,4])
 (.ret))
theorem ac9_ok : cFunc Tryz.prog [] [(0,[2],[]),(1,[0,3,4],[])] Tryz.f9 = some (ac9,[.tmp 2],5) := by kernel_rfl
def CodeR (r : A) : Prop := ∃ L : List Ins, r = .c (.d (.sl (L.map Ins.row))) ∧ L.length ≤ 1000000 ∧ ∀ x ∈ L, x.ab
theorem CodeR.re {n : Nat} {r : A} (h : CodeR r) : A.re n r = r := by
  obtain ⟨L, rfl, _⟩ := h
  rfl
theorem ins_len (x : Ins) : x.row.length = 4 := rfl
theorem ins_all (L : List Ins) : allLen 4 (L.map Ins.row) := allLen_map ins_len
theorem set_row {L : List Ins} {k : Nat} (x : Ins) : (L.map Ins.row).set k x.row = (L.set k x).map Ins.row := by rw [List.map_set]
theorem set_ok {L : List Ins} {k : Nat} {x : Ins} (hL : ∀ y ∈ L, y.ab) (hx : x.ab) : ∀ y ∈ L.set k x, y.ab := fun y hy => by
  rcases List.mem_or_eq_of_mem_set hy with h | rfl
  · exact hL y h
  · exact hx
theorem mut8_draws (L : List Ins) (hL : L.length ≤ 1000000) (hx : ∀ x ∈ L, x.ab) : Draws 36 [.c (.d (.sl (L.map Ins.row)))] 4 CodeR := fun c p H i hc hp hp1 hi => by
  refine acalls Tryz.func36 (by kernel_rfl) ac36_ok fun hf => ?_
  simp only [List.length_set] at hf
  have hf0 : ∀ q, Obs.fits H.length 0 (H.set i (Rd c q)) := fun q => fits_reset (b := Rd c q) hf ⟨trivial, trivial, trivial⟩
  have hLi : inR .i64 (L.length : Int) := small_i64 (by omega) (by omega)
  have hz : inR .i64 0 := small_i64 (by omega) (by omega)
  have done : ∀ (M : List Ins) (q : Int), p ≤ q → q ≤ p + 4 → M.length ≤ 1000000 → (∀ x ∈ M, x.ab) → ∀ r, r = .c (.d (.sl (M.map Ins.row))) → Drew CodeR 4 c p H i r (H.set i (Rd c q)) := fun M q a1 a2 a3 a4 r hr => ⟨⟨M, hr, a3, a4⟩, q, a1, a2, rfl⟩
  cases L with
  | nil =>
    simp -implicitDefEqProofs [ac36, hf0, hz, go_sem, -List.set_cons_succ, -List.set_cons_zero]
    exact done [] p (by omega) (by omega) (by simp) (by simp) _ rfl
  | cons x0 L0 =>
    have hLp : ¬ (x0 :: L0) = [] := by simp
    have hLq : 1 ≤ (x0 :: L0).length := by simp
    generalize x0 :: L0 = L at *
    have hal := ins_all L
    have hLz : ((L.length : Int) == 0) = false := by simp; omega
    have hLz2 : ¬ (L.length : Int) = 0 := by omega
    simp -implicitDefEqProofs [ac36, hf0, hal, hLi, hLp, hLz, hLz2, go_sem, -List.set_cons_succ, -List.set_cons_zero]
    refine ⟨by unfold maxApp; omega, ?_⟩
    refine call_drawE (pick_draws 2 (by omega)) hc (by omega) (by omega) hi (by simp [Ob.re, C.re]) (fun r => IntIn.re) (hf0 _) ?_
    rintro _ p1 ⟨b, rfl, b0, b1⟩ h1 h2
    simp -implicitDefEqProofs [hf0, hal, hLi, go_sem, -List.set_cons_succ, -List.set_cons_zero]
    refine ⟨fun hb => done L p1 (by omega) (by omega) hL hx _ rfl, fun hb => ?_⟩
    refine call_drawE (pick_draws L.length (by omega)) hc (by omega) (by omega) hi (by simp [Ob.re, C.re]) (fun r => IntIn.re) (hf0 _) ?_
    rintro _ p2 ⟨k, rfl, k0, k1⟩ h3 h4
    simp -implicitDefEqProofs [hf0, hal, hLi, go_sem, -List.set_cons_succ, -List.set_cons_zero]
    refine call_drawE (pick_draws 8 (by omega)) hc (by omega) (by omega) hi (by simp [Ob.re, C.re]) (fun r => IntIn.re) (hf0 _) ?_
    rintro _ p3 ⟨m, rfl, m0, m1⟩ h5 h6
    simp -implicitDefEqProofs [hf0, hal, hLi, go_sem, -List.set_cons_succ, -List.set_cons_zero]
    refine ⟨fun _ => ?_, fun _ => ⟨fun _ => ?_, fun _ => ⟨fun _ => ?_, fun _ => ⟨fun _ => ?_, fun _ => ⟨fun _ => ?_, fun _ => ?_⟩⟩⟩⟩⟩
    · refine call_drawE (num_draws [0, 15, 1, 5, 8] (by decide)) hc (by omega) (by omega) hi (by simp [Ob.re, C.re]) (fun r ⟨n, _, hn⟩ => by subst hn; rfl) (hf0 _) ?_
      rintro _ p4 ⟨x, hx2, rfl⟩ h7 h8
      have hx3 : -1000 ≤ x ∧ x ≤ 1000 := by simp at hx2; omega
      have hx4 : inR .i64 x := small_i64 (by omega) (by omega)
      obtain ⟨y, hye⟩ : ∃ y, L[k.toNat]? = some y := ⟨L[k.toNat]'(by omega), by simp⟩
      have hy : y.ab := hx y (List.mem_of_getElem? hye)
      simp -implicitDefEqProofs [hf0, hal, hye, Ins.row, go_sem, -List.set_cons_succ, -List.set_cons_zero]
      refine ⟨⟨k0, by omega⟩, ?_⟩
      exact done (L.set k.toNat ⟨x, y.a, y.b, y.text⟩) p4 (by omega) (by omega) (by simpa using hL) (set_ok hx hy) _ (by rw [← set_row]; rfl)
    · refine call_drawE (num_draws [0, 4, -1, 1000] (by decide)) hc (by omega) (by omega) hi (by simp [Ob.re, C.re]) (fun r ⟨n, _, hn⟩ => by subst hn; rfl) (hf0 _) ?_
      rintro _ p4 ⟨x, hx2, rfl⟩ h7 h8
      have hx3 : -1000 ≤ x ∧ x ≤ 1000 := by simp at hx2; omega
      have hx4 : inR .i64 x := small_i64 (by omega) (by omega)
      obtain ⟨y, hye⟩ : ∃ y, L[k.toNat]? = some y := ⟨L[k.toNat]'(by omega), by simp⟩
      have hy : y.ab := hx y (List.mem_of_getElem? hye)
      simp -implicitDefEqProofs [hf0, hal, hye, Ins.row, go_sem, -List.set_cons_succ, -List.set_cons_zero]
      refine ⟨⟨k0, by omega⟩, ?_⟩
      exact done (L.set k.toNat ⟨y.op, x, y.b, y.text⟩) p4 (by omega) (by omega) (by simpa using hL) (set_ok hx ⟨hx4, hy.2⟩) _ (by rw [← set_row]; rfl)
    · refine call_drawE (num_draws [0, 5, -1, 1000] (by decide)) hc (by omega) (by omega) hi (by simp [Ob.re, C.re]) (fun r ⟨n, _, hn⟩ => by subst hn; rfl) (hf0 _) ?_
      rintro _ p4 ⟨x, hx2, rfl⟩ h7 h8
      have hx3 : -1000 ≤ x ∧ x ≤ 1000 := by simp at hx2; omega
      have hx4 : inR .i64 x := small_i64 (by omega) (by omega)
      obtain ⟨y, hye⟩ : ∃ y, L[k.toNat]? = some y := ⟨L[k.toNat]'(by omega), by simp⟩
      have hy : y.ab := hx y (List.mem_of_getElem? hye)
      simp -implicitDefEqProofs [hf0, hal, hye, Ins.row, go_sem, -List.set_cons_succ, -List.set_cons_zero]
      refine ⟨⟨k0, by omega⟩, ?_⟩
      exact done (L.set k.toNat ⟨y.op, y.a, x, y.text⟩) p4 (by omega) (by omega) (by simpa using hL) (set_ok hx ⟨hy.1, hx4⟩) _ (by rw [← set_row]; rfl)
    · refine call_drawE (of_draws [[], [102, 111, 111], [88]] (by decide)) hc (by omega) (by omega) hi (by simp [Ob.re, C.re]) (fun r ⟨n, _, hn⟩ => by subst hn; rfl) (hf0 _) ?_
      rintro _ p4 ⟨x, hx2, rfl⟩ h7 h8
      have hx3 : x.length ≤ 3 := by simp at hx2; rcases hx2 with rfl | rfl | rfl <;> decide
      have hx4 : x.length ≤ reachBytes := by simp only [reachBytes]; omega
      obtain ⟨y, hye⟩ : ∃ y, L[k.toNat]? = some y := ⟨L[k.toNat]'(by omega), by simp⟩
      have hy : y.ab := hx y (List.mem_of_getElem? hye)
      simp -implicitDefEqProofs [hf0, hal, hye, Ins.row, go_sem, -List.set_cons_succ, -List.set_cons_zero]
      refine ⟨⟨k0, by omega⟩, ?_⟩
      exact done (L.set k.toNat ⟨y.op, y.a, y.b, x⟩) p4 (by omega) (by omega) (by simpa using hL) (set_ok hx hy) _ (by rw [← set_row]; rfl)
    · refine weak_le (St.le_thaw (loc := []) 5 rfl (by simp [Sl.le, A.le_refl_iff, A.le_u_iff, As.lo, A.lo, C.lo, Ref.lo, Cs.lo, Obs.lo, Ob.lo, setAll, and_true, true_and, List.length_nil, List.length_cons, hi]) trivial) ?_
      simp -implicitDefEqProofs [hal, hf0, go_sem, -List.set_cons_succ, -List.set_cons_zero]
      refine ⟨⟨k0, by omega⟩, ?_⟩
      exact done (L.take k.toNat) p3 (by omega) (by omega) (by simp; omega) (fun x h => hx x (List.mem_of_mem_take h)) _ (by simp)
    · exact done L p3 (by omega) (by omega) hL hx _ rfl
theorem code_slots {d : Cl} (hd : d.fits) (hv : d.validB = true) : ∃ L : List Ins, codeC d = L.map Ins.row ∧ ∀ x ∈ L, slotI x < 4 + sizes d.head.kids + sizes d.body ∧ x.ab := by
  obtain ⟨g1, g2, g3, g4⟩ := validB_head hv
  obtain ⟨h1, h2, h3⟩ := goalsB_iff g4
  have hk := good_kids (k := d.head.k) (n := d.head.n) (s := d.head.s) (l := d.head.kids) (by cases hc : d.head; rw [hc] at g1; exact g1)
  have hz : sizes d.head.kids ≤ 120 := by cases hc : d.head; rw [hc, Tm.size] at g2; show sizes _ ≤ _; simp only [Tm.kids]; omega
  have hg := goals_sizes d.body (goalsB_all g4).2
  obtain ⟨L, e1, e2⟩ := codeC_slots d hd hk.1
  exact ⟨L, e1, fun x h => ⟨(e2 x h).1, (e2 x h).2 (by omega)⟩⟩
theorem drawFc_calls (c : List UInt8) (hc : c.length ≤ 1048576) (H : Heap) : ACalls Tryz.prog 18 [.c (.d (.sl (bytesRows c)))] H (fun r H' => H' = H ∧ CodeR r) := by
  refine acalls Tryz.func18 (by kernel_rfl) ac18_ok fun hf => ?_
  simp -implicitDefEqProofs [ac18, go_sem, -List.set_cons_succ, -List.set_cons_zero]
  refine (open_calls c hc _).mono fun r H' ⟨h1, c', hc', h2⟩ => ⟨H, [Rd c' 0], .c (.ptr (.l 0) 0), by rw [h2]; simp [Rd, Ob.re, C.re], rfl, by simp, hf, by rw [h1]; simp [A.re, C.re, Ref.re], ?_⟩
  simp -implicitDefEqProofs [go_sem, -List.set_cons_succ, -List.set_cons_zero]
  refine call_drawL (j := 0) clause_draws hc' (by omega) (by omega) rfl (by simp [Rd, Ob.re, C.re]) (fun r => ClT.re) hf ?_
  rintro _ p1 ⟨d, rfl, hd, hdl, hv⟩ h3 h4
  obtain ⟨BB, hB, hfit⟩ := codeC_fit d hv
  obtain ⟨L, hL, hlt⟩ := code_slots hd hv
  have hok : ∀ x ∈ L, x.ab := fun x h => (hlt x h).2
  have hcl : (codeC d).length ≤ _ := hfit.code
  have hLl : L.length ≤ 1000000 := by rw [hL] at hcl; simp at hcl; omega
  have cc := l8Clause_calls d hd hv
  rw [hL] at cc
  simp -implicitDefEqProofs [pure_d, re_d, go_sem, -List.set_cons_succ, -List.set_cons_zero]
  refine qcall_pure cc hf rfl ?_
  simp -implicitDefEqProofs [go_sem, -List.set_cons_succ, -List.set_cons_zero]
  refine call_drawL (j := 0) (mut8_draws L hLl hok) hc' (by omega) (by omega) rfl (by simp [Rd, Ob.re, C.re]) (fun r => CodeR.re) hf ?_
  rintro _ p2 ⟨M, rfl, hM, hMo⟩ h5 h6
  simp -implicitDefEqProofs [hf, go_sem, -List.set_cons_succ, -List.set_cons_zero]
  exact ⟨M, rfl, hM, hMo⟩
theorem drawCs_calls (c : List UInt8) (hc : c.length ≤ 1048576) (H : Heap) : ACalls Tryz.prog 9 [.c (.d (.sl (bytesRows c)))] H (fun r H' => H' = H ∧ CodeR r) := by
  refine acalls Tryz.func9 (by kernel_rfl) ac9_ok fun hf => ?_
  simp -implicitDefEqProofs [ac9, go_sem, -List.set_cons_succ, -List.set_cons_zero]
  refine call_some (drawFc_calls c hc _) (by simp [Ob.re, C.re]) (fun r => CodeR.re) hf ?_
  rintro _ ⟨L, rfl, h1, h2⟩
  simp -implicitDefEqProofs [hf, go_sem, -List.set_cons_succ, -List.set_cons_zero]
  exact ⟨L, rfl, h1, h2⟩
end Go.Proofs.YteighafofbohcaaGreat

/-
  The nodes of a valid term are counted.
  Conditions: none.
-/
open Go Go.AM Go.Proofs
namespace Go.Proofs.YteighafofbohcaaGreat
open Go.ChangeShapes Go.WideShapes Go.ChangeAt Go.RowKit
set_option linter.unusedVariables false
set_option linter.unusedSimpArgs false
set_option maxRecDepth 100000
-- 12 loop.example/prologserver/impl.CountNodes params 1 ntmps 8
def ac12 : Cd := .seq (.region [⟨(some 1),.box (.t 0),none⟩,
 ⟨(some 2),.mv (.k (.c (.d (.int .i64 0)))),none⟩] [0,2])
 (.seq (.region [⟨(some 3),.alloc [(.d (.int .i64 0))],none⟩,
 ⟨none,.store 1 (.t 3) (.k (.c (.d (.int .i64 0)))),none⟩] [])
 (.seq (.seq (.region [⟨(some 4),.load (some 4) (.t 1),none⟩,
 ⟨(some 5),.call false 20 [(.t 4),(.k (.c (.d (.int .i64 1)))),(.t 3)],none⟩,
 ⟨(some 6),.un .not (.t 5),none⟩] [1,4,5])
 (.cond (.t 6)
 (.seq (.region [⟨(some 2),.mv (.k (.c (.d (.int .i64 0)))),none⟩] [3,6])
 (.ret))
 (.skip)))
 (.seq (.region [⟨(some 7),.load none (.t 3),none⟩,
 ⟨(some 2),.mv (.t 7),none⟩] [3,6,7])
 (.ret))))
theorem ac12_ok : cFunc Tryz.prog [] [(0,[0,2],[]),(1,[],[]),(2,[1,4,5],[]),(3,[3,6],[]),(4,[3,6,7],[])] Tryz.f12 = some (ac12,[.tmp 2],8) := by kernel_rfl
theorem cn_calls (t : Tm) (ht : t.fits) (hv : t.valid = true) (H : Heap) : ACalls Tryz.prog 12 [.agg (t.row.map .d)] H (fun r H' => H' = H ∧ r = .c (.d (.int .i64 (t.size : Nat)))) := by
  refine acalls Tryz.func12 (by kernel_rfl) ac12_ok fun hf => ?_
  simp -implicitDefEqProofs [ac12, hf, row_len, take_row, go_sem, -List.set_cons_succ, -List.set_cons_zero]
  have h := scan_calls t ht 1 0 (H ++ [Ob.cells (t.row.map C.d), Cn 0]) (H.length + 1) (by omega) (by omega) (by simp)
  have hset : ∀ c, (H ++ [Ob.cells (t.row.map C.d), Cn 0]).set (H.length + 1) (Cn c) = H ++ [Ob.cells (t.row.map C.d), Cn c] := fun c => by
    rw [List.set_append_right _ _ (by omega)]; simp
  rw [hset, scan_valid, hset] at h
  have hs := ((scan_spec t 1 0 (by omega)).1 (by rw [scan_valid]; exact hv)).1
  rw [Nat.zero_add] at hs
  rw [hs, hv] at h
  simp -implicitDefEqProofs [pure_d, re_d, Ref.re, go_sem, -List.set_cons_succ, -List.set_cons_zero]
  refine h.mono fun r H' ⟨h3, h4⟩ => ⟨H, [Ob.cells (t.row.map C.d), Cn t.size], .c (.d (.bool true)), ?_, rfl, Nat.le_refl _, hf, h3, ?_⟩
  · rw [h4]; simp [Cn, Ob.re, C.re, re_d]
  · simp -implicitDefEqProofs [Cn, go_sem, -List.set_cons_succ, -List.set_cons_zero]
end Go.Proofs.YteighafofbohcaaGreat
