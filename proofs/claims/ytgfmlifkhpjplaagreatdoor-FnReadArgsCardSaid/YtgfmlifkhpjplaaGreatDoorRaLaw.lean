/-
  The card FnReadArgs holds: a term that is read is read as an argument and as an element.
  Conditions: none.
-/
import Derived.Test.YtgfmlifkhpjplaaGreatDoorBundC
import Derived.Test.YtgfmlifkhpjplaaGreatDoorBundD
import Derived.Test.YtgfmlifkhpjplaaGreatDoorCards
import Derived.Test.YtgfmlifkhpjplaaGreatDoorTie
import Derived.ProofKit
import Derived.OpenShut
import Derived.Stop.Joined
import Derived.SevenTiedAt
open Go Go.AM Go.Proofs
attribute [local go_sem] kw ew sw tw a_ b_ c_ A.ok A.val d_ e_ f_ g_ h_ i_ j_ k_ l_ m_ unA unD n_ AOp.total o_ p_ q_ r_ s_ t_ u_ v_ A.thaw C.thaw A.fits As.fits C.fits evs oks w_ A.pure C.pure A.re C.re x_ y_ cut A.cells C.rows? z_ A_ B_ C_ a0_ b0_ D_ Ob.re Cs.fits E_ F_ G_ H_ I_ J_ K_ L_ M_ N_ O_ C.toD P_ Q_ R_ S_ T_ Obs.fits U_ eqD V_ W_ X_ Y_ Z_
open Go Go.AM Go.Proofs
namespace Go.Proofs.YtgfmlifkhpjplaaGreatDoor
open Go.ChangeShapes Go.WideShapes Go.ChangeAt Go.WideElems Go.RowKit
set_option linter.unusedVariables false
set_option linter.unusedSimpArgs false
set_option maxRecDepth 100000
-- 21 loop.example/prologserver/laws.pgDeep params 2 ntmps 23
-- loop head live: [1,2,5]
def ac21 : Cd := .seq (.region [⟨(some 2),.box (.t 0),none⟩,
 ⟨(some 4),.mv (.k (.c (.d (.bool false)))),none⟩] [0,4])
 (.seq (.seq (.region [⟨(some 6),.mv (.t 1),none⟩,
 ⟨(some 7),.bin .leq (.t 6) (.k (.c (.d (.int .i64 1)))),none⟩] [6])
 (.cond (.t 7)
 (.seq (.region [⟨(some 4),.mv (.k (.c (.d (.bool true)))),none⟩] [1,2,7])
 (.ret))
 (.skip)))
 (.seq (.seq (.region [⟨(some 5),.mv (.k (.c (.d (.int .i64 0)))),none⟩] [4,7])
 (.block 0 (.loop (.seq (.seq (.region [⟨(some 8),.mv (.t 5),none⟩,
 ⟨(some 9),.fieldAddr 3 (.t 2),none⟩,
 ⟨(some 10),.load none (.t 9),none⟩,
 ⟨(some 11),.len 1 (.t 10),none⟩,
 ⟨(some 12),.bin .lss (.t 8) (.t 11),none⟩] [8,9,10,11])
 (.cond (.t 12)
 (.skip)
 (.exit 0)))
 (.seq (.block 1 (.seq (.region [⟨(some 15),.fieldAddr 3 (.t 2),none⟩,
 ⟨(some 16),.load none (.t 15),none⟩,
 ⟨(some 17),.mv (.t 5),none⟩,
 ⟨(some 18),.indexAddr 4 (.t 16) (.t 17),none⟩,
 ⟨(some 19),.load (some 4) (.t 18),none⟩,
 ⟨(some 20),.mv (.t 1),none⟩,
 ⟨(some 21),.bin .sub (.t 20) (.k (.c (.d (.int .i64 1)))),none⟩,
 ⟨(some 22),.qcall 21 [(.t 19),(.t 21)],none⟩] [12,15,16,17,18,19,20,21])
 (.cond (.t 22)
 (.seq (.region [⟨(some 4),.mv (.k (.c (.d (.bool true)))),none⟩] [1,2,5,22])
 (.ret))
 (.skip))))
 (.region [⟨(some 13),.mv (.t 5),none⟩,
 ⟨(some 14),.bin .add (.t 13) (.k (.c (.d (.int .i64 1)))),none⟩,
 ⟨(some 5),.mv (.t 14),none⟩] [4,13,14,22]))))))
 (.seq (.region [⟨(some 4),.mv (.k (.c (.d (.bool false)))),none⟩] [])
 (.ret))))
theorem ac21_ok : cFunc Tryz.prog [1000021] [(0,[0,4],[]),(1,[6],[]),(2,[1,2,7],[]),(3,[4,7],[]),(4,[8,9,10,11],[]),(6,[12,15,16,17,18,19,20,21],[]),(7,[1,2,5,22],[]),(5,[4,13,14,22],[]),(8,[],[])] Tryz.f21 = some (ac21,[.tmp 4],23) := by kernel_rfl
-- 6 loop.example/prologserver/laws.FnReadArgs params 1 ntmps 101
def ac6 : Cd := .seq (.region [⟨(some 2),.mv (.k (.c (.d (.bool false)))),none⟩] [2])
 (.seq (.seq (.region [⟨(some 12),.mv (.t 0),none⟩,
 ⟨(some 13),.len 1 (.t 12),none⟩,
 ⟨(some 14),.bin .gtr (.t 13) (.k (.c (.d (.int .i64 1048576)))),none⟩] [12,13])
 (.cond (.t 14)
 (.seq (.region [⟨(some 2),.mv (.k (.c (.d (.bool true)))),none⟩] [0,14])
 (.ret))
 (.skip)))
 (.seq (.region [⟨(some 15),.mv (.t 0),none⟩,
 ⟨(some 16),.call false 19 [(.t 15)],none⟩,
 ⟨(some 3),.mv (.t 16),none⟩] [0,2,14,15,16])
 (.seq (.region [⟨(some 18),.mv (.t 3),none⟩,
 ⟨(some 19),.call false 10 [(.t 18)],none⟩,
 ⟨(some 17),.mv (.t 19),none⟩,
 ⟨(some 20),.extract 0 (.t 17),none⟩,
 ⟨(some 21),.extract 1 (.t 17),none⟩,
 ⟨(some 4),.alloc [(.d (.int .i64 0)),(.d (.int .i64 0)),(.d (.str [])),(.full [])],none⟩,
 ⟨none,.store 4 (.t 4) (.t 20),none⟩,
 ⟨(some 5),.mv (.t 21),none⟩] [17,18,19,20,21])
 (.seq (.region [⟨(some 23),.mv (.t 3),none⟩,
 ⟨(some 24),.qcall 9 [(.t 23)],none⟩,
 ⟨(some 22),.mv (.t 24),none⟩,
 ⟨(some 25),.extract 0 (.t 22),none⟩,
 ⟨(some 26),.extract 1 (.t 22),none⟩,
 ⟨(some 6),.alloc [(.d (.int .i64 0)),(.d (.int .i64 0)),(.d (.str [])),(.full [])],none⟩,
 ⟨none,.store 4 (.t 6) (.t 25),none⟩,
 ⟨(some 7),.mv (.t 26),none⟩] [22,23,24,25,26])
 (.seq (.seq (.region [⟨(some 27),.mv (.t 5),none⟩,
 ⟨(some 28),.mv (.t 7),none⟩,
 ⟨(some 29),.binB true (.t 27) (.t 28),none⟩,
 ⟨(some 30),.mv (.t 29),none⟩,
 ⟨(some 31),.load (some 4) (.t 4),some (30,false)⟩,
 ⟨(some 32),.load (some 4) (.t 6),some (30,false)⟩,
 ⟨(some 33),.qcall 18 [(.t 31),(.t 32)],some (30,false)⟩,
 ⟨(some 34),.un .not (.t 33),some (30,false)⟩,
 ⟨(some 35),.pick (.t 30) (.k (.c (.d (.bool true)))) (.t 34),none⟩,
 ⟨(some 36),.mv (.t 35),none⟩,
 ⟨(some 37),.mv (.t 5),some (36,false)⟩,
 ⟨(some 38),.un .not (.t 37),some (36,false)⟩,
 ⟨(some 39),.pick (.t 36) (.k (.c (.d (.bool true)))) (.t 38),none⟩,
 ⟨(some 40),.mv (.t 39),none⟩,
 ⟨(some 41),.mv (.t 3),some (40,false)⟩,
 ⟨(some 42),.len 0 (.t 41),some (40,false)⟩,
 ⟨(some 43),.bin .gtr (.t 42) (.k (.c (.d (.int .i64 900)))),some (40,false)⟩,
 ⟨(some 44),.pick (.t 40) (.k (.c (.d (.bool true)))) (.t 43),none⟩] [27,28,29,30,31,32,33,34,35,36,37,38,39,40,41,42,43])
 (.cond (.t 44)
 (.seq (.region [⟨(some 45),.mv (.t 5),none⟩,
 ⟨(some 46),.mv (.t 7),none⟩,
 ⟨(some 47),.binB false (.t 45) (.t 46),none⟩,
 ⟨(some 48),.mv (.t 47),none⟩,
 ⟨(some 49),.load (some 4) (.t 4),some (48,true)⟩,
 ⟨(some 50),.load (some 4) (.t 6),some (48,true)⟩,
 ⟨(some 51),.qcall 18 [(.t 49),(.t 50)],some (48,true)⟩,
 ⟨(some 52),.pick (.t 48) (.t 51) (.k (.c (.d (.bool false)))),none⟩,
 ⟨(some 2),.mv (.t 52),none⟩] [3,4,5,6,7,44,45,46,47,48,49,50,51,52])
 (.ret))
 (.skip)))
 (.seq (.region [⟨(some 54),.mv (.t 3),none⟩,
 ⟨(some 55),.bin .add (.k (.c (.d (.str [102,40])))) (.t 54),none⟩,
 ⟨(some 56),.bin .add (.t 55) (.k (.c (.d (.str [41])))),none⟩,
 ⟨(some 57),.call false 10 [(.t 56)],none⟩,
 ⟨(some 53),.mv (.t 57),none⟩,
 ⟨(some 58),.extract 0 (.t 53),none⟩,
 ⟨(some 59),.extract 1 (.t 53),none⟩,
 ⟨(some 8),.alloc [(.d (.int .i64 0)),(.d (.int .i64 0)),(.d (.str [])),(.full [])],none⟩,
 ⟨none,.store 4 (.t 8) (.t 58),none⟩,
 ⟨(some 9),.mv (.t 59),none⟩] [2,5,6,7,44,53,54,55,56,57,58,59])
 (.seq (.region [⟨(some 61),.mv (.t 3),none⟩,
 ⟨(some 62),.bin .add (.k (.c (.d (.str [91])))) (.t 61),none⟩,
 ⟨(some 63),.bin .add (.t 62) (.k (.c (.d (.str [93])))),none⟩,
 ⟨(some 64),.call false 10 [(.t 63)],none⟩,
 ⟨(some 60),.mv (.t 64),none⟩,
 ⟨(some 65),.extract 0 (.t 60),none⟩,
 ⟨(some 66),.extract 1 (.t 60),none⟩,
 ⟨(some 10),.alloc [(.d (.int .i64 0)),(.d (.int .i64 0)),(.d (.str [])),(.full [])],none⟩,
 ⟨none,.store 4 (.t 10) (.t 65),none⟩,
 ⟨(some 11),.mv (.t 66),none⟩] [3,60,61,62,63,64,65,66])
 (.seq (.region [⟨(some 67),.mv (.t 9),none⟩,
 ⟨(some 68),.un .not (.t 67),none⟩,
 ⟨(some 69),.mv (.t 68),none⟩,
 ⟨(some 70),.fieldAddr 3 (.t 8),some (69,false)⟩,
 ⟨(some 71),.load none (.t 70),some (69,false)⟩,
 ⟨(some 72),.indexAddr 4 (.t 71) (.k (.c (.d (.int .i64 0)))),some (69,false)⟩,
 ⟨(some 73),.load (some 4) (.t 72),some (69,false)⟩,
 ⟨(some 74),.load (some 4) (.t 4),some (69,false)⟩,
 ⟨(some 75),.qcall 18 [(.t 73),(.t 74)],some (69,false)⟩,
 ⟨(some 76),.pick (.t 69) (.k (.c (.d (.bool true)))) (.t 75),none⟩,
 ⟨(some 77),.mv (.t 76),none⟩,
 ⟨(some 78),.mv (.t 11),some (77,true)⟩,
 ⟨(some 79),.un .not (.t 78),some (77,true)⟩,
 ⟨(some 80),.mv (.t 79),some (77,true)⟩,
 ⟨(some 81),.fieldAddr 3 (.t 10),some (80,false)⟩,
 ⟨(some 82),.load none (.t 81),some (80,false)⟩,
 ⟨(some 83),.indexAddr 4 (.t 82) (.k (.c (.d (.int .i64 0)))),some (80,false)⟩,
 ⟨(some 84),.load (some 4) (.t 83),some (80,false)⟩,
 ⟨(some 85),.load (some 4) (.t 4),some (80,false)⟩,
 ⟨(some 86),.qcall 18 [(.t 84),(.t 85)],some (80,false)⟩,
 ⟨(some 87),.pick (.t 80) (.k (.c (.d (.bool true)))) (.t 86),some (77,true)⟩,
 ⟨(some 88),.pick (.t 77) (.t 87) (.k (.c (.d (.bool false)))),none⟩,
 ⟨(some 89),.mv (.t 88),none⟩,
 ⟨(some 90),.mv (.t 9),some (89,true)⟩,
 ⟨(some 91),.mv (.t 90),some (89,true)⟩,
 ⟨(some 92),.load (some 4) (.t 4),some (91,false)⟩,
 ⟨(some 93),.qcall 20 [(.t 92)],some (91,false)⟩,
 ⟨(some 94),.bin .eql (.t 93) (.k (.c (.d (.int .i64 120)))),some (91,false)⟩,
 ⟨(some 95),.pick (.t 91) (.k (.c (.d (.bool true)))) (.t 94),some (89,true)⟩,
 ⟨(some 96),.mv (.t 95),some (89,true)⟩,
 ⟨(some 97),.load (some 4) (.t 4),some (96,false)⟩,
 ⟨(some 98),.qcall 21 [(.t 97),(.k (.c (.d (.int .i64 30))))],some (96,false)⟩,
 ⟨(some 99),.pick (.t 96) (.k (.c (.d (.bool true)))) (.t 98),some (89,true)⟩,
 ⟨(some 100),.pick (.t 89) (.t 99) (.k (.c (.d (.bool false)))),none⟩,
 ⟨(some 2),.mv (.t 100),none⟩] [4,8,9,10,11,67,68,69,70,71,72,73,74,75,76,77,78,79,80,81,82,83,84,85,86,87,88,89,90,91,92,93,94,95,96,97,98,99,100])
 (.ret)))))))))
theorem ac6_ok : cFunc Tryz.prog [1000009,1000018,1000020,1000021] [(0,[2],[]),(1,[12,13],[]),(2,[0,14],[]),(3,[0,2,14,15,16],[]),(4,[17,18,19,20,21],[]),(5,[22,23,24,25,26],[]),(6,[27,28,29,30,31,32,33,34,35,36,37,38,39,40,41,42,43],[]),(7,[3,4,5,6,7,44,45,46,47,48,49,50,51,52],[]),(8,[2,5,6,7,44,53,54,55,56,57,58,59],[]),(9,[3,60,61,62,63,64,65,66],[]),(10,[4,8,9,10,11,67,68,69,70,71,72,73,74,75,76,77,78,79,80,81,82,83,84,85,86,87,88,89,90,91,92,93,94,95,96,97,98,99,100],[0,1,2,3,4,5,6,7,8,9,10,11,12,13,14,15,16,17,18,19,20,21,22,23,24,25,26,27,28,29,30,31,32,33,34])] Tryz.f6 = some (ac6,[.tmp 2],101) := by kernel_rfl
mutual
def deepB : Nat → Tm → Bool
  | d, .mk k n s l => decide (d ≤ 1) || deepL (d - 1) l
def deepL : Nat → List Tm → Bool
  | d, [] => false
  | d, t :: l => deepB d t || deepL d l
end
theorem deepL_any (d : Nat) : ∀ l : List Tm, deepL d l = l.any (deepB d)
  | [] => by simp [deepL]
  | t :: l => by simp [deepL, deepL_any d l]
theorem deep_of : ∀ t : Tm, t.good → ∀ d, t.shape (d - 1) = false → deepB d t = true := by
  refine Tm.ind fun k n s l ih hg d h => ?_
  rw [deepB, deepL_any]
  by_cases hd : d ≤ 1
  · simp [hd]
  · cases hg with
    | mk ho hk =>
      have hno : ¬ ∀ t ∈ l, t.shape (d - 1 - 1) = true := fun hall => by
        have := shp_spec.2 ⟨by omega, ho, hall⟩
        rw [this] at h
        cases h
      have hex : ∃ t ∈ l, t.shape (d - 1 - 1) = false := by
        refine Classical.byContradiction fun hne => hno fun t ht => ?_
        cases hs : t.shape (d - 1 - 1) with
        | true => rfl
        | false => exact absurd ⟨t, ht, hs⟩ hne
      obtain ⟨t, ht, hs⟩ := hex
      rw [Bool.or_eq_true]
      exact .inr (List.any_eq_true.2 ⟨t, ht, ih t ht (hk t ht) (d - 1) hs⟩)
theorem deep_calls : ∀ t : Tm, t.fits → ∀ d : Nat, d ≤ 1000 → ∀ H : Heap, ACalls Tryz.prog 21 [.agg (t.row.map .d), .c (.d (.int .i64 d))] H (fun r H' => H' = H ∧ r = .c (.d (.bool (deepB d t)))) := by
  refine Tm.ind fun k n s l ih ht d hd H => ?_
  obtain ⟨hk, hn, hs, hl, hkids⟩ := ht
  refine acalls Tryz.func21 (by kernel_rfl) ac21_ok fun hf => ?_
  have hli : inR .i64 (l.length : Int) := small_i64 (by omega) (by omega)
  rw [row_mk, deepB, deepL_any]
  by_cases hd1 : d ≤ 1
  · have hd1' : (d : Int) ≤ 1 := by omega
    simp -implicitDefEqProofs [ac21, hd1, hd1', hf, go_sem, -List.set_cons_succ, -List.set_cons_zero]
  · have hd1' : ¬ (d : Int) ≤ 1 := by omega
    have hsub : inR .i64 ((d : Int) - 1) := small_i64 (by omega) (by omega)
    have esub : (d : Int) - 1 = ((d - 1 : Nat) : Int) := by omega
    simp -implicitDefEqProofs [ac21, hd1, hd1', hf, go_sem, -List.set_cons_succ, -List.set_cons_zero]
    refine loop_set (σ := Nat) (fun i => [(5, .c (.d (.int .i64 i)))]) (fun _ => H) (fun _ => [.cells [.d (.int .i64 k), .d (.int .i64 n), .d (.str s), .d (.sl (l.map Tm.row))]]) (fun i => i ≤ l.length ∧ ∀ x ∈ l.take i, deepB (d - 1) x = false) (fun i => l.length - i) 0 (by simp [setAll]) ⟨Nat.zero_le _, by simp⟩ ?_
    rintro i ⟨hi, hany⟩
    simp -implicitDefEqProofs [setAll, hli, go_sem, -List.set_cons_succ, -List.set_cons_zero]
    refine ⟨fun hlt => ?_, fun hge => ?_⟩
    · have hadd : inR .i64 ((i : Int) + 1) := small_i64 (by omega) (by omega)
      have ihi := ih l[i] (List.getElem_mem hlt) (hkids _ (List.getElem_mem hlt)) (d - 1) (by omega)
      rw [← esub] at ihi
      refine row_of hlt (row_len _) ?_
      simp -implicitDefEqProofs [hsub, row_len, take_row, pure_d, re_d, hf, go_sem, -List.set_cons_succ, -List.set_cons_zero]
      refine qcall_pure ihi hf rfl ?_
      cases hq : deepB (d - 1) l[i] with
      | true =>
        have : l.any (deepB (d - 1)) = true := List.any_eq_true.2 ⟨l[i], List.getElem_mem hlt, hq⟩
        simp -implicitDefEqProofs [this, hf, go_sem, -List.set_cons_succ, -List.set_cons_zero]
      | false =>
        simp -implicitDefEqProofs [hadd, hf, go_sem, -List.set_cons_succ, -List.set_cons_zero]
        exact loop_back (i + 1) (by simp [setAll]) ⟨hlt, fun x hx => by
          rw [List.take_succ_eq_append_getElem hlt] at hx
          rcases List.mem_append.1 hx with hx | hx
          · exact hany x hx
          · rw [List.mem_singleton.1 hx]; exact hq⟩ (by show l.length - (i + 1) < l.length - i; omega)
    · have hil : i = l.length := by omega
      subst hil
      rw [List.take_length] at hany
      have hnone : l.any (deepB (d - 1)) = false := List.any_eq_false.2 fun x hx => by rw [hany x hx]; decide
      first
        | exact hany
        | (simp -implicitDefEqProofs [hnone, hf, go_sem, -List.set_cons_succ, -List.set_cons_zero]; done)
        | (simp -implicitDefEqProofs [hf, go_sem, -List.set_cons_succ, -List.set_cons_zero]; exact hany)
theorem zeroT_fits : zeroT.fits := .mk (by decide) (by decide) (by simp) (by simp) (by simp)
theorem raLaw_calls (c : List UInt8) (hc : c.length ≤ reachBytes) (H : Heap) (hp : Hp H) : ACalls Tryz.prog 6 [.c (.d (.sl (bytesRows c)))] H (fun r H' => H' = H ∧ r = .c (.d (.bool true))) := by
  refine acalls Tryz.func6 (by kernel_rfl) ac6_ok fun hf => ?_
  have hli := reach_i64 hc
  simp -implicitDefEqProofs [ac6, hli, bytesRows_len, hf, go_sem, -List.set_cons_succ, -List.set_cons_zero]
  refine fun hle => ?_
  refine call_rel (drawRt_calls c (by omega) _) hf (by simp) ?_
  rintro _ ⟨s, rfl, hsl⟩
  refine ⟨by simp [A.re, C.re], ?_⟩
  have hsi : inR .i64 (s.length : Int) := small_i64 (by omega) (by omega)
  simp -implicitDefEqProofs [hf, go_sem, -List.set_cons_succ, -List.set_cons_zero]
  refine call_same (readTermI_calls s (by omega) _ hp) (by simp) (okA_re _ _) hf ?_
  have cs := readTermS_calls s (by omega)
  cases ho : okR s with
  | none =>
    rw [ho] at cs
    have sm := sameImpl_calls zeroT zeroT_fits zeroT zeroT_fits
    simp -implicitDefEqProofs [okA, row_len, take_row, pure_d, re_d, hf, go_sem, -List.set_cons_succ, -List.set_cons_zero]
    refine qcall_pure cs hf (okA_re _ _) ?_
    simp -implicitDefEqProofs [okA, row_len, take_row, pure_d, re_d, hf, go_sem, -List.set_cons_succ, -List.set_cons_zero]
    refine qcall_pure sm hf rfl ?_
    simp -implicitDefEqProofs [hsi, row_len, take_row, pure_d, re_d, hf, go_sem, -List.set_cons_succ, -List.set_cons_zero]
    refine qcall_pure sm hf rfl ?_
    simp -implicitDefEqProofs [row_len, take_row, pure_d, re_d, hf, go_sem, -List.set_cons_succ, -List.set_cons_zero]
  | some t =>
    have hft := (okR_ok ho).2.2.2
    rw [ho] at cs
    have sm := sameImpl_calls t hft t hft
    simp -implicitDefEqProofs [okA, row_len, take_row, pure_d, re_d, hf, go_sem, -List.set_cons_succ, -List.set_cons_zero]
    refine qcall_pure cs hf (okA_re _ _) ?_
    simp -implicitDefEqProofs [okA, row_len, take_row, pure_d, re_d, hf, go_sem, -List.set_cons_succ, -List.set_cons_zero]
    refine qcall_pure sm hf rfl ?_
    simp -implicitDefEqProofs [hsi, row_len, take_row, pure_d, re_d, hf, go_sem, -List.set_cons_succ, -List.set_cons_zero]
    have hl9 : s.length ≤ 900 → True := fun _ => trivial
    refine ⟨fun _ => ?_, fun hl => ⟨by unfold maxStr; omega, by unfold maxStr; omega, ?_⟩⟩
    · refine qcall_pure sm hf rfl ?_
      simp -implicitDefEqProofs [row_len, take_row, pure_d, re_d, hf, go_sem, -List.set_cons_succ, -List.set_cons_zero]
    · have hlN : s.length ≤ 900 := by omega
      have ca := readTermI_calls (102 :: 40 :: (s ++ [41])) (by simp; omega)
      have ce := readTermI_calls (91 :: (s ++ [93])) (by simp; omega)
      refine call_same (ca _ (hp_append hp _)) (by simp [Ob.re, C.re]) (okA_re _ _) hf ?_
      cases hoa : okR (102 :: 40 :: (s ++ [41])) with
      | some a =>
        have hae := arg_tells ho hlN hoa
        subst hae
        simp -implicitDefEqProofs [okA, row_len, take_row, pure_d, re_d, hf, go_sem, -List.set_cons_succ, -List.set_cons_zero]
        refine ⟨by unfold maxStr; omega, by unfold maxStr; omega, ?_⟩
        refine call_same (ce _ (hp_append hp _)) (by simp [Ob.re, C.re]) (okA_re _ _) hf ?_
        cases hoe : okR (91 :: (s ++ [93])) with
        | some b =>
          have hbe := elem_tells ho hlN hoe
          subst hbe
          simp -implicitDefEqProofs [okA, row_mk, row_len, take_row, pure_d, re_d, hf, go_sem, -List.set_cons_succ, -List.set_cons_zero]
          refine row_int t.row (by omega) (by simp) (row_len _) ?_
          simp -implicitDefEqProofs [row_len, take_row, pure_d, re_d, hf, go_sem, -List.set_cons_succ, -List.set_cons_zero]
          refine qcall_pure sm hf rfl ?_
          simp -implicitDefEqProofs [row_len, take_row, pure_d, re_d, hf, go_sem, -List.set_cons_succ, -List.set_cons_zero]
          refine row_int t.row (by omega) (by simp) (row_len _) ?_
          simp -implicitDefEqProofs [row_len, take_row, pure_d, re_d, hf, go_sem, -List.set_cons_succ, -List.set_cons_zero]
          refine qcall_pure sm hf rfl ?_
          simp -implicitDefEqProofs [row_len, take_row, pure_d, re_d, hf, go_sem, -List.set_cons_succ, -List.set_cons_zero]
        | none =>
          simp -implicitDefEqProofs [okA, zeroT, row_mk, row_len, take_row, pure_d, re_d, hf, go_sem, -List.set_cons_succ, -List.set_cons_zero]
          refine row_int t.row (by omega) (by simp) (row_len _) ?_
          simp -implicitDefEqProofs [row_len, take_row, pure_d, re_d, hf, go_sem, -List.set_cons_succ, -List.set_cons_zero]
          refine qcall_pure sm hf rfl ?_
          simp -implicitDefEqProofs [row_len, take_row, pure_d, re_d, hf, go_sem, -List.set_cons_succ, -List.set_cons_zero]
          refine row_off zeroT.row ?_
          simp -implicitDefEqProofs [zeroT, row_mk, row_len, take_row, pure_d, re_d, hf, go_sem, -List.set_cons_succ, -List.set_cons_zero]
      | none =>
        simp -implicitDefEqProofs [okA, zeroT, row_len, take_row, pure_d, re_d, hf, go_sem, -List.set_cons_succ, -List.set_cons_zero]
        have hval := (okR_ok ho).2.2.1
        have hcn := cn_calls t hft hval
        have hsz : t.size ≤ 120 := by
          unfold Tm.valid at hval
          rw [Bool.and_eq_true] at hval
          exact of_decide_eq_true hval.2
        have hdp := deep_calls t hft 30 (by omega)
        have hdeep : t.size = 120 ∨ deepB 30 t = true := by
          unfold Tm.valid at hval
          rw [Bool.and_eq_true] at hval
          have hz := of_decide_eq_true hval.2
          cases h29 : t.shape 29 with
          | false => exact .inr (deep_of t (shape_good t 30 hval.1) 30 h29)
          | true =>
            by_cases hz9 : t.size ≤ 119
            · have := arg_read ho hlN h29 hz9
              rw [hoa] at this
              cases this
            · exact .inl (by omega)
        refine ⟨by unfold maxStr; omega, by unfold maxStr; omega, ?_⟩
        refine call_same (ce _ (hp_append hp _)) (by simp [Ob.re, C.re]) (okA_re _ _) hf ?_
        cases hoe : okR (91 :: (s ++ [93])) with
        | some b =>
          have hbe := elem_tells ho hlN hoe
          subst hbe
          simp -implicitDefEqProofs [okA, row_mk, row_len, take_row, pure_d, re_d, hf, go_sem, -List.set_cons_succ, -List.set_cons_zero]
          refine row_off zeroT.row ?_
          simp -implicitDefEqProofs [zeroT, row_mk, row_len, take_row, pure_d, re_d, hf, go_sem, -List.set_cons_succ, -List.set_cons_zero]
          refine row_int t.row (by omega) (by simp) (row_len _) ?_
          simp -implicitDefEqProofs [row_len, take_row, pure_d, re_d, hf, go_sem, -List.set_cons_succ, -List.set_cons_zero]
          refine qcall_pure sm hf rfl ?_
          simp -implicitDefEqProofs [row_len, take_row, pure_d, re_d, hf, go_sem, -List.set_cons_succ, -List.set_cons_zero]
          refine qcall_pure hcn hf rfl ?_
          have hti : inR .i64 (t.size : Int) := small_i64 (by omega) (by omega)
          by_cases h120 : t.size = 120
          · simp -implicitDefEqProofs [h120, row_len, take_row, pure_d, re_d, hf, go_sem, -List.set_cons_succ, -List.set_cons_zero]
          · have hdd := hdeep.resolve_left h120
            have h120' : ¬ (t.size : Int) = 120 := by omega
            rw [hdd] at hdp
            simp -implicitDefEqProofs [h120', row_len, take_row, pure_d, re_d, hf, go_sem, -List.set_cons_succ, -List.set_cons_zero]
            refine qcall_pure hdp hf rfl ?_
            simp -implicitDefEqProofs [row_len, take_row, pure_d, re_d, hf, go_sem, -List.set_cons_succ, -List.set_cons_zero]
        | none =>
          simp -implicitDefEqProofs [okA, zeroT, row_mk, row_len, take_row, pure_d, re_d, hf, go_sem, -List.set_cons_succ, -List.set_cons_zero]
          refine row_off zeroT.row ?_
          simp -implicitDefEqProofs [zeroT, row_mk, row_len, take_row, pure_d, re_d, hf, go_sem, -List.set_cons_succ, -List.set_cons_zero]
          refine row_off zeroT.row ?_
          simp -implicitDefEqProofs [zeroT, row_mk, row_len, take_row, pure_d, re_d, hf, go_sem, -List.set_cons_succ, -List.set_cons_zero]
          refine qcall_pure hcn hf rfl ?_
          have hti : inR .i64 (t.size : Int) := small_i64 (by omega) (by omega)
          by_cases h120 : t.size = 120
          · simp -implicitDefEqProofs [h120, row_len, take_row, pure_d, re_d, hf, go_sem, -List.set_cons_succ, -List.set_cons_zero]
          · have hdd := hdeep.resolve_left h120
            have h120' : ¬ (t.size : Int) = 120 := by omega
            rw [hdd] at hdp
            simp -implicitDefEqProofs [h120', row_len, take_row, pure_d, re_d, hf, go_sem, -List.set_cons_succ, -List.set_cons_zero]
            refine qcall_pure hdp hf rfl ?_
            simp -implicitDefEqProofs [row_len, take_row, pure_d, re_d, hf, go_sem, -List.set_cons_succ, -List.set_cons_zero]
theorem law_run6 {gs : List (Nat × Obj)} (hT : Lib2 gs) (rows : List (List D)) (hr : HasTys Tryz.prog (#[30] : Array TypeId).toList rows) : ACalls Tryz.prog 6 (argsA Tryz.prog (#[30] : Array TypeId).toList rows) (tabsH gs) (fun r H' => H' = tabsH gs ∧ r = .c (.d (.bool true))) := by
  obtain ⟨r, rs, rfl, h1, h2⟩ := hr.cons
  obtain rfl := h2.nil
  obtain ⟨s, rfl, hs⟩ := bytes_ty h1
  simp only [argsA, argA, Tryz.underlying30, List.headD_cons]
  obtain ⟨o, o2, rfl, q1, q2⟩ := hT
  exact raLaw_calls s hs _ ⟨o, o2, rfl, rfl, q1, q2⟩
namespace fnReadArgs
theorem own : ownKnob Tryz.prog.godebug = none := by kernel_rfl
theorem door_met (os : Os) (args : Array Value) : laidMetH Tryz.prog laid ((World.doorLaid Tryz.prog 400 os).forCall (fun _ _ => 0) ⟨#[], args, []⟩).memory :=
  laidMetH_of_parts3 (fuel := 8) (laidMet_of_run' 8 (by kernel_rfl) (by kernel_rfl)) (by kernel_rfl) (by kernel_rfl)
theorem contract (H : Type) (enc : TypeId × Value → H) (W : World) (base : Nat) (args : Array Value) (ds gs : List (DataW H)) (before : List MemPlace) (hL : laidMetH Tryz.prog laid W)
    (hval : ∀ (j : Nat) t v, Tryz.f6.params[j]? = some t → args[j]? = some v → Value.okWide Tryz.prog W .any base t v)
    (hW : DataW.Whole enc Tryz.prog Tryz.f6.params.toList Rows.fnReadArgsSpec.vars false W args.toList ds gs before)
    (hw : (DataW.weightsEach Tryz.prog (Tryz.f6.params.toList ++ Rows.fnReadArgsSpec.plain.varTypes Tryz.prog) (ds ++ gs)).all (· ≤ reachBytes) = true) :
    Calls Tryz.prog 6 args W fun e W' => ∃ v, e = .returned v ∧ Rows.fnReadArgsSpec.post enc Tryz.prog Tryz.f6 false true false false W args v W' := by
  refine law_contract_tabs (T := Lib2) (L := [5, 30]) (tb := 4) (by kernel_rfl) (by kernel_rfl) (by kernel_rfl) rfl ?_ (by kernel_rfl) Tryz.underlying4 ?_ W base args ds gs before (lib_laid hL) hval hW hw
  · intro ds hl
    match ds, hl with
    | [d0], _ => rfl
  · intro gs hT rows hr
    rw [Tryz.params6] at hr ⊢
    exact law_run6 hT rows hr

theorem lifted (os : Os) (started : os.Started) (H : Type) (enc : TypeId × Value → H) :
    ReturnsInHanded {} Tryz.checked os 6 .any (fun w args => (Rows.fnReadArgsSpec.pre enc Tryz.prog Tryz.f6 [] false w args ∧ laidMetH Tryz.prog laid w) ∧ sizedMet enc Tryz.prog Tryz.f6 (OpenSpec.ofChange Rows.fnReadArgsSpec) false w args)
      (Rows.fnReadArgsSpec.post enc Tryz.prog Tryz.f6 false true false false) := by
  refine returnsInHanded_of_change_and (C := Tryz.checked) (X := fun w _ => laidMetH Tryz.prog laid w) (fun _ _ _ hh h => h.of_heap hh) own started (by kernel_rfl) Tryz.func6
    (ChangeSpec.witness_shaped (enc := enc) (C := Tryz.checked) (os := os) (X := fun w _ => laidMetH Tryz.prog laid w) false (World.doorLaid Tryz.prog 400 os) #[.slice none 0 0] 8 rfl (World.shaped_of_RefB (by kernel_rfl) (by kernel_rfl)) (by kernel_rfl) (by kernel_rfl) (by kernel_rfl) (door_met os _)) ?_
  intro W base args ds gs before hval hW _ hw hL _
  exact contract H enc W base args ds gs before hL hval hW hw

theorem said : Rows.FnReadArgsSaid :=
  OpenClaim.holds_of_wide 6 Tryz.f6 rfl rfl rfl rfl rfl rfl rfl ⟨rfl, rfl, rfl, rfl, rfl⟩ rfl rfl rfl rfl rfl (by kernel_rfl) Tryz.func6 (by kernel_rfl)
    (of_decide_eq_true (by kernel_rfl)) (by unfold Func.isWrapper; first | (rw [if_pos (by decide +kernel)]; kernel_rfl) | (rw [if_neg (by decide +kernel)]; exact ⟨rfl, rfl⟩))
    (fun os started H enc _ => lifted os started H enc)

theorem proved : Rows.FnReadArgsCardSaid :=
  Claim7.holds_tied_plain_at .later [] [.data, .data, .data, .sentinel, .sentinel] true Rows.fnReadArgsCard.stood.harness true
    said (fun _ h => by cases h) (by kernel_rfl) (fun _ h => by cases h) fnReadArgs_row_tie rfl ⟨rfl, rfl⟩ (by kernel_rfl) rfl
    (fun f fn hf hfn => by
      obtain rfl : f = 6 := Option.some.inj ((show Tryz.prog.funcNamed Rows.fnReadArgsRow.func = some 6 by kernel_rfl).symm.trans hf) |>.symm
      obtain rfl : fn = Tryz.f6 := (Option.some.inj (Tryz.func6.symm.trans hfn)).symm
      exact ⟨by kernel_rfl, fun j t ht => by
        rw [Tryz.params6] at ht
        have hall : (Tryz.f6.params.toList.all fun u => !Tryz.prog.wantsStandIn u) = true := by kernel_rfl
        have hm : t ∈ Tryz.f6.params.toList := by
          rw [Tryz.params6]
          simpa using Array.mem_of_getElem? ht
        exact (show Tryz.prog.wantsStandIn t = false by simpa using List.all_eq_true.1 hall t hm)⟩)
    (by kernel_rfl)
end fnReadArgs

end Go.Proofs.YtgfmlifkhpjplaaGreatDoor
