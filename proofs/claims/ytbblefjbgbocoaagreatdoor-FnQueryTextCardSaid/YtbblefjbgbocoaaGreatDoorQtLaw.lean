/-
  The card FnQueryText holds: queries are read, and have variables.
  Conditions: none.
-/
import Derived.Test.YtbblefjbgbocoaaGreatDoorBundC
import Derived.Test.YtbblefjbgbocoaaGreatDoorBundD
import Derived.Test.YtbblefjbgbocoaaGreatDoorCards
import Derived.Test.YtbblefjbgbocoaaGreatDoorTie
import Derived.ProofKit
import Derived.OpenShut
import Derived.Stop.Joined
import Derived.SevenTiedAt
open Go Go.AM Go.Proofs
attribute [local go_sem] kw ew sw tw a_ b_ c_ A.ok A.val d_ e_ f_ g_ h_ i_ j_ k_ l_ m_ unA unD n_ AOp.total o_ p_ q_ r_ s_ t_ u_ v_ A.thaw C.thaw A.fits As.fits C.fits evs oks w_ A.pure C.pure A.re C.re x_ y_ cut A.cells C.rows? z_ A_ B_ C_ a0_ b0_ D_ Ob.re Cs.fits E_ F_ G_ H_ I_ J_ K_ L_ M_ N_ O_ C.toD P_ Q_ R_ S_ T_ Obs.fits U_ eqD V_ W_ X_ Y_ Z_
open Go Go.AM Go.Proofs
namespace Go.Proofs.YtbblefjbgbocoaaGreatDoor
open Go.ChangeShapes Go.WideShapes Go.ChangeAt Go.WideElems Go.RowKit
set_option linter.unusedVariables false
set_option linter.unusedSimpArgs false
set_option maxRecDepth 100000
-- 5 loop.example/prologserver/laws.FnQueryText params 2 ntmps 101
-- loop head live: [6,7,10,11,12]
-- loop head live: [6,7,10,11,12,13,14]
def ac5 : Cd := .seq (.region [⟨(some 4),.mv (.k (.c (.d (.bool false)))),none⟩] [4])
 (.seq (.seq (.region [⟨(some 15),.mv (.t 0),none⟩,
 ⟨(some 16),.len 1 (.t 15),none⟩,
 ⟨(some 17),.bin .gtr (.t 16) (.k (.c (.d (.int .i64 1048576)))),none⟩,
 ⟨(some 18),.mv (.t 17),none⟩,
 ⟨(some 19),.mv (.t 1),some (18,false)⟩,
 ⟨(some 20),.len 1 (.t 19),some (18,false)⟩,
 ⟨(some 21),.bin .gtr (.t 20) (.k (.c (.d (.int .i64 1048576)))),some (18,false)⟩,
 ⟨(some 22),.pick (.t 18) (.k (.c (.d (.bool true)))) (.t 21),none⟩] [15,16,17,18,19,20,21])
 (.cond (.t 22)
 (.seq (.region [⟨(some 4),.mv (.k (.c (.d (.bool true)))),none⟩] [0,1,22])
 (.ret))
 (.skip)))
 (.seq (.region [⟨(some 23),.mv (.t 0),none⟩,
 ⟨(some 24),.call false 19 [(.t 23)],none⟩,
 ⟨(some 5),.mv (.t 24),none⟩] [0,4,22,23,24])
 (.seq (.region [⟨(some 26),.mv (.t 5),none⟩,
 ⟨(some 27),.call false 15 [(.t 26)],none⟩,
 ⟨(some 25),.mv (.t 27),none⟩,
 ⟨(some 28),.extract 0 (.t 25),none⟩,
 ⟨(some 29),.extract 1 (.t 25),none⟩,
 ⟨(some 6),.mv (.t 28),none⟩,
 ⟨(some 7),.mv (.t 29),none⟩] [25,26,27,28,29])
 (.seq (.region [⟨(some 31),.mv (.t 5),none⟩,
 ⟨(some 32),.qcall 14 [(.t 31)],none⟩,
 ⟨(some 30),.mv (.t 32),none⟩,
 ⟨(some 33),.extract 0 (.t 30),none⟩,
 ⟨(some 34),.extract 1 (.t 30),none⟩,
 ⟨(some 8),.mv (.t 33),none⟩,
 ⟨(some 9),.mv (.t 34),none⟩] [5,30,31,32,33,34])
 (.seq (.region [⟨(some 35),.mv (.t 1),none⟩,
 ⟨(some 36),.call false 20 [(.t 35)],none⟩,
 ⟨(some 10),.mv (.t 36),none⟩] [1,35,36])
 (.seq (.region [⟨(some 37),.mv (.t 10),none⟩,
 ⟨(some 38),.qcall 21 [(.t 37)],none⟩,
 ⟨(some 11),.mv (.t 38),none⟩] [37,38])
 (.seq (.seq (.region [⟨(some 39),.mv (.t 7),none⟩,
 ⟨(some 40),.mv (.t 9),none⟩,
 ⟨(some 41),.binB true (.t 39) (.t 40),none⟩,
 ⟨(some 42),.mv (.t 41),none⟩,
 ⟨(some 43),.mv (.t 6),some (42,false)⟩,
 ⟨(some 44),.mv (.t 8),some (42,false)⟩,
 ⟨(some 45),.qcall 22 [(.t 43),(.t 44)],some (42,false)⟩,
 ⟨(some 46),.un .not (.t 45),some (42,false)⟩,
 ⟨(some 47),.pick (.t 42) (.k (.c (.d (.bool true)))) (.t 46),none⟩,
 ⟨(some 48),.mv (.t 47),none⟩,
 ⟨(some 49),.mv (.t 11),some (48,false)⟩,
 ⟨(some 50),.mv (.t 10),some (48,false)⟩,
 ⟨(some 51),.qcall 24 [(.t 50)],some (48,false)⟩,
 ⟨(some 52),.qcall 23 [(.t 49),(.t 51)],some (48,false)⟩,
 ⟨(some 53),.un .not (.t 52),some (48,false)⟩,
 ⟨(some 54),.pick (.t 48) (.k (.c (.d (.bool true)))) (.t 53),none⟩,
 ⟨(some 55),.mv (.t 54),none⟩,
 ⟨(some 56),.mv (.t 10),some (55,false)⟩,
 ⟨(some 57),.qcall 25 [(.t 56)],some (55,false)⟩,
 ⟨(some 58),.mv (.t 10),some (55,false)⟩,
 ⟨(some 59),.qcall 26 [(.t 58)],some (55,false)⟩,
 ⟨(some 60),.binB true (.t 57) (.t 59),some (55,false)⟩,
 ⟨(some 61),.pick (.t 55) (.k (.c (.d (.bool true)))) (.t 60),none⟩] [8,9,39,40,41,42,43,44,45,46,47,48,49,50,51,52,53,54,55,56,57,58,59,60])
 (.cond (.t 61)
 (.seq (.region [⟨(some 4),.mv (.k (.c (.d (.bool false)))),none⟩] [6,7,10,11,61])
 (.ret))
 (.skip)))
 (.seq (.seq (.region [⟨(some 12),.mv (.k (.c (.d (.int .i64 0)))),none⟩] [4,61])
 (.block 0 (.loop (.seq (.seq (.region [⟨(some 62),.mv (.t 12),none⟩,
 ⟨(some 63),.mv (.t 10),none⟩,
 ⟨(some 64),.len 1 (.t 63),none⟩,
 ⟨(some 65),.bin .lss (.t 62) (.t 64),none⟩,
 ⟨(some 66),.mv (.t 65),none⟩,
 ⟨(some 67),.mv (.t 10),some (66,true)⟩,
 ⟨(some 68),.qcall 25 [(.t 67)],some (66,true)⟩,
 ⟨(some 69),.pick (.t 66) (.t 68) (.k (.c (.d (.bool false)))),none⟩] [62,63,64,65,66,67,68])
 (.cond (.t 69)
 (.skip)
 (.exit 0)))
 (.seq (.block 1 (.seq (.region [⟨(some 72),.mv (.t 10),none⟩,
 ⟨(some 73),.mv (.t 12),none⟩,
 ⟨(some 74),.indexAddr 4 (.t 72) (.t 73),none⟩,
 ⟨(some 75),.load (some 4) (.t 74),none⟩,
 ⟨(some 76),.qcall 27 [(.t 75)],none⟩,
 ⟨(some 13),.mv (.t 76),none⟩] [69,72,73,74,75,76])
 (.seq (.region [⟨(some 14),.mv (.k (.c (.d (.int .i64 0)))),none⟩] [])
 (.block 2 (.loop (.seq (.seq (.region [⟨(some 77),.mv (.t 14),none⟩,
 ⟨(some 78),.mv (.t 13),none⟩,
 ⟨(some 79),.len 1 (.t 78),none⟩,
 ⟨(some 80),.bin .lss (.t 77) (.t 79),none⟩] [77,78,79])
 (.cond (.t 80)
 (.skip)
 (.exit 2)))
 (.seq (.block 3 (.seq (.region [⟨(some 83),.mv (.t 11),none⟩,
 ⟨(some 84),.mv (.t 13),none⟩,
 ⟨(some 85),.mv (.t 14),none⟩,
 ⟨(some 86),.indexAddr 1 (.t 84) (.t 85),none⟩,
 ⟨(some 87),.load none (.t 86),none⟩,
 ⟨(some 88),.qcall 28 [(.t 83),(.t 87)],none⟩,
 ⟨(some 89),.un .not (.t 88),none⟩] [80,83,84,85,86,87,88])
 (.cond (.t 89)
 (.seq (.region [⟨(some 4),.mv (.k (.c (.d (.bool false)))),none⟩] [6,7,10,11,12,13,14,89])
 (.ret))
 (.skip))))
 (.region [⟨(some 81),.mv (.t 14),none⟩,
 ⟨(some 82),.bin .add (.t 81) (.k (.c (.d (.int .i64 1)))),none⟩,
 ⟨(some 14),.mv (.t 82),none⟩] [4,81,82,89]))))))))
 (.region [⟨(some 70),.mv (.t 12),none⟩,
 ⟨(some 71),.bin .add (.t 70) (.k (.c (.d (.int .i64 1)))),none⟩,
 ⟨(some 12),.mv (.t 71),none⟩] [70,71]))))))
 (.seq (.region [⟨(some 90),.mv (.t 7),none⟩,
 ⟨(some 91),.un .not (.t 90),none⟩,
 ⟨(some 92),.mv (.t 91),none⟩,
 ⟨(some 93),.mv (.t 6),some (92,false)⟩,
 ⟨(some 94),.qcall 25 [(.t 93)],some (92,false)⟩,
 ⟨(some 95),.mv (.t 94),some (92,false)⟩,
 ⟨(some 96),.mv (.t 6),some (95,true)⟩,
 ⟨(some 97),.len 1 (.t 96),some (95,true)⟩,
 ⟨(some 98),.bin .gtr (.t 97) (.k (.c (.d (.int .i64 0)))),some (95,true)⟩,
 ⟨(some 99),.pick (.t 95) (.t 98) (.k (.c (.d (.bool false)))),some (92,false)⟩,
 ⟨(some 100),.pick (.t 92) (.k (.c (.d (.bool true)))) (.t 99),none⟩,
 ⟨(some 4),.mv (.t 100),none⟩] [6,7,90,91,92,93,94,95,96,97,98,99,100])
 (.ret))))))))))
theorem ac5_ok : cFunc Tryz.prog [1000014,1000021,1000022,1000023,1000024,1000025,1000026,1000027,1000028] [(0,[4],[]),(1,[15,16,17,18,19,20,21],[]),(2,[0,1,22],[]),(3,[0,4,22,23,24],[]),(4,[25,26,27,28,29],[]),(5,[5,30,31,32,33,34],[]),(6,[1,35,36],[]),(7,[37,38],[]),(8,[8,9,39,40,41,42,43,44,45,46,47,48,49,50,51,52,53,54,55,56,57,58,59,60],[]),(9,[6,7,10,11,61],[]),(10,[4,61],[]),(11,[62,63,64,65,66,67,68],[]),(13,[69,72,73,74,75,76],[]),(14,[],[]),(15,[77,78,79],[]),(17,[80,83,84,85,86,87,88],[]),(18,[6,7,10,11,12,13,14,89],[]),(16,[4,81,82,89],[]),(12,[70,71],[]),(19,[6,7,90,91,92,93,94,95,96,97,98,99,100],[])] Tryz.f5 = some (ac5,[.tmp 4],101) := by kernel_rfl
theorem addI_mem {l : List Int} {n m : Int} : m ∈ addI l n ↔ m ∈ l ∨ m = n := by
  unfold addI
  split
  · rename_i h
    simp at h
    constructor
    · exact .inl
    · rintro (h2 | rfl)
      · exact h2
      · exact h
  · simp
/-- the variables of a term are the ones that were there, and its own -/
theorem vars_mem : ∀ (t : Tm) (l : List Int) (m : Int), m ∈ t.vars l ↔ m ∈ l ∨ m ∈ t.vars [] := by
  refine Tm.ind fun k n s kids ih l m => ?_
  have key : ∀ (ts : List Tm), (∀ t ∈ ts, ∀ l m, m ∈ t.vars l ↔ m ∈ l ∨ m ∈ t.vars []) → ∀ l m, m ∈ varsL ts l ↔ m ∈ l ∨ m ∈ varsL ts [] := by
    intro ts
    induction ts with
    | nil => intro _ l m; simp [varsL_nil]
    | cons t ts ih2 =>
      intro h l m
      have h2 := ih2 fun t ht => h t (by simp [ht])
      rw [varsL_cons, varsL_cons, h2 (t.vars l), h2 (t.vars []), h t (by simp) l]
      exact or_assoc
  rw [vars_mk, vars_mk, key kids ih, key kids ih (if k = 1 then addI [] n else [])]
  by_cases hk : k = 1
  · simp only [if_pos hk, addI_mem]
    simp [or_assoc]
  · simp [if_neg hk]
theorem varsL_mem : ∀ (ts : List Tm) (l : List Int) (m : Int), m ∈ l → m ∈ varsL ts l
  | [], l, m, h => by rw [varsL_nil]; exact h
  | t :: ts, l, m, h => by rw [varsL_cons]; exact varsL_mem ts _ m ((vars_mem t l m).2 (.inl h))
theorem varsL_has : ∀ (ts : List Tm) (l : List Int) (t : Tm), t ∈ ts → ∀ m ∈ t.vars [], m ∈ varsL ts l
  | u :: ts, l, t, ht, m, hm => by
    rw [varsL_cons]
    rcases List.mem_cons.1 ht with rfl | ht
    · exact varsL_mem ts _ m ((vars_mem t l m).2 (.inr hm))
    · exact varsL_has ts _ t ht m hm
theorem qtLaw_calls (c d : List UInt8) (hc : c.length ≤ reachBytes) (hd : d.length ≤ reachBytes) (H : Heap) (hp : Hp H) : ACalls Tryz.prog 5 [.c (.d (.sl (bytesRows c))), .c (.d (.sl (bytesRows d)))] H (fun r H' => H' = H ∧ r = .c (.d (.bool true))) := by
  refine acalls Tryz.func5 (by kernel_rfl) ac5_ok fun hf => ?_
  have hli := reach_i64 hc
  have hld := reach_i64 hd
  simp -implicitDefEqProofs [ac5, hli, hld, bytesRows_len, hf, go_sem, -List.set_cons_succ, -List.set_cons_zero]
  refine fun hle hle' => ?_
  refine call_rel (drawPq_calls c (by omega) _) hf (by simp) ?_
  rintro _ ⟨s, rfl, hsl⟩
  refine ⟨by simp [A.re, C.re], ?_⟩
  simp -implicitDefEqProofs [hf, go_sem, -List.set_cons_succ, -List.set_cons_zero]
  refine call_same (pqImpl_calls s (by omega) _ hp) (by simp) (by simp [A.re, A.res, C.re]) hf ?_
  have cs := pqSpec_calls s (by omega)
  obtain ⟨g1, g2⟩ := queryR_fits s (by omega)
  have hq : (queryR s).2 = true → goalsB (queryR s).1 = true ∧ 1 ≤ (queryR s).1.length := by
    unfold queryR
    split
    · simp
    · cases hg : goalsR s 7 0 with
      | none => simp
      | some q =>
        obtain ⟨l, k⟩ := q
        obtain ⟨_, _, _, h4⟩ := goalsR_ok s (by omega) 7 0 l k (by omega) hg
        simp only
        split
        · rename_i h; exact fun _ => ⟨h.2, h4⟩
        · simp
  generalize queryR s = qq at cs g1 g2 hq ⊢
  obtain ⟨q, ok⟩ := qq
  simp only at cs g1 g2 hq
  simp -implicitDefEqProofs [hf, go_sem, -List.set_cons_succ, -List.set_cons_zero]
  refine qcall_pure cs hf (by simp [A.re, A.res, C.re]) ?_
  simp -implicitDefEqProofs [hf, go_sem, -List.set_cons_succ, -List.set_cons_zero]
  refine call_rel (drawQvs_calls d (by omega) _) hf (by simp) ?_
  rintro _ ⟨x, rfl, hxl, hxf⟩
  refine ⟨by simp [A.re, C.re], ?_⟩
  have hxi : inR .i64 (x.length : Int) := small_i64 (by omega) (by omega)
  have hqi : inR .i64 (q.length : Int) := small_i64 (by omega) (by omega)
  have c1 := qvsImpl_calls x (by omega) hxf
  have c2 := qvsSpec_calls x (by omega) hxf
  have c3 := qvImpl_calls x (by omega) hxf
  have c4 := qvSpec_calls x (by omega) hxf
  have c5 := pgTerms_calls q (by omega) g2
  have c7 := qvImpl_calls q (by omega) g2
  have hvl : (qvR x).length ≤ 1000 := by
    unfold qvR
    split
    · rename_i hb
      have := goals_ok hb
      have h3 := varsL_len x []
      simp at h3
      omega
    · simp
  have c6 := pgInts_calls (qvR x) (by omega)
  simp -implicitDefEqProofs [hf, go_sem, -List.set_cons_succ, -List.set_cons_zero]
  refine qcall_pure c1 hf (by simp [A.re, C.re]) ?_
  simp -implicitDefEqProofs [hf, go_sem, -List.set_cons_succ, -List.set_cons_zero]
  refine qcall_pure c5 hf rfl ?_
  simp -implicitDefEqProofs [hf, go_sem, -List.set_cons_succ, -List.set_cons_zero]
  refine qcall_pure c2 hf (by simp [A.re, C.re]) ?_
  simp -implicitDefEqProofs [hf, go_sem, -List.set_cons_succ, -List.set_cons_zero]
  refine qcall_pure c6 hf rfl ?_
  simp -implicitDefEqProofs [hf, go_sem, -List.set_cons_succ, -List.set_cons_zero]
  refine qcall_pure c3 hf rfl ?_
  simp -implicitDefEqProofs [hf, go_sem, -List.set_cons_succ, -List.set_cons_zero]
  refine qcall_pure c4 hf rfl ?_
  simp -implicitDefEqProofs [hf, go_sem, -List.set_cons_succ, -List.set_cons_zero]
  refine loop_set (σ := Nat) (fun i => [(12, .c (.d (.int .i64 i)))]) (fun _ => H) (fun _ => []) (fun i => i ≤ x.length) (fun i => x.length - i) 0 (by simp [setAll]) (Nat.zero_le _) ?_
  intro i hi
  by_cases hlt : i < x.length
  case' pos =>
    cases hb : goalsB x
  case pos.true =>
    rw [hb] at c3
    have hadd : inR .i64 ((i : Int) + 1) := small_i64 (by omega) (by omega)
    have hvx : x[i].valid = true := by
      simp only [goalsB, Bool.and_eq_true, decide_eq_true_eq, List.all_eq_true] at hb
      have := hb.2 _ (List.getElem_mem hlt)
      simp only [Tm.goal, Bool.and_eq_true] at this
      exact this.1
    have hmem : ∀ m ∈ x[i].vars [], m ∈ qvR x := fun m hm => by
      have : qvR x = varsL x [] := by rw [qvR, hb]; rfl
      rw [this]
      exact varsL_has x [] x[i] (List.getElem_mem hlt) m hm
    have c8 := termVars_calls x[i] (hxf _ (List.getElem_mem hlt)) hvx
    simp -implicitDefEqProofs [setAll, hxi, hlt, hf, go_sem, -List.set_cons_succ, -List.set_cons_zero]
    refine qcall_pure c3 hf rfl ?_
    simp -implicitDefEqProofs [hf, go_sem, -List.set_cons_succ, -List.set_cons_zero]
    refine row_of hlt (row_len _) ?_
    simp -implicitDefEqProofs [row_len, take_row, pure_d, re_d, hf, go_sem, -List.set_cons_succ, -List.set_cons_zero]
    refine qcall_pure c8 hf (by simp [A.re, C.re]) ?_
    simp -implicitDefEqProofs [hf, go_sem, -List.set_cons_succ, -List.set_cons_zero]
    have hil : (x[i].vars []).length ≤ 1000 := by
      have h1 := vars_len x[i] []
      have h2 := sub_size x[i]
      simp only [Tm.valid, Bool.and_eq_true, decide_eq_true_eq] at hvx
      simp at h1
      omega
    generalize x[i].vars [] = inner at hmem hil
    have hil2 : inR .i64 (inner.length : Int) := small_i64 (by omega) (by omega)
    refine loop_set (σ := Nat) (fun k => [(14, .c (.d (.int .i64 k)))]) (fun _ => H) (fun _ => []) (fun k => k ≤ inner.length) (fun k => inner.length - k) 0 (by simp [setAll]) (Nat.zero_le _) ?_
    intro k hk
    simp -implicitDefEqProofs [setAll, intRows_len, hil2, hf, go_sem, -List.set_cons_succ, -List.set_cons_zero]
    refine ⟨fun hlk => ?_, fun hge => ?_⟩
    · have hadd2 : inR .i64 ((k : Int) + 1) := small_i64 (by omega) (by omega)
      refine row_int [.int .i64 inner[k]] (by omega) (by simp [intRows, hlk]) rfl ?_
      simp -implicitDefEqProofs [hf, go_sem, -List.set_cons_succ, -List.set_cons_zero]
      refine qcall_pure (pgIn_calls (qvR x) (by omega) inner[k]) hf rfl ?_
      have hm : inner[k] ∈ qvR x := hmem _ (List.getElem_mem hlk)
      simp -implicitDefEqProofs [hm, hadd2, hf, go_sem, -List.set_cons_succ, -List.set_cons_zero]
      exact loop_back (k + 1) (by simp [setAll]) hlk (by show inner.length - (k + 1) < inner.length - k; omega)
    · simp -implicitDefEqProofs [hadd, hf, go_sem, -List.set_cons_succ, -List.set_cons_zero]
      refine loop_less (i + 1) (St.le_more ?_ (Obs.le_refl _)) hlt (by show x.length - (i + 1) < x.length - i; omega)
      simp [setAll, Sl.le, A.le_refl_iff, A.le_u_iff, As.lo, A.lo, C.lo, Ref.lo, Cs.lo, Obs.lo, Ob.lo, setAll, and_true, true_and, List.length_nil, List.length_cons]
  case pos.false =>
    rw [hb] at c3
    simp -implicitDefEqProofs [setAll, hxi, hlt, hf, go_sem, -List.set_cons_succ, -List.set_cons_zero]
    refine qcall_pure c3 hf rfl ?_
    simp -implicitDefEqProofs [hf, go_sem, -List.set_cons_succ, -List.set_cons_zero]
    refine fun hok => ⟨hok, ?_⟩
    obtain ⟨hqb, hq1⟩ := hq hok
    rw [hqb] at c7
    have hq1' : (0 : Int) < q.length := by omega
    refine qcall_pure c7 hf rfl ?_
    simp -implicitDefEqProofs [hq1', hqi, hf, go_sem, -List.set_cons_succ, -List.set_cons_zero]
    omega
  case neg =>
    simp -implicitDefEqProofs [setAll, hxi, hlt, hf, go_sem, -List.set_cons_succ, -List.set_cons_zero]
    refine fun hok => ⟨hok, ?_⟩
    obtain ⟨hqb, hq1⟩ := hq hok
    rw [hqb] at c7
    have hq1' : (0 : Int) < q.length := by omega
    refine qcall_pure c7 hf rfl ?_
    simp -implicitDefEqProofs [hq1', hqi, hf, go_sem, -List.set_cons_succ, -List.set_cons_zero]
    omega
theorem law_run5 {gs : List (Nat × Obj)} (hT : Lib2 gs) (rows : List (List D)) (hr : HasTys Tryz.prog (#[22, 22] : Array TypeId).toList rows) : ACalls Tryz.prog 5 (argsA Tryz.prog (#[22, 22] : Array TypeId).toList rows) (tabsH gs) (fun r H' => H' = tabsH gs ∧ r = .c (.d (.bool true))) := by
  obtain ⟨r, rs, rfl, h1, h2⟩ := hr.cons
  obtain ⟨r', rs', rfl, h3, h4⟩ := h2.cons
  obtain rfl := h4.nil
  obtain ⟨s, rfl, hs⟩ := bytes_ty h1
  obtain ⟨s', rfl, hs'⟩ := bytes_ty h3
  simp only [argsA, argA, Tryz.underlying22, List.headD_cons]
  obtain ⟨o, o2, rfl, q1, q2⟩ := hT
  exact qtLaw_calls s s' hs hs' _ ⟨o, o2, rfl, rfl, q1, q2⟩
namespace fnQueryText
theorem own : ownKnob Tryz.prog.godebug = none := by kernel_rfl
theorem door_met (os : Os) (args : Array Value) : laidMetH Tryz.prog laid ((World.doorLaid Tryz.prog 400 os).forCall (fun _ _ => 0) ⟨#[], args, []⟩).memory :=
  laidMetH_of_parts3 (fuel := 8) (laidMet_of_run' 8 (by kernel_rfl) (by kernel_rfl)) (by kernel_rfl) (by kernel_rfl)
theorem contract (H : Type) (enc : TypeId × Value → H) (W : World) (base : Nat) (args : Array Value) (ds gs : List (DataW H)) (before : List MemPlace) (hL : laidMetH Tryz.prog laid W)
    (hval : ∀ (j : Nat) t v, Tryz.f5.params[j]? = some t → args[j]? = some v → Value.okWide Tryz.prog W .any base t v)
    (hW : DataW.Whole enc Tryz.prog Tryz.f5.params.toList Rows.fnQueryTextSpec.vars false W args.toList ds gs before)
    (hw : (DataW.weightsEach Tryz.prog (Tryz.f5.params.toList ++ Rows.fnQueryTextSpec.plain.varTypes Tryz.prog) (ds ++ gs)).all (· ≤ reachBytes) = true) :
    Calls Tryz.prog 5 args W fun e W' => ∃ v, e = .returned v ∧ Rows.fnQueryTextSpec.post enc Tryz.prog Tryz.f5 false true false false W args v W' := by
  refine law_contract_tabs (T := Lib2) (L := [5, 22]) (tb := 4) (by kernel_rfl) (by kernel_rfl) (by kernel_rfl) rfl ?_ (by kernel_rfl) Tryz.underlying4 ?_ W base args ds gs before (lib_laid hL) hval hW hw
  · intro ds hl
    match ds, hl with
    | [d0, d1], _ => rfl
  · intro gs hT rows hr
    rw [Tryz.params5] at hr ⊢
    exact law_run5 hT rows hr

theorem lifted (os : Os) (started : os.Started) (H : Type) (enc : TypeId × Value → H) :
    ReturnsInHanded {} Tryz.checked os 5 .any (fun w args => (Rows.fnQueryTextSpec.pre enc Tryz.prog Tryz.f5 [] false w args ∧ laidMetH Tryz.prog laid w) ∧ sizedMet enc Tryz.prog Tryz.f5 (OpenSpec.ofChange Rows.fnQueryTextSpec) false w args)
      (Rows.fnQueryTextSpec.post enc Tryz.prog Tryz.f5 false true false false) := by
  refine returnsInHanded_of_change_and (C := Tryz.checked) (X := fun w _ => laidMetH Tryz.prog laid w) (fun _ _ _ hh h => h.of_heap hh) own started (by kernel_rfl) Tryz.func5
    (ChangeSpec.witness_shaped (enc := enc) (C := Tryz.checked) (os := os) (X := fun w _ => laidMetH Tryz.prog laid w) false (World.doorLaid Tryz.prog 400 os) #[.slice none 0 0, .slice none 0 0] 8 rfl (World.shaped_of_RefB (by kernel_rfl) (by kernel_rfl)) (by kernel_rfl) (by kernel_rfl) (by kernel_rfl) (door_met os _)) ?_
  intro W base args ds gs before hval hW _ hw hL _
  exact contract H enc W base args ds gs before hL hval hW hw

theorem said : Rows.FnQueryTextSaid :=
  OpenClaim.holds_of_wide 5 Tryz.f5 rfl rfl rfl rfl rfl rfl rfl ⟨rfl, rfl, rfl, rfl, rfl⟩ rfl rfl rfl rfl rfl (by kernel_rfl) Tryz.func5 (by kernel_rfl)
    (of_decide_eq_true (by kernel_rfl)) (by unfold Func.isWrapper; first | (rw [if_pos (by decide +kernel)]; kernel_rfl) | (rw [if_neg (by decide +kernel)]; exact ⟨rfl, rfl⟩))
    (fun os started H enc _ => lifted os started H enc)

theorem proved : Rows.FnQueryTextCardSaid :=
  Claim7.holds_tied_plain_at .later [] [.data, .data, .data, .sentinel, .sentinel] true Rows.fnQueryTextCard.stood.harness true
    said (fun _ h => by cases h) (by kernel_rfl) (fun _ h => by cases h) fnQueryText_row_tie rfl ⟨rfl, rfl⟩ (by kernel_rfl) rfl
    (fun f fn hf hfn => by
      obtain rfl : f = 5 := Option.some.inj ((show Tryz.prog.funcNamed Rows.fnQueryTextRow.func = some 5 by kernel_rfl).symm.trans hf) |>.symm
      obtain rfl : fn = Tryz.f5 := (Option.some.inj (Tryz.func5.symm.trans hfn)).symm
      exact ⟨by kernel_rfl, fun j t ht => by
        rw [Tryz.params5] at ht
        have hall : (Tryz.f5.params.toList.all fun u => !Tryz.prog.wantsStandIn u) = true := by kernel_rfl
        have hm : t ∈ Tryz.f5.params.toList := by
          rw [Tryz.params5]
          simpa using Array.mem_of_getElem? ht
        exact (show Tryz.prog.wantsStandIn t = false by simpa using List.all_eq_true.1 hall t hm)⟩)
    (by kernel_rfl)
end fnQueryText

end Go.Proofs.YtbblefjbgbocoaaGreatDoor
