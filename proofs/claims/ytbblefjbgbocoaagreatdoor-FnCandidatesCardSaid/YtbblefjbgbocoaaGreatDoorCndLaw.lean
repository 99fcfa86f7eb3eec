/-
  The card FnCandidates holds: a clause that is left out cannot be unified with the goal.
  Conditions: none.
-/
import Derived.Test.YtbblefjbgbocoaaGreatDoorBundB
import Derived.Test.YtbblefjbgbocoaaGreatDoorBundD
import Derived.Test.YtbblefjbgbocoaaGreatDoorBundA
import Derived.Test.YtbblefjbgbocoaaGreatDoorCards
import Derived.Test.YtbblefjbgbocoaaGreatDoorTie
import Derived.ProofKit
import Derived.OpenShut
import Derived.Stop.Joined
import Derived.SevenTiedAt
open Go Go.AM Go.Proofs
attribute [local go_sem] kw ew sw tw a_ b_ c_ A.ok A.val d_ e_ f_ g_ h_ i_ j_ k_ l_ m_ unA unD n_ AOp.total o_ p_ q_ r_ s_ t_ u_ v_ A.thaw C.thaw A.fits As.fits C.fits evs oks w_ A.pure C.pure A.re C.re x_ y_ cut A.cells C.rows? z_ A_ B_ C_ a0_ b0_ D_ Ob.re Cs.fits E_ F_ G_ H_ I_ J_ K_ L_ M_ N_ O_ C.toD P_ Q_ R_ S_ T_ Obs.fits U_ eqD V_ W_ X_ Y_ Z_
open Go Go.AM Go.Proofs
namespace Go.Proofs.YtbblefjbgbocoaaGreatDoor
open Go.ChangeShapes Go.WideShapes Go.ChangeAt Go.WideElems Go.RowKit
set_option linter.unusedVariables false
set_option linter.unusedSimpArgs false
set_option maxRecDepth 100000
-- 6 loop.example/prologserver/laws.FnCandidates params 1 ntmps 87
-- loop head live: [3,4,5,6,7]
-- loop head live: [5,6,10]
def ac6 : Cd := .seq (.region [⟨(some 2),.mv (.k (.c (.d (.bool false)))),none⟩] [2])
 (.seq (.seq (.region [⟨(some 11),.mv (.t 0),none⟩,
 ⟨(some 12),.len 1 (.t 11),none⟩,
 ⟨(some 13),.bin .gtr (.t 12) (.k (.c (.d (.int .i64 1048576)))),none⟩] [11,12])
 (.cond (.t 13)
 (.seq (.region [⟨(some 2),.mv (.k (.c (.d (.bool true)))),none⟩] [0,13])
 (.ret))
 (.skip)))
 (.seq (.region [⟨(some 15),.mv (.t 0),none⟩,
 ⟨(some 16),.call false 29 [(.t 15)],none⟩,
 ⟨(some 14),.mv (.t 16),none⟩,
 ⟨(some 17),.extract 0 (.t 14),none⟩,
 ⟨(some 18),.extract 1 (.t 14),none⟩,
 ⟨(some 4),.alloc [(.d (.int .i64 0)),(.d (.int .i64 0)),(.d (.str [])),(.full [])],none⟩,
 ⟨(some 3),.mv (.t 17),none⟩,
 ⟨none,.store 4 (.t 4) (.t 18),none⟩] [0,2,13,14,15,16,17,18])
 (.seq (.region [⟨(some 19),.mv (.t 3),none⟩,
 ⟨(some 20),.load (some 4) (.t 4),none⟩,
 ⟨(some 21),.qcall 30 [(.t 19),(.t 20)],none⟩,
 ⟨(some 5),.mv (.t 21),none⟩] [19,20,21])
 (.seq (.region [⟨(some 22),.mv (.t 3),none⟩,
 ⟨(some 23),.load (some 4) (.t 4),none⟩,
 ⟨(some 24),.qcall 31 [(.t 22),(.t 23)],none⟩,
 ⟨(some 6),.mv (.t 24),none⟩] [22,23,24])
 (.seq (.seq (.region [⟨(some 25),.mv (.t 5),none⟩,
 ⟨(some 26),.mv (.t 3),none⟩,
 ⟨(some 27),.load (some 4) (.t 4),none⟩,
 ⟨(some 28),.qcall 32 [(.t 26),(.t 27)],none⟩,
 ⟨(some 29),.qcall 23 [(.t 25),(.t 28)],none⟩,
 ⟨(some 30),.un .not (.t 29),none⟩] [25,26,27,28,29])
 (.cond (.t 30)
 (.seq (.region [⟨(some 2),.mv (.k (.c (.d (.bool false)))),none⟩] [3,4,5,6,30])
 (.ret))
 (.skip)))
 (.seq (.seq (.region [⟨(some 7),.mv (.k (.c (.d (.int .i64 0)))),none⟩] [2,30])
 (.block 0 (.loop (.seq (.seq (.region [⟨(some 31),.mv (.t 7),none⟩,
 ⟨(some 32),.mv (.t 6),none⟩,
 ⟨(some 33),.len 1 (.t 32),none⟩,
 ⟨(some 34),.bin .lss (.t 31) (.t 33),none⟩] [31,32,33])
 (.cond (.t 34)
 (.skip)
 (.exit 0)))
 (.seq (.block 1 (.seq (.region [⟨(some 38),.mv (.t 3),none⟩,
 ⟨(some 39),.mv (.t 6),none⟩,
 ⟨(some 40),.mv (.t 7),none⟩,
 ⟨(some 41),.indexAddr 1 (.t 39) (.t 40),none⟩,
 ⟨(some 42),.load none (.t 41),none⟩,
 ⟨(some 43),.indexAddr 5 (.t 38) (.t 42),none⟩,
 ⟨(some 44),.fieldAddr 0 (.t 43),none⟩,
 ⟨(some 45),.load (some 4) (.t 44),none⟩,
 ⟨(some 46),.load (some 4) (.t 4),none⟩,
 ⟨(some 47),.call false 33 [(.t 45),(.t 46)],none⟩,
 ⟨(some 37),.mv (.t 47),none⟩,
 ⟨(some 48),.extract 0 (.t 37),none⟩,
 ⟨(some 49),.extract 1 (.t 37),none⟩,
 ⟨(some 8),.mv (.t 48),none⟩,
 ⟨(some 9),.mv (.t 49),none⟩] [8,34,37,38,39,40,41,42,43,44,45,46,47,48,49])
 (.seq (.region [⟨(some 50),.mv (.t 5),none⟩,
 ⟨(some 51),.mv (.t 6),none⟩,
 ⟨(some 52),.mv (.t 7),none⟩,
 ⟨(some 53),.indexAddr 1 (.t 51) (.t 52),none⟩,
 ⟨(some 54),.load none (.t 53),none⟩,
 ⟨(some 55),.qcall 28 [(.t 50),(.t 54)],none⟩,
 ⟨(some 56),.un .not (.t 55),none⟩,
 ⟨(some 57),.mv (.t 56),none⟩,
 ⟨(some 58),.mv (.t 9),some (57,true)⟩,
 ⟨(some 59),.mv (.t 58),some (57,true)⟩,
 ⟨(some 60),.mv (.t 3),some (59,false)⟩,
 ⟨(some 61),.mv (.t 6),some (59,false)⟩,
 ⟨(some 62),.mv (.t 7),some (59,false)⟩,
 ⟨(some 63),.indexAddr 1 (.t 61) (.t 62),some (59,false)⟩,
 ⟨(some 64),.load none (.t 63),some (59,false)⟩,
 ⟨(some 65),.indexAddr 5 (.t 60) (.t 64),some (59,false)⟩,
 ⟨(some 66),.fieldAddr 0 (.t 65),some (59,false)⟩,
 ⟨(some 67),.load (some 4) (.t 66),some (59,false)⟩,
 ⟨(some 68),.qcall 35 [(.t 67)],some (59,false)⟩,
 ⟨(some 69),.load (some 4) (.t 4),some (59,false)⟩,
 ⟨(some 70),.qcall 35 [(.t 69)],some (59,false)⟩,
 ⟨(some 71),.qcall 34 [(.t 68),(.t 70)],some (59,false)⟩,
 ⟨(some 72),.pick (.t 59) (.k (.c (.d (.bool true)))) (.t 71),some (57,true)⟩,
 ⟨(some 73),.pick (.t 57) (.t 72) (.k (.c (.d (.bool false)))),none⟩] [9,50,51,52,53,54,55,56,57,58,59,60,61,62,63,64,65,66,67,68,69,70,71,72])
 (.cond (.t 73)
 (.seq (.region [⟨(some 2),.mv (.k (.c (.d (.bool false)))),none⟩] [3,4,5,6,7,73])
 (.ret))
 (.skip)))))
 (.region [⟨(some 35),.mv (.t 7),none⟩,
 ⟨(some 36),.bin .add (.t 35) (.k (.c (.d (.int .i64 1)))),none⟩,
 ⟨(some 7),.mv (.t 36),none⟩] [2,35,36,73]))))))
 (.seq (.seq (.region [⟨(some 10),.mv (.k (.c (.d (.int .i64 0)))),none⟩] [])
 (.block 2 (.loop (.seq (.seq (.region [⟨(some 74),.mv (.t 10),none⟩,
 ⟨(some 75),.mv (.t 5),none⟩,
 ⟨(some 76),.len 1 (.t 75),none⟩,
 ⟨(some 77),.bin .lss (.t 74) (.t 76),none⟩] [74,75,76])
 (.cond (.t 77)
 (.skip)
 (.exit 2)))
 (.seq (.block 3 (.seq (.region [⟨(some 80),.mv (.t 6),none⟩,
 ⟨(some 81),.mv (.t 5),none⟩,
 ⟨(some 82),.mv (.t 10),none⟩,
 ⟨(some 83),.indexAddr 1 (.t 81) (.t 82),none⟩,
 ⟨(some 84),.load none (.t 83),none⟩,
 ⟨(some 85),.qcall 28 [(.t 80),(.t 84)],none⟩,
 ⟨(some 86),.un .not (.t 85),none⟩] [77,80,81,82,83,84,85])
 (.cond (.t 86)
 (.seq (.region [⟨(some 2),.mv (.k (.c (.d (.bool false)))),none⟩] [5,6,10,86])
 (.ret))
 (.skip))))
 (.region [⟨(some 78),.mv (.t 10),none⟩,
 ⟨(some 79),.bin .add (.t 78) (.k (.c (.d (.int .i64 1)))),none⟩,
 ⟨(some 10),.mv (.t 79),none⟩] [2,78,79,86]))))))
 (.seq (.region [⟨(some 2),.mv (.k (.c (.d (.bool true)))),none⟩] [])
 (.ret)))))))))
theorem ac6_ok : cFunc Tryz.prog [1000023,1000028,1000030,1000031,1000032,1000034,1000035] [(0,[2],[]),(1,[11,12],[]),(2,[0,13],[]),(3,[0,2,13,14,15,16,17,18],[]),(4,[19,20,21],[]),(5,[22,23,24],[]),(6,[25,26,27,28,29],[]),(7,[3,4,5,6,30],[]),(8,[2,30],[]),(9,[31,32,33],[]),(11,[8,34,37,38,39,40,41,42,43,44,45,46,47,48,49],[0,1,2,3,4,5,6,7,8,9,10,11,12,13,14]),(12,[9,50,51,52,53,54,55,56,57,58,59,60,61,62,63,64,65,66,67,68,69,70,71,72],[0,1,2,3,4,5,6,7,8,9,10,11,12,13,14,15,16,17,18,19,20,21,22,23]),(13,[3,4,5,6,7,73],[]),(10,[2,35,36,73],[]),(14,[],[]),(15,[74,75,76],[]),(17,[77,80,81,82,83,84,85],[]),(18,[5,6,10,86],[]),(16,[2,78,79,86],[]),(19,[],[])] Tryz.f6 = some (ac6,[.tmp 2],87) := by kernel_rfl
theorem key_var {t : Tm} (ht : t.good) (hk : t.k = 1) : t.key = [] := by
  have := (good_var ht hk).2.2.1
  simp [Tm.key, this]
theorem kfit_uni {a b : Tm} {σ' : Sto} (ha : a.valid = true) (hb : b.valid = true) (h : Uni [] (.tm a b) true σ') : kfit a.key b.key = true := by
  by_cases ka : a.k = 1
  · simp [kfit, key_var (valid_good ha) ka]
  · by_cases kb : b.k = 1
    · simp [kfit, key_var (valid_good hb) kb]
    · rcases uni_fits ha hb h ka kb with h | h | h
      · simp [kfit, h]
      · simp [kfit, h]
      · simp [kfit, h]
/-- a clause that is left out -/
theorem left_out {p : List Cl} {t : Tm} (hp : FitsC p) {x : Int} (hx : x ∈ forB p t) : ∃ c, p[x.toNat]? = some c ∧ c.head.fits ∧ ((candB p t).contains x = false → kfit c.head.fkey t.fkey = false ∧ ∀ σ', ¬ (c.head.valid = true ∧ t.valid = true ∧ Uni [] (.tm c.head t) true σ')) := by
  have hc : (progB p && t.valid && t.plain) = true := by
    cases h : (progB p && t.valid && t.plain) with
    | true => rfl
    | false => rw [forB_no h] at hx; simp at hx
  simp only [Bool.and_eq_true] at hc
  obtain ⟨c, h1, h2, h3, h4⟩ := head_calls hp hc.1.1 ((forB_ok p t).2 x hx)
  refine ⟨c, h1, h2, fun hno => ?_⟩
  have hs : kfit c.head.key t.key = false := by
    cases h : kfit c.head.key t.key with
    | false => rfl
    | true =>
      have : x ∈ candB p t := by
        show x ∈ keepI (strikeK p t.key) (forB p t)
        simp only [keepI, List.mem_filter]
        exact ⟨hx, by simp [strikeK, h4, h]⟩
      rw [← List.contains_iff_mem] at this
      rw [hno] at this; cases this
  refine ⟨?_, fun σ' ⟨q1, q2, q3⟩ => ?_⟩
  · rw [Tm.fkey, if_pos h3, Tm.fkey, if_pos hc.1.2]; exact hs
  · rw [kfit_uni q1 q2 q3] at hs; cases hs
theorem kept_in {p : List Cl} {t : Tm} {x : Int} (hx : x ∈ candB p t) : (forB p t).contains x = true := by
  rw [List.contains_iff_mem]
  exact (List.mem_filter.1 (show x ∈ (forB p t).filter _ from hx)).1
theorem cndLaw_calls {g : Nat} {o : Obj} (hT : Tab g o) (s : List UInt8) (hs : s.length ≤ reachBytes) (H : Heap) (hH : H[0]? = some (.tab g o)) :
    ACalls Tryz.prog 6 [.c (.d (.sl (bytesRows s)))] H (fun r H' => H' = H ∧ r = .c (.d (.bool true))) := by
  refine acalls Tryz.func6 (by kernel_rfl) ac6_ok fun hf => ?_
  have hsl := reach_i64 hs
  simp -implicitDefEqProofs [ac6, hsl, bytesRows_len, hf, go_sem, -List.set_cons_succ, -List.set_cons_zero]
  intro hs1
  refine call_some (drawCa_calls s (by omega) _) (by simp [Ob.re, C.re]) (fun r => PgGoalR.re) hf ?_
  rintro _ ⟨p, t, rfl, ⟨hp, hpf⟩, ht⟩
  have hpp : FitsC p := ⟨by omega, hpf⟩
  have k1 := forB_ok p t
  have k2 : (candB p t).length ≤ (forB p t).length := keepI_len (strikeK p t.key) (forB p t)
  have k3 := fun x (hx : x ∈ forB p t) => left_out (t := t) hpp hx
  have k4 := fun x (hx : x ∈ candB p t) => kept_in hx
  simp -implicitDefEqProofs [row_len, take_row, pure_d, re_d, hf, splice_all, cut_all, go_sem, -List.set_cons_succ, -List.set_cons_zero]
  refine qcall_tab (candI_calls hT p hpp t ht) hf hH rfl ?_
  simp -implicitDefEqProofs [row_len, take_row, pure_d, re_d, hf, splice_all, cut_all, go_sem, -List.set_cons_succ, -List.set_cons_zero]
  refine qcall_pure (cfI_calls p hpp t ht) hf rfl ?_
  simp -implicitDefEqProofs [row_len, take_row, pure_d, re_d, hf, splice_all, cut_all, go_sem, -List.set_cons_succ, -List.set_cons_zero]
  refine qcall_pure (candS_calls p hpp t ht) hf rfl ?_
  generalize candB p t = l at k2 k3 k4
  generalize forB p t = q at k1 k2 k3 k4
  have hli : inR .i64 (l.length : Int) := small_i64 (by omega) (by omega)
  have hqi : inR .i64 (q.length : Int) := small_i64 (by omega) (by omega)
  simp -implicitDefEqProofs [row_len, take_row, pure_d, re_d, hf, splice_all, cut_all, go_sem, -List.set_cons_succ, -List.set_cons_zero]
  refine qcall_pure (pgInts_calls l (by omega)) hf rfl ?_
  simp -implicitDefEqProofs [go_sem, -List.set_cons_succ, -List.set_cons_zero]
  refine loop_set (σ := Nat) (fun i => [(7, .c (.d (.int .i64 i)))]) (fun _ => H) (fun _ => [.cells (t.row.map .d)]) (fun i => i ≤ q.length) (fun i => q.length - i) 0 (by simp [setAll]) (Nat.zero_le _) ?_
  intro i hi
  simp -implicitDefEqProofs [setAll, intRows_len, hqi, go_sem, -List.set_cons_succ, -List.set_cons_zero]
  refine ⟨fun hlt => ?_, fun hge => ?_⟩
  · have hadd : inR .i64 ((i : Int) + 1) := small_i64 (by omega) (by omega)
    have hqx := List.getElem_mem hlt
    obtain ⟨c, hc, hcf, hno⟩ := k3 q[i] hqx
    have hb := k1.2 q[i] hqx
    refine row_int [.int .i64 q[i]] (by omega) (by simp [intRows, hlt]) rfl ?_
    simp -implicitDefEqProofs [row_len, take_row, pure_d, re_d, go_sem, -List.set_cons_succ, -List.set_cons_zero]
    refine row_int c.row hb.1 (by simp [hc]) rfl ?_
    simp -implicitDefEqProofs [Cl.row, row_len, take_row, pure_d, re_d, hf, splice_all, cut_all, go_sem, -List.set_cons_succ, -List.set_cons_zero]
    have c1 := ut_calls c.head t hcf ht
    have c2 := fky_calls hT c.head hcf
    rw [row_eq c.head] at c1 c2
    simp only [List.map_cons, List.map_nil] at c1 c2
    refine call_some (c1 _) (by simp [Ob.re, C.re, re_d]) (fun r => UniR.re) hf ?_
    rintro _ ⟨rows, ok, rfl, hok⟩
    simp -implicitDefEqProofs [hf, go_sem, -List.set_cons_succ, -List.set_cons_zero]
    refine row_int [.int .i64 q[i]] (by omega) (by simp [intRows, hlt]) rfl ?_
    simp -implicitDefEqProofs [row_len, take_row, pure_d, re_d, go_sem, -List.set_cons_succ, -List.set_cons_zero]
    refine qcall_pure (pgIn_calls l (by omega) q[i]) hf rfl ?_
    cases hcn : l.contains q[i] with
    | true =>
      simp -implicitDefEqProofs [hf, hadd, go_sem, -List.set_cons_succ, -List.set_cons_zero]
      refine row_off [.int .i64 0] ?_
      simp -implicitDefEqProofs [Cl.row, row_len, take_row, pure_d, re_d, hf, hadd, splice_all, cut_all, go_sem, -List.set_cons_succ, -List.set_cons_zero]
      refine row_off c.row ?_
      simp -implicitDefEqProofs [Cl.row, row_len, take_row, pure_d, re_d, hf, hadd, splice_all, cut_all, go_sem, -List.set_cons_succ, -List.set_cons_zero]
      cases ok <;> (simp -implicitDefEqProofs [go_sem, -List.set_cons_succ, -List.set_cons_zero]; exact loop_back (i + 1) (by simp -implicitDefEqProofs [setAll]) hlt (by show q.length - (i + 1) < q.length - i; omega))
    | false =>
      obtain ⟨n1, n2⟩ := hno hcn
      have hok2 : ok = false := by
        cases ok with
        | false => rfl
        | true => obtain ⟨q1, q2, σ', q3⟩ := hok rfl; exact absurd ⟨q1, q2, q3⟩ (n2 σ')
      subst hok2
      simp -implicitDefEqProofs [hf, hadd, go_sem, -List.set_cons_succ, -List.set_cons_zero]
      refine row_int [.int .i64 q[i]] (by omega) (by simp [intRows, hlt]) rfl ?_
      simp -implicitDefEqProofs [Cl.row, row_len, take_row, pure_d, re_d, hf, hadd, splice_all, cut_all, go_sem, -List.set_cons_succ, -List.set_cons_zero]
      refine row_int c.row hb.1 (by simp [hc]) rfl ?_
      simp -implicitDefEqProofs [Cl.row, row_len, take_row, pure_d, re_d, hf, hadd, splice_all, cut_all, go_sem, -List.set_cons_succ, -List.set_cons_zero]
      refine qcall_tab c2 hf hH rfl ?_
      simp -implicitDefEqProofs [Cl.row, row_len, take_row, pure_d, re_d, hf, hadd, splice_all, cut_all, go_sem, -List.set_cons_succ, -List.set_cons_zero]
      refine qcall_tab (fky_calls hT t ht) hf hH rfl ?_
      simp -implicitDefEqProofs [Cl.row, row_len, take_row, pure_d, re_d, hf, hadd, splice_all, cut_all, go_sem, -List.set_cons_succ, -List.set_cons_zero]
      refine qcall_pure (kfImpl_calls _ _) hf rfl ?_
      rw [n1]
      simp -implicitDefEqProofs [Cl.row, row_len, take_row, pure_d, re_d, hf, hadd, splice_all, cut_all, go_sem, -List.set_cons_succ, -List.set_cons_zero]
      exact loop_back (i + 1) (by simp [setAll]) hlt (by show q.length - (i + 1) < q.length - i; omega)
  · refine loop_set (σ := Nat) (fun j => [(10, .c (.d (.int .i64 j)))]) (fun _ => H) (fun _ => [.cells (t.row.map .d)]) (fun j => j ≤ l.length) (fun j => l.length - j) 0 (by simp [setAll]) (Nat.zero_le _) ?_
    intro j hj
    simp -implicitDefEqProofs [setAll, intRows_len, hli, go_sem, -List.set_cons_succ, -List.set_cons_zero]
    intro hlt
    have hadd : inR .i64 ((j : Int) + 1) := small_i64 (by omega) (by omega)
    have hlx := List.getElem_mem hlt
    refine row_int [.int .i64 l[j]] (by omega) (by simp [intRows, hlt]) rfl ?_
    simp -implicitDefEqProofs [hadd, go_sem, -List.set_cons_succ, -List.set_cons_zero]
    refine qcall_pure (pgIn_calls q (by omega) l[j]) hf rfl ?_
    rw [k4 _ hlx]
    simp -implicitDefEqProofs [hadd, go_sem, -List.set_cons_succ, -List.set_cons_zero]
    exact loop_back (j + 1) (by simp [setAll]) hlt (by show l.length - (j + 1) < l.length - j; omega)
theorem law_run6 {g : Nat} {o : Obj} (hT : Tab g o) (rows : List (List D)) (hr : HasTys Tryz.prog (#[22] : Array TypeId).toList rows) : ACalls Tryz.prog 6 (argsA Tryz.prog (#[22] : Array TypeId).toList rows) [.tab g o] (fun r H' => H' = [.tab g o] ∧ r = .c (.d (.bool true))) := by
  obtain ⟨r, rs, rfl, h1, h2⟩ := hr.cons
  obtain rfl := h2.nil
  obtain ⟨s, rfl, hs⟩ := bytes_ty h1
  simp only [argsA, argA, Tryz.underlying22, List.headD_cons]
  exact cndLaw_calls hT s hs _ rfl
namespace fnCandidates
def laid3 : List (String × DataW Unit) := Rows.fnCandidatesRow.laid
theorem tab_laid3 {W : World} (h : laidMetH Tryz.prog laid3 W) : ∃ (g : Nat) (o : Obj), W.heap[g]? = some o ∧ Tab g o := by
  rw [MakeChecks.laidMetH_plain _ _ _ (by kernel_rfl)] at h
  obtain ⟨ps, ⟨_, _, _, _, _, _, _, _, _, _, ⟨_, _, _, _, _, _, _, _, _, _, ⟨g2, t2, cs2, f2, p2, q2, hg2, ht2, hv2, hd2, _, _⟩, _⟩, _⟩, _, _⟩ := h
  have e1 : g2 = 2 := by
    have hg : Tryz.prog.globalNamed (laid3[2]).1 = some 2 := by kernel_rfl
    exact (Option.some.inj (hg.symm.trans hg2)).symm
  subst e1
  have e2 : t2 = 218 := by
    have ht : (Tryz.prog.globals[2]?).map (·.type) = some 218 := by kernel_rfl
    exact (Option.some.inj (ht.symm.trans ht2)).symm
  subst e2
  have e3 := Lib.cells_of_tab (k := .u64) (zs := Lib.pow10Tab) Tryz.underlying218 Tryz.underlying194 (by kernel_rfl) (by kernel_rfl) hd2
  have e4 : cs2 = (Lib.pow10Tab.map fun z => Value.int .u64 z).toArray := by
    rw [← e3]
  exact tab_mk (hv2.trans (congrArg some e4)) fun n h0 h1 w hw => Any.strconv_Itoa Tryz.laysM171 n h0 h1 w hw
theorem own : ownKnob Tryz.prog.godebug = none := by kernel_rfl
theorem door_met (os : Os) (args : Array Value) : laidMetH Tryz.prog laid3 ((World.doorLaid Tryz.prog 400 os).forCall (fun _ _ => 0) ⟨#[], args, []⟩).memory :=
  laidMetH_of_parts3 (fuel := 8) (laidMet_of_run' 8 (by kernel_rfl) (by kernel_rfl)) (by kernel_rfl) (by kernel_rfl)
theorem contract (H : Type) (enc : TypeId × Value → H) (W : World) (base : Nat) (args : Array Value) (ds gs : List (DataW H)) (before : List MemPlace) (hL : laidMetH Tryz.prog laid3 W)
    (hval : ∀ (j : Nat) t v, Tryz.f6.params[j]? = some t → args[j]? = some v → Value.okWide Tryz.prog W .any base t v)
    (hW : DataW.Whole enc Tryz.prog Tryz.f6.params.toList Rows.fnCandidatesSpec.vars false W args.toList ds gs before)
    (hw : (DataW.weightsEach Tryz.prog (Tryz.f6.params.toList ++ Rows.fnCandidatesSpec.plain.varTypes Tryz.prog) (ds ++ gs)).all (· ≤ reachBytes) = true) :
    Calls Tryz.prog 6 args W fun e W' => ∃ v, e = .returned v ∧ Rows.fnCandidatesSpec.post enc Tryz.prog Tryz.f6 false true false false W args v W' := by
  refine law_contract_tab (T := Tab) (L := [5, 22]) (tb := 4) (by kernel_rfl) (by kernel_rfl) (by kernel_rfl) rfl ?_ (by kernel_rfl) Tryz.underlying4 ?_ W base args ds gs before (tab_laid3 hL) hval hW hw
  · intro ds hl
    match ds, hl with
    | [d0], _ => rfl
  · intro g o hT rows hr
    rw [Tryz.params6] at hr ⊢
    exact law_run6 hT rows hr

theorem lifted (os : Os) (started : os.Started) (H : Type) (enc : TypeId × Value → H) :
    ReturnsInHanded {} Tryz.checked os 6 .any (fun w args => (Rows.fnCandidatesSpec.pre enc Tryz.prog Tryz.f6 [] false w args ∧ laidMetH Tryz.prog laid3 w) ∧ sizedMet enc Tryz.prog Tryz.f6 (OpenSpec.ofChange Rows.fnCandidatesSpec) false w args)
      (Rows.fnCandidatesSpec.post enc Tryz.prog Tryz.f6 false true false false) := by
  refine returnsInHanded_of_change_and (C := Tryz.checked) (X := fun w _ => laidMetH Tryz.prog laid3 w) (fun _ _ _ hh h => h.of_heap hh) own started (by kernel_rfl) Tryz.func6
    (ChangeSpec.witness_shaped (enc := enc) (C := Tryz.checked) (os := os) (X := fun w _ => laidMetH Tryz.prog laid3 w) false (World.doorLaid Tryz.prog 400 os) #[.slice none 0 0] 8 rfl (World.shaped_of_RefB (by kernel_rfl) (by kernel_rfl)) (by kernel_rfl) (by kernel_rfl) (by kernel_rfl) (door_met os _)) ?_
  intro W base args ds gs before hval hW _ hw hL _
  exact contract H enc W base args ds gs before hL hval hW hw

theorem said : Rows.FnCandidatesSaid :=
  OpenClaim.holds_of_wide 6 Tryz.f6 rfl rfl rfl rfl rfl rfl rfl ⟨rfl, rfl, rfl, rfl, rfl⟩ rfl rfl rfl rfl rfl (by kernel_rfl) Tryz.func6 (by kernel_rfl)
    (of_decide_eq_true (by kernel_rfl)) (by unfold Func.isWrapper; first | (rw [if_pos (by decide +kernel)]; kernel_rfl) | (rw [if_neg (by decide +kernel)]; exact ⟨rfl, rfl⟩))
    (fun os started H enc _ => lifted os started H enc)

theorem proved : Rows.FnCandidatesCardSaid :=
  Claim7.holds_tied_plain_at .later [] [.data, .data, .data] true Rows.fnCandidatesCard.stood.harness true
    said (fun _ h => by cases h) (by kernel_rfl) (fun _ h => by cases h) fnCandidates_row_tie rfl ⟨rfl, rfl⟩ (by kernel_rfl) rfl
    (fun f fn hf hfn => by
      obtain rfl : f = 6 := Option.some.inj ((show Tryz.prog.funcNamed Rows.fnCandidatesRow.func = some 6 by kernel_rfl).symm.trans hf) |>.symm
      obtain rfl : fn = Tryz.f6 := (Option.some.inj (Tryz.func6.symm.trans hfn)).symm
      exact ⟨by kernel_rfl, fun j t ht => by
        rw [Tryz.params6] at ht
        have hall : (Tryz.f6.params.toList.all fun u => !Tryz.prog.wantsStandIn u) = true := by kernel_rfl
        have hm : t ∈ Tryz.f6.params.toList := by
          rw [Tryz.params6]
          simpa using Array.mem_of_getElem? ht
        exact (show Tryz.prog.wantsStandIn t = false by simpa using List.all_eq_true.1 hall t hm)⟩)
    (by kernel_rfl)
end fnCandidates

end Go.Proofs.YtbblefjbgbocoaaGreatDoor
