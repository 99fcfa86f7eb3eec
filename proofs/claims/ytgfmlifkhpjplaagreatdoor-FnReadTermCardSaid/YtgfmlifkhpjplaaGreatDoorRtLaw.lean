/-
  The card FnReadTerm holds: texts of terms are read back.
  Conditions: none.
-/
import Derived.Test.YtgfmlifkhpjplaaGreatDoorBundC
import Derived.Test.YtgfmlifkhpjplaaGreatDoorBundD
import Derived.Test.YtgfmlifkhpjplaaGreatDoorBundB
import Derived.Test.YtgfmlifkhpjplaaGreatDoorCards
import Derived.Test.YtgfmlifkhpjplaaGreatDoorTie
import Derived.ProofKit
import Derived.OpenShut
import Derived.Stop.Joined
import Derived.SevenTiedAt
open Go Go.AM Go.Proofs
attribute [local go_sem] kw ew sw tw a_ b_ c_ A.ok A.val d_ e_ f_ g_ h_ i_ j_ k_ l_ m_ unA unD n_ AOp.total o_ p_ q_ r_ s_ t_ u_ v_ A.thaw C.thaw A.fits As.fits C.fits evs oks w_ A.pure C.pure A.re C.re x_ y_ cut A.cells C.rows? z_ A_ B_ C_ a0_ b0_ D_ Ob.re Cs.fits E_ F_ G_ H_ I_ J_ K_ L_ M_ N_ O_ C.toD P_ Q_ R_ S_ T_ Obs.fits U_ eqD V_ W_ X_ Y_ Z_
open Go Go.AM Go.Proofs
namespace Go.Proofs.YtgfmlifkhpjplaaGreatDoor
open Go.ChangeShapes Go.WideShapes Go.ChangeAt Go.WideElems Go.RowKit
set_option linter.unusedVariables false
set_option linter.unusedSimpArgs false
set_option maxRecDepth 100000
-- 15 loop.example/prologserver/impl.WriteTerm params 1 ntmps 8
def ac15 : Cd := .seq (.region [⟨(some 1),.box (.t 0),none⟩,
 ⟨(some 2),.mv (.k (.c (.d (.str [])))),none⟩] [0,2])
 (.seq (.seq (.region [⟨(some 3),.load (some 4) (.t 1),none⟩,
 ⟨(some 4),.qcall 17 [(.t 3)],none⟩,
 ⟨(some 5),.un .not (.t 4),none⟩] [3,4])
 (.cond (.t 5)
 (.seq (.region [⟨(some 2),.mv (.k (.c (.d (.str [])))),none⟩] [1,5])
 (.ret))
 (.skip)))
 (.seq (.region [⟨(some 6),.load (some 4) (.t 1),none⟩,
 ⟨(some 7),.qcall 38 [(.t 6)],none⟩,
 ⟨(some 2),.mv (.t 7),none⟩] [1,5,6,7])
 (.ret)))
theorem ac15_ok : cFunc Tryz.prog [1000017,1000038] [(0,[0,2],[]),(1,[3,4],[]),(2,[1,5],[]),(3,[1,5,6,7],[])] Tryz.f15 = some (ac15,[.tmp 2],8) := by kernel_rfl
-- 7 loop.example/prologserver/laws.FnReadTerm params 2 ntmps 99
def ac7 : Cd := .seq (.region [⟨(some 4),.mv (.k (.c (.d (.bool false)))),none⟩] [4])
 (.seq (.seq (.region [⟨(some 16),.mv (.t 0),none⟩,
 ⟨(some 17),.len 1 (.t 16),none⟩,
 ⟨(some 18),.bin .gtr (.t 17) (.k (.c (.d (.int .i64 1048576)))),none⟩,
 ⟨(some 19),.mv (.t 18),none⟩,
 ⟨(some 20),.mv (.t 1),some (19,false)⟩,
 ⟨(some 21),.len 1 (.t 20),some (19,false)⟩,
 ⟨(some 22),.bin .gtr (.t 21) (.k (.c (.d (.int .i64 1048576)))),some (19,false)⟩,
 ⟨(some 23),.pick (.t 19) (.k (.c (.d (.bool true)))) (.t 22),none⟩] [16,17,18,19,20,21,22])
 (.cond (.t 23)
 (.seq (.region [⟨(some 4),.mv (.k (.c (.d (.bool true)))),none⟩] [0,1,23])
 (.ret))
 (.skip)))
 (.seq (.region [⟨(some 24),.mv (.t 0),none⟩,
 ⟨(some 25),.call false 19 [(.t 24)],none⟩,
 ⟨(some 5),.mv (.t 25),none⟩] [0,4,23,24,25])
 (.seq (.region [⟨(some 27),.mv (.t 5),none⟩,
 ⟨(some 28),.call false 10 [(.t 27)],none⟩,
 ⟨(some 26),.mv (.t 28),none⟩,
 ⟨(some 29),.extract 0 (.t 26),none⟩,
 ⟨(some 30),.extract 1 (.t 26),none⟩,
 ⟨(some 6),.alloc [(.d (.int .i64 0)),(.d (.int .i64 0)),(.d (.str [])),(.full [])],none⟩,
 ⟨none,.store 4 (.t 6) (.t 29),none⟩,
 ⟨(some 7),.mv (.t 30),none⟩] [26,27,28,29,30])
 (.seq (.region [⟨(some 32),.mv (.t 5),none⟩,
 ⟨(some 33),.qcall 9 [(.t 32)],none⟩,
 ⟨(some 31),.mv (.t 33),none⟩,
 ⟨(some 34),.extract 0 (.t 31),none⟩,
 ⟨(some 35),.extract 1 (.t 31),none⟩,
 ⟨(some 8),.alloc [(.d (.int .i64 0)),(.d (.int .i64 0)),(.d (.str [])),(.full [])],none⟩,
 ⟨none,.store 4 (.t 8) (.t 34),none⟩,
 ⟨(some 9),.mv (.t 35),none⟩] [5,31,32,33,34,35])
 (.seq (.region [⟨(some 36),.mv (.t 1),none⟩,
 ⟨(some 37),.call false 22 [(.t 36)],none⟩,
 ⟨(some 10),.alloc [(.d (.int .i64 0)),(.d (.int .i64 0)),(.d (.str [])),(.full [])],none⟩,
 ⟨none,.store 4 (.t 10) (.t 37),none⟩] [1,36,37])
 (.seq (.region [⟨(some 38),.load (some 4) (.t 10),none⟩,
 ⟨(some 39),.call false 23 [(.t 38)],none⟩,
 ⟨(some 11),.mv (.t 39),none⟩] [38,39])
 (.seq (.region [⟨(some 41),.mv (.t 11),none⟩,
 ⟨(some 42),.call false 10 [(.t 41)],none⟩,
 ⟨(some 40),.mv (.t 42),none⟩,
 ⟨(some 43),.extract 0 (.t 40),none⟩,
 ⟨(some 44),.extract 1 (.t 40),none⟩,
 ⟨(some 12),.alloc [(.d (.int .i64 0)),(.d (.int .i64 0)),(.d (.str [])),(.full [])],none⟩,
 ⟨none,.store 4 (.t 12) (.t 43),none⟩,
 ⟨(some 13),.mv (.t 44),none⟩] [40,41,42,43,44])
 (.seq (.seq (.region [⟨(some 45),.mv (.t 7),none⟩,
 ⟨(some 46),.mv (.t 9),none⟩,
 ⟨(some 47),.binB true (.t 45) (.t 46),none⟩,
 ⟨(some 48),.mv (.t 47),none⟩,
 ⟨(some 49),.load (some 4) (.t 6),some (48,false)⟩,
 ⟨(some 50),.load (some 4) (.t 8),some (48,false)⟩,
 ⟨(some 51),.qcall 18 [(.t 49),(.t 50)],some (48,false)⟩,
 ⟨(some 52),.un .not (.t 51),some (48,false)⟩,
 ⟨(some 53),.pick (.t 48) (.k (.c (.d (.bool true)))) (.t 52),none⟩,
 ⟨(some 54),.mv (.t 53),none⟩,
 ⟨(some 55),.mv (.t 11),some (54,false)⟩,
 ⟨(some 56),.bin .neq (.t 55) (.k (.c (.d (.str [])))),some (54,false)⟩,
 ⟨(some 57),.mv (.t 56),some (54,false)⟩,
 ⟨(some 58),.mv (.t 11),some (57,true)⟩,
 ⟨(some 59),.len 0 (.t 58),some (57,true)⟩,
 ⟨(some 60),.bin .leq (.t 59) (.k (.c (.d (.int .i64 1000)))),some (57,true)⟩,
 ⟨(some 61),.pick (.t 57) (.t 60) (.k (.c (.d (.bool false)))),some (54,false)⟩,
 ⟨(some 62),.mv (.t 61),some (54,false)⟩,
 ⟨(some 63),.mv (.t 13),some (62,true)⟩,
 ⟨(some 64),.un .not (.t 63),some (62,true)⟩,
 ⟨(some 65),.mv (.t 64),some (62,true)⟩,
 ⟨(some 66),.load (some 4) (.t 12),some (65,false)⟩,
 ⟨(some 67),.load (some 4) (.t 10),some (65,false)⟩,
 ⟨(some 68),.qcall 18 [(.t 66),(.t 67)],some (65,false)⟩,
 ⟨(some 69),.un .not (.t 68),some (65,false)⟩,
 ⟨(some 70),.pick (.t 65) (.k (.c (.d (.bool true)))) (.t 69),some (62,true)⟩,
 ⟨(some 71),.pick (.t 62) (.t 70) (.k (.c (.d (.bool false)))),some (54,false)⟩,
 ⟨(some 72),.pick (.t 54) (.k (.c (.d (.bool true)))) (.t 71),none⟩] [8,9,10,11,12,13,45,46,47,48,49,50,51,52,53,54,55,56,57,58,59,60,61,62,63,64,65,66,67,68,69,70,71])
 (.cond (.t 72)
 (.seq (.region [⟨(some 4),.mv (.k (.c (.d (.bool false)))),none⟩] [6,7,72])
 (.ret))
 (.skip)))
 (.seq (.region [⟨(some 74),.load (some 4) (.t 6),none⟩,
 ⟨(some 75),.call false 15 [(.t 74)],none⟩,
 ⟨(some 76),.call false 10 [(.t 75)],none⟩,
 ⟨(some 73),.mv (.t 76),none⟩,
 ⟨(some 77),.extract 0 (.t 73),none⟩,
 ⟨(some 78),.extract 1 (.t 73),none⟩,
 ⟨(some 14),.alloc [(.d (.int .i64 0)),(.d (.int .i64 0)),(.d (.str [])),(.full [])],none⟩,
 ⟨none,.store 4 (.t 14) (.t 77),none⟩,
 ⟨(some 15),.mv (.t 78),none⟩] [4,72,73,74,75,76,77,78])
 (.seq (.region [⟨(some 79),.mv (.t 7),none⟩,
 ⟨(some 80),.un .not (.t 79),none⟩,
 ⟨(some 81),.mv (.t 80),none⟩,
 ⟨(some 82),.load (some 4) (.t 6),some (81,false)⟩,
 ⟨(some 83),.qcall 17 [(.t 82)],some (81,false)⟩,
 ⟨(some 84),.mv (.t 83),some (81,false)⟩,
 ⟨(some 85),.load (some 4) (.t 6),some (84,true)⟩,
 ⟨(some 86),.call false 15 [(.t 85)],some (84,true)⟩,
 ⟨(some 87),.len 0 (.t 86),some (84,true)⟩,
 ⟨(some 88),.bin .gtr (.t 87) (.k (.c (.d (.int .i64 1000)))),some (84,true)⟩,
 ⟨(some 89),.mv (.t 88),some (84,true)⟩,
 ⟨(some 90),.mv (.t 15),some (89,false)⟩,
 ⟨(some 91),.mv (.t 90),some (89,false)⟩,
 ⟨(some 92),.load (some 4) (.t 14),some (91,true)⟩,
 ⟨(some 93),.load (some 4) (.t 6),some (91,true)⟩,
 ⟨(some 94),.qcall 18 [(.t 92),(.t 93)],some (91,true)⟩,
 ⟨(some 95),.pick (.t 91) (.t 94) (.k (.c (.d (.bool false)))),some (89,false)⟩,
 ⟨(some 96),.pick (.t 89) (.k (.c (.d (.bool true)))) (.t 95),some (84,true)⟩,
 ⟨(some 97),.pick (.t 84) (.t 96) (.k (.c (.d (.bool false)))),some (81,false)⟩,
 ⟨(some 98),.pick (.t 81) (.k (.c (.d (.bool true)))) (.t 97),none⟩,
 ⟨(some 4),.mv (.t 98),none⟩] [6,7,14,15,79,80,81,82,83,84,85,86,87,88,89,90,91,92,93,94,95,96,97,98])
 (.ret)))))))))))
theorem ac7_ok : cFunc Tryz.prog [1000009,1000017,1000018] [(0,[4],[]),(1,[16,17,18,19,20,21,22],[]),(2,[0,1,23],[]),(3,[0,4,23,24,25],[]),(4,[26,27,28,29,30],[]),(5,[5,31,32,33,34,35],[]),(6,[1,36,37],[]),(7,[38,39],[]),(8,[40,41,42,43,44],[]),(9,[8,9,10,11,12,13,45,46,47,48,49,50,51,52,53,54,55,56,57,58,59,60,61,62,63,64,65,66,67,68,69,70,71],[]),(10,[6,7,72],[]),(11,[4,72,73,74,75,76,77,78],[]),(12,[6,7,14,15,79,80,81,82,83,84,85,86,87,88,89,90,91,92,93,94,95,96,97,98],[])] Tryz.f7 = some (ac7,[.tmp 4],99) := by kernel_rfl
def wtS (t : Tm) : List UInt8 := if t.valid then t.wr else []
theorem wtI_calls (t : Tm) (ht : t.fits) (H : Heap) (hp : Hp H) : ACalls Tryz.prog 15 [.agg (t.row.map .d)] H (fun r H' => H' = H ∧ r = .c (.d (.str (wtS t)))) := by
  refine acalls Tryz.func15 (by kernel_rfl) ac15_ok fun hf => ?_
  obtain ⟨o, o2, g1, g2, hT, hE⟩ := id hp
  simp -implicitDefEqProofs [ac15, row_len, take_row, pure_d, re_d, hf, go_sem, -List.set_cons_succ, -List.set_cons_zero]
  refine qcall_pure (tvImpl_calls t ht) hf rfl ?_
  cases hv : t.valid with
  | true =>
    simp -implicitDefEqProofs [row_len, take_row, pure_d, re_d, hf, go_sem, -List.set_cons_succ, -List.set_cons_zero]
    refine qcall_tab (fun H' hH' => writeTm_calls hT t.size t (Nat.le_refl _) (valid_okx ht hv) H' hH') hf g1 rfl ?_
    simp -implicitDefEqProofs [wtS, hv, go_sem, -List.set_cons_succ, -List.set_cons_zero]
  | false =>
    simp -implicitDefEqProofs [wtS, hv, go_sem, -List.set_cons_succ, -List.set_cons_zero]
/-- what is written is read back -/
theorem write_read {t : Tm} (ht : t.fits) (hv : t.valid = true) (hl : t.wr.length ≤ 1000) : okR t.wr = some t := by
  have hv2 := hv
  unfold Tm.valid at hv2
  rw [Bool.and_eq_true] at hv2
  have hR := rdb_all t.size t (Nat.le_refl _) ht ⟨30, hv2.1⟩
  have h1 := hR.done (s := t.wr) (i := 0) (D := 30) (r := []) (by omega) (Nat.zero_le _) (by simp) hv2.1 ht (.inl rfl) (lv_le t)
  unfold okR
  rw [if_neg (by omega)]
  unfold okT
  rw [h1]
  simp [Rs.tm, hv]
theorem zeroT_fits : zeroT.fits := .mk (by decide) (by decide) (by simp) (by simp) (by simp)
theorem okA_split (o : Option Tm) (ho : ∀ t, o = some t → t.fits) : ∃ (t : Tm) (b : Bool), okA o = .tup [.agg (t.row.map .d), .c (.d (.bool b))] ∧ t.fits ∧ (b = true → o = some t) ∧ (b = false → t = zeroT) := by
  cases o with
  | none => exact ⟨zeroT, false, rfl, zeroT_fits, by simp, by simp⟩
  | some t => exact ⟨t, true, rfl, ho t rfl, by simp, by simp⟩
set_option maxHeartbeats 3200000 in
theorem rtLaw_calls (c d : List UInt8) (hc : c.length ≤ reachBytes) (hd : d.length ≤ reachBytes) (H : Heap) (hp : Hp H) : ACalls Tryz.prog 7 [.c (.d (.sl (bytesRows c))), .c (.d (.sl (bytesRows d)))] H (fun r H' => H' = H ∧ r = .c (.d (.bool true))) := by
  refine acalls Tryz.func7 (by kernel_rfl) ac7_ok fun hf => ?_
  have hli := reach_i64 hc
  have hld := reach_i64 hd
  simp -implicitDefEqProofs [ac7, hli, hld, bytesRows_len, hf, go_sem, -List.set_cons_succ, -List.set_cons_zero]
  refine fun hle hle' => ?_
  refine call_rel (drawRt_calls c (by omega) _) hf (by simp) ?_
  rintro _ ⟨s, rfl, hsl⟩
  refine ⟨by simp [A.re, C.re], ?_⟩
  have hsi : inR .i64 (s.length : Int) := small_i64 (by omega) (by omega)
  simp -implicitDefEqProofs [hf, go_sem, -List.set_cons_succ, -List.set_cons_zero]
  refine call_same (readTermI_calls s (by omega) _ hp) (by simp) (okA_re _ _) hf ?_
  have cs := readTermS_calls s (by omega)
  obtain ⟨t, b, hq, hft, hb1, hb0⟩ := okA_split (okR s) fun t h => (okR_ok h).2.2.2
  rw [hq] at cs ⊢
  have sm := sameImpl_calls t hft t hft
  have cv := tvImpl_calls t hft
  simp -implicitDefEqProofs [row_len, take_row, pure_d, re_d, hf, go_sem, -List.set_cons_succ, -List.set_cons_zero]
  refine qcall_pure cs hf (by simp [A.re, A.res, C.re, re_d]) ?_
  simp -implicitDefEqProofs [row_len, take_row, pure_d, re_d, hf, go_sem, -List.set_cons_succ, -List.set_cons_zero]
  refine call_rel (drawFm_calls d (by omega) _) hf (by simp [Ob.re, re_d]) ?_
  rintro _ ⟨u, rfl, hu⟩
  refine ⟨by simp [A.re, re_d], ?_⟩
  simp -implicitDefEqProofs [row_len, take_row, pure_d, re_d, hf, go_sem, -List.set_cons_succ, -List.set_cons_zero]
  refine call_same (fmI_calls u hu _ (hp_append hp _)) (by simp [Ob.re, C.re, re_d]) rfl hf ?_
  have hxl : (txS u).length ≤ 6000 := by
    unfold txS
    split
    · rename_i hv; exact (valid_okx hu hv).lenx.1
    · simp
  have hxi : inR .i64 ((txS u).length : Int) := small_i64 (by omega) (by omega)
  simp -implicitDefEqProofs [row_len, take_row, pure_d, re_d, hf, go_sem, -List.set_cons_succ, -List.set_cons_zero]
  refine call_same (readTermI_calls (txS u) (by omega) _ (hp_append hp _)) (by simp [Ob.re, C.re, re_d]) (okA_re _ _) hf ?_
  obtain ⟨v, g, hq2, hfv, hg1, hg0⟩ := okA_split (okR (txS u)) fun t h => (okR_ok h).2.2.2
  rw [hq2]
  have hvu : (g = true ∧ v = u ∧ (txS u == []) = false ∧ (txS u = []) = False ∧ (txS u).length ≤ 1000) ∨ txS u = [] ∨ (1000 < (txS u).length ∧ (txS u = []) = False) := by
    cases hv : u.valid with
    | false => exact .inr (.inl (by simp [txS, hv]))
    | true =>
      have e : txS u = u.tx := by simp [txS, hv]
      have hne : u.tx ≠ [] := (valid_okx hu hv).lenx.2.2
      by_cases hl : u.tx.length ≤ 1000
      · have h1 := text_read hu hv hl
        rw [e, h1] at hq2
        cases hgb : g with
        | true =>
          rw [hgb, e, h1] at hg1
          have := hg1 rfl
          cases this
          exact .inl ⟨rfl, rfl, by rw [e]; simp [hne], by rw [e]; simp [hne], by rw [e]; exact hl⟩
        | false => rw [hgb] at hq2; simp [okA] at hq2
      · exact .inr (.inr ⟨by rw [e]; omega, by rw [e]; simp [hne]⟩)
  have hwl : (wtS t).length ≤ 6000 := by
    unfold wtS
    split
    · rename_i hv; exact (valid_okx hft hv).len.1
    · simp
  have hwi : inR .i64 ((wtS t).length : Int) := small_i64 (by omega) (by omega)
  have smu := sameImpl_calls u hu u hu
  simp -implicitDefEqProofs [row_len, take_row, pure_d, re_d, hf, go_sem, -List.set_cons_succ, -List.set_cons_zero]
  refine qcall_pure sm hf rfl ?_
  rcases hvu with ⟨rfl, rfl, h1, h2, h3⟩ | h1 | ⟨h1, h2⟩
  case' inl =>
    have h3' : ¬ (1000 : Int) < (txS v).length := by omega
    have h3 : ((txS v).length : Int) ≤ 1000 := by omega
    simp -implicitDefEqProofs [h1, h2, h3, h3', hxi, row_len, take_row, pure_d, re_d, hf, go_sem, -List.set_cons_succ, -List.set_cons_zero]
    refine qcall_pure smu hf rfl ?_
    simp -implicitDefEqProofs [h1, h2, h3, h3', row_len, take_row, pure_d, re_d, hf, go_sem, -List.set_cons_succ, -List.set_cons_zero]
  case' inr.inl => (cases g <;> simp -implicitDefEqProofs [h1, row_len, take_row, pure_d, re_d, hf, go_sem, -List.set_cons_succ, -List.set_cons_zero])
  case' inr.inr =>
    have h3 : ¬ ((txS u).length : Int) ≤ 1000 := by omega
    cases g <;> simp -implicitDefEqProofs [h2, h3, hxi, row_len, take_row, pure_d, re_d, hf, go_sem, -List.set_cons_succ, -List.set_cons_zero]
  all_goals
    refine call_same (wtI_calls t hft _ (hp_append hp _)) (by simp [Ob.re, C.re, re_d]) rfl hf ?_
    simp -implicitDefEqProofs [row_len, take_row, pure_d, re_d, hf, go_sem, -List.set_cons_succ, -List.set_cons_zero]
    refine call_same (readTermI_calls (wtS t) (by omega) _ (hp_append hp _)) (by simp [Ob.re, C.re, re_d]) (okA_re _ _) hf ?_
    obtain ⟨x, good, hq3, hfx, hk1, hk0⟩ := okA_split (okR (wtS t)) fun t h => (okR_ok h).2.2.2
    rw [hq3]
    cases b with
    | false => simp -implicitDefEqProofs [row_len, take_row, pure_d, re_d, hf, go_sem, -List.set_cons_succ, -List.set_cons_zero]
    | true =>
      have ho := okR_ok (hb1 rfl)
      have hval := ho.2.2.1
      rw [hval] at cv
      have hw : wtS t = t.wr := by simp [wtS, hval]
      simp -implicitDefEqProofs [row_len, take_row, pure_d, re_d, hf, go_sem, -List.set_cons_succ, -List.set_cons_zero]
      refine qcall_pure cv hf rfl ?_
      simp -implicitDefEqProofs [row_len, take_row, pure_d, re_d, hf, go_sem, -List.set_cons_succ, -List.set_cons_zero]
      refine call_same (wtI_calls t hft _ (hp_append hp _)) (by simp [Ob.re, C.re, re_d]) rfl hf ?_
      by_cases hl : (wtS t).length ≤ 1000
      · have hr : okR (wtS t) = some t := by rw [hw] at hl ⊢; exact write_read hft hval hl
        have hl' : ¬ (1000 : Int) < (wtS t).length := by omega
        obtain ⟨rfl, rfl⟩ : good = true ∧ x = t := by
          cases good with
          | true =>
            have := hk1 rfl
            rw [hr] at this
            cases this
            exact ⟨rfl, rfl⟩
          | false => rw [hr] at hq3; simp [okA] at hq3
        simp -implicitDefEqProofs [hwi, hl', row_len, take_row, pure_d, re_d, hf, go_sem, -List.set_cons_succ, -List.set_cons_zero]
        refine qcall_pure sm hf rfl ?_
        simp -implicitDefEqProofs [hwi, hl', row_len, take_row, pure_d, re_d, hf, go_sem, -List.set_cons_succ, -List.set_cons_zero]
      · have hl' : (1000 : Int) < (wtS t).length := by omega
        cases good <;> simp -implicitDefEqProofs [hwi, hl', row_len, take_row, pure_d, re_d, hf, go_sem, -List.set_cons_succ, -List.set_cons_zero]
theorem law_run7 {gs : List (Nat × Obj)} (hT : Lib2 gs) (rows : List (List D)) (hr : HasTys Tryz.prog (#[30, 30] : Array TypeId).toList rows) : ACalls Tryz.prog 7 (argsA Tryz.prog (#[30, 30] : Array TypeId).toList rows) (tabsH gs) (fun r H' => H' = tabsH gs ∧ r = .c (.d (.bool true))) := by
  obtain ⟨r, rs, rfl, h1, h2⟩ := hr.cons
  obtain ⟨r', rs', rfl, h3, h4⟩ := h2.cons
  obtain rfl := h4.nil
  obtain ⟨s, rfl, hs⟩ := bytes_ty h1
  obtain ⟨s', rfl, hs'⟩ := bytes_ty h3
  simp only [argsA, argA, Tryz.underlying30, List.headD_cons]
  obtain ⟨o, o2, rfl, q1, q2⟩ := hT
  exact rtLaw_calls s s' hs hs' _ ⟨o, o2, rfl, rfl, q1, q2⟩
namespace fnReadTerm
theorem own : ownKnob Tryz.prog.godebug = none := by kernel_rfl
theorem door_met (os : Os) (args : Array Value) : laidMetH Tryz.prog laid ((World.doorLaid Tryz.prog 400 os).forCall (fun _ _ => 0) ⟨#[], args, []⟩).memory :=
  laidMetH_of_parts3 (fuel := 8) (laidMet_of_run' 8 (by kernel_rfl) (by kernel_rfl)) (by kernel_rfl) (by kernel_rfl)
theorem contract (H : Type) (enc : TypeId × Value → H) (W : World) (base : Nat) (args : Array Value) (ds gs : List (DataW H)) (before : List MemPlace) (hL : laidMetH Tryz.prog laid W)
    (hval : ∀ (j : Nat) t v, Tryz.f7.params[j]? = some t → args[j]? = some v → Value.okWide Tryz.prog W .any base t v)
    (hW : DataW.Whole enc Tryz.prog Tryz.f7.params.toList Rows.fnReadTermSpec.vars false W args.toList ds gs before)
    (hw : (DataW.weightsEach Tryz.prog (Tryz.f7.params.toList ++ Rows.fnReadTermSpec.plain.varTypes Tryz.prog) (ds ++ gs)).all (· ≤ reachBytes) = true) :
    Calls Tryz.prog 7 args W fun e W' => ∃ v, e = .returned v ∧ Rows.fnReadTermSpec.post enc Tryz.prog Tryz.f7 false true false false W args v W' := by
  refine law_contract_tabs (T := Lib2) (L := [5, 30]) (tb := 4) (by kernel_rfl) (by kernel_rfl) (by kernel_rfl) rfl ?_ (by kernel_rfl) Tryz.underlying4 ?_ W base args ds gs before (lib_laid hL) hval hW hw
  · intro ds hl
    match ds, hl with
    | [d0, d1], _ => rfl
  · intro gs hT rows hr
    rw [Tryz.params7] at hr ⊢
    exact law_run7 hT rows hr

theorem lifted (os : Os) (started : os.Started) (H : Type) (enc : TypeId × Value → H) :
    ReturnsInHanded {} Tryz.checked os 7 .any (fun w args => (Rows.fnReadTermSpec.pre enc Tryz.prog Tryz.f7 [] false w args ∧ laidMetH Tryz.prog laid w) ∧ sizedMet enc Tryz.prog Tryz.f7 (OpenSpec.ofChange Rows.fnReadTermSpec) false w args)
      (Rows.fnReadTermSpec.post enc Tryz.prog Tryz.f7 false true false false) := by
  refine returnsInHanded_of_change_and (C := Tryz.checked) (X := fun w _ => laidMetH Tryz.prog laid w) (fun _ _ _ hh h => h.of_heap hh) own started (by kernel_rfl) Tryz.func7
    (ChangeSpec.witness_shaped (enc := enc) (C := Tryz.checked) (os := os) (X := fun w _ => laidMetH Tryz.prog laid w) false (World.doorLaid Tryz.prog 400 os) #[.slice none 0 0, .slice none 0 0] 8 rfl (World.shaped_of_RefB (by kernel_rfl) (by kernel_rfl)) (by kernel_rfl) (by kernel_rfl) (by kernel_rfl) (door_met os _)) ?_
  intro W base args ds gs before hval hW _ hw hL _
  exact contract H enc W base args ds gs before hL hval hW hw

theorem said : Rows.FnReadTermSaid :=
  OpenClaim.holds_of_wide 7 Tryz.f7 rfl rfl rfl rfl rfl rfl rfl ⟨rfl, rfl, rfl, rfl, rfl⟩ rfl rfl rfl rfl rfl (by kernel_rfl) Tryz.func7 (by kernel_rfl)
    (of_decide_eq_true (by kernel_rfl)) (by unfold Func.isWrapper; first | (rw [if_pos (by decide +kernel)]; kernel_rfl) | (rw [if_neg (by decide +kernel)]; exact ⟨rfl, rfl⟩))
    (fun os started H enc _ => lifted os started H enc)

theorem proved : Rows.FnReadTermCardSaid :=
  Claim7.holds_tied_plain_at .later [] [.data, .data, .data, .sentinel, .sentinel] true Rows.fnReadTermCard.stood.harness true
    said (fun _ h => by cases h) (by kernel_rfl) (fun _ h => by cases h) fnReadTerm_row_tie rfl ⟨rfl, rfl⟩ (by kernel_rfl) rfl
    (fun f fn hf hfn => by
      obtain rfl : f = 7 := Option.some.inj ((show Tryz.prog.funcNamed Rows.fnReadTermRow.func = some 7 by kernel_rfl).symm.trans hf) |>.symm
      obtain rfl : fn = Tryz.f7 := (Option.some.inj (Tryz.func7.symm.trans hfn)).symm
      exact ⟨by kernel_rfl, fun j t ht => by
        rw [Tryz.params7] at ht
        have hall : (Tryz.f7.params.toList.all fun u => !Tryz.prog.wantsStandIn u) = true := by kernel_rfl
        have hm : t ∈ Tryz.f7.params.toList := by
          rw [Tryz.params7]
          simpa using Array.mem_of_getElem? ht
        exact (show Tryz.prog.wantsStandIn t = false by simpa using List.all_eq_true.1 hall t hm)⟩)
    (by kernel_rfl)
end fnReadTerm

end Go.Proofs.YtgfmlifkhpjplaaGreatDoor
