/-
  The law FnAnswerSame holds: answers that are drawn are the same for the program as for the reference, both ways around, and an answer is the same as itself; programs that are drawn are pure for the one where they are for the other, and a pure one has no cuts and no tests of variables.
  Conditions: none.
-/
import Derived.Test.YtcapnainldlnjaaGreatBundD
open Go Go.AM Go.Proofs
attribute [local go_sem] kw ew sw tw a_ b_ c_ A.ok A.val d_ e_ f_ g_ h_ i_ j_ k_ l_ m_ unA unD n_ AOp.total o_ p_ q_ r_ s_ t_ u_ v_ A.thaw C.thaw A.fits As.fits C.fits evs oks w_ A.pure C.pure A.re C.re x_ y_ cut A.cells C.rows? z_ A_ B_ C_ a0_ b0_ D_ Ob.re Cs.fits E_ F_ G_ H_ I_ J_ K_ L_ M_ N_ O_ C.toD P_ Q_ R_ S_ T_ Obs.fits U_ eqD V_ W_ X_ Y_ Z_ oa oc ki
open Go Go.AM Go.Proofs
namespace Go.Proofs.YtcapnainldlnjaaGreat
open Go.ChangeShapes Go.WideShapes Go.ChangeAt Go.RowKit
set_option linter.unusedVariables false
set_option linter.unusedSimpArgs false
set_option maxRecDepth 100000
-- 4 loop.example/prologserver/spec.DrawAnswerSame params 1 ntmps 26
def ac4 : Cd := .seq (.region [oc 2 (.alloc [(.full [])]),
 oc 3 (.alloc [(.full [])])] [])
 (.seq (.region [oa 8 0,
 oc 9 (.call false 10 [(.t 8)]),
 oa 7 9,
 oc 10 (.extract 0 (.t 7)),
 oc 11 (.extract 1 (.t 7)),
 oc 5 (.alloc [(.full [])]),
 oa 4 10,
 ⟨none,.store 1 (.t 5) (.t 11),none⟩] [4,7,8,9,10,11])
 (.seq (.region [oa 12 0,
 oc 13 (.call false 11 [(.t 12)]),
 oa 6 13] [0,12,13])
 (.seq (.seq (.region [oa 14 6,
 oc 15 (.call false 12 [(.t 14),(ki 2)]),
 oc 16 (.bin .eql (.t 15) (ki 0))] [14,15])
 (.cond (.t 16)
 (.seq (.weak (.region [oc 17 (.loadI (some 1) (.t 5)),
 oc 18 (.loadI (some 1) (.t 5)),
 ⟨none,.store 1 (.t 2) (.t 17),none⟩,
 ⟨none,.store 1 (.t 3) (.t 18),none⟩] [5,6,16,17,18]))
 (.ret))
 (.skip)))
 (.seq (.weak (.region [oc 19 (.loadI (some 1) (.t 5)),
 oa 20 6,
 oa 21 6,
 oc 22 (.call false 14 [(.t 21),(ki 2)]),
 oc 23 (.call false 13 [(.t 20),(.t 22)]),
 oc 24 (.buildSlice 4 1 [(.int .i64 0),(.int .i64 0),(.str []),(.sl [])] [(0,(.t 23))]),
 oc 25 (.build [(.full [])] [(0,1,(.t 24))]),
 ⟨none,.store 1 (.t 2) (.t 19),none⟩,
 ⟨none,.store 1 (.t 3) (.t 25),none⟩] [5,6,16,19,20,21,22,23,24,25]))
 (.ret)))))
theorem ac4_ok : cFunc Tryz.prog [2000005,4000004,4000005] [(0,[],[]),(1,[4,7,8,9,10,11],[]),(2,[0,12,13],[]),(3,[14,15],[]),(4,[5,6,16,17,18],[0,1,2,3]),(5,[5,6,16,19,20,21,22,23,24,25],[0,1,2,3,4,5,6,7,8])] Tryz.f4 = some (ac4,[.cell 2 (some 1),.cell 3 (some 1)],26) := by kernel_rfl
-- 6 loop.example/prologserver/spec.DrawPureProgram params 1 ntmps 5
def ac6 : Cd := .seq (.region [oc 2 (.mv (.k (.c (.full []))))] [2])
 (.seq (.region [oa 3 0,
 oc 4 (.call false 17 [(.t 3)]),
 oa 2 4] [0,3,4])
 (.ret))
theorem ac6_ok : cFunc Tryz.prog [] [(0,[2],[]),(1,[0,3,4],[])] Tryz.f6 = some (ac6,[.tmp 2],5) := by kernel_rfl
-- 3 loop.example/prologserver/laws.FnAnswerSame params 2 ntmps 97
-- loop head live: [8,9,10]
-- loop head live: [8,9,10,11]
def ac3 : Cd := .seq (.region [oc 4 (.mv (.k (.c (.d (.bool false)))))] [4])
 (.seq (.seq (.region [oa 12 0,
 oc 13 (.len 1 (.t 12)),
 oc 14 (.bin .gtr (.t 13) (ki 1048576)),
 oa 15 14,
 ⟨some 16,.mv (.t 1),some (15,false)⟩,
 ⟨some 17,.len 1 (.t 16),some (15,false)⟩,
 ⟨some 18,.bin .gtr (.t 17) (ki 1048576),some (15,false)⟩,
 oc 19 (.pick (.t 15) (.k (.c (.d (.bool true)))) (.t 18))] [12,13,14,15,16,17,18])
 (.cond (.t 19)
 (.seq (.region [oc 4 (.mv (.k (.c (.d (.bool true)))))] [0,1,19])
 (.ret))
 (.skip)))
 (.seq (.region [oa 21 0,
 oc 22 (.call false 4 [(.t 21)]),
 oa 20 22,
 oc 23 (.extract 0 (.t 20)),
 oc 24 (.extract 1 (.t 20)),
 oc 5 (.alloc [(.full [])]),
 oc 6 (.alloc [(.full [])]),
 ⟨none,.store 1 (.t 5) (.t 23),none⟩,
 ⟨none,.store 1 (.t 6) (.t 24),none⟩] [0,4,19,20,21,22,23,24])
 (.seq (.region [oc 25 (.load (some 1) (.t 5)),
 oc 26 (.load (some 1) (.t 6)),
 oc 27 (.qcall 5 [(.t 25),(.t 26)]),
 oa 7 27] [25,26,27])
 (.seq (.region [oa 28 1,
 oc 29 (.call false 6 [(.t 28)]),
 oa 8 29] [1,28,29])
 (.seq (.region [oa 30 8,
 oc 31 (.qcall 7 [(.t 30)]),
 oa 9 31] [30,31])
 (.seq (.seq (.region [oa 32 7,
 oc 33 (.load (some 1) (.t 5)),
 oc 34 (.load (some 1) (.t 6)),
 oc 35 (.qcall 8 [(.t 33),(.t 34)]),
 oc 36 (.binB true (.t 32) (.t 35)),
 oa 37 36,
 ⟨some 38,.mv (.t 7),some (37,false)⟩,
 ⟨some 39,.load (some 1) (.t 6),some (37,false)⟩,
 ⟨some 40,.load (some 1) (.t 5),some (37,false)⟩,
 ⟨some 41,.qcall 5 [(.t 39),(.t 40)],some (37,false)⟩,
 ⟨some 42,.binB true (.t 38) (.t 41),some (37,false)⟩,
 oc 43 (.pick (.t 37) (.k (.c (.d (.bool true)))) (.t 42)),
 oa 44 43,
 ⟨some 45,.load (some 1) (.t 5),some (44,false)⟩,
 ⟨some 46,.load (some 1) (.t 5),some (44,false)⟩,
 ⟨some 47,.qcall 5 [(.t 45),(.t 46)],some (44,false)⟩,
 ⟨some 48,.un .not (.t 47),some (44,false)⟩,
 oc 49 (.pick (.t 44) (.k (.c (.d (.bool true)))) (.t 48)),
 oa 50 49,
 ⟨some 51,.mv (.t 9),some (50,false)⟩,
 ⟨some 52,.mv (.t 8),some (50,false)⟩,
 ⟨some 53,.qcall 9 [(.t 52)],some (50,false)⟩,
 ⟨some 54,.binB true (.t 51) (.t 53),some (50,false)⟩,
 oc 55 (.pick (.t 50) (.k (.c (.d (.bool true)))) (.t 54))] [5,6,7,32,33,34,35,36,37,38,39,40,41,42,43,44,45,46,47,48,49,50,51,52,53,54])
 (.cond (.t 55)
 (.seq (.region [oc 4 (.mv (.k (.c (.d (.bool false)))))] [8,9,55])
 (.ret))
 (.skip)))
 (.seq (.seq (.region [oc 10 (.mv (ki 0))] [4,55])
 (.block 0 (.loop (.seq (.seq (.region [oa 56 10,
 oa 57 8,
 oc 58 (.len 1 (.t 57)),
 oc 59 (.bin .lss (.t 56) (.t 58)),
 oa 60 59,
 ⟨some 61,.mv (.t 9),some (60,true)⟩,
 oc 62 (.pick (.t 60) (.t 61) (.k (.c (.d (.bool false)))))] [56,57,58,59,60,61])
 (.cond (.t 62)
 (.skip)
 (.exit 0)))
 (.seq (.block 1 (.seq (.region [oc 11 (.mv (ki 0))] [62])
 (.block 2 (.loop (.seq (.seq (.region [oa 65 11,
 oa 66 8,
 oa 67 10,
 oc 68 (.indexAddr 5 (.t 66) (.t 67)),
 oc 69 (.fieldAddr 4 (.t 68)),
 oc 70 (.load none (.t 69)),
 oc 71 (.len 1 (.t 70)),
 oc 72 (.bin .lss (.t 65) (.t 71))] [65,66,67,68,69,70,71])
 (.cond (.t 72)
 (.skip)
 (.exit 2)))
 (.seq (.block 3 (.seq (.region [oa 75 8,
 oa 76 10,
 oc 77 (.indexAddr 5 (.t 75) (.t 76)),
 oc 78 (.fieldAddr 4 (.t 77)),
 oc 79 (.load none (.t 78)),
 oa 80 11,
 oc 81 (.indexAddr 4 (.t 79) (.t 80)),
 oc 82 (.fieldAddr 2 (.t 81)),
 oc 83 (.load none (.t 82)),
 oc 84 (.bin .eql (.t 83) (.k (.c (.d (.str [33]))))),
 oa 85 84,
 ⟨some 86,.mv (.t 8),some (85,false)⟩,
 ⟨some 87,.mv (.t 10),some (85,false)⟩,
 ⟨some 88,.indexAddr 5 (.t 86) (.t 87),some (85,false)⟩,
 ⟨some 89,.fieldAddr 4 (.t 88),some (85,false)⟩,
 ⟨some 90,.load none (.t 89),some (85,false)⟩,
 ⟨some 91,.mv (.t 11),some (85,false)⟩,
 ⟨some 92,.indexAddr 4 (.t 90) (.t 91),some (85,false)⟩,
 ⟨some 93,.fieldAddr 2 (.t 92),some (85,false)⟩,
 ⟨some 94,.load none (.t 93),some (85,false)⟩,
 ⟨some 95,.bin .eql (.t 94) (.k (.c (.d (.str [118,97,114])))),some (85,false)⟩,
 oc 96 (.pick (.t 85) (.k (.c (.d (.bool true)))) (.t 95))] [72,75,76,77,78,79,80,81,82,83,84,85,86,87,88,89,90,91,92,93,94,95])
 (.cond (.t 96)
 (.seq (.region [oc 4 (.mv (.k (.c (.d (.bool false)))))] [8,9,10,11,96])
 (.ret))
 (.skip))))
 (.region [oa 73 11,
 oc 74 (.bin .add (.t 73) (ki 1)),
 oa 11 74] [4,73,74,96])))))))
 (.region [oa 63 10,
 oc 64 (.bin .add (.t 63) (ki 1)),
 oa 10 64] [63,64]))))))
 (.seq (.region [oc 4 (.mv (.k (.c (.d (.bool true)))))] [])
 (.ret)))))))))
theorem ac3_ok : cFunc Tryz.prog [1000005,1000007,1000008,1000009] [(0,[4],[]),(1,[12,13,14,15,16,17,18],[]),(2,[0,1,19],[]),(3,[0,4,19,20,21,22,23,24],[]),(4,[25,26,27],[]),(5,[1,28,29],[]),(6,[30,31],[]),(7,[5,6,7,32,33,34,35,36,37,38,39,40,41,42,43,44,45,46,47,48,49,50,51,52,53,54],[]),(8,[8,9,55],[]),(9,[4,55],[]),(10,[56,57,58,59,60,61],[]),(12,[62],[]),(13,[65,66,67,68,69,70,71],[]),(15,[72,75,76,77,78,79,80,81,82,83,84,85,86,87,88,89,90,91,92,93,94,95],[]),(16,[8,9,10,11,96],[]),(14,[4,73,74,96],[]),(11,[63,64],[]),(17,[],[])] Tryz.f3 = some (ac3,[.tmp 4],97) := by kernel_rfl
/-- two answers of terms that fit -/
def TwoR (r : A) : Prop := ∃ a b : List Tm, r = .tup [.agg [.d (.sl (a.map Tm.row))], .agg [.d (.sl (b.map Tm.row))]] ∧ Fits a ∧ Fits b
theorem TwoR.re {n : Nat} {r : A} (h : TwoR r) : A.re n r = r := by
  obtain ⟨a, b, rfl, _⟩ := h
  rfl
theorem le_ans1 {sl : List A} {ext : Heap} {o1 o2 x : Ob} (row : List D) (h1 : Sl.le sl (sl.set 6 .u)) (h2 : As.lo ext.length 3 (sl.set 6 .u)) (h3 : Obs.lo ext.length 3 [o1, o2, .cells (row.map .d)]) (h4 : (sl.set 6 .u)[5]? = some (.c (.ptr (.l 2) 0)))
    (h5 : As.lo ext.length 2 ((sl.set 6 .u).set 5 .u)) (h6 : Obs.lo ext.length 2 [o1, o2]) : St.le ⟨sl, ext, [o1, o2, .cells (row.map .d), x]⟩ ⟨(sl.set 6 .u).set 5 (.c (.el row 0)), ext, [o1, o2]⟩ :=
  St.le_trans (St.le_cut (loc' := [o1, o2, .cells (row.map .d)]) [x] h1 h2 rfl h3) (St.le_el (loc := [o1, o2]) 5 h4 h5 h6)
theorem le_ans2 {sl sl' : List A} {ext : Heap} {o1 o2 x : Ob} (row : List D) (h1 : SlR [0, 1, 3, 2] sl sl') (h2 : As.lo ext.length 4 sl') (h3 : Obs.lo ext.length 4 [o1, o2, x, .cells (row.map .d)]) (hr1 : o1.ren [0, 1, 3, 2] = o1) (hr2 : o2.ren [0, 1, 3, 2] = o2) (hr3 : x.ren [0, 1, 3, 2] = x)
    (hr4 : (Ob.cells (row.map .d)).ren [0, 1, 3, 2] = .cells (row.map .d)) (h4 : sl'[5]? = some (.c (.ptr (.l 3) 0))) (h5 : As.lo ext.length 3 (sl'.set 5 .u)) (h6 : Obs.lo ext.length 3 [o1, o2, x]) :
    St.le ⟨sl, ext, [o1, o2, .cells (row.map .d), x]⟩ ⟨sl'.set 5 (.c (.el row 0)), ext, [o1, o2, x]⟩ := by
  refine St.le_trans (St.le_keep (loc' := [o1, o2, x, .cells (row.map .d)]) [0, 1, 3, 2] (by decide) (by simp) rfl h1 h2 (fun j o ho => ?_) h3) (St.le_el (loc := [o1, o2, x]) 5 h4 h5 h6)
  match j, ho with
  | 0, ho => cases ho; exact ⟨_, rfl, by rw [hr1]; exact .refl _⟩
  | 1, ho => cases ho; exact ⟨_, rfl, by rw [hr2]; exact .refl _⟩
  | 2, ho => cases ho; exact ⟨_, rfl, by rw [hr3]; exact .refl _⟩
  | 3, ho => cases ho; exact ⟨_, rfl, by rw [hr4]; exact .refl _⟩
theorem drawAs_calls (c : List UInt8) (hc : c.length ≤ 1048576) (H : Heap) : ACalls Tryz.prog 4 [.c (.d (.sl (bytesRows c)))] H (fun r H' => H' = H ∧ TwoR r) := by
  refine acalls Tryz.func4 (by kernel_rfl) ac4_ok fun hf => ?_
  simp -implicitDefEqProofs [ac4, hf, go_sem, -List.set_cons_succ, -List.set_cons_zero]
  refine call_some (Sv.drawAg_calls c hc _) (by first | rfl | simp [Ob.re, C.re, re_d]) (fun r hr => hr.re) hf ?_
  rintro r ⟨q, a, rfl, ha, haf⟩
  have hFa : Fits a := ⟨by omega, haf⟩
  simp -implicitDefEqProofs [hf, go_sem, -List.set_cons_succ, -List.set_cons_zero]
  refine (open_calls c hc _).mono fun r H' ⟨h1, c', hc', h2⟩ => ⟨H, [.cells [.full []], .cells [.full []], .cells [.d (.sl (a.map Tm.row))], Rd c' 0], .c (.ptr (.l 3) 0), by rw [h2]; simp [Rd, Ob.re, C.re, re_d], rfl, by simp, hf, by rw [h1]; simp [A.re, C.re, Ref.re], ?_⟩
  simp -implicitDefEqProofs [hf, go_sem, -List.set_cons_succ, -List.set_cons_zero]
  refine call_drawL (j := 3) (pick_draws 2 (by omega)) hc' (by omega) (by omega) rfl (by simp [Rd, Ob.re, C.re, re_d]) (fun r => IntIn.re) hf ?_
  rintro _ p1 ⟨m, rfl, m0, m1⟩ h3 h4
  simp -implicitDefEqProofs [hf, go_sem, -List.set_cons_succ, -List.set_cons_zero]
  have hrow : [C.d (.sl (a.map Tm.row))] = [D.sl (a.map Tm.row)].map C.d := rfl
  refine ⟨fun _ => ?_, fun _ => ?_⟩
  · rw [hrow]
    refine weak_le (le_ans1 [.sl (a.map Tm.row)] (by simp [Sl.le, A.le_refl_iff, A.le_u_iff, As.lo, A.lo, C.lo, Ref.lo, Cs.lo, Obs.lo, Ob.lo, setAll, and_true, true_and, List.length_nil, List.length_cons]) (by simp [Sl.le, A.le_refl_iff, A.le_u_iff, As.lo, A.lo, C.lo, Ref.lo, Cs.lo, Obs.lo, Ob.lo, setAll, and_true, true_and, List.length_nil, List.length_cons]) (by simp [Sl.le, A.le_refl_iff, A.le_u_iff, As.lo, A.lo, C.lo, Ref.lo, Cs.lo, Obs.lo, Ob.lo, setAll, and_true, true_and, List.length_nil, List.length_cons]) rfl (by simp [Sl.le, A.le_refl_iff, A.le_u_iff, As.lo, A.lo, C.lo, Ref.lo, Cs.lo, Obs.lo, Ob.lo, setAll, and_true, true_and, List.length_nil, List.length_cons]) (by simp [Sl.le, A.le_refl_iff, A.le_u_iff, As.lo, A.lo, C.lo, Ref.lo, Cs.lo, Obs.lo, Ob.lo, setAll, and_true, true_and, List.length_nil, List.length_cons])) ?_
    simp -implicitDefEqProofs [hf, go_sem, -List.set_cons_succ, -List.set_cons_zero]
    exact ⟨a, a, rfl, hFa, hFa⟩
  · rw [hrow]
    refine weak_le (le_ans2 (sl' := [.u, .u, .c (.ptr (.l 0) 0), .c (.ptr (.l 1) 0), .u, .c (.ptr (.l 3) 0), .c (.ptr (.l 2) 0)] ++ List.replicate 19 .u) [.sl (a.map Tm.row)] ?_ (by simp [Sl.le, A.le_refl_iff, A.le_u_iff, As.lo, A.lo, C.lo, Ref.lo, Cs.lo, Obs.lo, Ob.lo, setAll, and_true, true_and, List.length_nil, List.length_cons]) (by simp [Sl.le, A.le_refl_iff, A.le_u_iff, As.lo, A.lo, C.lo, Ref.lo, Cs.lo, Obs.lo, Ob.lo, setAll, and_true, true_and, List.length_nil, List.length_cons, Rd]) rfl rfl rfl rfl rfl (by simp [Sl.le, A.le_refl_iff, A.le_u_iff, As.lo, A.lo, C.lo, Ref.lo, Cs.lo, Obs.lo, Ob.lo, setAll, and_true, true_and, List.length_nil, List.length_cons]) (by simp [Sl.le, A.le_refl_iff, A.le_u_iff, As.lo, A.lo, C.lo, Ref.lo, Cs.lo, Obs.lo, Ob.lo, setAll, and_true, true_and, List.length_nil, List.length_cons, Rd])) ?_
    · simp [SlR, A.ren, C.ren, Ref.ren, Sl.le, A.le_refl_iff, A.le_u_iff, As.lo, A.lo, C.lo, Ref.lo, Cs.lo, Obs.lo, Ob.lo, setAll, and_true, true_and, List.length_nil, List.length_cons]
    · simp -implicitDefEqProofs [hf, go_sem, -List.set_cons_succ, -List.set_cons_zero]
      refine call_drawL (j := 2) (l1Draw_draws 2 (by omega)) hc' (by omega) (by omega) rfl (by simp [Rd, Ob.re, C.re, re_d]) (fun r => TmR.re) hf ?_
      rintro _ p2 ⟨t, rfl, ht⟩ h5 h6
      simp -implicitDefEqProofs [row_len, take_row, toDs_map, pure_d, re_d, hf, go_sem, -List.set_cons_succ, -List.set_cons_zero]
      refine call_drawL (j := 2) (l1Mutate_draws t ht) hc' (by omega) (by omega) rfl (by simp [Rd, Ob.re, C.re, re_d]) (fun r => TmR.re) hf ?_
      rintro _ p3 ⟨u, rfl, hu⟩ h7 h8
      simp -implicitDefEqProofs [row_len, take_row, toDs_map, pure_d, re_d, hf, go_sem, -List.set_cons_succ, -List.set_cons_zero]
      exact ⟨a, [u], rfl, hFa, ⟨by simp, by simpa using hu⟩⟩
theorem drawPp_calls (c : List UInt8) (hc : c.length ≤ 1048576) (H : Heap) : ACalls Tryz.prog 6 [.c (.d (.sl (bytesRows c)))] H (fun r H' => H' = H ∧ Sv.ClsR 21 r) := by
  refine acalls Tryz.func6 (by kernel_rfl) ac6_ok fun hf => ?_
  simp -implicitDefEqProofs [ac6, hf, go_sem, -List.set_cons_succ, -List.set_cons_zero]
  refine call_some (Sv.drawPv_calls c hc _) (by first | rfl | simp [Ob.re, C.re, re_d]) (fun r hr => hr.re) hf ?_
  rintro r ⟨p, rfl, hp, hpf⟩
  simp -implicitDefEqProofs [hf, go_sem, -List.set_cons_succ, -List.set_cons_zero]
  exact ⟨p, rfl, hp, hpf⟩
/-- a goal of a pure program is no cut and no test of a variable -/
theorem pure_name {t : Tm} (h : t.pureB = true) (hb : Sv.BV t) : t.s ≠ [33] ∧ t.s ≠ [118, 97, 114] := by
  obtain ⟨k, n, s, l⟩ := t
  simp only [Tm.s]
  refine ⟨fun e => ?_, fun e => ?_⟩
  · subst e
    simp [Tm.pureB, Tm.plain, Tm.s, lettersB, pureNames] at h
    exact absurd h.2.1 (by decide)
  · subst e
    have hl : l.length = 1 := hb rfl
    simp [Tm.pureB, Tm.plain, Tm.s, Tm.kids, builtB, ops3, hl, pureNames] at h
theorem asmLaw_calls (a b : List UInt8) (ha : a.length ≤ reachBytes) (hb : b.length ≤ reachBytes) : ACalls Tryz.prog 3 [.c (.d (.sl (bytesRows a))), .c (.d (.sl (bytesRows b)))] [] (fun r _ => r = .c (.d (.bool true))) := by
  refine acalls Tryz.func3 (by kernel_rfl) ac3_ok fun hf => ?_
  have hla := reach_i64 ha
  have hlb := reach_i64 hb
  simp -implicitDefEqProofs [ac3, hla, hlb, bytesRows_len, go_sem, -List.set_cons_succ, -List.set_cons_zero]
  intro hle hle'
  have hle : a.length ≤ 1048576 := by omega
  have hle' : b.length ≤ 1048576 := by omega
  refine call_some (drawAs_calls a hle _) (by simp) (fun r => TwoR.re) hf ?_
  rintro _ ⟨x, y, rfl, hx, hy⟩
  simp -implicitDefEqProofs [hf, go_sem, -List.set_cons_succ, -List.set_cons_zero]
  refine qcall_pure (asImpl_calls x y hx hy) hf rfl ?_
  simp -implicitDefEqProofs [hf, go_sem, -List.set_cons_succ, -List.set_cons_zero]
  refine call_some (drawPp_calls b hle' _) (by first | rfl | simp [Ob.re, C.re, re_d]) (fun r => Sv.ClsR.re) hf ?_
  rintro _ ⟨p, rfl, hp, hpf⟩
  have hFp : FitsC p := ⟨by omega, fun c hc => (hpf c hc).1⟩
  simp -implicitDefEqProofs [hf, go_sem, -List.set_cons_succ, -List.set_cons_zero]
  refine qcall_pure (pureImpl_calls p hFp) hf rfl ?_
  simp -implicitDefEqProofs [hf, go_sem, -List.set_cons_succ, -List.set_cons_zero]
  refine qcall_pure (asSpec_calls x y hx hy) hf rfl ?_
  simp -implicitDefEqProofs [hf, go_sem, -List.set_cons_succ, -List.set_cons_zero]
  refine qcall_pure (asImpl_calls y x hy hx) hf rfl ?_
  have hsym : decide (y = x) = decide (x = y) := decide_eq_decide.2 eq_comm
  simp -implicitDefEqProofs [hsym, hf, go_sem, -List.set_cons_succ, -List.set_cons_zero]
  refine qcall_pure (asImpl_calls x x hx hx) hf rfl ?_
  simp -implicitDefEqProofs [hf, go_sem, -List.set_cons_succ, -List.set_cons_zero]
  refine qcall_pure (pureSpec_calls p hFp) hf rfl ?_
  simp -implicitDefEqProofs [hf, go_sem, -List.set_cons_succ, -List.set_cons_zero]
  have hpi : inR .i64 (p.length : Int) := small_i64 (by omega) (by omega)
  refine loop_set (σ := Nat) (fun i => [(10, .c (.d (.int .i64 i)))]) (fun _ => []) (fun _ => [.cells [.d (.sl (x.map Tm.row))], .cells [.d (.sl (y.map Tm.row))]]) (fun i => i ≤ p.length) (fun i => p.length - i) 0 rfl (Nat.zero_le _) ?_
  intro i hi
  simp -implicitDefEqProofs [setAll, hpi, hf, go_sem, -List.set_cons_succ, -List.set_cons_zero]
  intro hlt hpure
  have hadd : inR .i64 ((i : Int) + 1) := small_i64 (by omega) (by omega)
  obtain ⟨⟨hch, hcl, hcb⟩, hcv⟩ := hpf p[i] (List.getElem_mem hlt)
  have hbi : inR .i64 (p[i].body.length : Int) := small_i64 (by omega) (by omega)
  have hnames : ∀ t ∈ p[i].body, t.s ≠ [33] ∧ t.s ≠ [118, 97, 114] := fun t ht => by
    simp only [pureP, Bool.and_eq_true, List.all_eq_true] at hpure
    have h1 := hpure.2 _ (List.getElem_mem hlt)
    simp only [Cl.pureB, List.all_eq_true] at h1
    exact pure_name (h1 t ht) (hcv t ht)
  refine loop_set (σ := Nat) (fun k => [(11, .c (.d (.int .i64 k)))]) (fun _ => []) (fun _ => [.cells [.d (.sl (x.map Tm.row))], .cells [.d (.sl (y.map Tm.row))]]) (fun k => k ≤ p[i].body.length) (fun k => p[i].body.length - k) 0 rfl (Nat.zero_le _) ?_
  intro k hk
  simp -implicitDefEqProofs [setAll, go_sem, -List.set_cons_succ, -List.set_cons_zero]
  refine row_of hlt (crow_len _) ?_
  simp -implicitDefEqProofs [Cl.row, hbi, go_sem, -List.set_cons_succ, -List.set_cons_zero]
  refine ⟨fun hklt => ?_, fun hkge => ?_⟩
  · obtain ⟨n1, n2⟩ := hnames _ (List.getElem_mem hklt)
    have hadd2 : inR .i64 ((k : Int) + 1) := small_i64 (by omega) (by omega)
    refine row_of hlt (crow_len _) ?_
    simp -implicitDefEqProofs [Cl.row, go_sem, -List.set_cons_succ, -List.set_cons_zero]
    refine row_of hklt (row_len _) ?_
    simp -implicitDefEqProofs [row_eq, n1, go_sem, -List.set_cons_succ, -List.set_cons_zero]
    refine row_g hlt (crow_len _) ?_
    simp -implicitDefEqProofs [Cl.row, go_sem, -List.set_cons_succ, -List.set_cons_zero]
    refine row_g hklt (row_len _) ?_
    simp -implicitDefEqProofs [row_eq, n1, n2, hadd2, go_sem, -List.set_cons_succ, -List.set_cons_zero]
    exact loop_back (k + 1) (by simp [setAll]) hklt (by show p[i].body.length - (k + 1) < p[i].body.length - k; omega)
  · refine ⟨hadd, ?_⟩
    exact loop_less (i + 1) (St.le_slots (by simp [setAll, Sl.le, A.le_refl_iff, A.le_u_iff, As.lo, A.lo, C.lo, Ref.lo, Cs.lo, Obs.lo, Ob.lo, setAll, and_true, true_and, List.length_nil, List.length_cons])) hlt (by show p.length - (i + 1) < p.length - i; omega)
theorem law_run3 (rows : List (List D)) (hr : HasTys Tryz.prog (#[22, 22] : Array TypeId).toList rows) : ACalls Tryz.prog 3 (argsA Tryz.prog (#[22, 22] : Array TypeId).toList rows) [] (fun r _ => r = .c (.d (.bool true))) := by
  obtain ⟨r, rs, rfl, h1, h2⟩ := hr.cons
  obtain ⟨r', rs, rfl, h2', h3⟩ := h2.cons
  obtain rfl := h3.nil
  obtain ⟨s, rfl, hs⟩ := bytes_ty h1
  obtain ⟨s', rfl, hs'⟩ := bytes_ty h2'
  simp only [argsA, argA, Tryz.underlying22, List.headD_cons]
  exact asmLaw_calls s s' hs hs'
namespace fnAnswerSame
theorem own : ownKnob Tryz.prog.godebug = none := by kernel_rfl
theorem contract (H : Type) (enc : TypeId × Value → H) (W : World) (base : Nat) (args : Array Value) (ds gs : List (DataW H)) (before : List MemPlace)
    (hval : ∀ (j : Nat) t v, Tryz.f3.params[j]? = some t → args[j]? = some v → Value.okWide Tryz.prog W .any base t v)
    (hW : DataW.Whole enc Tryz.prog Tryz.f3.params.toList Rows.fnAnswerSameSpec.vars false W args.toList ds gs before)
    (hw : (DataW.weightsEach Tryz.prog (Tryz.f3.params.toList ++ Rows.fnAnswerSameSpec.plain.varTypes Tryz.prog) (ds ++ gs)).all (· ≤ reachBytes) = true) :
    Calls Tryz.prog 3 args W fun e W' => ∃ v, e = .returned v ∧ Rows.fnAnswerSameSpec.post enc Tryz.prog Tryz.f3 false true false false W args v W' := by
  refine law_contract (L := [5, 22]) (tb := 4) (by kernel_rfl) (by kernel_rfl) (by kernel_rfl) rfl ?_ (by kernel_rfl) Tryz.underlying4 ?_ W base args ds gs before hval hW hw
  · intro ds hl
    match ds, hl with
    | [d0, d1], _ => rfl
  · intro rows hr
    rw [Tryz.params3] at hr ⊢
    exact law_run3 rows hr

theorem lifted (os : Os) (started : os.Started) (H : Type) (enc : TypeId × Value → H) :
    ReturnsInHanded {} Tryz.checked os 3 .any (Rows.fnAnswerSameSpec.pre6 enc Tryz.prog Tryz.f3 Rows.fnAnswerSameRow.domain false) (Rows.fnAnswerSameSpec.post enc Tryz.prog Tryz.f3 false true false false) := by
  refine returnsInHanded_of_change_sized (C := Tryz.checked) own started (by kernel_rfl) Tryz.func3
    (ChangeSpec.witness6 (enc := enc) (C := Tryz.checked) false ⟨#[], #[.slice none 0 0, .slice none 0 0], []⟩ 8 (by kernel_rfl) (by kernel_rfl) (by kernel_rfl) (by kernel_rfl)) ?_
  intro W base args ds gs before hval hW _ hw _
  exact contract H enc W base args ds gs before hval hW hw

theorem proved : Rows.FnAnswerSameSaid :=
  OpenClaim.holds_of_wide 3 Tryz.f3 rfl rfl rfl rfl rfl rfl rfl ⟨rfl, rfl, rfl, rfl, rfl⟩ rfl rfl rfl rfl rfl (by kernel_rfl) Tryz.func3 (by kernel_rfl)
    (of_decide_eq_true (by kernel_rfl)) (by unfold Func.isWrapper; first | (rw [if_pos (by decide +kernel)]; kernel_rfl) | (rw [if_neg (by decide +kernel)]; exact ⟨rfl, rfl⟩))
    (fun os started H enc _ => lifted os started H enc)
end fnAnswerSame

end Go.Proofs.YtcapnainldlnjaaGreat
