/-
  The card FnCodeText holds: instructions are read back from their texts.
  Conditions: none.
-/
import Derived.Test.YtbblefjbgbocoaaGreatDoorBundD
import Derived.Test.YtbblefjbgbocoaaGreatDoorCards
import Derived.Test.YtbblefjbgbocoaaGreatDoorTie
import Derived.ProofKit
import Derived.OpenShut
import Derived.Stop.Joined
import Derived.SevenTiedAt
import Derived.LaidLaws
import Derived.Lay
open Go Go.AM Go.Proofs
attribute [local go_sem] kw ew sw tw a_ b_ c_ A.ok A.val d_ e_ f_ g_ h_ i_ j_ k_ l_ m_ unA unD n_ AOp.total o_ p_ q_ r_ s_ t_ u_ v_ A.thaw C.thaw A.fits As.fits C.fits evs oks w_ A.pure C.pure A.re C.re x_ y_ cut A.cells C.rows? z_ A_ B_ C_ a0_ b0_ D_ Ob.re Cs.fits E_ F_ G_ H_ I_ J_ K_ L_ M_ N_ O_ C.toD P_ Q_ R_ S_ T_ Obs.fits U_ eqD V_ W_ X_ Y_ Z_
open Go Go.AM Go.Proofs
namespace Go.Proofs.YtbblefjbgbocoaaGreatDoor
open Go.ChangeShapes Go.WideShapes Go.ChangeAt Go.WideElems Go.RowKit
set_option linter.unusedVariables false
set_option linter.unusedSimpArgs false
set_option maxRecDepth 100000
-- 3 loop.example/prologserver/laws.FnCodeText params 2 ntmps 78
def ac3 : Cd := .seq (.region [⟨(some 4),.mv (.k (.c (.d (.bool false)))),none⟩] [4])
 (.seq (.seq (.region [⟨(some 14),.mv (.t 0),none⟩,
 ⟨(some 15),.len 1 (.t 14),none⟩,
 ⟨(some 16),.bin .gtr (.t 15) (.k (.c (.d (.int .i64 1048576)))),none⟩,
 ⟨(some 17),.mv (.t 16),none⟩,
 ⟨(some 18),.mv (.t 1),some (17,false)⟩,
 ⟨(some 19),.len 1 (.t 18),some (17,false)⟩,
 ⟨(some 20),.bin .gtr (.t 19) (.k (.c (.d (.int .i64 1048576)))),some (17,false)⟩,
 ⟨(some 21),.pick (.t 17) (.k (.c (.d (.bool true)))) (.t 20),none⟩] [14,15,16,17,18,19,20])
 (.cond (.t 21)
 (.seq (.region [⟨(some 4),.mv (.k (.c (.d (.bool true)))),none⟩] [0,1,21])
 (.ret))
 (.skip)))
 (.seq (.region [⟨(some 22),.mv (.t 0),none⟩,
 ⟨(some 23),.call false 8 [(.t 22)],none⟩,
 ⟨(some 5),.alloc [(.d (.int .i64 0)),(.d (.int .i64 0)),(.d (.int .i64 0)),(.d (.str []))],none⟩,
 ⟨none,.store 4 (.t 5) (.t 23),none⟩] [0,4,21,22,23])
 (.seq (.region [⟨(some 24),.load (some 4) (.t 5),none⟩,
 ⟨(some 25),.qcall 9 [(.t 24)],none⟩,
 ⟨(some 6),.mv (.t 25),none⟩] [24,25])
 (.seq (.region [⟨(some 27),.mv (.t 6),none⟩,
 ⟨(some 28),.call false 10 [(.t 27)],none⟩,
 ⟨(some 26),.mv (.t 28),none⟩,
 ⟨(some 29),.extract 0 (.t 26),none⟩,
 ⟨(some 30),.extract 1 (.t 26),none⟩,
 ⟨(some 7),.alloc [(.d (.int .i64 0)),(.d (.int .i64 0)),(.d (.int .i64 0)),(.d (.str []))],none⟩,
 ⟨none,.store 4 (.t 7) (.t 29),none⟩,
 ⟨(some 8),.mv (.t 30),none⟩] [26,27,28,29,30])
 (.seq (.seq (.region [⟨(some 31),.mv (.t 6),none⟩,
 ⟨(some 32),.load (some 4) (.t 5),none⟩,
 ⟨(some 33),.qcall 11 [(.t 32)],none⟩,
 ⟨(some 34),.bin .neq (.t 31) (.t 33),none⟩,
 ⟨(some 35),.mv (.t 34),none⟩,
 ⟨(some 36),.mv (.t 6),some (35,false)⟩,
 ⟨(some 37),.bin .neq (.t 36) (.k (.c (.d (.str [])))),some (35,false)⟩,
 ⟨(some 38),.mv (.t 37),some (35,false)⟩,
 ⟨(some 39),.mv (.t 8),some (38,true)⟩,
 ⟨(some 40),.un .not (.t 39),some (38,true)⟩,
 ⟨(some 41),.mv (.t 40),some (38,true)⟩,
 ⟨(some 42),.load (some 4) (.t 7),some (41,false)⟩,
 ⟨(some 43),.load (some 4) (.t 5),some (41,false)⟩,
 ⟨(some 44),.eqAgg true [.int,.int,.int,.str] (.t 42) (.t 43),some (41,false)⟩,
 ⟨(some 45),.pick (.t 41) (.k (.c (.d (.bool true)))) (.t 44),some (38,true)⟩,
 ⟨(some 46),.pick (.t 38) (.t 45) (.k (.c (.d (.bool false)))),some (35,false)⟩,
 ⟨(some 47),.pick (.t 35) (.k (.c (.d (.bool true)))) (.t 46),none⟩] [5,6,7,8,31,32,33,34,35,36,37,38,39,40,41,42,43,44,45,46])
 (.cond (.t 47)
 (.seq (.region [⟨(some 4),.mv (.k (.c (.d (.bool false)))),none⟩] [1,47])
 (.ret))
 (.skip)))
 (.seq (.region [⟨(some 48),.mv (.t 1),none⟩,
 ⟨(some 49),.call false 12 [(.t 48)],none⟩,
 ⟨(some 9),.mv (.t 49),none⟩] [1,4,47,48,49])
 (.seq (.region [⟨(some 51),.mv (.t 9),none⟩,
 ⟨(some 52),.call false 10 [(.t 51)],none⟩,
 ⟨(some 50),.mv (.t 52),none⟩,
 ⟨(some 53),.extract 0 (.t 50),none⟩,
 ⟨(some 54),.extract 1 (.t 50),none⟩,
 ⟨(some 10),.alloc [(.d (.int .i64 0)),(.d (.int .i64 0)),(.d (.int .i64 0)),(.d (.str []))],none⟩,
 ⟨none,.store 4 (.t 10) (.t 53),none⟩,
 ⟨(some 11),.mv (.t 54),none⟩] [50,51,52,53,54])
 (.seq (.region [⟨(some 56),.mv (.t 9),none⟩,
 ⟨(some 57),.call false 13 [(.t 56)],none⟩,
 ⟨(some 55),.mv (.t 57),none⟩,
 ⟨(some 58),.extract 0 (.t 55),none⟩,
 ⟨(some 59),.extract 1 (.t 55),none⟩,
 ⟨(some 12),.alloc [(.d (.int .i64 0)),(.d (.int .i64 0)),(.d (.int .i64 0)),(.d (.str []))],none⟩,
 ⟨none,.store 4 (.t 12) (.t 58),none⟩,
 ⟨(some 13),.mv (.t 59),none⟩] [55,56,57,58,59])
 (.seq (.region [⟨(some 60),.mv (.t 11),none⟩,
 ⟨(some 61),.mv (.t 13),none⟩,
 ⟨(some 62),.binB false (.t 60) (.t 61),none⟩,
 ⟨(some 63),.mv (.t 62),none⟩,
 ⟨(some 64),.load (some 4) (.t 10),some (63,true)⟩,
 ⟨(some 65),.load (some 4) (.t 12),some (63,true)⟩,
 ⟨(some 66),.eqAgg false [.int,.int,.int,.str] (.t 64) (.t 65),some (63,true)⟩,
 ⟨(some 67),.pick (.t 63) (.t 66) (.k (.c (.d (.bool false)))),none⟩,
 ⟨(some 68),.mv (.t 67),none⟩,
 ⟨(some 69),.mv (.t 11),some (68,true)⟩,
 ⟨(some 70),.un .not (.t 69),some (68,true)⟩,
 ⟨(some 71),.mv (.t 70),some (68,true)⟩,
 ⟨(some 72),.load (some 4) (.t 10),some (71,false)⟩,
 ⟨(some 73),.qcall 9 [(.t 72)],some (71,false)⟩,
 ⟨(some 74),.mv (.t 9),some (71,false)⟩,
 ⟨(some 75),.bin .eql (.t 73) (.t 74),some (71,false)⟩,
 ⟨(some 76),.pick (.t 71) (.k (.c (.d (.bool true)))) (.t 75),some (68,true)⟩,
 ⟨(some 77),.pick (.t 68) (.t 76) (.k (.c (.d (.bool false)))),none⟩,
 ⟨(some 4),.mv (.t 77),none⟩] [9,10,11,12,13,60,61,62,63,64,65,66,67,68,69,70,71,72,73,74,75,76,77])
 (.ret))))))))))
theorem ac3_ok : cFunc Tryz.prog [1000009,1000011] [(0,[4],[]),(1,[14,15,16,17,18,19,20],[]),(2,[0,1,21],[]),(3,[0,4,21,22,23],[]),(4,[24,25],[]),(5,[26,27,28,29,30],[]),(6,[5,6,7,8,31,32,33,34,35,36,37,38,39,40,41,42,43,44,45,46],[]),(7,[1,47],[]),(8,[1,4,47,48,49],[]),(9,[50,51,52,53,54],[]),(10,[55,56,57,58,59],[]),(11,[9,10,11,12,13,60,61,62,63,64,65,66,67,68,69,70,71,72,73,74,75,76,77],[])] Tryz.f3 = some (ac3,[.tmp 4],78) := by kernel_rfl
theorem insA_split2 {s : List UInt8} {R : Option Ins} (h : Pa s R) : ∃ (x : Ins) (b : Bool), insA R = .tup [.agg (x.row.map .d), .c (.d (.bool b))] ∧ (b = true → R = some x ∧ x.okB = true ∧ x.fmt = s ∧ x.ok) := by
  cases R with
  | none => exact ⟨zeroI, false, rfl, by simp⟩
  | some x => exact ⟨x, true, rfl, fun _ => ⟨rfl, (h.1 x rfl).1, (h.1 x rfl).2.1, (h.1 x rfl).2.2⟩⟩
theorem insA_re2 (R : Option Ins) (n : Nat) : A.re n (insA R) = insA R := by cases R <;> simp [insA, Ins.row, A.re, A.res, C.re]
set_option maxHeartbeats 3200000 in
theorem ctLaw_calls (c d : List UInt8) (hc : c.length ≤ reachBytes) (hd : d.length ≤ reachBytes) (H : Heap) (hq : Hq H) : ACalls Tryz.prog 3 [.c (.d (.sl (bytesRows c))), .c (.d (.sl (bytesRows d)))] H (fun r H' => H' = H ∧ r = .c (.d (.bool true))) := by
  refine acalls Tryz.func3 (by kernel_rfl) ac3_ok fun hf => ?_
  have hli := reach_i64 hc
  have hld := reach_i64 hd
  obtain ⟨o, o2, o3, o4, ⟨g0, _⟩, hT, _⟩ := id hq
  simp -implicitDefEqProofs [ac3, hli, hld, bytesRows_len, hf, go_sem, -List.set_cons_succ, -List.set_cons_zero]
  refine fun hle hle' => ?_
  refine call_relA (drawFi_calls c (by omega) _) hf (by simp) ?_
  rintro _ ⟨x, rfl, hx, hxt⟩
  refine ⟨by simp [Ins.row, A.re, C.re], ?_⟩
  have c1 := fun H' hH' => fmtImpl_calls hT x hx hxt H' hH'
  have c2 := fmtSpec_calls x hx hxt
  have hf60 : x.fmt.length ≤ 60 := by
    cases hb : x.okB with
    | true => exact fmt_60 hb
    | false => unfold Ins.fmt; rw [hb]; simp
  simp -implicitDefEqProofs [Ins.row, hf, go_sem, -List.set_cons_succ, -List.set_cons_zero]
  refine qcall_tab c1 hf g0 rfl ?_
  simp -implicitDefEqProofs [Ins.row, hf, go_sem, -List.set_cons_succ, -List.set_cons_zero]
  refine call_relA (piImpl_calls x.fmt (by omega) _ (hq_app hq _)) hf (by simp [Ob.re, C.re]) ?_
  rintro _ ⟨R, hR, rfl⟩
  refine ⟨insA_re2 _ _, ?_⟩
  obtain ⟨y, b, hy, hyb⟩ := insA_split2 hR
  have hxy : (x.okB = true ∧ b = true ∧ y = x) ∨ x.fmt = [] := by
    cases hb : x.okB with
    | false => right; unfold Ins.fmt; rw [hb]; rfl
    | true =>
      left
      have := hR.back hb
      rw [this] at hy
      simp [insA] at hy
      cases b with
      | false => simp at hy
      | true => have h2 := (hyb rfl).1; rw [this] at h2; cases h2; exact ⟨rfl, rfl, rfl⟩
  rw [hy]
  simp -implicitDefEqProofs [Ins.row, hf, go_sem, -List.set_cons_succ, -List.set_cons_zero]
  refine qcall_pure c2 hf rfl ?_
  rcases hxy with ⟨h1, rfl, rfl⟩ | h1
  case' inl =>
    have hne := fmt_ne h1
    simp -implicitDefEqProofs [hne, hf, go_sem, -List.set_cons_succ, -List.set_cons_zero]
  case' inr =>
    simp -implicitDefEqProofs [h1, hf, go_sem, -List.set_cons_succ, -List.set_cons_zero]
  all_goals
    refine call_relA (drawPi_calls d (by omega) _) hf (by simp [Ob.re, C.re]) ?_
    rintro _ ⟨u, rfl, hu⟩
    refine ⟨by simp [A.re, C.re], ?_⟩
    simp -implicitDefEqProofs [hf, go_sem, -List.set_cons_succ, -List.set_cons_zero]
    refine call_relA (piImpl_calls u (by omega) _ (hq_app hq _)) hf (by simp [Ob.re, C.re]) ?_
    rintro _ ⟨R2, hR2, rfl⟩
    refine ⟨insA_re2 _ _, ?_⟩
    obtain ⟨z, b2, hz, hzb⟩ := insA_split2 hR2
    rw [hz]
    simp -implicitDefEqProofs [Ins.row, hf, go_sem, -List.set_cons_succ, -List.set_cons_zero]
    refine call_relA (piSpec_calls u (by omega) _) hf (by simp [Ob.re, C.re]) ?_
    rintro _ ⟨R3, hR3, rfl⟩
    refine ⟨insA_re2 _ _, ?_⟩
    rw [← hR2.one hR3, hz]
    cases b2 with
    | false => simp -implicitDefEqProofs [Ins.row, hf, go_sem, -List.set_cons_succ, -List.set_cons_zero]
    | true =>
      obtain ⟨_, hzo, hzf, hzk⟩ := hzb rfl
      have hzt : z.text.length ≤ 1048576 := by
        obtain ⟨_, _, _, _, _, k6, k7⟩ := okB_all hzo
        cases hN : opN z.op with
        | true => have := (name_len (k6 hN)).2; omega
        | false => rw [k7 hN]; simp
      have cz := fun H' hH' => fmtImpl_calls hT z hzk hzt H' hH'
      simp -implicitDefEqProofs [Ins.row, hf, go_sem, -List.set_cons_succ, -List.set_cons_zero]
      refine qcall_tab cz hf g0 rfl ?_
      simp -implicitDefEqProofs [hzf, hf, go_sem, -List.set_cons_succ, -List.set_cons_zero]
theorem law_run3 {gs : List (Nat × Obj)} (hT : Lib4 gs) (rows : List (List D)) (hr : HasTys Tryz.prog (#[22, 22] : Array TypeId).toList rows) : ACalls Tryz.prog 3 (argsA Tryz.prog (#[22, 22] : Array TypeId).toList rows) (tabsH gs) (fun r H' => H' = tabsH gs ∧ r = .c (.d (.bool true))) := by
  obtain ⟨r, rs, rfl, h1, h2⟩ := hr.cons
  obtain ⟨r', rs', rfl, h3, h4⟩ := h2.cons
  obtain rfl := h4.nil
  obtain ⟨s, rfl, hs⟩ := bytes_ty h1
  obtain ⟨s', rfl, hs'⟩ := bytes_ty h3
  simp only [argsA, argA, Tryz.underlying22, List.headD_cons]
  obtain ⟨o, o2, o3, o4, rfl, q1, q2, q3, q4⟩ := hT
  exact ctLaw_calls s s' hs hs' _ ⟨o, o2, o3, o4, ⟨rfl, rfl, rfl, rfl⟩, q1, q2, q3, q4⟩
namespace fnCodeText
def laid4 : List (String × DataW Unit) := Rows.fnCodeTextRow.laid
theorem lib_laid4 {W : World} (h : laidMetH Tryz.prog laid4 W) (hsh : W.ShapedOpen Tryz.prog) : ∃ ts : List (Nat × Obj), (ts.map Prod.fst).Nodup ∧ (∀ x ∈ ts, W.heap[x.1]? = some x.2) ∧ Lib4 ts := by
  rw [MakeChecks.laidMetH_plain _ _ _ (by kernel_rfl)] at h
  obtain ⟨ps, ⟨_, _, _, _, _, _, _, _, _, _, ⟨_, _, _, _, _, _, _, _, _, _, ⟨g2, t2, cs2, f2, p2, q2, hg2, ht2, hv2, hd2, ⟨_, _, _, _, _, _, _, _, _, _, ⟨g3, t3, cs3, f3, p3, q3, hg3, ht3, hv3, hd3, ⟨g4, t4, cs4, f4, p4, q4, hg4, ht4, hv4, hd4, _, _⟩, _⟩, _⟩, _⟩, _⟩, _⟩, _, _⟩ := h
  have n2 : Tryz.prog.globalNamed (laid4[2]).1 = some 2 := by kernel_rfl
  have n3 : Tryz.prog.globalNamed (laid4[4]).1 = some 1 := by kernel_rfl
  have n4 : Tryz.prog.globalNamed (laid4[5]).1 = some 0 := by kernel_rfl
  have e1 : g2 = 2 := (Option.some.inj (n2.symm.trans hg2)).symm
  subst e1
  have e2 : t2 = 218 := by
    have ht : (Tryz.prog.globals[2]?).map (·.type) = some 218 := by kernel_rfl
    exact (Option.some.inj (ht.symm.trans ht2)).symm
  subst e2
  have e3 := Lib.cells_of_tab (k := .u64) (zs := Lib.pow10Tab) Tryz.underlying218 Tryz.underlying194 (by kernel_rfl) (by kernel_rfl) hd2
  have e4 : cs2 = (Lib.pow10Tab.map fun z => Value.int .u64 z).toArray := by
    rw [← e3]
  have e5 : g3 = 1 := (Option.some.inj (n3.symm.trans hg3)).symm
  subst e5
  have e6 : t3 = 78 := by
    have ht : (Tryz.prog.globals[1]?).map (·.type) = some 78 := by kernel_rfl
    exact (Option.some.inj (ht.symm.trans ht3)).symm
  subst e6
  obtain ⟨_, u, v, e7, _, _⟩ := iface_of_trod Tryz.underlying78 hd3
  have e8 : cs3 = #[.iface u v] := by rw [← Array.toArray_toList (xs := cs3), e7]
  have d5 : g4 = 0 := (Option.some.inj (n4.symm.trans hg4)).symm
  subst d5
  have d6 : t4 = 78 := by
    have ht : (Tryz.prog.globals[0]?).map (·.type) = some 78 := by kernel_rfl
    exact (Option.some.inj (ht.symm.trans ht4)).symm
  subst d6
  obtain ⟨_, u4, v4, d7, _, _⟩ := iface_of_trod Tryz.underlying78 hd4
  have d8 : cs4 = #[.iface u4 v4] := by rw [← Array.toArray_toList (xs := cs4), d7]
  obtain ⟨o, h1, h2⟩ := tab_of_at n2 (show Lib.TabIs Tryz.prog W (laid4[2]).1 .u64 Lib.pow10Tab from hv2.trans (congrArg some e4))
  obtain ⟨o2, h3, h4⟩ := one_of_at n3 (hv3.trans (congrArg some e8))
  obtain ⟨o3, h5, h6⟩ := one_of_at n4 (hv4.trans (congrArg some d8))
  obtain ⟨o4, h7, h8⟩ := max_told hsh
  refine ⟨[(2, o), (1, o2), (0, o3), (3, o4)], (show ([2, 1, 0, 3] : List Nat).Nodup by decide), fun x hx => ?_, o, o2, o3, o4, rfl, fun w hw n h5 h6 => Any.strconv_Itoa Tryz.laysM171 n h5 h6 w (h2 w hw), fun w hw => ⟨u, v, h4 w hw⟩, fun w hw => ⟨u4, v4, h6 w hw⟩, h8⟩
  rcases List.mem_cons.1 hx with rfl | hx
  · exact h1
  · rcases List.mem_cons.1 hx with rfl | hx
    · exact h3
    · rcases List.mem_cons.1 hx with rfl | hx
      · exact h5
      · rw [List.mem_singleton.1 hx]; exact h7
theorem own : ownKnob Tryz.prog.godebug = none := by kernel_rfl
theorem door_met (os : Os) (args : Array Value) : laidMetH Tryz.prog laid4 ((World.laidAll Tryz.prog os laid4).forCall (fun _ _ => 0) ⟨#[], args, []⟩).memory := by
  rw [MakeChecks.laidMetH_plain _ _ _ (by kernel_rfl)]
  exact laidMet_laidAll _ (by kernel_rfl) (by kernel_rfl)
theorem contract (H : Type) (enc : TypeId × Value → H) (W : World) (base : Nat) (args : Array Value) (ds gs : List (DataW H)) (before : List MemPlace) (hL : laidMetH Tryz.prog laid4 W) (hsh : W.ShapedOpen Tryz.prog)
    (hval : ∀ (j : Nat) t v, Tryz.f3.params[j]? = some t → args[j]? = some v → Value.okWide Tryz.prog W .any base t v)
    (hW : DataW.Whole enc Tryz.prog Tryz.f3.params.toList Rows.fnCodeTextSpec.vars false W args.toList ds gs before)
    (hw : (DataW.weightsEach Tryz.prog (Tryz.f3.params.toList ++ Rows.fnCodeTextSpec.plain.varTypes Tryz.prog) (ds ++ gs)).all (· ≤ reachBytes) = true) :
    Calls Tryz.prog 3 args W fun e W' => ∃ v, e = .returned v ∧ Rows.fnCodeTextSpec.post enc Tryz.prog Tryz.f3 false true false false W args v W' := by
  refine law_contract_tabs (T := Lib4) (L := [5, 22]) (tb := 4) (by kernel_rfl) (by kernel_rfl) (by kernel_rfl) rfl ?_ (by kernel_rfl) Tryz.underlying4 ?_ W base args ds gs before (lib_laid4 hL hsh) hval hW hw
  · intro ds hl
    match ds, hl with
    | [d0, d1], _ => rfl
  · intro gs hT rows hr
    rw [Tryz.params3] at hr ⊢
    exact law_run3 hT rows hr

theorem lifted (os : Os) (started : os.Started) (H : Type) (enc : TypeId × Value → H) :
    ReturnsInHanded {} Tryz.checked os 3 .any (fun w args => (Rows.fnCodeTextSpec.pre enc Tryz.prog Tryz.f3 [] false w args ∧ laidMetH Tryz.prog laid4 w) ∧ sizedMet enc Tryz.prog Tryz.f3 (OpenSpec.ofChange Rows.fnCodeTextSpec) false w args)
      (Rows.fnCodeTextSpec.post enc Tryz.prog Tryz.f3 false true false false) := by
  refine returns_shaped (C := Tryz.checked) (X := fun w _ => laidMetH Tryz.prog laid4 w) (fun _ _ _ hh h => h.of_heap hh) own started (by kernel_rfl) Tryz.func3
    (ChangeSpec.witness_shaped (enc := enc) (C := Tryz.checked) (os := os) (X := fun w _ => laidMetH Tryz.prog laid4 w) false (World.laidAll Tryz.prog os laid4) #[.slice none 0 0, .slice none 0 0] 8 (World.laidAll_os _ _ _) (World.shaped_of_ZipB (by kernel_rfl) (by kernel_rfl)) (by kernel_rfl) (by kernel_rfl) (by kernel_rfl) (door_met os _)) ?_
  intro W base args ds gs before hval hW _ hw hL hsh _
  exact contract H enc W base args ds gs before hL hsh hval hW hw

theorem said : Rows.FnCodeTextSaid :=
  OpenClaim.holds_of_wide 3 Tryz.f3 rfl rfl rfl rfl rfl rfl rfl ⟨rfl, rfl, rfl, rfl, rfl⟩ rfl rfl rfl rfl rfl (by kernel_rfl) Tryz.func3 (by kernel_rfl)
    (of_decide_eq_true (by kernel_rfl)) (by unfold Func.isWrapper; first | (rw [if_pos (by decide +kernel)]; kernel_rfl) | (rw [if_neg (by decide +kernel)]; exact ⟨rfl, rfl⟩))
    (fun os started H enc _ => lifted os started H enc)

theorem proved : Rows.FnCodeTextCardSaid :=
  Claim7.holds_tied_plain_at .later [] [.data, .data, .data, .data, .sentinel, .sentinel, .pinned] true Rows.fnCodeTextCard.stood.harness true
    said (fun _ h => by cases h) (by kernel_rfl) (fun _ h => by cases h) fnCodeText_row_tie rfl ⟨rfl, rfl⟩ (by kernel_rfl) rfl
    (fun f fn hf hfn => by
      obtain rfl : f = 3 := Option.some.inj ((show Tryz.prog.funcNamed Rows.fnCodeTextRow.func = some 3 by kernel_rfl).symm.trans hf) |>.symm
      obtain rfl : fn = Tryz.f3 := (Option.some.inj (Tryz.func3.symm.trans hfn)).symm
      exact ⟨by kernel_rfl, fun j t ht => by
        rw [Tryz.params3] at ht
        have hall : (Tryz.f3.params.toList.all fun u => !Tryz.prog.wantsStandIn u) = true := by kernel_rfl
        have hm : t ∈ Tryz.f3.params.toList := by
          rw [Tryz.params3]
          simpa using Array.mem_of_getElem? ht
        exact (show Tryz.prog.wantsStandIn t = false by simpa using List.all_eq_true.1 hall t hm)⟩)
    (by kernel_rfl)
end fnCodeText

end Go.Proofs.YtbblefjbgbocoaaGreatDoor
