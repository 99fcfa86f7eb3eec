/-
  The card FnExactParseInstr holds: the program reads what the reference reads.
  Conditions: none.
-/
import Derived.Test.YtbblefjbgbocoaaDoorBundA
import Derived.Test.YtbblefjbgbocoaaDoorBundB
import Derived.Test.YtbblefjbgbocoaaDoorCards
import Derived.Test.YtbblefjbgbocoaaDoorTie
import Derived.ProofKit
import Derived.OpenShut
import Derived.Stop.Joined
import Derived.SevenTiedAt
import Derived.LaidLaws
import Derived.Lay
open Go Go.AM Go.Proofs
attribute [local go_sem] kw ew sw tw a_ b_ c_ A.ok A.val d_ e_ f_ g_ h_ i_ j_ k_ l_ m_ unA unD n_ AOp.total o_ p_ q_ r_ s_ t_ u_ v_ A.thaw C.thaw A.fits As.fits C.fits evs oks w_ A.pure C.pure A.re C.re x_ y_ cut A.cells C.rows? z_ A_ B_ C_ a0_ b0_ D_ Ob.re Cs.fits E_ F_ G_ H_ I_ J_ K_ L_ M_ N_ O_ C.toD P_ Q_ R_ S_ T_ Obs.fits U_ eqD V_ W_ X_ Y_ Z_
open Go Go.AM Go.Proofs
namespace Go.Proofs.YtbblefjbgbocoaaDoor
open Go.ChangeShapes Go.WideShapes Go.ChangeAt Go.WideElems Go.RowKit
set_option linter.unusedVariables false
set_option linter.unusedSimpArgs false
set_option maxRecDepth 100000
-- 3 loop.example/prologserver/laws.FnExactParseInstr params 1 ntmps 29
def ac3 : Cd := .seq (.region [⟨(some 2),.mv (.k (.c (.d (.bool false)))),none⟩] [2])
 (.seq (.seq (.region [⟨(some 7),.mv (.t 0),none⟩,
 ⟨(some 8),.len 0 (.t 7),none⟩,
 ⟨(some 9),.bin .gtr (.t 8) (.k (.c (.d (.int .i64 1048576)))),none⟩] [7,8])
 (.cond (.t 9)
 (.seq (.region [⟨(some 2),.mv (.k (.c (.d (.bool true)))),none⟩] [0,9])
 (.ret))
 (.skip)))
 (.seq (.region [⟨(some 11),.mv (.t 0),none⟩,
 ⟨(some 12),.call false 4 [(.t 11)],none⟩,
 ⟨(some 10),.mv (.t 12),none⟩,
 ⟨(some 13),.extract 0 (.t 10),none⟩,
 ⟨(some 14),.extract 1 (.t 10),none⟩,
 ⟨(some 3),.alloc [(.d (.int .i64 0)),(.d (.int .i64 0)),(.d (.int .i64 0)),(.d (.str []))],none⟩,
 ⟨none,.store 4 (.t 3) (.t 13),none⟩,
 ⟨(some 4),.mv (.t 14),none⟩] [2,9,10,11,12,13,14])
 (.seq (.region [⟨(some 16),.mv (.t 0),none⟩,
 ⟨(some 17),.call false 5 [(.t 16)],none⟩,
 ⟨(some 15),.mv (.t 17),none⟩,
 ⟨(some 18),.extract 0 (.t 15),none⟩,
 ⟨(some 19),.extract 1 (.t 15),none⟩,
 ⟨(some 5),.alloc [(.d (.int .i64 0)),(.d (.int .i64 0)),(.d (.int .i64 0)),(.d (.str []))],none⟩,
 ⟨none,.store 4 (.t 5) (.t 18),none⟩,
 ⟨(some 6),.mv (.t 19),none⟩] [0,15,16,17,18,19])
 (.seq (.seq (.region [⟨(some 20),.load (some 4) (.t 5),none⟩,
 ⟨(some 21),.load (some 4) (.t 3),none⟩,
 ⟨(some 22),.qcall 6 [(.t 20),(.t 21)],none⟩,
 ⟨(some 23),.un .not (.t 22),none⟩,
 ⟨(some 24),.mv (.t 23),none⟩,
 ⟨(some 25),.mv (.t 6),some (24,false)⟩,
 ⟨(some 26),.mv (.t 4),some (24,false)⟩,
 ⟨(some 27),.binB true (.t 25) (.t 26),some (24,false)⟩,
 ⟨(some 28),.pick (.t 24) (.k (.c (.d (.bool true)))) (.t 27),none⟩] [3,4,5,6,20,21,22,23,24,25,26,27])
 (.cond (.t 28)
 (.seq (.region [⟨(some 2),.mv (.k (.c (.d (.bool false)))),none⟩] [28])
 (.ret))
 (.skip)))
 (.seq (.region [⟨(some 2),.mv (.k (.c (.d (.bool true)))),none⟩] [28])
 (.ret))))))
theorem ac3_ok : cFunc Tryd.prog [1000006] [(0,[2],[]),(1,[7,8],[]),(2,[0,9],[]),(3,[2,9,10,11,12,13,14],[]),(4,[0,15,16,17,18,19],[]),(5,[3,4,5,6,20,21,22,23,24,25,26,27],[]),(6,[28],[]),(7,[28],[])] Tryd.f3 = some (ac3,[.tmp 2],29) := by kernel_rfl
theorem insA_split (R : Option Ins) : ∃ (x : Ins) (b : Bool), insA R = .tup [.agg (x.row.map .d), .c (.d (.bool b))] := by
  cases R with
  | none => exact ⟨zeroI, false, rfl⟩
  | some x => exact ⟨x, true, rfl⟩
theorem insA_re (R : Option Ins) (n : Nat) : A.re n (insA R) = insA R := by cases R <;> simp [insA, Ins.row, A.re, A.res, C.re]
theorem epLaw_calls (s : List UInt8) (hs : s.length ≤ reachBytes) (H : Heap) (hq : Hq H) : ACalls Tryd.prog 3 [.c (.d (.str s))] H (fun r H' => H' = H ∧ r = .c (.d (.bool true))) := by
  refine acalls Tryd.func3 (by kernel_rfl) ac3_ok fun hf => ?_
  have hli := reach_i64 hs
  simp -implicitDefEqProofs [ac3, hli, hf, go_sem, -List.set_cons_succ, -List.set_cons_zero]
  intro hle
  have hle : s.length ≤ 1048576 := by omega
  refine call_relA (piSpec_calls s hle _) hf (by simp) ?_
  rintro _ ⟨R, hR, rfl⟩
  refine ⟨insA_re _ _, ?_⟩
  have e1 := piImpl_calls s hle
  obtain ⟨x, b, hx⟩ := insA_split R
  rw [hx]
  simp -implicitDefEqProofs [Ins.row, hf, go_sem, -List.set_cons_succ, -List.set_cons_zero]
  refine call_relA (e1 _ (hq_app hq _)) hf (by simp [Ob.re, C.re]) ?_
  rintro _ ⟨R', hR', rfl⟩
  refine ⟨insA_re _ _, ?_⟩
  rw [← hR.one hR', hx]
  simp -implicitDefEqProofs [Ins.row, hf, go_sem, -List.set_cons_succ, -List.set_cons_zero]
  refine qcall_pure (eqInstr_calls x) hf rfl ?_
  simp -implicitDefEqProofs [hf, go_sem, -List.set_cons_succ, -List.set_cons_zero]
theorem law_run3 {gs : List (Nat × Obj)} (hT : Lib4 gs) (rows : List (List D)) (hr : HasTys Tryd.prog (#[9] : Array TypeId).toList rows) : ACalls Tryd.prog 3 (argsA Tryd.prog (#[9] : Array TypeId).toList rows) (tabsH gs) (fun r H' => H' = tabsH gs ∧ r = .c (.d (.bool true))) := by
  obtain ⟨r, rs, rfl, h1, h2⟩ := hr.cons
  obtain rfl := h2.nil
  obtain ⟨s, rfl, hs⟩ := h1.str_inv Tryd.underlying9
  simp only [argsA, argA, Tryd.underlying9, List.headD_cons]
  obtain ⟨o, o2, o3, o4, rfl, q1, q2, q3, q4⟩ := hT
  exact epLaw_calls s hs _ ⟨o, o2, o3, o4, ⟨rfl, rfl, rfl, rfl⟩, q1, q2, q3, q4⟩
namespace fnExactParseInstr
def laid4 : List (String × DataW Unit) := Rows.fnExactParseInstrRow.laid
theorem lib_laid4 {W : World} (h : laidMetH Tryd.prog laid4 W) (hsh : W.ShapedOpen Tryd.prog) : ∃ ts : List (Nat × Obj), (ts.map Prod.fst).Nodup ∧ (∀ x ∈ ts, W.heap[x.1]? = some x.2) ∧ Lib4 ts := by
  rw [MakeChecks.laidMetH_plain _ _ _ (by kernel_rfl)] at h
  obtain ⟨ps, ⟨_, _, _, _, _, _, _, _, _, _, ⟨_, _, _, _, _, _, _, _, _, _, ⟨g2, t2, cs2, f2, p2, q2, hg2, ht2, hv2, hd2, ⟨_, _, _, _, _, _, _, _, _, _, ⟨g3, t3, cs3, f3, p3, q3, hg3, ht3, hv3, hd3, ⟨g4, t4, cs4, f4, p4, q4, hg4, ht4, hv4, hd4, _, _⟩, _⟩, _⟩, _⟩, _⟩, _⟩, _, _⟩ := h
  have n2 : Tryd.prog.globalNamed (laid4[2]).1 = some 5 := by kernel_rfl
  have n3 : Tryd.prog.globalNamed (laid4[4]).1 = some 1 := by kernel_rfl
  have n4 : Tryd.prog.globalNamed (laid4[5]).1 = some 0 := by kernel_rfl
  have e1 : g2 = 5 := (Option.some.inj (n2.symm.trans hg2)).symm
  subst e1
  have e2 : t2 = 93 := by
    have ht : (Tryd.prog.globals[5]?).map (·.type) = some 93 := by kernel_rfl
    exact (Option.some.inj (ht.symm.trans ht2)).symm
  subst e2
  have e3 := Lib.cells_of_tab (k := .u64) (zs := Lib.pow10Tab) Tryd.underlying93 Tryd.underlying64 (by kernel_rfl) (by kernel_rfl) hd2
  have e4 : cs2 = (Lib.pow10Tab.map fun z => Value.int .u64 z).toArray := by
    rw [← e3]
  have e5 : g3 = 1 := (Option.some.inj (n3.symm.trans hg3)).symm
  subst e5
  have e6 : t3 = 41 := by
    have ht : (Tryd.prog.globals[1]?).map (·.type) = some 41 := by kernel_rfl
    exact (Option.some.inj (ht.symm.trans ht3)).symm
  subst e6
  obtain ⟨_, u, v, e7, _, _⟩ := iface_of_trod Tryd.underlying41 hd3
  have e8 : cs3 = #[.iface u v] := by rw [← Array.toArray_toList (xs := cs3), e7]
  have d5 : g4 = 0 := (Option.some.inj (n4.symm.trans hg4)).symm
  subst d5
  have d6 : t4 = 41 := by
    have ht : (Tryd.prog.globals[0]?).map (·.type) = some 41 := by kernel_rfl
    exact (Option.some.inj (ht.symm.trans ht4)).symm
  subst d6
  obtain ⟨_, u4, v4, d7, _, _⟩ := iface_of_trod Tryd.underlying41 hd4
  have d8 : cs4 = #[.iface u4 v4] := by rw [← Array.toArray_toList (xs := cs4), d7]
  obtain ⟨o, h1, h2⟩ := tab_of_at n2 (show Lib.TabIs Tryd.prog W (laid4[2]).1 .u64 Lib.pow10Tab from hv2.trans (congrArg some e4))
  obtain ⟨o2, h3, h4⟩ := one_of_at n3 (hv3.trans (congrArg some e8))
  obtain ⟨o3, h5, h6⟩ := one_of_at n4 (hv4.trans (congrArg some d8))
  obtain ⟨o4, h7, h8⟩ := max_told hsh
  refine ⟨[(5, o), (1, o2), (0, o3), (2, o4)], (show ([5, 1, 0, 2] : List Nat).Nodup by decide), fun x hx => ?_, o, o2, o3, o4, rfl, fun w hw n h5 h6 => Any.strconv_Itoa Tryd.laysM171 n h5 h6 w (h2 w hw), fun w hw => ⟨u, v, h4 w hw⟩, fun w hw => ⟨u4, v4, h6 w hw⟩, h8⟩
  rcases List.mem_cons.1 hx with rfl | hx
  · exact h1
  · rcases List.mem_cons.1 hx with rfl | hx
    · exact h3
    · rcases List.mem_cons.1 hx with rfl | hx
      · exact h5
      · rw [List.mem_singleton.1 hx]; exact h7
theorem own : ownKnob Tryd.prog.godebug = none := by kernel_rfl
theorem door_met (os : Os) (args : Array Value) : laidMetH Tryd.prog laid4 ((World.laidAll Tryd.prog os laid4).forCall (fun _ _ => 0) ⟨#[], args, []⟩).memory := by
  rw [MakeChecks.laidMetH_plain _ _ _ (by kernel_rfl)]
  exact laidMet_laidAll _ (by kernel_rfl) (by kernel_rfl)
theorem contract (H : Type) (enc : TypeId × Value → H) (W : World) (base : Nat) (args : Array Value) (ds gs : List (DataW H)) (before : List MemPlace) (hL : laidMetH Tryd.prog laid4 W) (hsh : W.ShapedOpen Tryd.prog)
    (hval : ∀ (j : Nat) t v, Tryd.f3.params[j]? = some t → args[j]? = some v → Value.okWide Tryd.prog W .any base t v)
    (hW : DataW.Whole enc Tryd.prog Tryd.f3.params.toList Rows.fnExactParseInstrSpec.vars false W args.toList ds gs before)
    (hw : (DataW.weightsEach Tryd.prog (Tryd.f3.params.toList ++ Rows.fnExactParseInstrSpec.plain.varTypes Tryd.prog) (ds ++ gs)).all (· ≤ reachBytes) = true) :
    Calls Tryd.prog 3 args W fun e W' => ∃ v, e = .returned v ∧ Rows.fnExactParseInstrSpec.post enc Tryd.prog Tryd.f3 false true false false W args v W' := by
  refine law_contract_tabs (T := Lib4) (L := [9]) (tb := 4) (by kernel_rfl) (by kernel_rfl) (by kernel_rfl) rfl ?_ (by kernel_rfl) Tryd.underlying4 ?_ W base args ds gs before (lib_laid4 hL hsh) hval hW hw
  · intro ds hl
    match ds, hl with
    | [d0], _ => rfl
  · intro gs hT rows hr
    rw [Tryd.params3] at hr ⊢
    exact law_run3 hT rows hr

theorem lifted (os : Os) (started : os.Started) (H : Type) (enc : TypeId × Value → H) :
    ReturnsInHanded {} Tryd.checked os 3 .any (fun w args => (Rows.fnExactParseInstrSpec.pre enc Tryd.prog Tryd.f3 [] false w args ∧ laidMetH Tryd.prog laid4 w) ∧ sizedMet enc Tryd.prog Tryd.f3 (OpenSpec.ofChange Rows.fnExactParseInstrSpec) false w args)
      (Rows.fnExactParseInstrSpec.post enc Tryd.prog Tryd.f3 false true false false) := by
  refine returns_shaped (C := Tryd.checked) (X := fun w _ => laidMetH Tryd.prog laid4 w) (fun _ _ _ hh h => h.of_heap hh) own started (by kernel_rfl) Tryd.func3
    (ChangeSpec.witness_shaped (enc := enc) (C := Tryd.checked) (os := os) (X := fun w _ => laidMetH Tryd.prog laid4 w) false (World.laidAll Tryd.prog os laid4) #[.string ByteArray.empty] 8 (World.laidAll_os _ _ _) (World.shaped_of_ZipB (by kernel_rfl) (by kernel_rfl)) (by kernel_rfl) (by kernel_rfl) (by kernel_rfl) (door_met os _)) ?_
  intro W base args ds gs before hval hW _ hw hL hsh _
  exact contract H enc W base args ds gs before hL hsh hval hW hw

theorem said : Rows.FnExactParseInstrSaid :=
  OpenClaim.holds_of_wide 3 Tryd.f3 rfl rfl rfl rfl rfl rfl rfl ⟨rfl, rfl, rfl, rfl, rfl⟩ rfl rfl rfl rfl rfl (by kernel_rfl) Tryd.func3 (by kernel_rfl)
    (of_decide_eq_true (by kernel_rfl)) (by unfold Func.isWrapper; first | (rw [if_pos (by decide +kernel)]; kernel_rfl) | (rw [if_neg (by decide +kernel)]; exact ⟨rfl, rfl⟩))
    (fun os started H enc _ => lifted os started H enc)

theorem proved : Rows.FnExactParseInstrCardSaid :=
  Claim7.holds_tied_plain_at .later [] [.data, .data, .data, .data, .sentinel, .sentinel, .pinned] true Rows.fnExactParseInstrCard.stood.harness true
    said (fun _ h => by cases h) (by kernel_rfl) (fun _ h => by cases h) fnExactParseInstr_row_tie rfl ⟨rfl, rfl⟩ (by kernel_rfl) rfl
    (fun f fn hf hfn => by
      obtain rfl : f = 3 := Option.some.inj ((show Tryd.prog.funcNamed Rows.fnExactParseInstrRow.func = some 3 by kernel_rfl).symm.trans hf) |>.symm
      obtain rfl : fn = Tryd.f3 := (Option.some.inj (Tryd.func3.symm.trans hfn)).symm
      exact ⟨by kernel_rfl, fun j t ht => by
        rw [Tryd.params3] at ht
        have hall : (Tryd.f3.params.toList.all fun u => !Tryd.prog.wantsStandIn u) = true := by kernel_rfl
        have hm : t ∈ Tryd.f3.params.toList := by
          rw [Tryd.params3]
          simpa using Array.mem_of_getElem? ht
        exact (show Tryd.prog.wantsStandIn t = false by simpa using List.all_eq_true.1 hall t hm)⟩)
    (by kernel_rfl)
end fnExactParseInstr

end Go.Proofs.YtbblefjbgbocoaaDoor
