/-
  The card FnFirstKey holds: terms that can be unified have keys that fit.
  Conditions: none.
-/
import Derived.Test.YtbblefjbgbocoaaGreatDoorBundA
import Derived.Test.YtbblefjbgbocoaaGreatDoorBundC
import Derived.Test.YtbblefjbgbocoaaGreatDoorBundD
import Derived.Test.YtbblefjbgbocoaaGreatDoorCards
import Derived.Test.YtbblefjbgbocoaaGreatDoorTie
import Derived.ProofKit
import Derived.OpenShut
import Derived.Stop.Joined
import Derived.SevenTiedAt
open Go Go.AM Go.Proofs
attribute [local go_sem] kw ew sw tw a_ b_ c_ A.ok A.val d_ e_ f_ g_ h_ i_ j_ k_ l_ m_ unA unD n_ AOp.total o_ p_ q_ r_ s_ t_ u_ v_ A.thaw C.thaw A.fits As.fits C.fits evs oks w_ A.pure C.pure A.re C.re x_ y_ cut A.cells C.rows? z_ A_ B_ C_ a0_ b0_ D_ Ob.re Cs.fits E_ F_ G_ H_ I_ J_ K_ L_ M_ N_ O_ C.toD P_ Q_ R_ S_ T_ Obs.fits U_ eqD V_ W_ X_ Y_ Z_
open Go Go.AM Go.Proofs
namespace Go.Proofs.YtbblefjbgbocoaaGreatDoor
open Go.ChangeShapes Go.WideShapes Go.ChangeAt Go.WideElems Go.RowKit
set_option linter.unusedVariables false
set_option linter.unusedSimpArgs false
set_option maxRecDepth 100000
-- 7 loop.example/prologserver/laws.FnFirstKey params 2 ntmps 67
def ac7 : Cd := .seq (.region [⟨(some 4),.mv (.k (.c (.d (.bool false)))),none⟩] [4])
 (.seq (.seq (.region [⟨(some 12),.mv (.t 0),none⟩,
 ⟨(some 13),.len 1 (.t 12),none⟩,
 ⟨(some 14),.bin .gtr (.t 13) (.k (.c (.d (.int .i64 1048576)))),none⟩,
 ⟨(some 15),.mv (.t 14),none⟩,
 ⟨(some 16),.mv (.t 1),some (15,false)⟩,
 ⟨(some 17),.len 1 (.t 16),some (15,false)⟩,
 ⟨(some 18),.bin .gtr (.t 17) (.k (.c (.d (.int .i64 1048576)))),some (15,false)⟩,
 ⟨(some 19),.pick (.t 15) (.k (.c (.d (.bool true)))) (.t 18),none⟩] [12,13,14,15,16,17,18])
 (.cond (.t 19)
 (.seq (.region [⟨(some 4),.mv (.k (.c (.d (.bool true)))),none⟩] [0,1,19])
 (.ret))
 (.skip)))
 (.seq (.region [⟨(some 21),.mv (.t 0),none⟩,
 ⟨(some 22),.call false 36 [(.t 21)],none⟩,
 ⟨(some 20),.mv (.t 22),none⟩,
 ⟨(some 23),.extract 0 (.t 20),none⟩,
 ⟨(some 24),.extract 1 (.t 20),none⟩,
 ⟨(some 5),.alloc [(.d (.int .i64 0)),(.d (.int .i64 0)),(.d (.str [])),(.full [])],none⟩,
 ⟨(some 6),.alloc [(.d (.int .i64 0)),(.d (.int .i64 0)),(.d (.str [])),(.full [])],none⟩,
 ⟨none,.store 4 (.t 5) (.t 23),none⟩,
 ⟨none,.store 4 (.t 6) (.t 24),none⟩] [0,4,19,20,21,22,23,24])
 (.seq (.region [⟨(some 25),.mv (.t 1),none⟩,
 ⟨(some 26),.call false 37 [(.t 25)],none⟩,
 ⟨(some 7),.alloc [(.d (.int .i64 0)),(.d (.int .i64 0)),(.d (.str [])),(.full [])],none⟩,
 ⟨none,.store 4 (.t 7) (.t 26),none⟩] [1,25,26])
 (.seq (.region [⟨(some 28),.load (some 4) (.t 5),none⟩,
 ⟨(some 29),.load (some 4) (.t 6),none⟩,
 ⟨(some 30),.call false 33 [(.t 28),(.t 29)],none⟩,
 ⟨(some 27),.mv (.t 30),none⟩,
 ⟨(some 31),.extract 0 (.t 27),none⟩,
 ⟨(some 32),.extract 1 (.t 27),none⟩,
 ⟨(some 8),.mv (.t 31),none⟩,
 ⟨(some 9),.mv (.t 32),none⟩] [8,27,28,29,30,31,32])
 (.seq (.region [⟨(some 33),.load (some 4) (.t 5),none⟩,
 ⟨(some 34),.qcall 35 [(.t 33)],none⟩,
 ⟨(some 10),.mv (.t 34),none⟩] [33,34])
 (.seq (.region [⟨(some 35),.load (some 4) (.t 6),none⟩,
 ⟨(some 36),.qcall 35 [(.t 35)],none⟩,
 ⟨(some 11),.mv (.t 36),none⟩] [35,36])
 (.seq (.region [⟨(some 37),.mv (.t 10),none⟩,
 ⟨(some 38),.load (some 4) (.t 5),none⟩,
 ⟨(some 39),.qcall 38 [(.t 38)],none⟩,
 ⟨(some 40),.bin .eql (.t 37) (.t 39),none⟩,
 ⟨(some 41),.mv (.t 40),none⟩,
 ⟨(some 42),.load (some 4) (.t 7),some (41,true)⟩,
 ⟨(some 43),.qcall 35 [(.t 42)],some (41,true)⟩,
 ⟨(some 44),.load (some 4) (.t 7),some (41,true)⟩,
 ⟨(some 45),.qcall 38 [(.t 44)],some (41,true)⟩,
 ⟨(some 46),.bin .eql (.t 43) (.t 45),some (41,true)⟩,
 ⟨(some 47),.pick (.t 41) (.t 46) (.k (.c (.d (.bool false)))),none⟩,
 ⟨(some 48),.mv (.t 47),none⟩,
 ⟨(some 49),.mv (.t 9),some (48,true)⟩,
 ⟨(some 50),.un .not (.t 49),some (48,true)⟩,
 ⟨(some 51),.mv (.t 50),some (48,true)⟩,
 ⟨(some 52),.fieldAddr 0 (.t 5),some (51,false)⟩,
 ⟨(some 53),.load none (.t 52),some (51,false)⟩,
 ⟨(some 54),.bin .eql (.t 53) (.k (.c (.d (.int .i64 1)))),some (51,false)⟩,
 ⟨(some 55),.pick (.t 51) (.k (.c (.d (.bool true)))) (.t 54),some (48,true)⟩,
 ⟨(some 56),.mv (.t 55),some (48,true)⟩,
 ⟨(some 57),.fieldAddr 0 (.t 6),some (56,false)⟩,
 ⟨(some 58),.load none (.t 57),some (56,false)⟩,
 ⟨(some 59),.bin .eql (.t 58) (.k (.c (.d (.int .i64 1)))),some (56,false)⟩,
 ⟨(some 60),.pick (.t 56) (.k (.c (.d (.bool true)))) (.t 59),some (48,true)⟩,
 ⟨(some 61),.mv (.t 60),some (48,true)⟩,
 ⟨(some 62),.mv (.t 10),some (61,false)⟩,
 ⟨(some 63),.mv (.t 11),some (61,false)⟩,
 ⟨(some 64),.qcall 34 [(.t 62),(.t 63)],some (61,false)⟩,
 ⟨(some 65),.pick (.t 61) (.k (.c (.d (.bool true)))) (.t 64),some (48,true)⟩,
 ⟨(some 66),.pick (.t 48) (.t 65) (.k (.c (.d (.bool false)))),none⟩,
 ⟨(some 4),.mv (.t 66),none⟩] [5,6,7,9,10,11,37,38,39,40,41,42,43,44,45,46,47,48,49,50,51,52,53,54,55,56,57,58,59,60,61,62,63,64,65,66])
 (.ret))))))))
theorem ac7_ok : cFunc Tryz.prog [1000034,1000035,1000038] [(0,[4],[]),(1,[12,13,14,15,16,17,18],[]),(2,[0,1,19],[]),(3,[0,4,19,20,21,22,23,24],[]),(4,[1,25,26],[]),(5,[8,27,28,29,30,31,32],[]),(6,[33,34],[]),(7,[35,36],[]),(8,[5,6,7,9,10,11,37,38,39,40,41,42,43,44,45,46,47,48,49,50,51,52,53,54,55,56,57,58,59,60,61,62,63,64,65,66],[0,1,2,3,4,5,6,7,8,9,10,11,12,13,14,15,16,17,18,19,20,21,22,23,24,25,26,27,28,29,30])] Tryz.f7 = some (ac7,[.tmp 4],67) := by kernel_rfl
theorem fk_uni {a b : Tm} {σ' : Sto} (ha : a.valid = true) (hb : b.valid = true) (h : Uni [] (.tm a b) true σ') : a.k = 1 ∨ b.k = 1 ∨ kfit a.fkey b.fkey = true := by
  by_cases ka : a.k = 1
  · exact .inl ka
  · by_cases kb : b.k = 1
    · exact .inr (.inl kb)
    · refine .inr (.inr ?_)
      rw [Tm.fkey, if_pos ha, Tm.fkey, if_pos hb]
      rcases uni_fits ha hb h ka kb with h | h | h
      · simp [kfit, h]
      · simp [kfit, h]
      · simp [kfit, h]
theorem fkaLaw_calls {g : Nat} {o : Obj} (hT : Tab g o) (c d : List UInt8) (hc : c.length ≤ reachBytes) (hd : d.length ≤ reachBytes) (H : Heap) (hH : H[0]? = some (.tab g o)) :
    ACalls Tryz.prog 7 [.c (.d (.sl (bytesRows c))), .c (.d (.sl (bytesRows d)))] H (fun r H' => H' = H ∧ r = .c (.d (.bool true))) := by
  refine acalls Tryz.func7 (by kernel_rfl) ac7_ok fun hf => ?_
  have hli := reach_i64 hc
  have hld := reach_i64 hd
  simp -implicitDefEqProofs [ac7, hli, hld, bytesRows_len, hf, go_sem, -List.set_cons_succ, -List.set_cons_zero]
  intro hc1 hd1
  refine call_some (drawUt_calls c (by omega) _) (by simp [Ob.re, C.re]) (fun r => TmTm.re) hf ?_
  rintro _ ⟨a, b, rfl, ha, hb⟩
  simp -implicitDefEqProofs [row_len, take_row, pure_d, re_d, thaw_d, fits_map, drop_rowK, splice_all, cut_all, hf, toDs_map, go_sem, -List.set_cons_succ, -List.set_cons_zero]
  refine call_some (drawFk_calls d (by omega) _) (by simp [Ob.re, C.re, re_d]) (fun r => TmR.re) hf ?_
  rintro _ ⟨t, rfl, ht⟩
  simp -implicitDefEqProofs [row_len, take_row, pure_d, re_d, thaw_d, fits_map, drop_rowK, splice_all, cut_all, hf, toDs_map, go_sem, -List.set_cons_succ, -List.set_cons_zero]
  refine call_some (ut_calls a b ha hb _) (by simp [Ob.re, C.re, re_d]) (fun r => UniR.re) hf ?_
  rintro _ ⟨rows, ok, rfl, hok⟩
  have hfin : ok = true → a.k = 1 ∨ b.k = 1 ∨ kfit a.fkey b.fkey = true := fun h => by
    obtain ⟨q1, q2, σ', q3⟩ := hok h
    exact fk_uni q1 q2 q3
  simp -implicitDefEqProofs [row_len, take_row, pure_d, re_d, thaw_d, fits_map, drop_rowK, splice_all, cut_all, hf, toDs_map, go_sem, -List.set_cons_succ, -List.set_cons_zero]
  refine qcall_tab (fky_calls hT a ha) hf hH rfl ?_
  simp -implicitDefEqProofs [row_len, take_row, pure_d, re_d, thaw_d, fits_map, drop_rowK, splice_all, cut_all, hf, toDs_map, go_sem, -List.set_cons_succ, -List.set_cons_zero]
  refine qcall_tab (fky_calls hT b hb) hf hH rfl ?_
  simp -implicitDefEqProofs [row_len, take_row, pure_d, re_d, thaw_d, fits_map, drop_rowK, splice_all, cut_all, hf, toDs_map, go_sem, -List.set_cons_succ, -List.set_cons_zero]
  refine qcall_pure (fkyS_calls a ha) hf rfl ?_
  simp -implicitDefEqProofs [row_len, take_row, pure_d, re_d, thaw_d, fits_map, drop_rowK, splice_all, cut_all, hf, toDs_map, go_sem, -List.set_cons_succ, -List.set_cons_zero]
  refine qcall_tab (fky_calls hT t ht) hf hH rfl ?_
  simp -implicitDefEqProofs [row_len, take_row, pure_d, re_d, thaw_d, fits_map, drop_rowK, splice_all, cut_all, hf, toDs_map, go_sem, -List.set_cons_succ, -List.set_cons_zero]
  refine qcall_pure (fkyS_calls t ht) hf rfl ?_
  obtain ⟨ak, an, as', al⟩ := a
  obtain ⟨bk, bn, bs', bl⟩ := b
  simp only [Tm.k] at hfin
  generalize (Tm.mk ak an as' al).fkey = x at hfin
  generalize (Tm.mk bk bn bs' bl).fkey = y at hfin
  simp -implicitDefEqProofs [row_mk, row_len, take_row, pure_d, re_d, thaw_d, fits_map, drop_rowK, splice_all, cut_all, hf, toDs_map, go_sem, -List.set_cons_succ, -List.set_cons_zero]
  refine ⟨fun h1 h2 h3 => ⟨⟨⟨h1, h2⟩, h3⟩, ?_⟩, fun h => ?_⟩
  · have hk := ((hfin h1).resolve_left h2).resolve_left h3
    have ck := fun H => kfImpl_calls x y H
    rw [hk] at ck
    have e : (!ok || ak == 1 || bk == 1) = false := by
      rw [h1]
      simp [h2, h3]
    refine qcall_pure ck hf rfl ?_
    simp -implicitDefEqProofs [e, h1, h2, h3, go_sem, -List.set_cons_succ, -List.set_cons_zero]
  · have e : (!ok || ak == 1 || bk == 1) = true := by
      cases ok with
      | false => rfl
      | true =>
        by_cases h2 : ak = 1
        · simp [h2]
        · simp [h rfl h2]
    rw [e]
    simp -implicitDefEqProofs [go_sem, -List.set_cons_succ, -List.set_cons_zero]
theorem law_run7 {g : Nat} {o : Obj} (hT : Tab g o) (rows : List (List D)) (hr : HasTys Tryz.prog (#[22, 22] : Array TypeId).toList rows) : ACalls Tryz.prog 7 (argsA Tryz.prog (#[22, 22] : Array TypeId).toList rows) [.tab g o] (fun r H' => H' = [.tab g o] ∧ r = .c (.d (.bool true))) := by
  obtain ⟨r, rs, rfl, h1, h2⟩ := hr.cons
  obtain ⟨r2, rs2, rfl, h3, h4⟩ := h2.cons
  obtain rfl := h4.nil
  obtain ⟨s, rfl, hs⟩ := bytes_ty h1
  obtain ⟨s2, rfl, hs2⟩ := bytes_ty h3
  simp only [argsA, argA, Tryz.underlying22, List.headD_cons]
  exact fkaLaw_calls hT s s2 hs hs2 _ rfl
namespace fnFirstKey
def laid3 : List (String × DataW Unit) := Rows.fnFirstKeyRow.laid
theorem tab_laid3 {W : World} (h : laidMetH Tryz.prog laid3 W) : ∃ (g : Nat) (o : Obj), W.heap[g]? = some o ∧ Tab g o := by
  rw [MakeChecks.laidMetH_plain _ _ _ (by kernel_rfl)] at h
  obtain ⟨ps, ⟨_, _, _, _, _, _, _, _, _, _, ⟨_, _, _, _, _, _, _, _, _, _, ⟨g2, t2, cs2, f2, p2, q2, hg2, ht2, hv2, hd2, _, _⟩, _⟩, _⟩, _, _⟩ := h
  have e1 : g2 = 2 := by
    have hg : Tryz.prog.globalNamed (laid3[2]).1 = some 2 := by kernel_rfl
    exact (Option.some.inj (hg.symm.trans hg2)).symm
  subst e1
  have e2 : t2 = 218 := by
    have ht : (Tryz.prog.globals[2]?).map (·.type) = some 218 := by kernel_rfl
    exact (Option.some.inj (ht.symm.trans ht2)).symm
  subst e2
  have e3 := Lib.cells_of_tab (k := .u64) (zs := Lib.pow10Tab) Tryz.underlying218 Tryz.underlying194 (by kernel_rfl) (by kernel_rfl) hd2
  have e4 : cs2 = (Lib.pow10Tab.map fun z => Value.int .u64 z).toArray := by
    rw [← e3]
  exact tab_mk (hv2.trans (congrArg some e4)) fun n h0 h1 w hw => Any.strconv_Itoa Tryz.laysM171 n h0 h1 w hw
theorem own : ownKnob Tryz.prog.godebug = none := by kernel_rfl
theorem door_met (os : Os) (args : Array Value) : laidMetH Tryz.prog laid3 ((World.doorLaid Tryz.prog 400 os).forCall (fun _ _ => 0) ⟨#[], args, []⟩).memory :=
  laidMetH_of_parts3 (fuel := 8) (laidMet_of_run' 8 (by kernel_rfl) (by kernel_rfl)) (by kernel_rfl) (by kernel_rfl)
theorem contract (H : Type) (enc : TypeId × Value → H) (W : World) (base : Nat) (args : Array Value) (ds gs : List (DataW H)) (before : List MemPlace) (hL : laidMetH Tryz.prog laid3 W)
    (hval : ∀ (j : Nat) t v, Tryz.f7.params[j]? = some t → args[j]? = some v → Value.okWide Tryz.prog W .any base t v)
    (hW : DataW.Whole enc Tryz.prog Tryz.f7.params.toList Rows.fnFirstKeySpec.vars false W args.toList ds gs before)
    (hw : (DataW.weightsEach Tryz.prog (Tryz.f7.params.toList ++ Rows.fnFirstKeySpec.plain.varTypes Tryz.prog) (ds ++ gs)).all (· ≤ reachBytes) = true) :
    Calls Tryz.prog 7 args W fun e W' => ∃ v, e = .returned v ∧ Rows.fnFirstKeySpec.post enc Tryz.prog Tryz.f7 false true false false W args v W' := by
  refine law_contract_tab (T := Tab) (L := [5, 22]) (tb := 4) (by kernel_rfl) (by kernel_rfl) (by kernel_rfl) rfl ?_ (by kernel_rfl) Tryz.underlying4 ?_ W base args ds gs before (tab_laid3 hL) hval hW hw
  · intro ds hl
    match ds, hl with
    | [d0, d1], _ => rfl
  · intro g o hT rows hr
    rw [Tryz.params7] at hr ⊢
    exact law_run7 hT rows hr

theorem lifted (os : Os) (started : os.Started) (H : Type) (enc : TypeId × Value → H) :
    ReturnsInHanded {} Tryz.checked os 7 .any (fun w args => (Rows.fnFirstKeySpec.pre enc Tryz.prog Tryz.f7 [] false w args ∧ laidMetH Tryz.prog laid3 w) ∧ sizedMet enc Tryz.prog Tryz.f7 (OpenSpec.ofChange Rows.fnFirstKeySpec) false w args)
      (Rows.fnFirstKeySpec.post enc Tryz.prog Tryz.f7 false true false false) := by
  refine returnsInHanded_of_change_and (C := Tryz.checked) (X := fun w _ => laidMetH Tryz.prog laid3 w) (fun _ _ _ hh h => h.of_heap hh) own started (by kernel_rfl) Tryz.func7
    (ChangeSpec.witness_shaped (enc := enc) (C := Tryz.checked) (os := os) (X := fun w _ => laidMetH Tryz.prog laid3 w) false (World.doorLaid Tryz.prog 400 os) #[.slice none 0 0, .slice none 0 0] 8 rfl (World.shaped_of_RefB (by kernel_rfl) (by kernel_rfl)) (by kernel_rfl) (by kernel_rfl) (by kernel_rfl) (door_met os _)) ?_
  intro W base args ds gs before hval hW _ hw hL _
  exact contract H enc W base args ds gs before hL hval hW hw

theorem said : Rows.FnFirstKeySaid :=
  OpenClaim.holds_of_wide 7 Tryz.f7 rfl rfl rfl rfl rfl rfl rfl ⟨rfl, rfl, rfl, rfl, rfl⟩ rfl rfl rfl rfl rfl (by kernel_rfl) Tryz.func7 (by kernel_rfl)
    (of_decide_eq_true (by kernel_rfl)) (by unfold Func.isWrapper; first | (rw [if_pos (by decide +kernel)]; kernel_rfl) | (rw [if_neg (by decide +kernel)]; exact ⟨rfl, rfl⟩))
    (fun os started H enc _ => lifted os started H enc)

theorem proved : Rows.FnFirstKeyCardSaid :=
  Claim7.holds_tied_plain_at .later [] [.data, .data, .data] true Rows.fnFirstKeyCard.stood.harness true
    said (fun _ h => by cases h) (by kernel_rfl) (fun _ h => by cases h) fnFirstKey_row_tie rfl ⟨rfl, rfl⟩ (by kernel_rfl) rfl
    (fun f fn hf hfn => by
      obtain rfl : f = 7 := Option.some.inj ((show Tryz.prog.funcNamed Rows.fnFirstKeyRow.func = some 7 by kernel_rfl).symm.trans hf) |>.symm
      obtain rfl : fn = Tryz.f7 := (Option.some.inj (Tryz.func7.symm.trans hfn)).symm
      exact ⟨by kernel_rfl, fun j t ht => by
        rw [Tryz.params7] at ht
        have hall : (Tryz.f7.params.toList.all fun u => !Tryz.prog.wantsStandIn u) = true := by kernel_rfl
        have hm : t ∈ Tryz.f7.params.toList := by
          rw [Tryz.params7]
          simpa using Array.mem_of_getElem? ht
        exact (show Tryz.prog.wantsStandIn t = false by simpa using List.all_eq_true.1 hall t hm)⟩)
    (by kernel_rfl)
end fnFirstKey

end Go.Proofs.YtbblefjbgbocoaaGreatDoor
