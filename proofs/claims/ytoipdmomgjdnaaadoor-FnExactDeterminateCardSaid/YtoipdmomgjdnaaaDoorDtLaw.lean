/-
  The card FnExactDeterminate holds: impl.Determinate answers as spec.Determinate does.
  Conditions: none.
-/
import Derived.Test.YtoipdmomgjdnaaaDoorBundB
import Derived.Test.YtoipdmomgjdnaaaDoorBundA
import Derived.Test.YtoipdmomgjdnaaaDoorCards
import Derived.Test.YtoipdmomgjdnaaaDoorTie
import Derived.ProofKit
import Derived.OpenShut
import Derived.Stop.Joined
import Derived.SevenTiedAt
open Go Go.AM Go.Proofs
attribute [local go_sem] kw ew sw tw a_ b_ c_ A.ok A.val d_ e_ f_ g_ h_ i_ j_ k_ l_ m_ unA unD n_ AOp.total o_ p_ q_ r_ s_ t_ u_ v_ A.thaw C.thaw A.fits As.fits C.fits evs oks w_ A.pure C.pure A.re C.re x_ y_ cut A.cells C.rows? z_ A_ B_ C_ a0_ b0_ D_ Ob.re Cs.fits E_ F_ G_ H_ I_ J_ K_ L_ M_ N_ O_ C.toD P_ Q_ R_ S_ T_ Obs.fits U_ eqD V_ W_ X_ Y_ Z_
open Go Go.AM Go.Proofs
namespace Go.Proofs.YtoipdmomgjdnaaaDoor
open Go.ChangeShapes Go.WideShapes Go.ChangeAt Go.WideElems Go.RowKit
set_option linter.unusedVariables false
set_option linter.unusedSimpArgs false
set_option maxRecDepth 100000
-- 3 loop.example/prologserver/laws.FnExactDeterminate params 3 ntmps 38
def ac3 : Cd := .seq (.region [⟨(some 6),.mv (.k (.c (.d (.bool false)))),none⟩] [6])
 (.seq (.seq (.region [⟨(some 11),.mv (.t 1),none⟩,
 ⟨(some 12),.len 0 (.t 11),none⟩,
 ⟨(some 13),.bin .gtr (.t 12) (.k (.c (.d (.int .i64 1048576)))),none⟩] [11,12])
 (.cond (.t 13)
 (.seq (.region [⟨(some 6),.mv (.k (.c (.d (.bool true)))),none⟩] [0,1,2,13])
 (.ret))
 (.skip)))
 (.seq (.region [⟨(some 7),.mv (.k (.c (.d (.int .i64 1048576)))),none⟩] [6,13])
 (.seq (.region [⟨(some 14),.mv (.t 0),none⟩,
 ⟨(some 15),.mv (.t 7),none⟩,
 ⟨(some 16),.call false 4 [(.t 14),(.t 15)],none⟩,
 ⟨(some 7),.mv (.t 16),none⟩] [14,15,16])
 (.seq (.seq (.region [⟨(some 17),.mv (.t 7),none⟩,
 ⟨(some 18),.bin .lss (.t 17) (.k (.c (.d (.int .i64 0)))),none⟩] [7,17])
 (.cond (.t 18)
 (.seq (.region [⟨(some 6),.mv (.k (.c (.d (.bool true)))),none⟩] [0,1,2,18])
 (.ret))
 (.skip)))
 (.seq (.region [⟨(some 19),.mv (.t 0),none⟩,
 ⟨(some 20),.qcall 6 [(.t 19)],none⟩,
 ⟨(some 21),.mv (.t 1),none⟩,
 ⟨(some 22),.mv (.t 2),none⟩,
 ⟨(some 23),.qcall 5 [(.t 20),(.t 21),(.t 22)],none⟩,
 ⟨(some 8),.mv (.t 23),none⟩] [6,18,19,20,21,22,23])
 (.seq (.region [⟨(some 24),.mv (.t 0),none⟩,
 ⟨(some 25),.qcall 6 [(.t 24)],none⟩,
 ⟨(some 9),.mv (.t 25),none⟩] [24,25])
 (.seq (.region [⟨(some 26),.mv (.t 9),none⟩,
 ⟨(some 27),.mv (.t 1),none⟩,
 ⟨(some 28),.mv (.t 2),none⟩,
 ⟨(some 29),.qcall 7 [(.t 26),(.t 27),(.t 28)],none⟩,
 ⟨(some 10),.mv (.t 29),none⟩] [1,2,26,27,28,29])
 (.seq (.seq (.region [⟨(some 30),.mv (.t 10),none⟩,
 ⟨(some 31),.mv (.t 8),none⟩,
 ⟨(some 32),.binB true (.t 30) (.t 31),none⟩] [8,10,30,31])
 (.cond (.t 32)
 (.seq (.region [⟨(some 6),.mv (.k (.c (.d (.bool false)))),none⟩] [0,9,32])
 (.ret))
 (.skip)))
 (.seq (.seq (.region [⟨(some 33),.mv (.t 9),none⟩,
 ⟨(some 34),.mv (.t 0),none⟩,
 ⟨(some 35),.qcall 6 [(.t 34)],none⟩,
 ⟨(some 36),.qcall 8 [(.t 33),(.t 35)],none⟩,
 ⟨(some 37),.un .not (.t 36),none⟩] [0,6,9,32,33,34,35,36])
 (.cond (.t 37)
 (.seq (.region [⟨(some 6),.mv (.k (.c (.d (.bool false)))),none⟩] [37])
 (.ret))
 (.skip)))
 (.seq (.region [⟨(some 6),.mv (.k (.c (.d (.bool true)))),none⟩] [37])
 (.ret)))))))))))
theorem ac3_ok : cFunc Tryd.prog [1000005,1000006,1000007,1000008] [(0,[6],[]),(1,[11,12],[]),(2,[0,1,2,13],[]),(3,[6,13],[]),(4,[14,15,16],[]),(5,[7,17],[]),(6,[0,1,2,18],[]),(7,[6,18,19,20,21,22,23],[]),(8,[24,25],[]),(9,[1,2,26,27,28,29],[]),(10,[8,10,30,31],[]),(11,[0,9,32],[]),(12,[0,6,9,32,33,34,35,36],[]),(13,[37],[]),(14,[37],[])] Tryd.f3 = some (ac3,[.tmp 6],38) := by kernel_rfl
theorem dtLaw_calls {g : Nat} {o : Obj} (hT : Tab g o) (p : List Cl) (hl : p.length ≤ reachBytes) (h : ∀ c ∈ p, c.fine) (s : List UInt8) (hs : s.length ≤ reachBytes) (n : Int) (hn : inR .i64 n) (H : Heap) (hH : H[0]? = some (.tab g o)) :
    ACalls Tryd.prog 3 [.c (.d (.sl (p.map Cl.row))), .c (.d (.str s)), .c (.d (.int .i64 n))] H (fun r H' => H' = H ∧ r = .c (.d (.bool true))) := by
  refine acalls Tryd.func3 (by kernel_rfl) ac3_ok fun hf => ?_
  have hsl := reach_i64 hs
  simp -implicitDefEqProofs [ac3, hsl, go_sem, -List.set_cons_succ, -List.set_cons_zero]
  intro hs1
  refine call_some (szClauseS_calls p hl h 1048576 (by omega) (by omega) _) (by simp [Ob.re, C.re]) (fun r => Left.re) hf ?_
  rintro _ ⟨q, rfl, hq0, hq1, hq2⟩
  simp -implicitDefEqProofs [go_sem, -List.set_cons_succ, -List.set_cons_zero]
  intro hq
  have hp : FitsC p := hq2 hq
  refine qcall_pure (toClauseS_calls p hp) hf rfl ?_
  simp -implicitDefEqProofs [go_sem, -List.set_cons_succ, -List.set_cons_zero]
  refine qcall_pure (detSpec_calls p hp s n hn) hf rfl ?_
  simp -implicitDefEqProofs [go_sem, -List.set_cons_succ, -List.set_cons_zero]
  refine qcall_pure (toClauseS_calls p hp) hf rfl ?_
  simp -implicitDefEqProofs [go_sem, -List.set_cons_succ, -List.set_cons_zero]
  refine qcall_tab (detImpl_calls hT p hp s (by omega) n hn) hf hH rfl ?_
  simp -implicitDefEqProofs [go_sem, -List.set_cons_succ, -List.set_cons_zero]
  refine qcall_pure (toClauseS_calls p hp) hf rfl ?_
  simp -implicitDefEqProofs [go_sem, -List.set_cons_succ, -List.set_cons_zero]
  refine qcall_pure (eqClauseS_calls p hp) hf rfl ?_
  simp -implicitDefEqProofs [go_sem, -List.set_cons_succ, -List.set_cons_zero]
theorem law_run3 {g : Nat} {o : Obj} (hT : Tab g o) (rows : List (List D)) (hr : HasTys Tryd.prog (#[22, 9, 3] : Array TypeId).toList rows) : ACalls Tryd.prog 3 (argsA Tryd.prog (#[22, 9, 3] : Array TypeId).toList rows) [.tab g o] (fun r H' => H' = [.tab g o] ∧ r = .c (.d (.bool true))) := by
  obtain ⟨r, rs, rfl, h1, h2⟩ := hr.cons
  obtain ⟨r2, rs2, rfl, h3, h4⟩ := h2.cons
  obtain ⟨r3, rs3, rfl, h5, h6⟩ := h4.cons
  obtain rfl := h6.nil
  obtain ⟨p, rfl, hb, hl⟩ := clauses_ty h1
  obtain ⟨s, rfl, hs⟩ := h3.str_inv Tryd.underlying9
  obtain ⟨n, rfl, hn⟩ := h5.int_inv Tryd.underlying3
  simp only [argsA, argA, Tryd.underlying22, Tryd.underlying9, Tryd.underlying3, List.headD_cons]
  exact dtLaw_calls hT p hb hl s hs n hn _ rfl
namespace fnExactDeterminate
theorem own : ownKnob Tryd.prog.godebug = none := by kernel_rfl
theorem door_met (os : Os) (args : Array Value) : laidMetH Tryd.prog laid ((World.doorLaid Tryd.prog 400 os).forCall (fun _ _ => 0) ⟨#[], args, []⟩).memory :=
  laidMetH_of_parts3 (fuel := 8) (laidMet_of_run' 8 (by kernel_rfl) (by kernel_rfl)) (by kernel_rfl) (by kernel_rfl)
theorem contract (H : Type) (enc : TypeId × Value → H) (W : World) (base : Nat) (args : Array Value) (ds gs : List (DataW H)) (before : List MemPlace) (hL : laidMetH Tryd.prog laid W)
    (hval : ∀ (j : Nat) t v, Tryd.f3.params[j]? = some t → args[j]? = some v → Value.okWide Tryd.prog W .any base t v)
    (hW : DataW.Whole enc Tryd.prog Tryd.f3.params.toList Rows.fnExactDeterminateSpec.vars false W args.toList ds gs before)
    (hw : (DataW.weightsEach Tryd.prog (Tryd.f3.params.toList ++ Rows.fnExactDeterminateSpec.plain.varTypes Tryd.prog) (ds ++ gs)).all (· ≤ reachBytes) = true) :
    Calls Tryd.prog 3 args W fun e W' => ∃ v, e = .returned v ∧ Rows.fnExactDeterminateSpec.post enc Tryd.prog Tryd.f3 false true false false W args v W' := by
  refine law_contract_tab (T := Tab) (L := [3, 9, 32, 30, 34, 22]) (tb := 4) (by kernel_rfl) (by kernel_rfl) (by kernel_rfl) rfl ?_ (by kernel_rfl) Tryd.underlying4 ?_ W base args ds gs before (tab_laid hL) hval hW hw
  · intro ds hl
    match ds, hl with
    | [d0, d1, d2], _ => rfl
  · intro g o hT rows hr
    rw [Tryd.params3] at hr ⊢
    exact law_run3 hT rows hr

theorem lifted (os : Os) (started : os.Started) (H : Type) (enc : TypeId × Value → H) :
    ReturnsInHanded {} Tryd.checked os 3 .any (fun w args => (Rows.fnExactDeterminateSpec.pre enc Tryd.prog Tryd.f3 [] false w args ∧ laidMetH Tryd.prog laid w) ∧ sizedMet enc Tryd.prog Tryd.f3 (OpenSpec.ofChange Rows.fnExactDeterminateSpec) false w args)
      (Rows.fnExactDeterminateSpec.post enc Tryd.prog Tryd.f3 false true false false) := by
  refine returnsInHanded_of_change_and (C := Tryd.checked) (X := fun w _ => laidMetH Tryd.prog laid w) (fun _ _ _ hh h => h.of_heap hh) own started (by kernel_rfl) Tryd.func3
    (ChangeSpec.witness_shaped (enc := enc) (C := Tryd.checked) (os := os) (X := fun w _ => laidMetH Tryd.prog laid w) false (World.doorLaid Tryd.prog 400 os) #[.slice none 0 0, .string ⟨#[]⟩, .int .i64 0] 8 rfl (World.shaped_of_RefB (by kernel_rfl) (by kernel_rfl)) (by kernel_rfl) (by kernel_rfl) (by kernel_rfl) (door_met os _)) ?_
  intro W base args ds gs before hval hW _ hw hL _
  exact contract H enc W base args ds gs before hL hval hW hw

theorem said : Rows.FnExactDeterminateSaid :=
  OpenClaim.holds_of_wide 3 Tryd.f3 rfl rfl rfl rfl rfl rfl rfl ⟨rfl, rfl, rfl, rfl, rfl⟩ rfl rfl rfl rfl rfl (by kernel_rfl) Tryd.func3 (by kernel_rfl)
    (of_decide_eq_true (by kernel_rfl)) (by unfold Func.isWrapper; first | (rw [if_pos (by decide +kernel)]; kernel_rfl) | (rw [if_neg (by decide +kernel)]; exact ⟨rfl, rfl⟩))
    (fun os started H enc _ => lifted os started H enc)

theorem proved : Rows.FnExactDeterminateCardSaid :=
  Claim7.holds_tied_plain_at .later [] [.data, .data, .data] true Rows.fnExactDeterminateCard.stood.harness false
    said (fun _ h => by cases h) (by kernel_rfl) (fun _ h => by cases h) fnExactDeterminate_row_tie rfl ⟨rfl, rfl⟩ (by kernel_rfl) rfl
    (fun f fn hf hfn => by
      obtain rfl : f = 3 := Option.some.inj ((show Tryd.prog.funcNamed Rows.fnExactDeterminateRow.func = some 3 by kernel_rfl).symm.trans hf) |>.symm
      obtain rfl : fn = Tryd.f3 := (Option.some.inj (Tryd.func3.symm.trans hfn)).symm
      exact ⟨by kernel_rfl, fun j t ht => by
        rw [Tryd.params3] at ht
        have hall : (Tryd.f3.params.toList.all fun u => !Tryd.prog.wantsStandIn u) = true := by kernel_rfl
        have hm : t ∈ Tryd.f3.params.toList := by
          rw [Tryd.params3]
          simpa using Array.mem_of_getElem? ht
        exact (show Tryd.prog.wantsStandIn t = false by simpa using List.all_eq_true.1 hall t hm)⟩)
    (by kernel_rfl)
end fnExactDeterminate

end Go.Proofs.YtoipdmomgjdnaaaDoor
