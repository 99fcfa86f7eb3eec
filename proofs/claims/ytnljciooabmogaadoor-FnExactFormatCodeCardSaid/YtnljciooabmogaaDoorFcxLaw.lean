/-
  The card FnExactFormatCode holds: impl.FormatCode answers as spec.FormatCode does.
  Conditions: none.
-/
import Derived.Test.YtnljciooabmogaaDoorBundA
import Derived.Test.YtnljciooabmogaaDoorCards
import Derived.Test.YtnljciooabmogaaDoorTie
import Derived.ProofKit
import Derived.OpenShut
import Derived.Stop.Joined
import Derived.SevenTiedAt
open Go Go.AM Go.Proofs
attribute [local go_sem] kw ew sw tw a_ b_ c_ A.ok A.val d_ e_ f_ g_ h_ i_ j_ k_ l_ m_ unA unD n_ AOp.total o_ p_ q_ r_ s_ t_ u_ v_ A.thaw C.thaw A.fits As.fits C.fits evs oks w_ A.pure C.pure A.re C.re x_ y_ cut A.cells C.rows? z_ A_ B_ C_ a0_ b0_ D_ Ob.re Cs.fits E_ F_ G_ H_ I_ J_ K_ L_ M_ N_ O_ C.toD P_ Q_ R_ S_ T_ Obs.fits U_ eqD V_ W_ X_ Y_ Z_
open Go Go.AM Go.Proofs
namespace Go.Proofs.YtnljciooabmogaaDoor
open Go.ChangeShapes Go.WideShapes Go.ChangeAt Go.WideElems Go.RowKit
set_option linter.unusedVariables false
set_option linter.unusedSimpArgs false
set_option maxRecDepth 100000
-- 4 loop.example/prologserver/laws.FnExactFormatCode params 1 ntmps 27
def ac4 : Cd := .seq (.region [⟨(some 2),.mv (.k (.c (.d (.bool false)))),none⟩] [2])
 (.seq (.region [⟨(some 3),.mv (.k (.c (.d (.int .i64 1048576)))),none⟩] [])
 (.seq (.region [⟨(some 7),.mv (.t 0),none⟩,
 ⟨(some 8),.mv (.t 3),none⟩,
 ⟨(some 9),.call false 18 [(.t 7),(.t 8)],none⟩,
 ⟨(some 3),.mv (.t 9),none⟩] [7,8,9])
 (.seq (.seq (.region [⟨(some 10),.mv (.t 3),none⟩,
 ⟨(some 11),.bin .lss (.t 10) (.k (.c (.d (.int .i64 0)))),none⟩] [3,10])
 (.cond (.t 11)
 (.seq (.region [⟨(some 2),.mv (.k (.c (.d (.bool true)))),none⟩] [0,11])
 (.ret))
 (.skip)))
 (.seq (.region [⟨(some 12),.mv (.t 0),none⟩,
 ⟨(some 13),.qcall 20 [(.t 12)],none⟩,
 ⟨(some 14),.qcall 19 [(.t 13)],none⟩,
 ⟨(some 4),.mv (.t 14),none⟩] [2,11,12,13,14])
 (.seq (.region [⟨(some 15),.mv (.t 0),none⟩,
 ⟨(some 16),.qcall 20 [(.t 15)],none⟩,
 ⟨(some 5),.mv (.t 16),none⟩] [15,16])
 (.seq (.region [⟨(some 17),.mv (.t 5),none⟩,
 ⟨(some 18),.qcall 21 [(.t 17)],none⟩,
 ⟨(some 6),.mv (.t 18),none⟩] [17,18])
 (.seq (.seq (.region [⟨(some 19),.mv (.t 6),none⟩,
 ⟨(some 20),.mv (.t 4),none⟩,
 ⟨(some 21),.bin .neq (.t 19) (.t 20),none⟩] [4,6,19,20])
 (.cond (.t 21)
 (.seq (.region [⟨(some 2),.mv (.k (.c (.d (.bool false)))),none⟩] [0,5,21])
 (.ret))
 (.skip)))
 (.seq (.seq (.region [⟨(some 22),.mv (.t 5),none⟩,
 ⟨(some 23),.mv (.t 0),none⟩,
 ⟨(some 24),.qcall 20 [(.t 23)],none⟩,
 ⟨(some 25),.qcall 22 [(.t 22),(.t 24)],none⟩,
 ⟨(some 26),.un .not (.t 25),none⟩] [0,2,5,21,22,23,24,25])
 (.cond (.t 26)
 (.seq (.region [⟨(some 2),.mv (.k (.c (.d (.bool false)))),none⟩] [26])
 (.ret))
 (.skip)))
 (.seq (.region [⟨(some 2),.mv (.k (.c (.d (.bool true)))),none⟩] [26])
 (.ret))))))))))
theorem ac4_ok : cFunc Tryd.prog [1000019,1000020,1000021,1000022] [(0,[2],[]),(1,[],[]),(2,[7,8,9],[]),(3,[3,10],[]),(4,[0,11],[]),(5,[2,11,12,13,14],[]),(6,[15,16],[]),(7,[17,18],[]),(8,[4,6,19,20],[]),(9,[0,5,21],[]),(10,[0,2,5,21,22,23,24,25],[]),(11,[26],[]),(12,[26],[])] Tryd.f4 = some (ac4,[.tmp 2],27) := by kernel_rfl
theorem szInstr_lenF (x : Ins) (hx : x.ok) (m : Int) (h0 : 0 ≤ m) (h1 : m ≤ 1048576) (H : Heap) : ACalls Tryd.prog 37 [.agg (x.row.map .d), .c (.d (.int .i64 m))] H (fun r H' => H' = H ∧ Left m (x.text.length ≤ 1048576) r) := by
  refine acalls Tryd.func37 (by kernel_rfl) ac37_ok fun hf => ?_
  have hlen := reach_i64 hx.text
  have hsm := reach_small hx.text
  have hsub : inR .i64 (m - (x.text.length : Int)) := small_i64 (by omega) (by omega)
  simp -implicitDefEqProofs [ac37, Ins.row, hlen, hsub, Left, go_sem, -List.set_cons_succ, -List.set_cons_zero]
  omega
theorem szInstrS_text (l : List Ins) (hl : l.length ≤ reachBytes) (hx : ∀ x ∈ l, x.ok) (H : Heap) : ACalls Tryd.prog 18 [.c (.d (.sl (l.map Ins.row))), .c (.d (.int .i64 1048576))] H (fun r H' => H' = H ∧ Left 1048576 (l.length ≤ 1048576 ∧ ∀ x ∈ l, x.text.length ≤ 1048576) r) := by
  refine acalls Tryd.func18 (by kernel_rfl) ac18_ok fun hf => ?_
  have hlen := reach_i64 hl
  have hsm := reach_small hl
  have hsub : inR .i64 (1048576 - (l.length : Int)) := small_i64 (by omega) (by omega)
  simp -implicitDefEqProofs [ac18, hlen, hsub, go_sem, -List.set_cons_succ, -List.set_cons_zero]
  refine ⟨fun _ => by simp [Left], fun hge => ?_⟩
  have hsmall : l.length ≤ 1048576 := by omega
  refine loop_set (σ := Nat × Int) (fun x => [(5, .c (.d (.int .i64 x.1))), (1, .c (.d (.int .i64 x.2)))]) (fun _ => H) (fun _ => []) (fun x => x.1 ≤ l.length ∧ (0 ≤ x.2 ∧ x.2 ≤ 1048576) ∧ ∀ y ∈ l.take x.1, y.text.length ≤ 1048576) (fun x => l.length - x.1) (0, 1048576 - l.length) rfl ⟨Nat.zero_le _, by simp; omega, by simp⟩ ?_
  rintro ⟨i, m⟩ ⟨hi, ⟨hm0, hm1⟩, hall⟩
  simp only at hi hm0 hm1 hall
  simp -implicitDefEqProofs [setAll, hlen, go_sem, -List.set_cons_succ, -List.set_cons_zero]
  refine ⟨fun hlt => ?_, fun hge => ⟨m, rfl, by omega, hm1, fun _ => ⟨hsmall, by rw [show i = l.length by omega, List.take_length] at hall; exact hall⟩⟩⟩
  refine row_of hlt rfl ?_
  simp -implicitDefEqProofs [Ins.row, go_sem, -List.set_cons_succ, -List.set_cons_zero]
  refine call_some (szInstr_lenF l[i] (hx _ (List.getElem_mem hlt)) m hm0 hm1 _) (by simp) (fun r => Left.re) hf ?_
  rintro _ ⟨k, rfl, hk0, hk1, hkt⟩
  have hadd : inR .i64 ((i : Int) + 1) := small_i64 (by omega) (by omega)
  simp -implicitDefEqProofs [hadd, go_sem, -List.set_cons_succ, -List.set_cons_zero]
  refine ⟨fun _ => by simp [Left], fun hk => ?_⟩
  refine loop_back (i + 1, k) (by simp [setAll]) ⟨hlt, ⟨hk, by simp only; omega⟩, fun y hy => ?_⟩ (by show l.length - (i + 1) < l.length - i; omega)
  rw [List.take_succ_eq_append_getElem hlt] at hy
  rcases List.mem_append.1 hy with h | h
  · exact hall y h
  · rw [List.mem_singleton.1 h]; exact hkt hk
theorem fcxLaw_calls {g : Nat} {o : Obj} (hT : Tab g o) (l : List Ins) (hl : l.length ≤ reachBytes) (hx : ∀ x ∈ l, x.ok) (H : Heap) (hH : H[0]? = some (.tab g o)) : ACalls Tryd.prog 4 [.c (.d (.sl (l.map Ins.row)))] H (fun r H' => H' = H ∧ r = .c (.d (.bool true))) := by
  refine acalls Tryd.func4 (by kernel_rfl) ac4_ok fun hf => ?_
  simp -implicitDefEqProofs [ac4, hf, go_sem, -List.set_cons_succ, -List.set_cons_zero]
  refine call_some (szInstrS_text l hl hx _) (by simp) (fun r => Left.re) hf ?_
  rintro _ ⟨k, rfl, _, _, hk⟩
  simp -implicitDefEqProofs [hf, go_sem, -List.set_cons_succ, -List.set_cons_zero]
  intro h0
  obtain ⟨hm, ht⟩ := hk h0
  have hxt : ∀ x ∈ l, x.ok ∧ x.text.length ≤ 1048576 := fun x h => ⟨hx x h, ht x h⟩
  refine qcall_pure (toInstrS_calls l hl hm) hf rfl ?_
  simp -implicitDefEqProofs [hf, go_sem, -List.set_cons_succ, -List.set_cons_zero]
  refine qcall_pure (fcSpec_calls l hm hxt) hf rfl ?_
  simp -implicitDefEqProofs [hf, go_sem, -List.set_cons_succ, -List.set_cons_zero]
  refine qcall_pure (toInstrS_calls l hl hm) hf rfl ?_
  simp -implicitDefEqProofs [hf, go_sem, -List.set_cons_succ, -List.set_cons_zero]
  refine qcall_tab (fun H' hH' => fcImpl_calls hT l hm hxt H' hH') hf hH rfl ?_
  simp -implicitDefEqProofs [hf, go_sem, -List.set_cons_succ, -List.set_cons_zero]
  refine qcall_pure (toInstrS_calls l hl hm) hf rfl ?_
  simp -implicitDefEqProofs [hf, go_sem, -List.set_cons_succ, -List.set_cons_zero]
  refine qcall_pure (eqInstrS_calls l hl) hf rfl ?_
  simp -implicitDefEqProofs [hf, go_sem, -List.set_cons_succ, -List.set_cons_zero]
theorem law_run4 {g : Nat} {o : Obj} (hT : Tab g o) (rows : List (List D)) (hr : HasTys Tryd.prog (#[43] : Array TypeId).toList rows) : ACalls Tryd.prog 4 (argsA Tryd.prog (#[43] : Array TypeId).toList rows) [.tab g o] (fun r H' => H' = [.tab g o] ∧ r = .c (.d (.bool true))) := by
  obtain ⟨r, rs, rfl, h1, h2⟩ := hr.cons
  obtain rfl := h2.nil
  obtain ⟨rows, rfl, hb, hc, ht⟩ := h1.sl_inv Tryd.underlying43
  rw [show Tryd.prog.bytesOf 67 = 40 from by kernel_rfl] at hb
  obtain ⟨l, rfl, hl⟩ := list_of_ty (fun r hr => instr_ty (ht r hr))
  simp only [argsA, argA, Tryd.underlying43, List.headD_cons]
  exact fcxLaw_calls hT l (by simp at hb; omega) hl _ rfl
namespace fnExactFormatCode
theorem own : ownKnob Tryd.prog.godebug = none := by kernel_rfl
theorem door_met (os : Os) (args : Array Value) : laidMetH Tryd.prog laid ((World.doorLaid Tryd.prog 400 os).forCall (fun _ _ => 0) ⟨#[], args, []⟩).memory :=
  laidMetH_of_parts3 (fuel := 8) (laidMet_of_run' 8 (by kernel_rfl) (by kernel_rfl)) (by kernel_rfl) (by kernel_rfl)
theorem contract (H : Type) (enc : TypeId × Value → H) (W : World) (base : Nat) (args : Array Value) (ds gs : List (DataW H)) (before : List MemPlace) (hL : laidMetH Tryd.prog laid W)
    (hval : ∀ (j : Nat) t v, Tryd.f4.params[j]? = some t → args[j]? = some v → Value.okWide Tryd.prog W .any base t v)
    (hW : DataW.Whole enc Tryd.prog Tryd.f4.params.toList Rows.fnExactFormatCodeSpec.vars false W args.toList ds gs before)
    (hw : (DataW.weightsEach Tryd.prog (Tryd.f4.params.toList ++ Rows.fnExactFormatCodeSpec.plain.varTypes Tryd.prog) (ds ++ gs)).all (· ≤ reachBytes) = true) :
    Calls Tryd.prog 4 args W fun e W' => ∃ v, e = .returned v ∧ Rows.fnExactFormatCodeSpec.post enc Tryd.prog Tryd.f4 false true false false W args v W' := by
  refine law_contract_tab (T := Tab) (L := [3, 9, 67, 43]) (tb := 4) (by kernel_rfl) (by kernel_rfl) (by kernel_rfl) rfl ?_ (by kernel_rfl) Tryd.underlying4 ?_ W base args ds gs before (tab_laid hL) hval hW hw
  · intro ds hl
    match ds, hl with
    | [d0], _ => rfl
  · intro g o hT rows hr
    rw [Tryd.params4] at hr ⊢
    exact law_run4 hT rows hr

theorem lifted (os : Os) (started : os.Started) (H : Type) (enc : TypeId × Value → H) :
    ReturnsInHanded {} Tryd.checked os 4 .any (fun w args => (Rows.fnExactFormatCodeSpec.pre enc Tryd.prog Tryd.f4 [] false w args ∧ laidMetH Tryd.prog laid w) ∧ sizedMet enc Tryd.prog Tryd.f4 (OpenSpec.ofChange Rows.fnExactFormatCodeSpec) false w args)
      (Rows.fnExactFormatCodeSpec.post enc Tryd.prog Tryd.f4 false true false false) := by
  refine returnsInHanded_of_change_and (C := Tryd.checked) (X := fun w _ => laidMetH Tryd.prog laid w) (fun _ _ _ hh h => h.of_heap hh) own started (by kernel_rfl) Tryd.func4
    (ChangeSpec.witness_shaped (enc := enc) (C := Tryd.checked) (os := os) (X := fun w _ => laidMetH Tryd.prog laid w) false (World.doorLaid Tryd.prog 400 os) #[.slice none 0 0] 8 rfl (World.shaped_of_RefB (by kernel_rfl) (by kernel_rfl)) (by kernel_rfl) (by kernel_rfl) (by kernel_rfl) (door_met os _)) ?_
  intro W base args ds gs before hval hW _ hw hL _
  exact contract H enc W base args ds gs before hL hval hW hw

theorem said : Rows.FnExactFormatCodeSaid :=
  OpenClaim.holds_of_wide 4 Tryd.f4 rfl rfl rfl rfl rfl rfl rfl ⟨rfl, rfl, rfl, rfl, rfl⟩ rfl rfl rfl rfl rfl (by kernel_rfl) Tryd.func4 (by kernel_rfl)
    (of_decide_eq_true (by kernel_rfl)) (by unfold Func.isWrapper; first | (rw [if_pos (by decide +kernel)]; kernel_rfl) | (rw [if_neg (by decide +kernel)]; exact ⟨rfl, rfl⟩))
    (fun os started H enc _ => lifted os started H enc)

theorem proved : Rows.FnExactFormatCodeCardSaid :=
  Claim7.holds_tied_plain_at .later [] [.data, .data, .data] true Rows.fnExactFormatCodeCard.stood.harness false
    said (fun _ h => by cases h) (by kernel_rfl) (fun _ h => by cases h) fnExactFormatCode_row_tie rfl ⟨rfl, rfl⟩ (by kernel_rfl) rfl
    (fun f fn hf hfn => by
      obtain rfl : f = 4 := Option.some.inj ((show Tryd.prog.funcNamed Rows.fnExactFormatCodeRow.func = some 4 by kernel_rfl).symm.trans hf) |>.symm
      obtain rfl : fn = Tryd.f4 := (Option.some.inj (Tryd.func4.symm.trans hfn)).symm
      exact ⟨by kernel_rfl, fun j t ht => by
        rw [Tryd.params4] at ht
        have hall : (Tryd.f4.params.toList.all fun u => !Tryd.prog.wantsStandIn u) = true := by kernel_rfl
        have hm : t ∈ Tryd.f4.params.toList := by
          rw [Tryd.params4]
          simpa using Array.mem_of_getElem? ht
        exact (show Tryd.prog.wantsStandIn t = false by simpa using List.all_eq_true.1 hall t hm)⟩)
    (by kernel_rfl)
end fnExactFormatCode

end Go.Proofs.YtnljciooabmogaaDoor
