/-
  The card FnFormatCode holds: the text of code has a line for each instruction.
  Conditions: none.
-/
import Derived.Test.YtnljciooabmogaaGreatDoorBundD
import Derived.Test.YtnljciooabmogaaGreatDoorCards
import Derived.Test.YtnljciooabmogaaGreatDoorTie
import Derived.ProofKit
import Derived.OpenShut
import Derived.Stop.Joined
import Derived.SevenTiedAt
open Go Go.AM Go.Proofs
attribute [local go_sem] kw ew sw tw a_ b_ c_ A.ok A.val d_ e_ f_ g_ h_ i_ j_ k_ l_ m_ unA unD n_ AOp.total o_ p_ q_ r_ s_ t_ u_ v_ A.thaw C.thaw A.fits As.fits C.fits evs oks w_ A.pure C.pure A.re C.re x_ y_ cut A.cells C.rows? z_ A_ B_ C_ a0_ b0_ D_ Ob.re Cs.fits E_ F_ G_ H_ I_ J_ K_ L_ M_ N_ O_ C.toD P_ Q_ R_ S_ T_ Obs.fits U_ eqD V_ W_ X_ Y_ Z_
open Go Go.AM Go.Proofs
namespace Go.Proofs.YtnljciooabmogaaGreatDoor
open Go.ChangeShapes Go.WideShapes Go.ChangeAt Go.WideElems Go.RowKit
set_option linter.unusedVariables false
set_option linter.unusedSimpArgs false
set_option maxRecDepth 100000
-- 3 loop.example/prologserver/laws.FnFormatCode params 1 ntmps 42
-- loop head live: [3,4,5,6]
def ac3 : Cd := .seq (.region [⟨(some 2),.mv (.k (.c (.d (.bool false)))),none⟩] [2])
 (.seq (.seq (.region [⟨(some 7),.mv (.t 0),none⟩,
 ⟨(some 8),.len 1 (.t 7),none⟩,
 ⟨(some 9),.bin .gtr (.t 8) (.k (.c (.d (.int .i64 1048576)))),none⟩] [7,8])
 (.cond (.t 9)
 (.seq (.region [⟨(some 2),.mv (.k (.c (.d (.bool true)))),none⟩] [0,9])
 (.ret))
 (.skip)))
 (.seq (.region [⟨(some 10),.mv (.t 0),none⟩,
 ⟨(some 11),.call false 4 [(.t 10)],none⟩,
 ⟨(some 3),.mv (.t 11),none⟩] [0,2,9,10,11])
 (.seq (.region [⟨(some 12),.mv (.t 3),none⟩,
 ⟨(some 13),.qcall 5 [(.t 12)],none⟩,
 ⟨(some 4),.mv (.t 13),none⟩] [12,13])
 (.seq (.seq (.region [⟨(some 14),.mv (.t 4),none⟩,
 ⟨(some 15),.mv (.t 3),none⟩,
 ⟨(some 16),.qcall 6 [(.t 15)],none⟩,
 ⟨(some 17),.bin .neq (.t 14) (.t 16),none⟩,
 ⟨(some 18),.mv (.t 17),none⟩,
 ⟨(some 19),.mv (.t 4),some (18,false)⟩,
 ⟨(some 20),.bin .eql (.t 19) (.k (.c (.d (.str [])))),some (18,false)⟩,
 ⟨(some 21),.pick (.t 18) (.k (.c (.d (.bool true)))) (.t 20),none⟩] [14,15,16,17,18,19,20])
 (.cond (.t 21)
 (.seq (.region [⟨(some 22),.mv (.t 4),none⟩,
 ⟨(some 23),.mv (.t 3),none⟩,
 ⟨(some 24),.qcall 6 [(.t 23)],none⟩,
 ⟨(some 25),.bin .eql (.t 22) (.t 24),none⟩,
 ⟨(some 2),.mv (.t 25),none⟩] [3,4,21,22,23,24,25])
 (.ret))
 (.skip)))
 (.seq (.region [⟨(some 5),.mv (.k (.c (.d (.int .i64 0)))),none⟩] [2,21])
 (.seq (.seq (.region [⟨(some 6),.mv (.k (.c (.d (.int .i64 0)))),none⟩] [])
 (.block 0 (.loop (.seq (.seq (.region [⟨(some 26),.mv (.t 6),none⟩,
 ⟨(some 27),.mv (.t 4),none⟩,
 ⟨(some 28),.len 0 (.t 27),none⟩,
 ⟨(some 29),.bin .lss (.t 26) (.t 28),none⟩] [26,27,28])
 (.cond (.t 29)
 (.skip)
 (.exit 0)))
 (.seq (.block 1 (.seq (.region [⟨(some 32),.mv (.t 4),none⟩,
 ⟨(some 33),.mv (.t 6),none⟩,
 ⟨(some 34),.index (.t 32) (.t 33),none⟩,
 ⟨(some 35),.bin .eql (.t 34) (.k (.c (.d (.int .u8 10)))),none⟩] [29,32,33,34])
 (.cond (.t 35)
 (.region [⟨(some 36),.mv (.t 5),none⟩,
 ⟨(some 37),.bin .add (.t 36) (.k (.c (.d (.int .i64 1)))),none⟩,
 ⟨(some 5),.mv (.t 37),none⟩] [35,36,37])
 (.skip))))
 (.region [⟨(some 30),.mv (.t 6),none⟩,
 ⟨(some 31),.bin .add (.t 30) (.k (.c (.d (.int .i64 1)))),none⟩,
 ⟨(some 6),.mv (.t 31),none⟩] [30,31,35]))))))
 (.seq (.region [⟨(some 38),.mv (.t 5),none⟩,
 ⟨(some 39),.mv (.t 3),none⟩,
 ⟨(some 40),.len 1 (.t 39),none⟩,
 ⟨(some 41),.bin .eql (.t 38) (.t 40),none⟩,
 ⟨(some 2),.mv (.t 41),none⟩] [3,5,38,39,40,41])
 (.ret))))))))
theorem ac3_ok : cFunc Tryz.prog [1000005,1000006] [(0,[2],[]),(1,[7,8],[]),(2,[0,9],[]),(3,[0,2,9,10,11],[]),(4,[12,13],[]),(5,[14,15,16,17,18,19,20],[]),(6,[3,4,21,22,23,24,25],[]),(7,[2,21],[]),(8,[],[]),(9,[26,27,28],[]),(11,[29,32,33,34],[]),(12,[35,36,37],[]),(10,[30,31,35],[]),(13,[3,5,38,39,40,41],[])] Tryz.f3 = some (ac3,[.tmp 2],42) := by kernel_rfl
theorem word_nl (op : Int) : (opWord op).count 10 = 0 := by
  rcases op_cases op with rfl | rfl | rfl | rfl | rfl | rfl | rfl | rfl | rfl | rfl | rfl | rfl | rfl | rfl | h
  all_goals try decide
  have h1 : op ≠ 1 ∧ op ≠ 2 ∧ op ≠ 3 ∧ op ≠ 4 ∧ op ≠ 5 ∧ op ≠ 6 ∧ op ≠ 7 ∧ op ≠ 8 ∧ op ≠ 9 ∧ op ≠ 10 ∧ op ≠ 11 ∧ op ≠ 12 ∧ op ≠ 13 ∧ op ≠ 14 := by omega
  simp [opWord, h1]
theorem dec_nl : ∀ u : Nat, u ≤ 999 → (Lib.decDigits u).count 10 = 0 := by
  have key : ((List.range 1000).all fun u => (Lib.decDigits u).count 10 == 0) = true := by kernel_rfl
  intro u hu
  have := List.all_eq_true.1 key u (by simp; omega)
  simpa using this
theorem itoa_nl {n : Int} (h0 : -999 ≤ n) (h1 : n ≤ 999) : (Lib.itoa n).count 10 = 0 := by
  unfold Lib.itoa
  split
  · rw [List.count_cons, dec_nl _ (by omega)]; rfl
  · exact dec_nl _ (by omega)
theorem name_nl {s : List UInt8} (h : nameB s = true) : s.count 10 = 0 := by
  rw [List.count_eq_zero]
  simp only [nameB, Bool.or_eq_true] at h
  rcases h with h | h
  · intro hm
    simp only [lettersB, Bool.and_eq_true, List.all_eq_true] at h
    have := h.1 _ hm
    simp [lowB] at this
  · simp only [List.contains_eq_mem, decide_eq_true_eq] at h
    have : ∀ x ∈ signs, (10 : UInt8) ∉ x := by decide
    exact this _ h
theorem fmt_nl (x : Ins) : x.fmt.count 10 = 0 := by
  obtain ⟨op, a, b, t⟩ := x
  unfold Ins.fmt
  split
  · rename_i h
    simp only [Ins.okB, Bool.and_eq_true, Bool.or_eq_true, decide_eq_true_eq, beq_iff_eq] at h
    obtain ⟨⟨⟨⟨⟨h1, h2⟩, h3⟩, h4⟩, h5⟩, h6⟩ := h
    have w := word_nl op
    have ia := itoa_nl h2.1 h2.2
    have ib := itoa_nl (n := b) (by omega) h3.2
    cases hA : opIA op <;> cases hB : opB op <;> cases hN : opN op
    all_goals first
      | (rw [hN] at h6; have t := name_nl (by simpa using h6); simp [List.count_append, List.count_cons, w, ia, ib, t]; done)
      | (simp [List.count_append, List.count_cons, w, ia, ib]; done)
  · rfl
theorem fcO_nl : ∀ L : List Ins, (fcO L).count 10 = L.length
  | [] => rfl
  | x :: L => by
    have h2 := fcO_nl L
    unfold fcO at h2 ⊢
    rw [List.flatMap_cons, List.count_append, List.count_append, fmt_nl, h2]
    simp
    omega
theorem fcS_nl {L : List Ins} (h : fcS L ≠ []) : (fcS L).count 10 = L.length := by
  unfold fcS at h ⊢
  split
  · rename_i h1; rw [if_pos h1] at h; exact absurd rfl h
  · exact fcO_nl L
theorem fcLaw_calls {g : Nat} {o : Obj} (hT : Tab g o) (c : List UInt8) (hc : c.length ≤ reachBytes) (H : Heap) (hH : H[0]? = some (.tab g o)) : ACalls Tryz.prog 3 [.c (.d (.sl (bytesRows c)))] H (fun r H' => H' = H ∧ r = .c (.d (.bool true))) := by
  refine acalls Tryz.func3 (by kernel_rfl) ac3_ok fun hf => ?_
  have hli := reach_i64 hc
  simp -implicitDefEqProofs [ac3, hli, bytesRows_len, hf, go_sem, -List.set_cons_succ, -List.set_cons_zero]
  refine fun hle => ?_
  refine call_some (drawFcE_calls c (by omega) _) (by simp) (fun r => CodeE.re) hf ?_
  rintro _ ⟨L, rfl, hL, hx⟩
  have hx2 : ∀ x ∈ L, x.ok ∧ x.text.length ≤ 1048576 := hx
  have cs := fcSpec_calls L (by omega) hx2
  simp -implicitDefEqProofs [hf, go_sem, -List.set_cons_succ, -List.set_cons_zero]
  refine qcall_tab (fun H' hH' => fcImpl_calls hT L (by omega) hx2 H' hH') hf hH rfl ?_
  simp -implicitDefEqProofs [hf, go_sem, -List.set_cons_succ, -List.set_cons_zero]
  refine qcall_pure cs hf rfl ?_
  have hlen : (fcS L).length ≤ 200000 := by
    unfold fcS
    split
    · simp
    · rename_i h
      have := fcO_len L
      show (fcO L).length ≤ _
      omega
  have hnl := fun h => fcS_nl (L := L) h
  have hLi : inR .i64 (L.length : Int) := small_i64 (by omega) (by omega)
  generalize fcS L = s at hlen hnl cs
  have hsi : inR .i64 (s.length : Int) := small_i64 (by omega) (by omega)
  by_cases hs0 : s = []
  · subst hs0
    simp -implicitDefEqProofs [hf, go_sem, -List.set_cons_succ, -List.set_cons_zero]
    refine qcall_pure cs hf rfl ?_
    simp -implicitDefEqProofs [hf, go_sem, -List.set_cons_succ, -List.set_cons_zero]
  · have hs2 : (s == []) = false := by simp [hs0]
    simp -implicitDefEqProofs [hs0, hs2, hf, go_sem, -List.set_cons_succ, -List.set_cons_zero]
    have hcn := hnl hs0
    refine loop_set (σ := Nat) (fun i => [(6, .c (.d (.int .i64 i))), (5, .c (.d (.int .i64 ((s.take i).count 10))))]) (fun _ => H) (fun _ => []) (fun i => i ≤ s.length) (fun i => s.length - i) 0 (by simp [setAll]) (Nat.zero_le _) ?_
    intro i hi
    have hct : (s.take i).count 10 ≤ 200000 := Nat.le_trans (List.count_le_length) (by simp; omega)
    simp -implicitDefEqProofs [setAll, hsi, hf, go_sem, -List.set_cons_succ, -List.set_cons_zero]
    refine ⟨fun hlt => ?_, fun hge => ?_⟩
    · have hadd : inR .i64 ((i : Int) + 1) := small_i64 (by omega) (by omega)
      have hcs : (s.take (i + 1)).count 10 = (s.take i).count 10 + if s[i] = 10 then 1 else 0 := by
        rw [List.take_succ_eq_append_getElem hlt, List.count_append]
        by_cases h : s[i] = 10
        · simp [h]
        · simp [h]
      refine byte_nat hlt ?_
      by_cases hb : s[i] = 10
      · have hadd2 : inR .i64 (((s.take i).count 10 : Int) + 1) := small_i64 (by omega) (by omega)
        rw [if_pos hb] at hcs
        rw [hb]
        simp -implicitDefEqProofs [hadd, hadd2, hf, go_sem, -List.set_cons_succ, -List.set_cons_zero]
        exact loop_back (i + 1) (by rw [hcs]; simp [setAll]) hlt (by show s.length - (i + 1) < s.length - i; omega)
      · have hb2 : ¬ (s[i].toNat : Int) = 10 := fun e => hb (UInt8.toNat_inj.1 (by have : (10 : UInt8).toNat = 10 := rfl; omega))
        rw [if_neg hb, Nat.add_zero] at hcs
        simp -implicitDefEqProofs [hb2, hadd, hf, go_sem, -List.set_cons_succ, -List.set_cons_zero]
        exact loop_back (i + 1) (by rw [hcs]; simp [setAll]) hlt (by show s.length - (i + 1) < s.length - i; omega)
    · obtain rfl : i = s.length := by omega
      rw [List.take_length, hcn]
      simp -implicitDefEqProofs [hLi, hf, go_sem, -List.set_cons_succ, -List.set_cons_zero]
theorem law_run3 {g : Nat} {o : Obj} (hT : Tab g o) (rows : List (List D)) (hr : HasTys Tryz.prog (#[22] : Array TypeId).toList rows) : ACalls Tryz.prog 3 (argsA Tryz.prog (#[22] : Array TypeId).toList rows) [.tab g o] (fun r H' => H' = [.tab g o] ∧ r = .c (.d (.bool true))) := by
  obtain ⟨r, rs, rfl, h1, h2⟩ := hr.cons
  obtain rfl := h2.nil
  obtain ⟨s, rfl, hs⟩ := bytes_ty h1
  simp only [argsA, argA, Tryz.underlying22, List.headD_cons]
  exact fcLaw_calls hT s hs _ rfl
namespace fnFormatCode
theorem own : ownKnob Tryz.prog.godebug = none := by kernel_rfl
theorem door_met (os : Os) (args : Array Value) : laidMetH Tryz.prog laid ((World.doorLaid Tryz.prog 400 os).forCall (fun _ _ => 0) ⟨#[], args, []⟩).memory :=
  laidMetH_of_parts3 (fuel := 8) (laidMet_of_run' 8 (by kernel_rfl) (by kernel_rfl)) (by kernel_rfl) (by kernel_rfl)
theorem contract (H : Type) (enc : TypeId × Value → H) (W : World) (base : Nat) (args : Array Value) (ds gs : List (DataW H)) (before : List MemPlace) (hL : laidMetH Tryz.prog laid W)
    (hval : ∀ (j : Nat) t v, Tryz.f3.params[j]? = some t → args[j]? = some v → Value.okWide Tryz.prog W .any base t v)
    (hW : DataW.Whole enc Tryz.prog Tryz.f3.params.toList Rows.fnFormatCodeSpec.vars false W args.toList ds gs before)
    (hw : (DataW.weightsEach Tryz.prog (Tryz.f3.params.toList ++ Rows.fnFormatCodeSpec.plain.varTypes Tryz.prog) (ds ++ gs)).all (· ≤ reachBytes) = true) :
    Calls Tryz.prog 3 args W fun e W' => ∃ v, e = .returned v ∧ Rows.fnFormatCodeSpec.post enc Tryz.prog Tryz.f3 false true false false W args v W' := by
  refine law_contract_tab (T := Tab) (L := [5, 22]) (tb := 4) (by kernel_rfl) (by kernel_rfl) (by kernel_rfl) rfl ?_ (by kernel_rfl) Tryz.underlying4 ?_ W base args ds gs before (tab_laid hL) hval hW hw
  · intro ds hl
    match ds, hl with
    | [d0], _ => rfl
  · intro g o hT rows hr
    rw [Tryz.params3] at hr ⊢
    exact law_run3 hT rows hr

theorem lifted (os : Os) (started : os.Started) (H : Type) (enc : TypeId × Value → H) :
    ReturnsInHanded {} Tryz.checked os 3 .any (fun w args => (Rows.fnFormatCodeSpec.pre enc Tryz.prog Tryz.f3 [] false w args ∧ laidMetH Tryz.prog laid w) ∧ sizedMet enc Tryz.prog Tryz.f3 (OpenSpec.ofChange Rows.fnFormatCodeSpec) false w args)
      (Rows.fnFormatCodeSpec.post enc Tryz.prog Tryz.f3 false true false false) := by
  refine returnsInHanded_of_change_and (C := Tryz.checked) (X := fun w _ => laidMetH Tryz.prog laid w) (fun _ _ _ hh h => h.of_heap hh) own started (by kernel_rfl) Tryz.func3
    (ChangeSpec.witness_shaped (enc := enc) (C := Tryz.checked) (os := os) (X := fun w _ => laidMetH Tryz.prog laid w) false (World.doorLaid Tryz.prog 400 os) #[.slice none 0 0] 8 rfl (World.shaped_of_RefB (by kernel_rfl) (by kernel_rfl)) (by kernel_rfl) (by kernel_rfl) (by kernel_rfl) (door_met os _)) ?_
  intro W base args ds gs before hval hW _ hw hL _
  exact contract H enc W base args ds gs before hL hval hW hw

theorem said : Rows.FnFormatCodeSaid :=
  OpenClaim.holds_of_wide 3 Tryz.f3 rfl rfl rfl rfl rfl rfl rfl ⟨rfl, rfl, rfl, rfl, rfl⟩ rfl rfl rfl rfl rfl (by kernel_rfl) Tryz.func3 (by kernel_rfl)
    (of_decide_eq_true (by kernel_rfl)) (by unfold Func.isWrapper; first | (rw [if_pos (by decide +kernel)]; kernel_rfl) | (rw [if_neg (by decide +kernel)]; exact ⟨rfl, rfl⟩))
    (fun os started H enc _ => lifted os started H enc)

theorem proved : Rows.FnFormatCodeCardSaid :=
  Claim7.holds_tied_plain_at .later [] [.data, .data, .data] true Rows.fnFormatCodeCard.stood.harness false
    said (fun _ h => by cases h) (by kernel_rfl) (fun _ h => by cases h) fnFormatCode_row_tie rfl ⟨rfl, rfl⟩ (by kernel_rfl) rfl
    (fun f fn hf hfn => by
      obtain rfl : f = 3 := Option.some.inj ((show Tryz.prog.funcNamed Rows.fnFormatCodeRow.func = some 3 by kernel_rfl).symm.trans hf) |>.symm
      obtain rfl : fn = Tryz.f3 := (Option.some.inj (Tryz.func3.symm.trans hfn)).symm
      exact ⟨by kernel_rfl, fun j t ht => by
        rw [Tryz.params3] at ht
        have hall : (Tryz.f3.params.toList.all fun u => !Tryz.prog.wantsStandIn u) = true := by kernel_rfl
        have hm : t ∈ Tryz.f3.params.toList := by
          rw [Tryz.params3]
          simpa using Array.mem_of_getElem? ht
        exact (show Tryz.prog.wantsStandIn t = false by simpa using List.all_eq_true.1 hall t hm)⟩)
    (by kernel_rfl)
end fnFormatCode

end Go.Proofs.YtnljciooabmogaaGreatDoor
