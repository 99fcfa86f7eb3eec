/-
  The card FnWriteTerm holds: what is written is read back.
  Conditions: none.
-/
import Derived.Test.YtgfmlifkhpjplaaGreatDoorBundC
import Derived.Test.YtgfmlifkhpjplaaGreatDoorBundB
import Derived.Test.YtgfmlifkhpjplaaGreatDoorCards
import Derived.Test.YtgfmlifkhpjplaaGreatDoorTie
import Derived.ProofKit
import Derived.OpenShut
import Derived.Stop.Joined
import Derived.SevenTiedAt
open Go Go.AM Go.Proofs
attribute [local go_sem] kw ew sw tw a_ b_ c_ A.ok A.val d_ e_ f_ g_ h_ i_ j_ k_ l_ m_ unA unD n_ AOp.total o_ p_ q_ r_ s_ t_ u_ v_ A.thaw C.thaw A.fits As.fits C.fits evs oks w_ A.pure C.pure A.re C.re x_ y_ cut A.cells C.rows? z_ A_ B_ C_ a0_ b0_ D_ Ob.re Cs.fits E_ F_ G_ H_ I_ J_ K_ L_ M_ N_ O_ C.toD P_ Q_ R_ S_ T_ Obs.fits U_ eqD V_ W_ X_ Y_ Z_
open Go Go.AM Go.Proofs
namespace Go.Proofs.YtgfmlifkhpjplaaGreatDoor
open Go.ChangeShapes Go.WideShapes Go.ChangeAt Go.WideElems Go.RowKit
set_option linter.unusedVariables false
set_option linter.unusedSimpArgs false
set_option maxRecDepth 100000
-- 15 loop.example/prologserver/impl.WriteTerm params 1 ntmps 8
def ac15 : Cd := .seq (.region [⟨(some 1),.box (.t 0),none⟩,
 ⟨(some 2),.mv (.k (.c (.d (.str [])))),none⟩] [0,2])
 (.seq (.seq (.region [⟨(some 3),.load (some 4) (.t 1),none⟩,
 ⟨(some 4),.qcall 17 [(.t 3)],none⟩,
 ⟨(some 5),.un .not (.t 4),none⟩] [3,4])
 (.cond (.t 5)
 (.seq (.region [⟨(some 2),.mv (.k (.c (.d (.str [])))),none⟩] [1,5])
 (.ret))
 (.skip)))
 (.seq (.region [⟨(some 6),.load (some 4) (.t 1),none⟩,
 ⟨(some 7),.qcall 38 [(.t 6)],none⟩,
 ⟨(some 2),.mv (.t 7),none⟩] [1,5,6,7])
 (.ret)))
theorem ac15_ok : cFunc Tryz.prog [1000017,1000038] [(0,[0,2],[]),(1,[3,4],[]),(2,[1,5],[]),(3,[1,5,6,7],[])] Tryz.f15 = some (ac15,[.tmp 2],8) := by kernel_rfl
-- 16 loop.example/prologserver/spec.WriteTerm params 1 ntmps 8
def ac16 : Cd := .seq (.region [⟨(some 1),.box (.t 0),none⟩,
 ⟨(some 2),.mv (.k (.c (.d (.str [])))),none⟩] [0,2])
 (.seq (.seq (.region [⟨(some 3),.load (some 4) (.t 1),none⟩,
 ⟨(some 4),.qcall 28 [(.t 3)],none⟩,
 ⟨(some 5),.un .not (.t 4),none⟩] [3,4])
 (.cond (.t 5)
 (.seq (.region [⟨(some 2),.mv (.k (.c (.d (.str [])))),none⟩] [1,5])
 (.ret))
 (.skip)))
 (.seq (.region [⟨(some 6),.load (some 4) (.t 1),none⟩,
 ⟨(some 7),.qcall 39 [(.t 6)],none⟩,
 ⟨(some 2),.mv (.t 7),none⟩] [1,5,6,7])
 (.ret)))
theorem ac16_ok : cFunc Tryz.prog [1000028,1000039] [(0,[0,2],[]),(1,[3,4],[]),(2,[1,5],[]),(3,[1,5,6,7],[])] Tryz.f16 = some (ac16,[.tmp 2],8) := by kernel_rfl
-- 4 loop.example/prologserver/laws.FnWriteTerm params 1 ntmps 58
def ac4 : Cd := .seq (.region [⟨(some 2),.mv (.k (.c (.d (.bool false)))),none⟩] [2])
 (.seq (.seq (.region [⟨(some 7),.mv (.t 0),none⟩,
 ⟨(some 8),.len 1 (.t 7),none⟩,
 ⟨(some 9),.bin .gtr (.t 8) (.k (.c (.d (.int .i64 1048576)))),none⟩] [7,8])
 (.cond (.t 9)
 (.seq (.region [⟨(some 2),.mv (.k (.c (.d (.bool true)))),none⟩] [0,9])
 (.ret))
 (.skip)))
 (.seq (.region [⟨(some 10),.mv (.t 0),none⟩,
 ⟨(some 11),.call false 14 [(.t 10)],none⟩,
 ⟨(some 3),.alloc [(.d (.int .i64 0)),(.d (.int .i64 0)),(.d (.str [])),(.full [])],none⟩,
 ⟨none,.store 4 (.t 3) (.t 11),none⟩] [0,2,9,10,11])
 (.seq (.region [⟨(some 12),.load (some 4) (.t 3),none⟩,
 ⟨(some 13),.call false 15 [(.t 12)],none⟩,
 ⟨(some 4),.mv (.t 13),none⟩] [12,13])
 (.seq (.region [⟨(some 15),.mv (.t 4),none⟩,
 ⟨(some 16),.call false 10 [(.t 15)],none⟩,
 ⟨(some 14),.mv (.t 16),none⟩,
 ⟨(some 17),.extract 0 (.t 14),none⟩,
 ⟨(some 18),.extract 1 (.t 14),none⟩,
 ⟨(some 5),.alloc [(.d (.int .i64 0)),(.d (.int .i64 0)),(.d (.str [])),(.full [])],none⟩,
 ⟨none,.store 4 (.t 5) (.t 17),none⟩,
 ⟨(some 6),.mv (.t 18),none⟩] [14,15,16,17,18])
 (.seq (.seq (.region [⟨(some 19),.mv (.t 4),none⟩,
 ⟨(some 20),.load (some 4) (.t 3),none⟩,
 ⟨(some 21),.qcall 16 [(.t 20)],none⟩,
 ⟨(some 22),.bin .neq (.t 19) (.t 21),none⟩,
 ⟨(some 23),.mv (.t 22),none⟩,
 ⟨(some 24),.mv (.t 4),some (23,false)⟩,
 ⟨(some 25),.bin .eql (.t 24) (.k (.c (.d (.str [])))),some (23,false)⟩,
 ⟨(some 26),.load (some 4) (.t 3),some (23,false)⟩,
 ⟨(some 27),.qcall 17 [(.t 26)],some (23,false)⟩,
 ⟨(some 28),.un .not (.t 27),some (23,false)⟩,
 ⟨(some 29),.binB true (.t 25) (.t 28),some (23,false)⟩,
 ⟨(some 30),.pick (.t 23) (.k (.c (.d (.bool true)))) (.t 29),none⟩,
 ⟨(some 31),.mv (.t 30),none⟩,
 ⟨(some 32),.mv (.t 4),some (31,false)⟩,
 ⟨(some 33),.bin .eql (.t 32) (.k (.c (.d (.str [])))),some (31,false)⟩,
 ⟨(some 34),.pick (.t 31) (.k (.c (.d (.bool true)))) (.t 33),none⟩,
 ⟨(some 35),.mv (.t 34),none⟩,
 ⟨(some 36),.mv (.t 4),some (35,false)⟩,
 ⟨(some 37),.len 0 (.t 36),some (35,false)⟩,
 ⟨(some 38),.bin .gtr (.t 37) (.k (.c (.d (.int .i64 1000)))),some (35,false)⟩,
 ⟨(some 39),.pick (.t 35) (.k (.c (.d (.bool true)))) (.t 38),none⟩] [19,20,21,22,23,24,25,26,27,28,29,30,31,32,33,34,35,36,37,38])
 (.cond (.t 39)
 (.seq (.region [⟨(some 40),.mv (.t 4),none⟩,
 ⟨(some 41),.load (some 4) (.t 3),none⟩,
 ⟨(some 42),.qcall 16 [(.t 41)],none⟩,
 ⟨(some 43),.bin .eql (.t 40) (.t 42),none⟩,
 ⟨(some 44),.mv (.t 43),none⟩,
 ⟨(some 45),.mv (.t 4),some (44,true)⟩,
 ⟨(some 46),.bin .eql (.t 45) (.k (.c (.d (.str [])))),some (44,true)⟩,
 ⟨(some 47),.load (some 4) (.t 3),some (44,true)⟩,
 ⟨(some 48),.qcall 17 [(.t 47)],some (44,true)⟩,
 ⟨(some 49),.un .not (.t 48),some (44,true)⟩,
 ⟨(some 50),.binB false (.t 46) (.t 49),some (44,true)⟩,
 ⟨(some 51),.pick (.t 44) (.t 50) (.k (.c (.d (.bool false)))),none⟩,
 ⟨(some 2),.mv (.t 51),none⟩] [3,4,5,6,39,40,41,42,43,44,45,46,47,48,49,50,51])
 (.ret))
 (.skip)))
 (.seq (.region [⟨(some 52),.mv (.t 6),none⟩,
 ⟨(some 53),.mv (.t 52),none⟩,
 ⟨(some 54),.load (some 4) (.t 5),some (53,true)⟩,
 ⟨(some 55),.load (some 4) (.t 3),some (53,true)⟩,
 ⟨(some 56),.qcall 18 [(.t 54),(.t 55)],some (53,true)⟩,
 ⟨(some 57),.pick (.t 53) (.t 56) (.k (.c (.d (.bool false)))),none⟩,
 ⟨(some 2),.mv (.t 57),none⟩] [3,4,5,6,39,52,53,54,55,56,57])
 (.ret)))))))
theorem ac4_ok : cFunc Tryz.prog [1000016,1000017,1000018] [(0,[2],[]),(1,[7,8],[]),(2,[0,9],[]),(3,[0,2,9,10,11],[]),(4,[12,13],[]),(5,[14,15,16,17,18],[]),(6,[19,20,21,22,23,24,25,26,27,28,29,30,31,32,33,34,35,36,37,38],[]),(7,[3,4,5,6,39,40,41,42,43,44,45,46,47,48,49,50,51],[]),(8,[3,4,5,6,39,52,53,54,55,56,57],[])] Tryz.f4 = some (ac4,[.tmp 2],58) := by kernel_rfl
def wtS (t : Tm) : List UInt8 := if t.valid then t.wr else []
theorem valid_ok {t : Tm} (ht : t.fits) (hv : t.valid = true) : t.ok := by
  unfold Tm.valid at hv
  rw [Bool.and_eq_true] at hv
  exact ⟨ht, shape_good t 30 hv.1, by have := of_decide_eq_true hv.2; omega⟩
theorem wtI_calls (t : Tm) (ht : t.fits) (H : Heap) (hp : Hp H) : ACalls Tryz.prog 15 [.agg (t.row.map .d)] H (fun r H' => H' = H ∧ r = .c (.d (.str (wtS t)))) := by
  refine acalls Tryz.func15 (by kernel_rfl) ac15_ok fun hf => ?_
  obtain ⟨o, o2, g1, g2, hT, hE⟩ := id hp
  simp -implicitDefEqProofs [ac15, row_len, take_row, pure_d, re_d, hf, go_sem, -List.set_cons_succ, -List.set_cons_zero]
  refine qcall_pure (tvImpl_calls t ht) hf rfl ?_
  cases hv : t.valid with
  | true =>
    simp -implicitDefEqProofs [row_len, take_row, pure_d, re_d, hf, go_sem, -List.set_cons_succ, -List.set_cons_zero]
    refine qcall_tab (fun H' hH' => writeTm_calls hT t.size t (Nat.le_refl _) (valid_ok ht hv) H' hH') hf g1 rfl ?_
    simp -implicitDefEqProofs [wtS, hv, go_sem, -List.set_cons_succ, -List.set_cons_zero]
  | false =>
    simp -implicitDefEqProofs [wtS, hv, go_sem, -List.set_cons_succ, -List.set_cons_zero]
theorem wtSp_calls (t : Tm) (ht : t.fits) (H : Heap) : ACalls Tryz.prog 16 [.agg (t.row.map .d)] H (fun r H' => H' = H ∧ r = .c (.d (.str (wtS t)))) := by
  refine acalls Tryz.func16 (by kernel_rfl) ac16_ok fun hf => ?_
  simp -implicitDefEqProofs [ac16, row_len, take_row, pure_d, re_d, hf, go_sem, -List.set_cons_succ, -List.set_cons_zero]
  refine qcall_pure (tvSpec_calls t ht) hf rfl ?_
  cases hv : t.valid with
  | true =>
    simp -implicitDefEqProofs [row_len, take_row, pure_d, re_d, hf, go_sem, -List.set_cons_succ, -List.set_cons_zero]
    refine qcall_pure (text_calls t.size t (Nat.le_refl _) (valid_ok ht hv)) hf rfl ?_
    simp -implicitDefEqProofs [wtS, hv, go_sem, -List.set_cons_succ, -List.set_cons_zero]
  | false =>
    simp -implicitDefEqProofs [wtS, hv, go_sem, -List.set_cons_succ, -List.set_cons_zero]
/-- what is written is read back -/
theorem write_read {t : Tm} (ht : t.fits) (hv : t.valid = true) (hl : t.wr.length ≤ 1000) : okR t.wr = some t := by
  have hv2 := hv
  unfold Tm.valid at hv2
  rw [Bool.and_eq_true] at hv2
  have hR := rdb_all t.size t (Nat.le_refl _) ht ⟨30, hv2.1⟩
  have h1 := hR.done (s := t.wr) (i := 0) (D := 30) (r := []) (by omega) (Nat.zero_le _) (by simp) hv2.1 ht (.inl rfl) (lv_le t)
  unfold okR
  rw [if_neg (by omega)]
  unfold okT
  rw [h1]
  simp [Rs.tm, hv]
theorem wtLaw_calls (c : List UInt8) (hc : c.length ≤ reachBytes) (H : Heap) (hp : Hp H) : ACalls Tryz.prog 4 [.c (.d (.sl (bytesRows c)))] H (fun r H' => H' = H ∧ r = .c (.d (.bool true))) := by
  refine acalls Tryz.func4 (by kernel_rfl) ac4_ok fun hf => ?_
  have hli := reach_i64 hc
  simp -implicitDefEqProofs [ac4, hli, bytesRows_len, hf, go_sem, -List.set_cons_succ, -List.set_cons_zero]
  refine fun hle => ?_
  refine call_rel (drawWt_calls c (by omega) _) hf (by simp) ?_
  rintro _ ⟨t, rfl, ht⟩
  refine ⟨by simp [A.re, re_d], ?_⟩
  simp -implicitDefEqProofs [row_len, take_row, pure_d, re_d, hf, go_sem, -List.set_cons_succ, -List.set_cons_zero]
  refine call_same (wtI_calls t ht _ (hp_append hp _)) (by simp [Ob.re, C.re]) rfl hf ?_
  simp -implicitDefEqProofs [row_len, take_row, pure_d, re_d, hf, go_sem, -List.set_cons_succ, -List.set_cons_zero]
  have hwl : (wtS t).length ≤ 6000 := by
    unfold wtS
    split
    · rename_i hv; exact (valid_ok ht hv).len.1
    · simp
  have hwi : inR .i64 ((wtS t).length : Int) := small_i64 (by omega) (by omega)
  refine call_same (readTermI_calls (wtS t) (by omega) _ (hp_append hp _)) (by simp [Ob.re, C.re]) (okA_re _ _) hf ?_
  have cs := wtSp_calls t ht
  have cv := tvImpl_calls t ht
  cases hv : t.valid with
  | false =>
    have hw : wtS t = [] := by simp [wtS, hv]
    have hok : okR [] = none := by decide
    rw [hw] at cs
    rw [hv] at cv
    rw [hw, hok]
    simp -implicitDefEqProofs [okA, zeroT, row_mk, row_len, take_row, pure_d, re_d, hf, go_sem, -List.set_cons_succ, -List.set_cons_zero]
    refine qcall_pure cs hf rfl ?_
    simp -implicitDefEqProofs [row_len, take_row, pure_d, re_d, hf, go_sem, -List.set_cons_succ, -List.set_cons_zero]
    refine qcall_pure cv hf rfl ?_
    simp -implicitDefEqProofs [row_len, take_row, pure_d, re_d, hf, go_sem, -List.set_cons_succ, -List.set_cons_zero]
    refine qcall_pure cs hf rfl ?_
    simp -implicitDefEqProofs [row_len, take_row, pure_d, re_d, hf, go_sem, -List.set_cons_succ, -List.set_cons_zero]
    refine qcall_pure cv hf rfl ?_
    simp -implicitDefEqProofs [row_len, take_row, pure_d, re_d, hf, go_sem, -List.set_cons_succ, -List.set_cons_zero]
  | true =>
    have hw : wtS t = t.wr := by simp [wtS, hv]
    rw [hw] at cs hwi hwl
    rw [hv] at cv
    have hne := (valid_ok ht hv).len.2.2
    have hne2 : (t.wr == []) = false := by simp [hne]
    by_cases hl : t.wr.length ≤ 1000
    · have hok := write_read ht hv hl
      rw [hw, hok]
      simp -implicitDefEqProofs [okA, row_len, take_row, pure_d, re_d, hf, go_sem, -List.set_cons_succ, -List.set_cons_zero]
      refine qcall_pure cs hf rfl ?_
      simp -implicitDefEqProofs [row_len, take_row, pure_d, re_d, hf, hne, hne2, go_sem, -List.set_cons_succ, -List.set_cons_zero]
      refine qcall_pure cv hf rfl ?_
      have hl' : ¬ (1000 : Int) < t.wr.length := by omega
      simp -implicitDefEqProofs [hne, hne2, hwi, hl', row_len, take_row, pure_d, re_d, hf, go_sem, -List.set_cons_succ, -List.set_cons_zero]
      refine qcall_pure (sameImpl_calls t ht t ht) hf rfl ?_
      simp -implicitDefEqProofs [row_len, take_row, pure_d, re_d, hf, go_sem, -List.set_cons_succ, -List.set_cons_zero]
    · have hok : okR t.wr = none := by unfold okR; rw [if_pos (by omega)]
      rw [hw, hok]
      simp -implicitDefEqProofs [okA, zeroT, row_mk, row_len, take_row, pure_d, re_d, hf, go_sem, -List.set_cons_succ, -List.set_cons_zero]
      refine qcall_pure cs hf rfl ?_
      simp -implicitDefEqProofs [row_len, take_row, pure_d, re_d, hf, hne, hne2, go_sem, -List.set_cons_succ, -List.set_cons_zero]
      refine qcall_pure cv hf rfl ?_
      have hl' : (1000 : Int) < t.wr.length := by omega
      simp -implicitDefEqProofs [hne, hne2, hwi, hl', row_len, take_row, pure_d, re_d, hf, go_sem, -List.set_cons_succ, -List.set_cons_zero]
      refine qcall_pure cs hf rfl ?_
      simp -implicitDefEqProofs [hne, hne2, row_len, take_row, pure_d, re_d, hf, go_sem, -List.set_cons_succ, -List.set_cons_zero]
      refine qcall_pure cv hf rfl ?_
      simp -implicitDefEqProofs [hne, hne2, row_len, take_row, pure_d, re_d, hf, go_sem, -List.set_cons_succ, -List.set_cons_zero]
theorem law_run4 {gs : List (Nat × Obj)} (hT : Lib2 gs) (rows : List (List D)) (hr : HasTys Tryz.prog (#[30] : Array TypeId).toList rows) : ACalls Tryz.prog 4 (argsA Tryz.prog (#[30] : Array TypeId).toList rows) (tabsH gs) (fun r H' => H' = tabsH gs ∧ r = .c (.d (.bool true))) := by
  obtain ⟨r, rs, rfl, h1, h2⟩ := hr.cons
  obtain rfl := h2.nil
  obtain ⟨s, rfl, hs⟩ := bytes_ty h1
  simp only [argsA, argA, Tryz.underlying30, List.headD_cons]
  obtain ⟨o, o2, rfl, q1, q2⟩ := hT
  exact wtLaw_calls s hs _ ⟨o, o2, rfl, rfl, q1, q2⟩
namespace fnWriteTerm
theorem own : ownKnob Tryz.prog.godebug = none := by kernel_rfl
theorem door_met (os : Os) (args : Array Value) : laidMetH Tryz.prog laid ((World.doorLaid Tryz.prog 400 os).forCall (fun _ _ => 0) ⟨#[], args, []⟩).memory :=
  laidMetH_of_parts3 (fuel := 8) (laidMet_of_run' 8 (by kernel_rfl) (by kernel_rfl)) (by kernel_rfl) (by kernel_rfl)
theorem contract (H : Type) (enc : TypeId × Value → H) (W : World) (base : Nat) (args : Array Value) (ds gs : List (DataW H)) (before : List MemPlace) (hL : laidMetH Tryz.prog laid W)
    (hval : ∀ (j : Nat) t v, Tryz.f4.params[j]? = some t → args[j]? = some v → Value.okWide Tryz.prog W .any base t v)
    (hW : DataW.Whole enc Tryz.prog Tryz.f4.params.toList Rows.fnWriteTermSpec.vars false W args.toList ds gs before)
    (hw : (DataW.weightsEach Tryz.prog (Tryz.f4.params.toList ++ Rows.fnWriteTermSpec.plain.varTypes Tryz.prog) (ds ++ gs)).all (· ≤ reachBytes) = true) :
    Calls Tryz.prog 4 args W fun e W' => ∃ v, e = .returned v ∧ Rows.fnWriteTermSpec.post enc Tryz.prog Tryz.f4 false true false false W args v W' := by
  refine law_contract_tabs (T := Lib2) (L := [5, 30]) (tb := 4) (by kernel_rfl) (by kernel_rfl) (by kernel_rfl) rfl ?_ (by kernel_rfl) Tryz.underlying4 ?_ W base args ds gs before (lib_laid hL) hval hW hw
  · intro ds hl
    match ds, hl with
    | [d0], _ => rfl
  · intro gs hT rows hr
    rw [Tryz.params4] at hr ⊢
    exact law_run4 hT rows hr

theorem lifted (os : Os) (started : os.Started) (H : Type) (enc : TypeId × Value → H) :
    ReturnsInHanded {} Tryz.checked os 4 .any (fun w args => (Rows.fnWriteTermSpec.pre enc Tryz.prog Tryz.f4 [] false w args ∧ laidMetH Tryz.prog laid w) ∧ sizedMet enc Tryz.prog Tryz.f4 (OpenSpec.ofChange Rows.fnWriteTermSpec) false w args)
      (Rows.fnWriteTermSpec.post enc Tryz.prog Tryz.f4 false true false false) := by
  refine returnsInHanded_of_change_and (C := Tryz.checked) (X := fun w _ => laidMetH Tryz.prog laid w) (fun _ _ _ hh h => h.of_heap hh) own started (by kernel_rfl) Tryz.func4
    (ChangeSpec.witness_shaped (enc := enc) (C := Tryz.checked) (os := os) (X := fun w _ => laidMetH Tryz.prog laid w) false (World.doorLaid Tryz.prog 400 os) #[.slice none 0 0] 8 rfl (World.shaped_of_RefB (by kernel_rfl) (by kernel_rfl)) (by kernel_rfl) (by kernel_rfl) (by kernel_rfl) (door_met os _)) ?_
  intro W base args ds gs before hval hW _ hw hL _
  exact contract H enc W base args ds gs before hL hval hW hw

theorem said : Rows.FnWriteTermSaid :=
  OpenClaim.holds_of_wide 4 Tryz.f4 rfl rfl rfl rfl rfl rfl rfl ⟨rfl, rfl, rfl, rfl, rfl⟩ rfl rfl rfl rfl rfl (by kernel_rfl) Tryz.func4 (by kernel_rfl)
    (of_decide_eq_true (by kernel_rfl)) (by unfold Func.isWrapper; first | (rw [if_pos (by decide +kernel)]; kernel_rfl) | (rw [if_neg (by decide +kernel)]; exact ⟨rfl, rfl⟩))
    (fun os started H enc _ => lifted os started H enc)

theorem proved : Rows.FnWriteTermCardSaid :=
  Claim7.holds_tied_plain_at .later [] [.data, .data, .data, .sentinel, .sentinel] true Rows.fnWriteTermCard.stood.harness true
    said (fun _ h => by cases h) (by kernel_rfl) (fun _ h => by cases h) fnWriteTerm_row_tie rfl ⟨rfl, rfl⟩ (by kernel_rfl) rfl
    (fun f fn hf hfn => by
      obtain rfl : f = 4 := Option.some.inj ((show Tryz.prog.funcNamed Rows.fnWriteTermRow.func = some 4 by kernel_rfl).symm.trans hf) |>.symm
      obtain rfl : fn = Tryz.f4 := (Option.some.inj (Tryz.func4.symm.trans hfn)).symm
      exact ⟨by kernel_rfl, fun j t ht => by
        rw [Tryz.params4] at ht
        have hall : (Tryz.f4.params.toList.all fun u => !Tryz.prog.wantsStandIn u) = true := by kernel_rfl
        have hm : t ∈ Tryz.f4.params.toList := by
          rw [Tryz.params4]
          simpa using Array.mem_of_getElem? ht
        exact (show Tryz.prog.wantsStandIn t = false by simpa using List.all_eq_true.1 hall t hm)⟩)
    (by kernel_rfl)
end fnWriteTerm

end Go.Proofs.YtgfmlifkhpjplaaGreatDoor
