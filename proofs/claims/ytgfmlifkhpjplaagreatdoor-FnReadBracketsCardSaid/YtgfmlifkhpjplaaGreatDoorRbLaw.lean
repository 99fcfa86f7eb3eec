/-
  The card FnReadBrackets holds: a term in brackets is the term.
  Conditions: none.
-/
import Derived.Test.YtgfmlifkhpjplaaGreatDoorBundC
import Derived.Test.YtgfmlifkhpjplaaGreatDoorBundD
import Derived.Test.YtgfmlifkhpjplaaGreatDoorCards
import Derived.Test.YtgfmlifkhpjplaaGreatDoorTie
import Derived.ProofKit
import Derived.OpenShut
import Derived.Stop.Joined
import Derived.SevenTiedAt
open Go Go.AM Go.Proofs
attribute [local go_sem] kw ew sw tw a_ b_ c_ A.ok A.val d_ e_ f_ g_ h_ i_ j_ k_ l_ m_ unA unD n_ AOp.total o_ p_ q_ r_ s_ t_ u_ v_ A.thaw C.thaw A.fits As.fits C.fits evs oks w_ A.pure C.pure A.re C.re x_ y_ cut A.cells C.rows? z_ A_ B_ C_ a0_ b0_ D_ Ob.re Cs.fits E_ F_ G_ H_ I_ J_ K_ L_ M_ N_ O_ C.toD P_ Q_ R_ S_ T_ Obs.fits U_ eqD V_ W_ X_ Y_ Z_
open Go Go.AM Go.Proofs
namespace Go.Proofs.YtgfmlifkhpjplaaGreatDoor
open Go.ChangeShapes Go.WideShapes Go.ChangeAt Go.WideElems Go.RowKit
set_option linter.unusedVariables false
set_option linter.unusedSimpArgs false
set_option maxRecDepth 100000
-- 5 loop.example/prologserver/laws.FnReadBrackets params 1 ntmps 64
def ac5 : Cd := .seq (.region [⟨(some 2),.mv (.k (.c (.d (.bool false)))),none⟩] [2])
 (.seq (.seq (.region [⟨(some 10),.mv (.t 0),none⟩,
 ⟨(some 11),.len 1 (.t 10),none⟩,
 ⟨(some 12),.bin .gtr (.t 11) (.k (.c (.d (.int .i64 1048576)))),none⟩] [10,11])
 (.cond (.t 12)
 (.seq (.region [⟨(some 2),.mv (.k (.c (.d (.bool true)))),none⟩] [0,12])
 (.ret))
 (.skip)))
 (.seq (.region [⟨(some 13),.mv (.t 0),none⟩,
 ⟨(some 14),.call false 19 [(.t 13)],none⟩,
 ⟨(some 3),.mv (.t 14),none⟩] [0,2,12,13,14])
 (.seq (.region [⟨(some 16),.mv (.t 3),none⟩,
 ⟨(some 17),.call false 10 [(.t 16)],none⟩,
 ⟨(some 15),.mv (.t 17),none⟩,
 ⟨(some 18),.extract 0 (.t 15),none⟩,
 ⟨(some 19),.extract 1 (.t 15),none⟩,
 ⟨(some 4),.alloc [(.d (.int .i64 0)),(.d (.int .i64 0)),(.d (.str [])),(.full [])],none⟩,
 ⟨none,.store 4 (.t 4) (.t 18),none⟩,
 ⟨(some 5),.mv (.t 19),none⟩] [15,16,17,18,19])
 (.seq (.region [⟨(some 21),.mv (.t 3),none⟩,
 ⟨(some 22),.qcall 9 [(.t 21)],none⟩,
 ⟨(some 20),.mv (.t 22),none⟩,
 ⟨(some 23),.extract 0 (.t 20),none⟩,
 ⟨(some 24),.extract 1 (.t 20),none⟩,
 ⟨(some 6),.alloc [(.d (.int .i64 0)),(.d (.int .i64 0)),(.d (.str [])),(.full [])],none⟩,
 ⟨none,.store 4 (.t 6) (.t 23),none⟩,
 ⟨(some 7),.mv (.t 24),none⟩] [20,21,22,23,24])
 (.seq (.region [⟨(some 26),.mv (.t 3),none⟩,
 ⟨(some 27),.bin .add (.k (.c (.d (.str [40])))) (.t 26),none⟩,
 ⟨(some 28),.bin .add (.t 27) (.k (.c (.d (.str [41])))),none⟩,
 ⟨(some 29),.call false 10 [(.t 28)],none⟩,
 ⟨(some 25),.mv (.t 29),none⟩,
 ⟨(some 30),.extract 0 (.t 25),none⟩,
 ⟨(some 31),.extract 1 (.t 25),none⟩,
 ⟨(some 8),.alloc [(.d (.int .i64 0)),(.d (.int .i64 0)),(.d (.str [])),(.full [])],none⟩,
 ⟨none,.store 4 (.t 8) (.t 30),none⟩,
 ⟨(some 9),.mv (.t 31),none⟩] [25,26,27,28,29,30,31])
 (.seq (.seq (.region [⟨(some 32),.mv (.t 5),none⟩,
 ⟨(some 33),.mv (.t 7),none⟩,
 ⟨(some 34),.binB true (.t 32) (.t 33),none⟩,
 ⟨(some 35),.mv (.t 34),none⟩,
 ⟨(some 36),.load (some 4) (.t 4),some (35,false)⟩,
 ⟨(some 37),.load (some 4) (.t 6),some (35,false)⟩,
 ⟨(some 38),.qcall 18 [(.t 36),(.t 37)],some (35,false)⟩,
 ⟨(some 39),.un .not (.t 38),some (35,false)⟩,
 ⟨(some 40),.pick (.t 35) (.k (.c (.d (.bool true)))) (.t 39),none⟩,
 ⟨(some 41),.mv (.t 40),none⟩,
 ⟨(some 42),.mv (.t 3),some (41,false)⟩,
 ⟨(some 43),.len 0 (.t 42),some (41,false)⟩,
 ⟨(some 44),.bin .gtr (.t 43) (.k (.c (.d (.int .i64 900)))),some (41,false)⟩,
 ⟨(some 45),.pick (.t 41) (.k (.c (.d (.bool true)))) (.t 44),none⟩] [3,32,33,34,35,36,37,38,39,40,41,42,43,44])
 (.cond (.t 45)
 (.seq (.region [⟨(some 46),.mv (.t 5),none⟩,
 ⟨(some 47),.mv (.t 7),none⟩,
 ⟨(some 48),.binB false (.t 46) (.t 47),none⟩,
 ⟨(some 49),.mv (.t 48),none⟩,
 ⟨(some 50),.load (some 4) (.t 4),some (49,true)⟩,
 ⟨(some 51),.load (some 4) (.t 6),some (49,true)⟩,
 ⟨(some 52),.qcall 18 [(.t 50),(.t 51)],some (49,true)⟩,
 ⟨(some 53),.pick (.t 49) (.t 52) (.k (.c (.d (.bool false)))),none⟩,
 ⟨(some 2),.mv (.t 53),none⟩] [4,5,6,7,8,9,45,46,47,48,49,50,51,52,53])
 (.ret))
 (.skip)))
 (.seq (.region [⟨(some 54),.mv (.t 5),none⟩,
 ⟨(some 55),.un .not (.t 54),none⟩,
 ⟨(some 56),.mv (.t 55),none⟩,
 ⟨(some 57),.mv (.t 9),some (56,false)⟩,
 ⟨(some 58),.mv (.t 57),some (56,false)⟩,
 ⟨(some 59),.load (some 4) (.t 8),some (58,true)⟩,
 ⟨(some 60),.load (some 4) (.t 4),some (58,true)⟩,
 ⟨(some 61),.qcall 18 [(.t 59),(.t 60)],some (58,true)⟩,
 ⟨(some 62),.pick (.t 58) (.t 61) (.k (.c (.d (.bool false)))),some (56,false)⟩,
 ⟨(some 63),.pick (.t 56) (.k (.c (.d (.bool true)))) (.t 62),none⟩,
 ⟨(some 2),.mv (.t 63),none⟩] [4,5,6,7,8,9,45,54,55,56,57,58,59,60,61,62,63])
 (.ret))))))))
theorem ac5_ok : cFunc Tryz.prog [1000009,1000018] [(0,[2],[]),(1,[10,11],[]),(2,[0,12],[]),(3,[0,2,12,13,14],[]),(4,[15,16,17,18,19],[]),(5,[20,21,22,23,24],[]),(6,[25,26,27,28,29,30,31],[]),(7,[3,32,33,34,35,36,37,38,39,40,41,42,43,44],[]),(8,[4,5,6,7,8,9,45,46,47,48,49,50,51,52,53],[]),(9,[4,5,6,7,8,9,45,54,55,56,57,58,59,60,61,62,63],[])] Tryz.f5 = some (ac5,[.tmp 2],64) := by kernel_rfl
theorem zeroT_fits : zeroT.fits := .mk (by decide) (by decide) (by simp) (by simp) (by simp)
theorem rbLaw_calls (c : List UInt8) (hc : c.length ≤ reachBytes) (H : Heap) (hp : Hp H) : ACalls Tryz.prog 5 [.c (.d (.sl (bytesRows c)))] H (fun r H' => H' = H ∧ r = .c (.d (.bool true))) := by
  refine acalls Tryz.func5 (by kernel_rfl) ac5_ok fun hf => ?_
  have hli := reach_i64 hc
  simp -implicitDefEqProofs [ac5, hli, bytesRows_len, hf, go_sem, -List.set_cons_succ, -List.set_cons_zero]
  refine fun hle => ?_
  refine call_rel (drawRt_calls c (by omega) _) hf (by simp) ?_
  rintro _ ⟨s, rfl, hsl⟩
  refine ⟨by simp [A.re, C.re], ?_⟩
  have hsi : inR .i64 (s.length : Int) := small_i64 (by omega) (by omega)
  simp -implicitDefEqProofs [hf, go_sem, -List.set_cons_succ, -List.set_cons_zero]
  refine call_same (readTermI_calls s (by omega) _ hp) (by simp) (okA_re _ _) hf ?_
  have cs := readTermS_calls s (by omega)
  have cb := readTermI_calls (40 :: (s ++ [41])) (by simp; omega)
  cases ho : okR s with
  | none =>
    rw [ho] at cs
    have sm := sameImpl_calls zeroT zeroT_fits zeroT zeroT_fits
    simp -implicitDefEqProofs [okA, row_len, take_row, pure_d, re_d, hf, go_sem, -List.set_cons_succ, -List.set_cons_zero]
    refine qcall_pure cs hf (okA_re _ _) ?_
    simp -implicitDefEqProofs [okA, row_len, take_row, pure_d, re_d, hf, go_sem, -List.set_cons_succ, -List.set_cons_zero]
    refine ⟨by unfold maxStr; omega, by unfold maxStr; omega, ?_⟩
    refine call_same (cb _ (hp_append hp _)) (by simp [Ob.re, C.re]) (okA_re _ _) hf ?_
    generalize okR (40 :: (s ++ [41])) = o2
    obtain ⟨u, b, hu⟩ : ∃ (u : Tm) (b : Bool), okA o2 = .tup [.agg (u.row.map .d), .c (.d (.bool b))] := by cases o2 <;> exact ⟨_, _, rfl⟩
    rw [hu]
    simp -implicitDefEqProofs [row_len, take_row, pure_d, re_d, hf, go_sem, -List.set_cons_succ, -List.set_cons_zero]
    refine qcall_pure sm hf rfl ?_
    cases b
    all_goals
      simp -implicitDefEqProofs [hsi, row_len, take_row, pure_d, re_d, hf, go_sem, -List.set_cons_succ, -List.set_cons_zero]
      intro _
      refine qcall_pure sm hf rfl ?_
      simp -implicitDefEqProofs [row_len, take_row, pure_d, re_d, hf, go_sem, -List.set_cons_succ, -List.set_cons_zero]
  | some t =>
    have hft := (okR_ok ho).2.2.2
    rw [ho] at cs
    have sm := sameImpl_calls t hft t hft
    simp -implicitDefEqProofs [okA, row_len, take_row, pure_d, re_d, hf, go_sem, -List.set_cons_succ, -List.set_cons_zero]
    refine qcall_pure cs hf (okA_re _ _) ?_
    simp -implicitDefEqProofs [okA, row_len, take_row, pure_d, re_d, hf, go_sem, -List.set_cons_succ, -List.set_cons_zero]
    refine ⟨by unfold maxStr; omega, by unfold maxStr; omega, ?_⟩
    refine call_same (cb _ (hp_append hp _)) (by simp [Ob.re, C.re]) (okA_re _ _) hf ?_
    by_cases hl : s.length ≤ 900
    · have hl' : ¬ (900 : Int) < s.length := by omega
      rw [bracket ho hl]
      simp -implicitDefEqProofs [okA, row_len, take_row, pure_d, re_d, hf, go_sem, -List.set_cons_succ, -List.set_cons_zero]
      refine qcall_pure sm hf rfl ?_
      simp -implicitDefEqProofs [hsi, hl', row_len, take_row, pure_d, re_d, hf, go_sem, -List.set_cons_succ, -List.set_cons_zero]
      refine qcall_pure sm hf rfl ?_
      simp -implicitDefEqProofs [row_len, take_row, pure_d, re_d, hf, go_sem, -List.set_cons_succ, -List.set_cons_zero]
    · have hl' : (900 : Int) < s.length := by omega
      generalize okR (40 :: (s ++ [41])) = o2
      obtain ⟨u, b, hu⟩ : ∃ (u : Tm) (b : Bool), okA o2 = .tup [.agg (u.row.map .d), .c (.d (.bool b))] := by cases o2 <;> exact ⟨_, _, rfl⟩
      rw [hu]
      simp -implicitDefEqProofs [row_len, take_row, pure_d, re_d, hf, go_sem, -List.set_cons_succ, -List.set_cons_zero]
      refine qcall_pure sm hf rfl ?_
      simp -implicitDefEqProofs [hsi, hl', row_len, take_row, pure_d, re_d, hf, go_sem, -List.set_cons_succ, -List.set_cons_zero]
      refine qcall_pure sm hf rfl ?_
      simp -implicitDefEqProofs [row_len, take_row, pure_d, re_d, hf, go_sem, -List.set_cons_succ, -List.set_cons_zero]
theorem law_run5 {gs : List (Nat × Obj)} (hT : Lib2 gs) (rows : List (List D)) (hr : HasTys Tryz.prog (#[30] : Array TypeId).toList rows) : ACalls Tryz.prog 5 (argsA Tryz.prog (#[30] : Array TypeId).toList rows) (tabsH gs) (fun r H' => H' = tabsH gs ∧ r = .c (.d (.bool true))) := by
  obtain ⟨r, rs, rfl, h1, h2⟩ := hr.cons
  obtain rfl := h2.nil
  obtain ⟨s, rfl, hs⟩ := bytes_ty h1
  simp only [argsA, argA, Tryz.underlying30, List.headD_cons]
  obtain ⟨o, o2, rfl, q1, q2⟩ := hT
  exact rbLaw_calls s hs _ ⟨o, o2, rfl, rfl, q1, q2⟩
namespace fnReadBrackets
theorem own : ownKnob Tryz.prog.godebug = none := by kernel_rfl
theorem door_met (os : Os) (args : Array Value) : laidMetH Tryz.prog laid ((World.doorLaid Tryz.prog 400 os).forCall (fun _ _ => 0) ⟨#[], args, []⟩).memory :=
  laidMetH_of_parts3 (fuel := 8) (laidMet_of_run' 8 (by kernel_rfl) (by kernel_rfl)) (by kernel_rfl) (by kernel_rfl)
theorem contract (H : Type) (enc : TypeId × Value → H) (W : World) (base : Nat) (args : Array Value) (ds gs : List (DataW H)) (before : List MemPlace) (hL : laidMetH Tryz.prog laid W)
    (hval : ∀ (j : Nat) t v, Tryz.f5.params[j]? = some t → args[j]? = some v → Value.okWide Tryz.prog W .any base t v)
    (hW : DataW.Whole enc Tryz.prog Tryz.f5.params.toList Rows.fnReadBracketsSpec.vars false W args.toList ds gs before)
    (hw : (DataW.weightsEach Tryz.prog (Tryz.f5.params.toList ++ Rows.fnReadBracketsSpec.plain.varTypes Tryz.prog) (ds ++ gs)).all (· ≤ reachBytes) = true) :
    Calls Tryz.prog 5 args W fun e W' => ∃ v, e = .returned v ∧ Rows.fnReadBracketsSpec.post enc Tryz.prog Tryz.f5 false true false false W args v W' := by
  refine law_contract_tabs (T := Lib2) (L := [5, 30]) (tb := 4) (by kernel_rfl) (by kernel_rfl) (by kernel_rfl) rfl ?_ (by kernel_rfl) Tryz.underlying4 ?_ W base args ds gs before (lib_laid hL) hval hW hw
  · intro ds hl
    match ds, hl with
    | [d0], _ => rfl
  · intro gs hT rows hr
    rw [Tryz.params5] at hr ⊢
    exact law_run5 hT rows hr

theorem lifted (os : Os) (started : os.Started) (H : Type) (enc : TypeId × Value → H) :
    ReturnsInHanded {} Tryz.checked os 5 .any (fun w args => (Rows.fnReadBracketsSpec.pre enc Tryz.prog Tryz.f5 [] false w args ∧ laidMetH Tryz.prog laid w) ∧ sizedMet enc Tryz.prog Tryz.f5 (OpenSpec.ofChange Rows.fnReadBracketsSpec) false w args)
      (Rows.fnReadBracketsSpec.post enc Tryz.prog Tryz.f5 false true false false) := by
  refine returnsInHanded_of_change_and (C := Tryz.checked) (X := fun w _ => laidMetH Tryz.prog laid w) (fun _ _ _ hh h => h.of_heap hh) own started (by kernel_rfl) Tryz.func5
    (ChangeSpec.witness_shaped (enc := enc) (C := Tryz.checked) (os := os) (X := fun w _ => laidMetH Tryz.prog laid w) false (World.doorLaid Tryz.prog 400 os) #[.slice none 0 0] 8 rfl (World.shaped_of_RefB (by kernel_rfl) (by kernel_rfl)) (by kernel_rfl) (by kernel_rfl) (by kernel_rfl) (door_met os _)) ?_
  intro W base args ds gs before hval hW _ hw hL _
  exact contract H enc W base args ds gs before hL hval hW hw

theorem said : Rows.FnReadBracketsSaid :=
  OpenClaim.holds_of_wide 5 Tryz.f5 rfl rfl rfl rfl rfl rfl rfl ⟨rfl, rfl, rfl, rfl, rfl⟩ rfl rfl rfl rfl rfl (by kernel_rfl) Tryz.func5 (by kernel_rfl)
    (of_decide_eq_true (by kernel_rfl)) (by unfold Func.isWrapper; first | (rw [if_pos (by decide +kernel)]; kernel_rfl) | (rw [if_neg (by decide +kernel)]; exact ⟨rfl, rfl⟩))
    (fun os started H enc _ => lifted os started H enc)

theorem proved : Rows.FnReadBracketsCardSaid :=
  Claim7.holds_tied_plain_at .later [] [.data, .data, .data, .sentinel, .sentinel] true Rows.fnReadBracketsCard.stood.harness true
    said (fun _ h => by cases h) (by kernel_rfl) (fun _ h => by cases h) fnReadBrackets_row_tie rfl ⟨rfl, rfl⟩ (by kernel_rfl) rfl
    (fun f fn hf hfn => by
      obtain rfl : f = 5 := Option.some.inj ((show Tryz.prog.funcNamed Rows.fnReadBracketsRow.func = some 5 by kernel_rfl).symm.trans hf) |>.symm
      obtain rfl : fn = Tryz.f5 := (Option.some.inj (Tryz.func5.symm.trans hfn)).symm
      exact ⟨by kernel_rfl, fun j t ht => by
        rw [Tryz.params5] at ht
        have hall : (Tryz.f5.params.toList.all fun u => !Tryz.prog.wantsStandIn u) = true := by kernel_rfl
        have hm : t ∈ Tryz.f5.params.toList := by
          rw [Tryz.params5]
          simpa using Array.mem_of_getElem? ht
        exact (show Tryz.prog.wantsStandIn t = false by simpa using List.all_eq_true.1 hall t hm)⟩)
    (by kernel_rfl)
end fnReadBrackets

end Go.Proofs.YtgfmlifkhpjplaaGreatDoor
