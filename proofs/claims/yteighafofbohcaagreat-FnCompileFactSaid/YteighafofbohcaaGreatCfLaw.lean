/-
  The law FnCompileFact holds: the code of a fact has operations of heads, and ends.
  Conditions: none.
-/
import Derived.Test.YteighafofbohcaaGreatBundC
import Derived.Test.YteighafofbohcaaGreatBundD
open Go Go.AM Go.Proofs
attribute [local go_sem] kw ew sw tw a_ b_ c_ A.ok A.val d_ e_ f_ g_ h_ i_ j_ k_ l_ m_ unA unD n_ AOp.total o_ p_ q_ r_ s_ t_ u_ v_ A.thaw C.thaw A.fits As.fits C.fits evs oks w_ A.pure C.pure A.re C.re x_ y_ cut A.cells C.rows? z_ A_ B_ C_ D_ Ob.re Cs.fits E_ F_ G_ H_ I_ J_ K_ L_ M_ N_ O_ C.toD P_ Q_ R_ S_ T_ Obs.fits U_ eqD V_ W_ X_ Y_ Z_
open Go Go.AM Go.Proofs
namespace Go.Proofs.YteighafofbohcaaGreat
open Go.ChangeShapes Go.WideShapes Go.ChangeAt Go.RowKit
set_option linter.unusedVariables false
set_option linter.unusedSimpArgs false
set_option maxRecDepth 100000
-- 3 loop.example/prologserver/laws.FnCompileFact params 1 ntmps 83
-- loop head live: [4, 8]
def ac3 : Cd := .seq (.region [⟨(some 2), .mv (.k (.c (.d (.bool false)))), none⟩] [2])
 (.seq (.seq (.region [⟨(some 9), .mv (.t 0), none⟩,
 ⟨(some 10), .len 1 (.t 9), none⟩,
 ⟨(some 11), .bin .gtr (.t 10) (.k (.c (.d (.int .i64 1048576)))), none⟩] [9, 10])
 (.cond (.t 11)
 (.seq (.region [⟨(some 2), .mv (.k (.c (.d (.bool true)))), none⟩] [0, 11])
 (.ret))
 (.skip)))
 (.seq (.region [⟨(some 12), .mv (.t 0), none⟩,
 ⟨(some 13), .call false 5 [(.t 12)], none⟩,
 ⟨(some 3), .alloc [(.d (.int .i64 0)), (.d (.int .i64 0)), (.d (.str [])), (.full []), (.full [])], none⟩,
 ⟨none, .store 5 (.t 3) (.t 13), none⟩] [0, 2, 11, 12, 13])
 (.seq (.region [⟨(some 15), .fieldAddr 0 (.t 3), none⟩,
 ⟨(some 16), .load (some 4) (.t 15), none⟩,
 ⟨(some 17), .build [(.d (.int .i64 0)), (.d (.int .i64 0)), (.d (.str [])), (.full []), (.full [])] [(0, 4, (.t 16))], none⟩,
 ⟨(some 18), .qcall 6 [(.t 17)], none⟩,
 ⟨(some 14), .mv (.t 18), none⟩,
 ⟨(some 19), .extract 0 (.t 14), none⟩,
 ⟨(some 20), .extract 1 (.t 14), none⟩,
 ⟨(some 4), .mv (.t 19), none⟩,
 ⟨(some 5), .mv (.t 20), none⟩] [14, 15, 16, 17, 18, 19, 20])
 (.seq (.region [⟨(some 22), .fieldAddr 0 (.t 3), none⟩,
 ⟨(some 23), .load (some 4) (.t 22), none⟩,
 ⟨(some 24), .build [(.d (.int .i64 0)), (.d (.int .i64 0)), (.d (.str [])), (.full []), (.full [])] [(0, 4, (.t 23))], none⟩,
 ⟨(some 25), .qcall 7 [(.t 24)], none⟩,
 ⟨(some 21), .mv (.t 25), none⟩,
 ⟨(some 26), .extract 0 (.t 21), none⟩,
 ⟨(some 27), .extract 1 (.t 21), none⟩,
 ⟨(some 6), .mv (.t 26), none⟩,
 ⟨(some 7), .mv (.t 27), none⟩] [3, 21, 22, 23, 24, 25, 26, 27])
 (.seq (.seq (.region [⟨(some 28), .mv (.t 5), none⟩,
 ⟨(some 29), .mv (.t 7), none⟩,
 ⟨(some 30), .binB true (.t 28) (.t 29), none⟩,
 ⟨(some 31), .mv (.t 30), none⟩,
 ⟨(some 32), .mv (.t 4), some (31, false)⟩,
 ⟨(some 33), .mv (.t 6), some (31, false)⟩,
 ⟨(some 34), .qcall 8 [(.t 32), (.t 33)], some (31, false)⟩,
 ⟨(some 35), .un .not (.t 34), some (31, false)⟩,
 ⟨(some 36), .pick (.t 31) (.k (.c (.d (.bool true)))) (.t 35), none⟩,
 ⟨(some 37), .mv (.t 36), none⟩,
 ⟨(some 38), .mv (.t 5), some (37, false)⟩,
 ⟨(some 39), .un .not (.t 38), some (37, false)⟩,
 ⟨(some 40), .pick (.t 37) (.k (.c (.d (.bool true)))) (.t 39), none⟩] [28, 29, 30, 31, 32, 33, 34, 35, 36, 37, 38, 39])
 (.cond (.t 40)
 (.seq (.region [⟨(some 41), .mv (.t 5), none⟩,
 ⟨(some 42), .mv (.t 7), none⟩,
 ⟨(some 43), .binB false (.t 41) (.t 42), none⟩,
 ⟨(some 44), .mv (.t 43), none⟩,
 ⟨(some 45), .mv (.t 4), some (44, true)⟩,
 ⟨(some 46), .mv (.t 6), some (44, true)⟩,
 ⟨(some 47), .qcall 8 [(.t 45), (.t 46)], some (44, true)⟩,
 ⟨(some 48), .pick (.t 44) (.t 47) (.k (.c (.d (.bool false)))), none⟩,
 ⟨(some 2), .mv (.t 48), none⟩] [4, 5, 6, 7, 40, 41, 42, 43, 44, 45, 46, 47, 48])
 (.ret))
 (.skip)))
 (.seq (.seq (.region [⟨(some 8), .mv (.k (.c (.d (.int .i64 0)))), none⟩] [2, 5, 6, 7, 40])
 (.block 0 (.loop (.seq (.seq (.region [⟨(some 49), .mv (.t 8), none⟩,
 ⟨(some 50), .mv (.t 4), none⟩,
 ⟨(some 51), .len 1 (.t 50), none⟩,
 ⟨(some 52), .bin .sub (.t 51) (.k (.c (.d (.int .i64 1)))), none⟩,
 ⟨(some 53), .bin .lss (.t 49) (.t 52), none⟩] [49, 50, 51, 52])
 (.cond (.t 53)
 (.skip)
 (.exit 0)))
 (.seq (.block 1 (.seq (.region [⟨(some 56), .mv (.t 4), none⟩,
 ⟨(some 57), .mv (.t 8), none⟩,
 ⟨(some 58), .indexAddr 4 (.t 56) (.t 57), none⟩,
 ⟨(some 59), .fieldAddr 0 (.t 58), none⟩,
 ⟨(some 60), .load none (.t 59), none⟩,
 ⟨(some 61), .bin .lss (.t 60) (.k (.c (.d (.int .i64 1)))), none⟩,
 ⟨(some 62), .mv (.t 61), none⟩,
 ⟨(some 63), .mv (.t 4), some (62, false)⟩,
 ⟨(some 64), .mv (.t 8), some (62, false)⟩,
 ⟨(some 65), .indexAddr 4 (.t 63) (.t 64), some (62, false)⟩,
 ⟨(some 66), .fieldAddr 0 (.t 65), some (62, false)⟩,
 ⟨(some 67), .load none (.t 66), some (62, false)⟩,
 ⟨(some 68), .bin .gtr (.t 67) (.k (.c (.d (.int .i64 6)))), some (62, false)⟩,
 ⟨(some 69), .pick (.t 62) (.k (.c (.d (.bool true)))) (.t 68), none⟩] [53, 56, 57, 58, 59, 60, 61, 62, 63, 64, 65, 66, 67, 68])
 (.cond (.t 69)
 (.seq (.region [⟨(some 2), .mv (.k (.c (.d (.bool false)))), none⟩] [4, 8, 69])
 (.ret))
 (.skip))))
 (.region [⟨(some 54), .mv (.t 8), none⟩,
 ⟨(some 55), .bin .add (.t 54) (.k (.c (.d (.int .i64 1)))), none⟩,
 ⟨(some 8), .mv (.t 55), none⟩] [2, 54, 55, 69]))))))
 (.seq (.region [⟨(some 70), .mv (.t 4), none⟩,
 ⟨(some 71), .len 1 (.t 70), none⟩,
 ⟨(some 72), .bin .gtr (.t 71) (.k (.c (.d (.int .i64 0)))), none⟩,
 ⟨(some 73), .mv (.t 72), none⟩,
 ⟨(some 74), .mv (.t 4), some (73, true)⟩,
 ⟨(some 75), .mv (.t 4), some (73, true)⟩,
 ⟨(some 76), .len 1 (.t 75), some (73, true)⟩,
 ⟨(some 77), .bin .sub (.t 76) (.k (.c (.d (.int .i64 1)))), some (73, true)⟩,
 ⟨(some 78), .indexAddr 4 (.t 74) (.t 77), some (73, true)⟩,
 ⟨(some 79), .fieldAddr 0 (.t 78), some (73, true)⟩,
 ⟨(some 80), .load none (.t 79), some (73, true)⟩,
 ⟨(some 81), .bin .eql (.t 80) (.k (.c (.d (.int .i64 14)))), some (73, true)⟩,
 ⟨(some 82), .pick (.t 73) (.t 81) (.k (.c (.d (.bool false)))), none⟩,
 ⟨(some 2), .mv (.t 82), none⟩] [4, 70, 71, 72, 73, 74, 75, 76, 77, 78, 79, 80, 81, 82])
 (.ret))))))))
theorem ac3_ok : cFunc Tryz.prog [1000006, 1000007, 1000008] [(0, [2], []), (1, [9, 10], []), (2, [0, 11], []), (3, [0, 2, 11, 12, 13], []), (4, [14, 15, 16, 17, 18, 19, 20], []), (5, [3, 21, 22, 23, 24, 25, 26, 27], []), (6, [28, 29, 30, 31, 32, 33, 34, 35, 36, 37, 38, 39], []), (7, [4, 5, 6, 7, 40, 41, 42, 43, 44, 45, 46, 47, 48], []), (8, [2, 5, 6, 7, 40], []), (9, [49, 50, 51, 52], []), (11, [53, 56, 57, 58, 59, 60, 61, 62, 63, 64, 65, 66, 67, 68], []), (12, [4, 8, 69], []), (10, [2, 54, 55, 69], []), (13, [4, 70, 71, 72, 73, 74, 75, 76, 77, 78, 79, 80, 81, 82], [])] Tryz.f3 = some (ac3, [.tmp 2], 83) := by kernel_rfl
theorem cfLaw_calls (c : List UInt8) (hc : c.length ≤ reachBytes) : ACalls Tryz.prog 3 [.c (.d (.sl (bytesRows c)))] [] (fun r _ => r = .c (.d (.bool true))) := by
  refine acalls Tryz.func3 (by kernel_rfl) ac3_ok fun hf => ?_
  have hli := reach_i64 hc
  simp -implicitDefEqProofs [ac3, hli, bytesRows_len, go_sem, -List.set_cons_succ, -List.set_cons_zero]
  refine fun hle => ?_
  have hc2 : c.length ≤ 1048576 := by omega
  refine call_some (drawCc_calls c hc2 _) (by simp) (fun r => ClR.re) hf ?_
  rintro _ ⟨⟨⟨k, n, s, l⟩, b⟩, rfl, hd, hdl⟩
  have hft : (⟨.mk k n s l, []⟩ : Cl).fits := ⟨hd.head, by simp, by simp⟩
  have ci := ccImpl_calls _ hft
  have cs := ccSpec_calls _ hft
  simp only [Cl.row, Tm.k, Tm.n, Tm.s, Tm.kids, List.map_cons, List.map_nil] at ci cs
  simp -implicitDefEqProofs [Cl.row, Tm.k, Tm.n, Tm.s, Tm.kids, hf, go_sem, -List.set_cons_succ, -List.set_cons_zero]
  refine qcall_pure ci hf (by simp [A.re, A.res, C.re]) ?_
  simp -implicitDefEqProofs [hf, go_sem, -List.set_cons_succ, -List.set_cons_zero]
  refine qcall_pure cs hf (by simp [A.re, A.res, C.re]) ?_
  cases hv : Cl.validB ⟨.mk k n s l, []⟩ with
  | false =>
    have cp := pgCode_calls [] (by simp)
    simp only [List.map_nil] at cp
    simp -implicitDefEqProofs [hf, go_sem, -List.set_cons_succ, -List.set_cons_zero]
    refine qcall_pure cp hf rfl ?_
    simp -implicitDefEqProofs [hf, go_sem, -List.set_cons_succ, -List.set_cons_zero]
    refine qcall_pure cp hf rfl ?_
    simp -implicitDefEqProofs [hf, go_sem, -List.set_cons_succ, -List.set_cons_zero]
  | true =>
    obtain ⟨g1, g2, g3, g4⟩ := validB_head hv
    have hkg := good_kids g1
    obtain ⟨L, e1, e2⟩ := codeC_fact ⟨.mk k n s l, []⟩ rfl hkg.1
    obtain ⟨B, hB, hfit⟩ := codeC_fit _ hv
    have hcl : (codeC ⟨.mk k n s l, []⟩).length ≤ _ := hfit.code
    obtain ⟨W, hW⟩ : ∃ W, W = L ++ [⟨14, 0, 0, []⟩] := ⟨_, rfl⟩
    have eW : codeC ⟨.mk k n s l, []⟩ = W.map Ins.row := by rw [e1, hW]; simp [insR, Ins.row]
    have hWl : W.length ≤ 1000000 := by rw [eW] at hcl; simp at hcl; omega
    have hW1 : 1 ≤ W.length := by rw [hW]; simp
    have hlast : ∀ (h : W.length - 1 < W.length), W[W.length - 1].op = 14 := fun h => by
      subst hW
      simp
    have hin : ∀ i (h : i < W.length), i < W.length - 1 → 1 ≤ W[i].op ∧ W[i].op ≤ 6 := fun i h h1 => by
      subst hW
      simp at h1
      rw [List.getElem_append_left h1]
      exact e2 _ (List.getElem_mem h1)
    have cp := pgCode_calls W hWl
    have hWi : inR .i64 (W.length : Int) := small_i64 (by omega) (by omega)
    have hsub : inR .i64 ((W.length : Int) - 1) := small_i64 (by omega) (by omega)
    rw [eW]
    simp -implicitDefEqProofs [hf, go_sem, -List.set_cons_succ, -List.set_cons_zero]
    refine qcall_pure cp hf rfl ?_
    simp -implicitDefEqProofs [hf, go_sem, -List.set_cons_succ, -List.set_cons_zero]
    refine loop_set (σ := Nat) (fun i => [(8, .c (.d (.int .i64 i)))]) (fun _ => []) (fun _ => [.cells [.d (.int .i64 k), .d (.int .i64 n), .d (.str s), .d (.sl (l.map Tm.row)), .d (.sl (b.map Tm.row))]]) (fun i => i + 1 ≤ W.length) (fun i => W.length - i) 0 (by simp [setAll]) hW1 ?_
    intro i hi
    have hW0 : 0 < W.length := hW1
    simp -implicitDefEqProofs [setAll, hWi, hsub, hW0, go_sem, -List.set_cons_succ, -List.set_cons_zero]
    refine ⟨fun hlt => ?_, fun hge => ?_⟩
    · have hlt2 : i < W.length := by omega
      have hadd : inR .i64 ((i : Int) + 1) := small_i64 (by omega) (by omega)
      obtain ⟨o1, o2⟩ := hin i hlt2 (by omega)
      have hrow : (W.map Ins.row)[i]? = some W[i].row := by simp [hlt2]
      obtain ⟨w, hw⟩ : ∃ w, w = W[i] := ⟨_, rfl⟩
      rw [← hw] at o1 o2 hrow
      have o1' : ¬ w.op < 1 := by omega
      have o2' : ¬ 6 < w.op := by omega
      refine row_nat _ hrow rfl ?_
      simp -implicitDefEqProofs [Ins.row, o1, o1', hadd, go_sem, -List.set_cons_succ, -List.set_cons_zero]
      refine row_nat _ hrow rfl ?_
      simp -implicitDefEqProofs [Ins.row, o2, o2', hadd, go_sem, -List.set_cons_succ, -List.set_cons_zero]
      exact loop_back (i + 1) (by simp [setAll]) (by show i + 1 + 1 ≤ W.length; omega) (by show W.length - (i + 1) < W.length - i; omega)
    · have hlt : W.length - 1 < W.length := by omega
      have hl14 := hlast hlt
      refine row_int W[W.length - 1].row (by omega) (by
        have : ((W.length : Int) - 1).toNat = W.length - 1 := by omega
        rw [this]; simp [hlt]) rfl ?_
      simp -implicitDefEqProofs [Ins.row, hl14, go_sem, -List.set_cons_succ, -List.set_cons_zero]
theorem law_run3 (rows : List (List D)) (hr : HasTys Tryz.prog (#[22] : Array TypeId).toList rows) : ACalls Tryz.prog 3 (argsA Tryz.prog (#[22] : Array TypeId).toList rows) [] (fun r _ => r = .c (.d (.bool true))) := by
  obtain ⟨r, rs, rfl, h1, h2⟩ := hr.cons
  obtain rfl := h2.nil
  obtain ⟨s, rfl, hs⟩ := bytes_ty h1
  simp only [argsA, argA, Tryz.underlying22, List.headD_cons]
  exact cfLaw_calls s hs
namespace fnCompileFact
theorem own : ownKnob Tryz.prog.godebug = none := by kernel_rfl
theorem contract (H : Type) (enc : TypeId × Value → H) (W : World) (base : Nat) (args : Array Value) (ds gs : List (DataW H)) (before : List MemPlace)
    (hval : ∀ (j : Nat) t v, Tryz.f3.params[j]? = some t → args[j]? = some v → Value.okWide Tryz.prog W .any base t v)
    (hW : DataW.Whole enc Tryz.prog Tryz.f3.params.toList Rows.fnCompileFactSpec.vars false W args.toList ds gs before)
    (hw : (DataW.weightsEach Tryz.prog (Tryz.f3.params.toList ++ Rows.fnCompileFactSpec.plain.varTypes Tryz.prog) (ds ++ gs)).all (· ≤ reachBytes) = true) :
    Calls Tryz.prog 3 args W fun e W' => ∃ v, e = .returned v ∧ Rows.fnCompileFactSpec.post enc Tryz.prog Tryz.f3 false true false false W args v W' := by
  refine law_contract (L := [5, 22]) (tb := 4) (by kernel_rfl) (by kernel_rfl) (by kernel_rfl) rfl ?_ (by kernel_rfl) Tryz.underlying4 ?_ W base args ds gs before hval hW hw
  · intro ds hl
    match ds, hl with
    | [d0], _ => rfl
  · intro rows hr
    rw [Tryz.params3] at hr ⊢
    exact law_run3 rows hr

theorem lifted (os : Os) (started : os.Started) (H : Type) (enc : TypeId × Value → H) :
    ReturnsInHanded {} Tryz.checked os 3 .any (Rows.fnCompileFactSpec.pre6 enc Tryz.prog Tryz.f3 Rows.fnCompileFactRow.domain false) (Rows.fnCompileFactSpec.post enc Tryz.prog Tryz.f3 false true false false) := by
  refine returnsInHanded_of_change_sized (C := Tryz.checked) own started (by kernel_rfl) Tryz.func3
    (ChangeSpec.witness6 (enc := enc) (C := Tryz.checked) false ⟨#[], #[.slice none 0 0], []⟩ 8 (by kernel_rfl) (by kernel_rfl) (by kernel_rfl) (by kernel_rfl)) ?_
  intro W base args ds gs before hval hW _ hw _
  exact contract H enc W base args ds gs before hval hW hw

theorem proved : Rows.FnCompileFactSaid :=
  OpenClaim.holds_of_wide 3 Tryz.f3 rfl rfl rfl rfl rfl rfl rfl ⟨rfl, rfl, rfl, rfl, rfl⟩ rfl rfl rfl rfl rfl (by kernel_rfl) Tryz.func3 (by kernel_rfl)
    (of_decide_eq_true (by kernel_rfl)) (by unfold Func.isWrapper; first | (rw [if_pos (by decide +kernel)]; kernel_rfl) | (rw [if_neg (by decide +kernel)]; exact ⟨rfl, rfl⟩))
    (fun os started H enc _ => lifted os started H enc)
end fnCompileFact

end Go.Proofs.YteighafofbohcaaGreat
