/-
  The law FnExactFrameValid holds: spec.FrameValid and impl.FrameValid answer alike at every frame.
  Conditions: none.
-/
import Derived.Test.YtokgioccfeebkaaFv
open Go Go.AM Go.Proofs
namespace Go.Proofs.Ytokgioccfeebkaa
open Go.ChangeShapes Go.WideShapes Go.ChangeAt Go.RowKit
set_option linter.unusedVariables false
set_option linter.unusedSimpArgs false
set_option maxRecDepth 100000
theorem cells3 : Try.prog.cellsOf 3 = 1 := by kernel_rfl
theorem cells9 : Try.prog.cellsOf 9 = 1 := by kernel_rfl
theorem cells28 : Try.prog.cellsOf 28 = 2 := by kernel_rfl
theorem frame_ty {row : List D} (h : HasTy Try.prog 28 row) : ∃ k s, row = [.int .i64 k, .str s] ∧ s.length ≤ reachBytes := by
  obtain ⟨hl, hf⟩ := h.st_inv Try.underlying28
  rw [cells28] at hl
  match row, hl with
  | [a, b], _ =>
    simp [cells3, cells9] at hf
    obtain ⟨h0, h1⟩ := hf
    obtain ⟨k, e0, _⟩ := h0.int_inv Try.underlying3
    obtain ⟨s, e1, hs⟩ := h1.str_inv Try.underlying9
    cases e0; cases e1
    exact ⟨k, s, rfl, hs⟩
theorem law_run5 (rows : List (List D)) (hr : HasTys Try.prog (#[28] : Array TypeId).toList rows) : ACalls Try.prog 5 (argsA Try.prog (#[28] : Array TypeId).toList rows) [] (fun r _ => r = .c (.d (.bool true))) := by
  obtain ⟨r, rs, rfl, h1, h2⟩ := hr.cons
  obtain rfl := h2.nil
  obtain ⟨k, s, rfl, hs⟩ := frame_ty h1
  simp only [argsA, argA, Try.underlying28, List.map_cons, List.map_nil]
  exact f5_calls k s hs
namespace fnExactFrameValid
theorem own : ownKnob Try.prog.godebug = none := by kernel_rfl
theorem contract (H : Type) (enc : TypeId × Value → H) (W : World) (base : Nat) (args : Array Value) (ds gs : List (DataW H)) (before : List MemPlace)
    (hval : ∀ (j : Nat) t v, Try.f5.params[j]? = some t → args[j]? = some v → Value.okWide Try.prog W .any base t v)
    (hW : DataW.Whole enc Try.prog Try.f5.params.toList Rows.fnExactFrameValidSpec.vars false W args.toList ds gs before)
    (hw : (DataW.weightsEach Try.prog (Try.f5.params.toList ++ Rows.fnExactFrameValidSpec.plain.varTypes Try.prog) (ds ++ gs)).all (· ≤ reachBytes) = true) :
    Calls Try.prog 5 args W fun e W' => ∃ v, e = .returned v ∧ Rows.fnExactFrameValidSpec.post enc Try.prog Try.f5 false true false false W args v W' := by
  refine law_contract (L := [3, 9, 28]) (tb := 4) (by kernel_rfl) (by kernel_rfl) (by kernel_rfl) rfl ?_ (by kernel_rfl) Try.underlying4 ?_ W base args ds gs before hval hW hw
  · intro ds hl
    match ds, hl with
    | [d0], _ => rfl
  · intro rows hr
    rw [Try.params5] at hr ⊢
    exact law_run5 rows hr

theorem lifted (os : Os) (started : os.Started) (H : Type) (enc : TypeId × Value → H) :
    ReturnsInHanded {} Try.checked os 5 .any (Rows.fnExactFrameValidSpec.pre6 enc Try.prog Try.f5 Rows.fnExactFrameValidRow.domain false) (Rows.fnExactFrameValidSpec.post enc Try.prog Try.f5 false true false false) := by
  refine returnsInHanded_of_change_sized (C := Try.checked) own started (by kernel_rfl) Try.func5
    (ChangeSpec.witness6 (enc := enc) (C := Try.checked) false ⟨#[], #[.agg #[.int .i64 0, .string ByteArray.empty]], []⟩ 8 (by kernel_rfl) (by kernel_rfl) (by kernel_rfl) (by kernel_rfl)) ?_
  intro W base args ds gs before hval hW _ hw _
  exact contract H enc W base args ds gs before hval hW hw

theorem proved : Rows.FnExactFrameValidSaid :=
  OpenClaim.holds_of_wide 5 Try.f5 rfl rfl rfl rfl rfl rfl rfl ⟨rfl, rfl, rfl, rfl, rfl⟩ rfl rfl rfl rfl rfl (by kernel_rfl) Try.func5 (by kernel_rfl)
    (of_decide_eq_true (by kernel_rfl)) (by unfold Func.isWrapper; first | (rw [if_pos (by decide +kernel)]; kernel_rfl) | (rw [if_neg (by decide +kernel)]; exact ⟨rfl, rfl⟩))
    (fun os started H enc _ => lifted os started H enc)
end fnExactFrameValid
end Go.Proofs.Ytokgioccfeebkaa
