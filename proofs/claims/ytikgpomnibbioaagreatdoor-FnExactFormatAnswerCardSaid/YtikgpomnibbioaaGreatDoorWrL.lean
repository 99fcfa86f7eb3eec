/-
  Lists and terms as the reference writes them.
  Conditions: none.
-/
import Derived.Test.YtikgpomnibbioaaGreatDoorWrS
open Go Go.AM Go.Proofs
namespace Go.Proofs.YtikgpomnibbioaaGreatDoor
open Go.ChangeShapes Go.WideShapes Go.ChangeAt Go.RowKit
set_option linter.unusedVariables false
set_option linter.unusedSimpArgs false
set_option maxRecDepth 100000
theorem pair_inv {t : Tm} (h : t.pairB = true) : ∃ n a b, t = .mk 3 n [46] [a, b] := by
  obtain ⟨k, n, s, l⟩ := t
  simp only [Tm.pairB, Tm.k, Tm.s, Tm.kids, Bool.and_eq_true, decide_eq_true_eq, beq_iff_eq] at h
  obtain ⟨⟨hk, rfl⟩, hl⟩ := h
  obtain rfl : k = 3 := of_decide_eq_true hk
  have hl : (l.length : Int) = 2 := of_decide_eq_true hl
  match l, show l.length = 2 by omega with
  | [a, b], _ => exact ⟨n, a, b, rfl⟩
theorem pair_wrt (n : Int) (a b : Tm) : (Tm.mk 3 n [46] [a, b]).wrt = 44 :: a.wr ++ b.wrt := by
  rw [Tm.wrt, wrs_map, wrts_map]
  simp
theorem pair_wr (n : Int) (a b : Tm) : (Tm.mk 3 n [46] [a, b]).wr = 91 :: (a.wr ++ b.wrt) ++ [93] := by
  rw [Tm.wr, wrs_map, wrts_map]
  simp [wrNode]
theorem end_wrt {t : Tm} (h : t.pairB = false) : t.wrt = if t.nilB then [] else 124 :: t.wr := by
  obtain ⟨k, n, s, l⟩ := t
  rw [Tm.wrt, Tm.wr]
  have h1 : ¬ (k = 3 ∧ s = [46] ∧ l.length = 2) := by
    rintro ⟨rfl, rfl, h2⟩
    have h3 : (l.length : Int) = 2 := by omega
    simp [Tm.pairB, Tm.k, Tm.s, Tm.kids, h3] at h
  rw [if_neg h1]
  by_cases h2 : k = 3 ∧ s = [91, 93] ∧ l = []
  · obtain ⟨rfl, rfl, rfl⟩ := h2
    simp [Tm.nilB, Tm.k, Tm.kids, Tm.s]
  · have h3 : (Tm.mk k n s l).nilB = false := by
      cases hb : (Tm.mk k n s l).nilB with
      | false => rfl
      | true =>
        simp only [Tm.nilB, Tm.k, Tm.kids, Tm.s, Bool.and_eq_true, decide_eq_true_eq, beq_iff_eq, List.isEmpty_iff] at hb
        exact absurd ⟨of_decide_eq_true hb.1.1, hb.2, hb.1.2⟩ h2
    rw [if_neg h2, h3]
    rfl
/-- a term that the writers meet -/
structure Tm.ok (t : Tm) : Prop where
  fits : t.fits
  good : t.good
  size : t.size ≤ 120
theorem Tm.ok.len {t : Tm} (h : t.ok) : t.wr.length ≤ 2400 ∧ t.wrt.length ≤ 2401 ∧ t.wr ≠ [] := by
  have := wr_len t h.good
  have := h.size
  exact ⟨by omega, by omega, (wr_len t h.good).2⟩
theorem Tm.ok.kid {k n : Int} {s : List UInt8} {l : List Tm} (h : (Tm.mk k n s l).ok) {u : Tm} (hu : u ∈ l) : u.ok ∧ u.size < (Tm.mk k n s l).size := by
  obtain ⟨h1, h2, h3⟩ := h
  have h4 := sizes_mem hu
  rw [Tm.size] at h3 ⊢
  cases h1 with
  | mk _ _ _ _ hk => cases h2 with
    | mk _ hg => exact ⟨⟨hk u hu, hg u hu, by omega⟩, by omega⟩
theorem list_calls (t : Tm) (ht : t.ok) (hp : t.pairB = true) (hT : ∀ u : Tm, u.ok → u.size < t.size → TxS u) (H : Heap) : ACalls Tryz.prog 37 [.agg (t.row.map .d)] H (fun r H' => H' = H ∧ r = .c (.d (.str t.wr))) := by
  refine acalls Tryz.func37 (by kernel_rfl) ac37_ok fun hf => ?_
  simp -implicitDefEqProofs [ac37, row_len, take_row, kw, ew, sw, aw_cond, awOps_nil, awOps_cons, awOps_guardE, nx_eq, awOp, -List.set_cons_succ, -List.set_cons_zero, A.ok, A.val, setSl, wrapG, guardB, getB, pickA, binA, binC, binD, cmpD, isCmp, unA, unD, lenA, AOp.total, kills, litB, FinQ, resOks, resOk, resA, resList, resOne, A.thaw, C.thaw, A.fits, As.fits, C.fits, evs, oks, callArgs, A.pure, C.pure, A.re, C.re, fieldAddrA, loadC, cut, A.cells, C.rows?, getOb, newOb, setOb, storeC, splice, Ob.re, Cs.fits, partsA, partsOk, parts2A, parts2Ok, fillC, fillRows, optInt, optOk, sliceA, clipC, optK_some, storeK_some, Option.map_some, toDs, C.toD, spliceD, appendA, capsOf, srcRows, allLen_nil_iff, allLen_cons_iff, allLen_append_iff, dropC, Obs.fits, eqCs, eqD, mapRow, mapPut, mapVal, mapOne, mapCells]
  refine loop_enter (St.le_token 3 4 rfl) ?_
  refine loop_set (σ := List Tm × Tm) (fun x => [(3, .c (.own (.l 1) x.1.length (x.1.map Tm.row)))]) (fun _ => H) (fun x => [.cells (x.2.row.map .d), .grow x.1.length 4])
    (fun x => x.2.ok ∧ x.1.length + x.2.size ≤ t.size ∧ (∀ u ∈ x.1, u.ok ∧ u.size < t.size) ∧ ((x.1 = [] ∧ x.2 = t) ∨ (x.1 ≠ [] ∧ t.wr = 91 :: (joinS 44 (x.1.map Tm.wr) ++ x.2.wrt) ++ [93]))) (fun x => x.2.size) ([], t) rfl ⟨ht, by simp, by simp, .inl ⟨rfl, rfl⟩⟩ ?_
  rintro ⟨l, c⟩ ⟨hc, hsz, hl, hw⟩
  simp only at hc hsz hl hw
  have hts := ht.size
  simp -implicitDefEqProofs [setAll, row_len, take_row, pure_d, re_d, kw, ew, sw, aw_cond, awOps_nil, awOps_cons, awOps_guardE, nx_eq, awOp, -List.set_cons_succ, -List.set_cons_zero, A.ok, A.val, setSl, wrapG, guardB, getB, pickA, binA, binC, binD, cmpD, isCmp, unA, unD, lenA, AOp.total, kills, litB, FinQ, resOks, resOk, resA, resList, resOne, A.thaw, C.thaw, A.fits, As.fits, C.fits, evs, oks, callArgs, A.pure, C.pure, A.re, C.re, fieldAddrA, loadC, cut, A.cells, C.rows?, getOb, newOb, setOb, storeC, splice, Ob.re, Cs.fits, partsA, partsOk, parts2A, parts2Ok, fillC, fillRows, optInt, optOk, sliceA, clipC, optK_some, storeK_some, Option.map_some, toDs, C.toD, spliceD, appendA, capsOf, srcRows, allLen_nil_iff, allLen_cons_iff, allLen_append_iff, dropC, Obs.fits, eqCs, eqD, mapRow, mapPut, mapVal, mapOne, mapCells]
  refine qcall_pure (pairSpec_calls c hc.fits) hf rfl ?_
  cases hcp : c.pairB with
  | true =>
    obtain ⟨n, a, b, rfl⟩ := pair_inv hcp
    simp -implicitDefEqProofs [row_mk, kw, ew, sw, aw_cond, awOps_nil, awOps_cons, awOps_guardE, nx_eq, awOp, -List.set_cons_succ, -List.set_cons_zero, A.ok, A.val, setSl, wrapG, guardB, getB, pickA, binA, binC, binD, cmpD, isCmp, unA, unD, lenA, AOp.total, kills, litB, FinQ, resOks, resOk, resA, resList, resOne, A.thaw, C.thaw, A.fits, As.fits, C.fits, evs, oks, callArgs, A.pure, C.pure, A.re, C.re, fieldAddrA, loadC, cut, A.cells, C.rows?, getOb, newOb, setOb, storeC, splice, Ob.re, Cs.fits, partsA, partsOk, parts2A, parts2Ok, fillC, fillRows, optInt, optOk, sliceA, clipC, optK_some, storeK_some, Option.map_some, toDs, C.toD, spliceD, appendA, capsOf, srcRows, allLen_nil_iff, allLen_cons_iff, allLen_append_iff, dropC, Obs.fits, eqCs, eqD, mapRow, mapPut, mapVal, mapOne, mapCells]
    have ha := hc.kid (u := a) (by simp)
    have hb := hc.kid (u := b) (by simp)
    have hct : (Tm.mk 3 n [46] [a, b]).size ≤ t.size := by omega
    have hcs : (Tm.mk 3 n [46] [a, b]).size = 1 + a.size + b.size := by simp [Tm.size, sizes]; omega
    refine row_int a.row (by omega) rfl (row_len _) ?_
    simp -implicitDefEqProofs [row_len, take_row, pure_d, re_d, toDs_map, hf, kw, ew, sw, aw_cond, awOps_nil, awOps_cons, awOps_guardE, nx_eq, awOp, -List.set_cons_succ, -List.set_cons_zero, A.ok, A.val, setSl, wrapG, guardB, getB, pickA, binA, binC, binD, cmpD, isCmp, unA, unD, lenA, AOp.total, kills, litB, FinQ, resOks, resOk, resA, resList, resOne, A.thaw, C.thaw, A.fits, As.fits, C.fits, evs, oks, callArgs, A.pure, C.pure, A.re, C.re, fieldAddrA, loadC, cut, A.cells, C.rows?, getOb, newOb, setOb, storeC, splice, Ob.re, Cs.fits, partsA, partsOk, parts2A, parts2Ok, fillC, fillRows, optInt, optOk, sliceA, clipC, optK_some, storeK_some, Option.map_some, toDs, C.toD, spliceD, appendA, capsOf, srcRows, allLen_nil_iff, allLen_cons_iff, allLen_append_iff, dropC, Obs.fits, eqCs, eqD, mapRow, mapPut, mapVal, mapOne, mapCells]
    refine ⟨allLen_map row_len, by unfold maxApp; omega, row_int b.row (by omega) rfl (row_len _) ?_⟩
    simp -implicitDefEqProofs [row_len, take_row, pure_d, re_d, toDs_map, hf, kw, ew, sw, aw_cond, awOps_nil, awOps_cons, awOps_guardE, nx_eq, awOp, -List.set_cons_succ, -List.set_cons_zero, A.ok, A.val, setSl, wrapG, guardB, getB, pickA, binA, binC, binD, cmpD, isCmp, unA, unD, lenA, AOp.total, kills, litB, FinQ, resOks, resOk, resA, resList, resOne, A.thaw, C.thaw, A.fits, As.fits, C.fits, evs, oks, callArgs, A.pure, C.pure, A.re, C.re, fieldAddrA, loadC, cut, A.cells, C.rows?, getOb, newOb, setOb, storeC, splice, Ob.re, Cs.fits, partsA, partsOk, parts2A, parts2Ok, fillC, fillRows, optInt, optOk, sliceA, clipC, optK_some, storeK_some, Option.map_some, toDs, C.toD, spliceD, appendA, capsOf, srcRows, allLen_nil_iff, allLen_cons_iff, allLen_append_iff, dropC, Obs.fits, eqCs, eqD, mapRow, mapPut, mapVal, mapOne, mapCells]
    refine loop_back (l ++ [a], b) (by simp [setAll]) ⟨hb.1, by simp; omega, fun u hu => ?_, .inr ⟨by simp, ?_⟩⟩ (by show b.size < (Tm.mk 3 n [46] [a, b]).size; omega)
    · rcases List.mem_append.1 hu with hu | hu
      · exact hl u hu
      · rw [List.mem_singleton.1 hu]
        exact ⟨ha.1, by omega⟩
    · simp only [List.map_append, List.map_cons, List.map_nil]
      rw [joinS_snoc]
      rcases hw with ⟨rfl, rfl⟩ | ⟨hne, hw⟩
      · rw [pair_wr]
        simp
      · rw [hw, pair_wrt, if_neg (by simpa using hne)]
        simp
  | false =>
    have hlen : (joinS 44 (l.map Tm.wr)).length ≤ 1000001 * l.length := by
      have := joinS_take l (fun u hu => by have := (hl u hu).1.len; omega) (Nat.le_refl _)
      rwa [List.take_of_length_le (by simp)] at this
    have hne : l ≠ [] := by
      rintro rfl
      rcases hw with ⟨_, rfl⟩ | ⟨h, _⟩
      · rw [hp] at hcp; cases hcp
      · exact h rfl
    obtain ⟨_, hw⟩ : l ≠ [] ∧ t.wr = 91 :: (joinS 44 (l.map Tm.wr) ++ c.wrt) ++ [93] := by
      rcases hw with ⟨h, _⟩ | h
      · exact absurd h hne
      · exact h
    have hlt : c.size < t.size := by
      have : 0 < l.length := List.length_pos_iff.2 hne
      omega
    have hargs := args_calls l (by omega) (fun u hu => ⟨hT u (hl u hu).1 (hl u hu).2, by have := (hl u hu).1.len; omega⟩)
    rw [end_wrt hcp] at hw
    have hcl := hc.len
    simp -implicitDefEqProofs [row_len, take_row, pure_d, re_d, kw, ew, sw, aw_cond, awOps_nil, awOps_cons, awOps_guardE, nx_eq, awOp, -List.set_cons_succ, -List.set_cons_zero, A.ok, A.val, setSl, wrapG, guardB, getB, pickA, binA, binC, binD, cmpD, isCmp, unA, unD, lenA, AOp.total, kills, litB, FinQ, resOks, resOk, resA, resList, resOne, A.thaw, C.thaw, A.fits, As.fits, C.fits, evs, oks, callArgs, A.pure, C.pure, A.re, C.re, fieldAddrA, loadC, cut, A.cells, C.rows?, getOb, newOb, setOb, storeC, splice, Ob.re, Cs.fits, partsA, partsOk, parts2A, parts2Ok, fillC, fillRows, optInt, optOk, sliceA, clipC, optK_some, storeK_some, Option.map_some, toDs, C.toD, spliceD, appendA, capsOf, srcRows, allLen_nil_iff, allLen_cons_iff, allLen_append_iff, dropC, Obs.fits, eqCs, eqD, mapRow, mapPut, mapVal, mapOne, mapCells]
    refine qcall_pure (nilSpec_calls c hc.fits) hf rfl ?_
    cases hn : c.nilB with
    | true =>
      rw [hn] at hw
      simp -implicitDefEqProofs [kw, ew, sw, aw_cond, awOps_nil, awOps_cons, awOps_guardE, nx_eq, awOp, -List.set_cons_succ, -List.set_cons_zero, A.ok, A.val, setSl, wrapG, guardB, getB, pickA, binA, binC, binD, cmpD, isCmp, unA, unD, lenA, AOp.total, kills, litB, FinQ, resOks, resOk, resA, resList, resOne, A.thaw, C.thaw, A.fits, As.fits, C.fits, evs, oks, callArgs, A.pure, C.pure, A.re, C.re, fieldAddrA, loadC, cut, A.cells, C.rows?, getOb, newOb, setOb, storeC, splice, Ob.re, Cs.fits, partsA, partsOk, parts2A, parts2Ok, fillC, fillRows, optInt, optOk, sliceA, clipC, optK_some, storeK_some, Option.map_some, toDs, C.toD, spliceD, appendA, capsOf, srcRows, allLen_nil_iff, allLen_cons_iff, allLen_append_iff, dropC, Obs.fits, eqCs, eqD, mapRow, mapPut, mapVal, mapOne, mapCells]
      refine qcall_pure hargs hf rfl ?_
      simp -implicitDefEqProofs [hw, maxStr, kw, ew, sw, aw_cond, awOps_nil, awOps_cons, awOps_guardE, nx_eq, awOp, -List.set_cons_succ, -List.set_cons_zero, A.ok, A.val, setSl, wrapG, guardB, getB, pickA, binA, binC, binD, cmpD, isCmp, unA, unD, lenA, AOp.total, kills, litB, FinQ, resOks, resOk, resA, resList, resOne, A.thaw, C.thaw, A.fits, As.fits, C.fits, evs, oks, callArgs, A.pure, C.pure, A.re, C.re, fieldAddrA, loadC, cut, A.cells, C.rows?, getOb, newOb, setOb, storeC, splice, Ob.re, Cs.fits, partsA, partsOk, parts2A, parts2Ok, fillC, fillRows, optInt, optOk, sliceA, clipC, optK_some, storeK_some, Option.map_some, toDs, C.toD, spliceD, appendA, capsOf, srcRows, allLen_nil_iff, allLen_cons_iff, allLen_append_iff, dropC, Obs.fits, eqCs, eqD, mapRow, mapPut, mapVal, mapOne, mapCells]
      omega
    | false =>
      rw [hn] at hw
      simp -implicitDefEqProofs [kw, ew, sw, aw_cond, awOps_nil, awOps_cons, awOps_guardE, nx_eq, awOp, -List.set_cons_succ, -List.set_cons_zero, A.ok, A.val, setSl, wrapG, guardB, getB, pickA, binA, binC, binD, cmpD, isCmp, unA, unD, lenA, AOp.total, kills, litB, FinQ, resOks, resOk, resA, resList, resOne, A.thaw, C.thaw, A.fits, As.fits, C.fits, evs, oks, callArgs, A.pure, C.pure, A.re, C.re, fieldAddrA, loadC, cut, A.cells, C.rows?, getOb, newOb, setOb, storeC, splice, Ob.re, Cs.fits, partsA, partsOk, parts2A, parts2Ok, fillC, fillRows, optInt, optOk, sliceA, clipC, optK_some, storeK_some, Option.map_some, toDs, C.toD, spliceD, appendA, capsOf, srcRows, allLen_nil_iff, allLen_cons_iff, allLen_append_iff, dropC, Obs.fits, eqCs, eqD, mapRow, mapPut, mapVal, mapOne, mapCells]
      refine qcall_pure hargs hf rfl ?_
      simp -implicitDefEqProofs [maxStr, row_len, take_row, pure_d, re_d, kw, ew, sw, aw_cond, awOps_nil, awOps_cons, awOps_guardE, nx_eq, awOp, -List.set_cons_succ, -List.set_cons_zero, A.ok, A.val, setSl, wrapG, guardB, getB, pickA, binA, binC, binD, cmpD, isCmp, unA, unD, lenA, AOp.total, kills, litB, FinQ, resOks, resOk, resA, resList, resOne, A.thaw, C.thaw, A.fits, As.fits, C.fits, evs, oks, callArgs, A.pure, C.pure, A.re, C.re, fieldAddrA, loadC, cut, A.cells, C.rows?, getOb, newOb, setOb, storeC, splice, Ob.re, Cs.fits, partsA, partsOk, parts2A, parts2Ok, fillC, fillRows, optInt, optOk, sliceA, clipC, optK_some, storeK_some, Option.map_some, toDs, C.toD, spliceD, appendA, capsOf, srcRows, allLen_nil_iff, allLen_cons_iff, allLen_append_iff, dropC, Obs.fits, eqCs, eqD, mapRow, mapPut, mapVal, mapOne, mapCells]
      refine ⟨by omega, by omega, qcall_pure (hT c hc hlt) hf rfl ?_⟩
      simp -implicitDefEqProofs [hw, maxStr, kw, ew, sw, aw_cond, awOps_nil, awOps_cons, awOps_guardE, nx_eq, awOp, -List.set_cons_succ, -List.set_cons_zero, A.ok, A.val, setSl, wrapG, guardB, getB, pickA, binA, binC, binD, cmpD, isCmp, unA, unD, lenA, AOp.total, kills, litB, FinQ, resOks, resOk, resA, resList, resOne, A.thaw, C.thaw, A.fits, As.fits, C.fits, evs, oks, callArgs, A.pure, C.pure, A.re, C.re, fieldAddrA, loadC, cut, A.cells, C.rows?, getOb, newOb, setOb, storeC, splice, Ob.re, Cs.fits, partsA, partsOk, parts2A, parts2Ok, fillC, fillRows, optInt, optOk, sliceA, clipC, optK_some, storeK_some, Option.map_some, toDs, C.toD, spliceD, appendA, capsOf, srcRows, allLen_nil_iff, allLen_cons_iff, allLen_append_iff, dropC, Obs.fits, eqCs, eqD, mapRow, mapPut, mapVal, mapOne, mapCells]
      omega
theorem sole_eq (t : Tm) : soleB t = (t.atomB && decide (0 < levelN t.s)) := by
  have : decide ((t.kids.length : Int) = 0) = t.kids.isEmpty := by cases t.kids <;> simp; omega
  simp only [soleB, Tm.atomB, this]
theorem infix_lv (t : Tm) {m : Int} (hm : 0 ≤ m) (hk : t.kids.length = 2 → t.k = 3) : (infixB t && decide (m < levelN t.s)) = decide (m < t.lv) := by
  unfold infixB Tm.lv
  by_cases h2 : t.kids.length = 2
  · have h3 := hk h2
    have h4 : (t.kids.length : Int) = 2 := by omega
    rw [if_pos h2, Bool.eq_iff_iff]
    simp only [Bool.and_eq_true, decide_eq_true_iff]
    exact ⟨fun h => h.2, fun h => ⟨⟨⟨h3, h4⟩, by omega⟩, h⟩⟩
  · have h4 : ¬ (t.kids.length : Int) = 2 := by omega
    rw [if_neg h2, Bool.eq_iff_iff]
    simp only [Bool.and_eq_true, decide_eq_true_iff]
    exact ⟨fun h => absurd h.1.1.2 h4, fun h => by omega⟩
theorem brk_opnd_left (t : Tm) {m : Int} (hm : 0 ≤ m) (hk : t.kids.length = 2 → t.k = 3) : (if soleB t then 40 :: t.wr ++ [41] else brk t m) = opnd t t.wr m false := by
  unfold brk opnd
  rw [infix_lv t hm hk, sole_eq]
  cases (t.atomB && decide (0 < levelN t.s)) <;> cases decide (m < t.lv) <;> rfl
theorem plain_40 : plainC 40 = true := by decide
theorem sole_not_infix {t : Tm} (h : soleB t = true) : infixB t = false := by
  cases hi : infixB t with
  | false => rfl
  | true =>
    simp only [soleB, infixB, Bool.and_eq_true, decide_eq_true_iff] at h hi
    omega
theorem brk_opnd_right (t : Tm) {m : Int} (hm : 0 ≤ m) (hk : t.kids.length = 2 → t.k = 3) : (if soleB t || !plainC ((brk t m).headD 0) then 40 :: brk t m ++ [41] else brk t m) = opnd t t.wr m true := by
  have h1 : brk t m = if decide (m < t.lv) then 40 :: t.wr ++ [41] else t.wr := by
    unfold brk
    rw [infix_lv t hm hk]
  have h2 : soleB t = true → decide (m < t.lv) = false := fun h => by
    rw [← infix_lv t hm hk, sole_not_infix h]
    rfl
  unfold opnd
  rw [← sole_eq, h1]
  cases hs : soleB t with
  | true =>
    rw [h2 hs]
    rfl
  | false =>
    cases decide (m < t.lv) with
    | true => simp [plain_40]
    | false => simp
theorem lv_range {s : List UInt8} (h : 0 < levelN s) : (levelN s = 1 ∨ levelN s = 2 ∨ levelN s = 3) ∧ (levelN s = 3 → leftMost s = 2) ∧ (levelN s ≠ 3 → leftMost s = levelN s) := by
  have h1 : levelN s = 1 ∨ levelN s = 2 ∨ levelN s = 3 := by
    unfold levelN at h ⊢
    split
    · simp
    · split
      · simp
      · split
        · simp
        · rename_i a b c; rw [if_neg a, if_neg b, if_neg c] at h; omega
  refine ⟨h1, fun h3 => ?_, fun h3 => ?_⟩
  · simp [leftMost, leftB, h3]
  · rcases h1 with h1 | h1 | h1
    · simp [leftMost, leftB, h1]
    · simp [leftMost, leftB, h1]
    · exact absurd h1 h3
theorem text_calls : ∀ (N : Nat) (t : Tm), t.size ≤ N → t.ok → TxS t := by
  intro N
  induction N with
  | zero =>
    intro t h
    obtain ⟨k, n, s, l⟩ := t
    rw [Tm.size] at h
    omega
  | succ N ih =>
    intro t hN ht H
    have hT : ∀ u : Tm, u.ok → u.size < t.size → TxS u := fun u hu h => ih u (by omega) hu
    have c1 := pairSpec_calls t ht.fits
    have c2 := infix_calls t ht.fits
    refine acalls Tryz.func25 (by kernel_rfl) ac25_ok fun hf => ?_
    simp -implicitDefEqProofs [ac25, row_len, take_row, pure_d, re_d, kw, ew, sw, aw_cond, awOps_nil, awOps_cons, awOps_guardE, nx_eq, awOp, -List.set_cons_succ, -List.set_cons_zero, A.ok, A.val, setSl, wrapG, guardB, getB, pickA, binA, binC, binD, cmpD, isCmp, unA, unD, lenA, AOp.total, kills, litB, FinQ, resOks, resOk, resA, resList, resOne, A.thaw, C.thaw, A.fits, As.fits, C.fits, evs, oks, callArgs, A.pure, C.pure, A.re, C.re, fieldAddrA, loadC, cut, A.cells, C.rows?, getOb, newOb, setOb, storeC, splice, Ob.re, Cs.fits, partsA, partsOk, parts2A, parts2Ok, fillC, fillRows, optInt, optOk, sliceA, clipC, optK_some, storeK_some, Option.map_some, toDs, C.toD, spliceD, appendA, capsOf, srcRows, allLen_nil_iff, allLen_cons_iff, allLen_append_iff, dropC, Obs.fits, eqCs, eqD, mapRow, mapPut, mapVal, mapOne, mapCells]
    refine qcall_pure c1 hf rfl ?_
    cases hp : t.pairB with
    | true =>
      simp -implicitDefEqProofs [row_len, take_row, pure_d, re_d, kw, ew, sw, aw_cond, awOps_nil, awOps_cons, awOps_guardE, nx_eq, awOp, -List.set_cons_succ, -List.set_cons_zero, A.ok, A.val, setSl, wrapG, guardB, getB, pickA, binA, binC, binD, cmpD, isCmp, unA, unD, lenA, AOp.total, kills, litB, FinQ, resOks, resOk, resA, resList, resOne, A.thaw, C.thaw, A.fits, As.fits, C.fits, evs, oks, callArgs, A.pure, C.pure, A.re, C.re, fieldAddrA, loadC, cut, A.cells, C.rows?, getOb, newOb, setOb, storeC, splice, Ob.re, Cs.fits, partsA, partsOk, parts2A, parts2Ok, fillC, fillRows, optInt, optOk, sliceA, clipC, optK_some, storeK_some, Option.map_some, toDs, C.toD, spliceD, appendA, capsOf, srcRows, allLen_nil_iff, allLen_cons_iff, allLen_append_iff, dropC, Obs.fits, eqCs, eqD, mapRow, mapPut, mapVal, mapOne, mapCells]
      refine qcall_pure (list_calls t ht hp hT) hf rfl ?_
      simp -implicitDefEqProofs [kw, ew, sw, aw_cond, awOps_nil, awOps_cons, awOps_guardE, nx_eq, awOp, -List.set_cons_succ, -List.set_cons_zero, A.ok, A.val, setSl, wrapG, guardB, getB, pickA, binA, binC, binD, cmpD, isCmp, unA, unD, lenA, AOp.total, kills, litB, FinQ, resOks, resOk, resA, resList, resOne, A.thaw, C.thaw, A.fits, As.fits, C.fits, evs, oks, callArgs, A.pure, C.pure, A.re, C.re, fieldAddrA, loadC, cut, A.cells, C.rows?, getOb, newOb, setOb, storeC, splice, Ob.re, Cs.fits, partsA, partsOk, parts2A, parts2Ok, fillC, fillRows, optInt, optOk, sliceA, clipC, optK_some, storeK_some, Option.map_some, toDs, C.toD, spliceD, appendA, capsOf, srcRows, allLen_nil_iff, allLen_cons_iff, allLen_append_iff, dropC, Obs.fits, eqCs, eqD, mapRow, mapPut, mapVal, mapOne, mapCells]
    | false =>
      simp -implicitDefEqProofs [row_len, take_row, pure_d, re_d, kw, ew, sw, aw_cond, awOps_nil, awOps_cons, awOps_guardE, nx_eq, awOp, -List.set_cons_succ, -List.set_cons_zero, A.ok, A.val, setSl, wrapG, guardB, getB, pickA, binA, binC, binD, cmpD, isCmp, unA, unD, lenA, AOp.total, kills, litB, FinQ, resOks, resOk, resA, resList, resOne, A.thaw, C.thaw, A.fits, As.fits, C.fits, evs, oks, callArgs, A.pure, C.pure, A.re, C.re, fieldAddrA, loadC, cut, A.cells, C.rows?, getOb, newOb, setOb, storeC, splice, Ob.re, Cs.fits, partsA, partsOk, parts2A, parts2Ok, fillC, fillRows, optInt, optOk, sliceA, clipC, optK_some, storeK_some, Option.map_some, toDs, C.toD, spliceD, appendA, capsOf, srcRows, allLen_nil_iff, allLen_cons_iff, allLen_append_iff, dropC, Obs.fits, eqCs, eqD, mapRow, mapPut, mapVal, mapOne, mapCells]
      refine qcall_pure c2 hf rfl ?_
      cases hi : infixB t with
      | true =>
        obtain ⟨k, n, s, l⟩ := t
        have hi2 := hi
        simp only [infixB, Tm.k, Tm.kids, Tm.s, Bool.and_eq_true, decide_eq_true_iff] at hi2
        obtain ⟨⟨hk3, hl2⟩, hlv⟩ := hi2
        obtain rfl : k = 3 := of_decide_eq_true hk3
        have hl2 : (l.length : Int) = 2 := of_decide_eq_true hl2
        have hlp : 0 < levelN s := of_decide_eq_true hlv
        clear hlv
        match l, show l.length = 2 by omega, ht, hT, hp with
        | [a, b], _, ht, hT, hp =>
          have ha := ht.kid (u := a) (by simp)
          have hb := ht.kid (u := b) (by simp)
          have hal := ha.1.len
          have hbl := hb.1.len
          obtain ⟨hr1, hr2, hr3⟩ := lv_range hlp
          have hsl : s.length ≤ 1048576 := by
            cases ht.fits with
            | mk _ _ h3 _ _ => exact h3
          have hsub : inR .i64 (levelN s - 1) := small_i64 (by omega) (by omega)
          simp -implicitDefEqProofs [row_mk, kw, ew, sw, aw_cond, awOps_nil, awOps_cons, awOps_guardE, nx_eq, awOp, -List.set_cons_succ, -List.set_cons_zero, A.ok, A.val, setSl, wrapG, guardB, getB, pickA, binA, binC, binD, cmpD, isCmp, unA, unD, lenA, AOp.total, kills, litB, FinQ, resOks, resOk, resA, resList, resOne, A.thaw, C.thaw, A.fits, As.fits, C.fits, evs, oks, callArgs, A.pure, C.pure, A.re, C.re, fieldAddrA, loadC, cut, A.cells, C.rows?, getOb, newOb, setOb, storeC, splice, Ob.re, Cs.fits, partsA, partsOk, parts2A, parts2Ok, fillC, fillRows, optInt, optOk, sliceA, clipC, optK_some, storeK_some, Option.map_some, toDs, C.toD, spliceD, appendA, capsOf, srcRows, allLen_nil_iff, allLen_cons_iff, allLen_append_iff, dropC, Obs.fits, eqCs, eqD, mapRow, mapPut, mapVal, mapOne, mapCells]
          refine qcall_pure (level_calls s) hf rfl ?_
          have hk2 : ∀ u : Tm, u.ok → u.kids.length = 2 → u.k = 3 := fun u hu h => by
            obtain ⟨k, n, s, l⟩ := u
            have hg := hu.good
            cases hg with
            | mk ho _ =>
              rcases own_cases ho with ⟨_, _, _, _, rfl⟩ | ⟨_, _, _, _, rfl⟩ | ⟨h3, _⟩
              · simp [Tm.kids] at h
              · simp [Tm.kids] at h
              · exact h3
          have hm0 : 0 ≤ leftMost s := by
            by_cases h3 : levelN s = 3
            · rw [hr2 h3]; omega
            · rw [hr3 h3]; omega
          have cl := left_calls a ha.1.fits (hT a ha.1 ha.2) (by omega) (leftMost s)
          have cr := right_calls b hb.1.fits (hT b hb.1 hb.2) hbl.2.2 (by omega) (levelN s - 1)
          rw [brk_opnd_left a hm0 (hk2 a ha.1)] at cl
          rw [brk_opnd_right b (by omega) (hk2 b hb.1)] at cr
          have hol := opnd_len a a.wr (leftMost s) false
          have hor := opnd_len b b.wr (levelN s - 1) true
          have hos := opSp_len s
          have hwr : (Tm.mk 3 n s [a, b]).wr = opnd a a.wr (leftMost s) false ++ opSp s ++ opnd b b.wr (levelN s - 1) true := by
            have hne : s ≠ [46] := by rintro rfl; simp [levelN, ops3] at hlp
            rw [Tm.wr, wrs_map, wrts_map]
            simp [wrNode, hne, hlp]
          rw [hwr]
          by_cases h3 : levelN s = 3
          · rw [hr2 h3] at cl hol
            rw [h3, show (3 : Int) - 1 = 2 from rfl] at cr hor hsub
            rw [h3, show (3 : Int) - 1 = 2 from rfl]
            have h22 : inR .i64 2 := small_i64 (by omega) (by omega)
            simp only [hr2 h3]
            simp -implicitDefEqProofs [h3, hsub, h22, kw, ew, sw, aw_cond, awOps_nil, awOps_cons, awOps_guardE, nx_eq, awOp, -List.set_cons_succ, -List.set_cons_zero, A.ok, A.val, setSl, wrapG, guardB, getB, pickA, binA, binC, binD, cmpD, isCmp, unA, unD, lenA, AOp.total, kills, litB, FinQ, resOks, resOk, resA, resList, resOne, A.thaw, C.thaw, A.fits, As.fits, C.fits, evs, oks, callArgs, A.pure, C.pure, A.re, C.re, fieldAddrA, loadC, cut, A.cells, C.rows?, getOb, newOb, setOb, storeC, splice, Ob.re, Cs.fits, partsA, partsOk, parts2A, parts2Ok, fillC, fillRows, optInt, optOk, sliceA, clipC, optK_some, storeK_some, Option.map_some, toDs, C.toD, spliceD, appendA, capsOf, srcRows, allLen_nil_iff, allLen_cons_iff, allLen_append_iff, dropC, Obs.fits, eqCs, eqD, mapRow, mapPut, mapVal, mapOne, mapCells]
            refine row_int (i := 0) a.row (by omega) rfl (row_len _) ?_
            simp -implicitDefEqProofs [row_len, take_row, pure_d, re_d, kw, ew, sw, aw_cond, awOps_nil, awOps_cons, awOps_guardE, nx_eq, awOp, -List.set_cons_succ, -List.set_cons_zero, A.ok, A.val, setSl, wrapG, guardB, getB, pickA, binA, binC, binD, cmpD, isCmp, unA, unD, lenA, AOp.total, kills, litB, FinQ, resOks, resOk, resA, resList, resOne, A.thaw, C.thaw, A.fits, As.fits, C.fits, evs, oks, callArgs, A.pure, C.pure, A.re, C.re, fieldAddrA, loadC, cut, A.cells, C.rows?, getOb, newOb, setOb, storeC, splice, Ob.re, Cs.fits, partsA, partsOk, parts2A, parts2Ok, fillC, fillRows, optInt, optOk, sliceA, clipC, optK_some, storeK_some, Option.map_some, toDs, C.toD, spliceD, appendA, capsOf, srcRows, allLen_nil_iff, allLen_cons_iff, allLen_append_iff, dropC, Obs.fits, eqCs, eqD, mapRow, mapPut, mapVal, mapOne, mapCells]
            refine qcall_pure cl hf rfl ?_
            simp -implicitDefEqProofs [kw, ew, sw, aw_cond, awOps_nil, awOps_cons, awOps_guardE, nx_eq, awOp, -List.set_cons_succ, -List.set_cons_zero, A.ok, A.val, setSl, wrapG, guardB, getB, pickA, binA, binC, binD, cmpD, isCmp, unA, unD, lenA, AOp.total, kills, litB, FinQ, resOks, resOk, resA, resList, resOne, A.thaw, C.thaw, A.fits, As.fits, C.fits, evs, oks, callArgs, A.pure, C.pure, A.re, C.re, fieldAddrA, loadC, cut, A.cells, C.rows?, getOb, newOb, setOb, storeC, splice, Ob.re, Cs.fits, partsA, partsOk, parts2A, parts2Ok, fillC, fillRows, optInt, optOk, sliceA, clipC, optK_some, storeK_some, Option.map_some, toDs, C.toD, spliceD, appendA, capsOf, srcRows, allLen_nil_iff, allLen_cons_iff, allLen_append_iff, dropC, Obs.fits, eqCs, eqD, mapRow, mapPut, mapVal, mapOne, mapCells]
            refine qcall_pure (spaced_calls s hlp) hf rfl ?_
            simp -implicitDefEqProofs [maxStr, kw, ew, sw, aw_cond, awOps_nil, awOps_cons, awOps_guardE, nx_eq, awOp, -List.set_cons_succ, -List.set_cons_zero, A.ok, A.val, setSl, wrapG, guardB, getB, pickA, binA, binC, binD, cmpD, isCmp, unA, unD, lenA, AOp.total, kills, litB, FinQ, resOks, resOk, resA, resList, resOne, A.thaw, C.thaw, A.fits, As.fits, C.fits, evs, oks, callArgs, A.pure, C.pure, A.re, C.re, fieldAddrA, loadC, cut, A.cells, C.rows?, getOb, newOb, setOb, storeC, splice, Ob.re, Cs.fits, partsA, partsOk, parts2A, parts2Ok, fillC, fillRows, optInt, optOk, sliceA, clipC, optK_some, storeK_some, Option.map_some, toDs, C.toD, spliceD, appendA, capsOf, srcRows, allLen_nil_iff, allLen_cons_iff, allLen_append_iff, dropC, Obs.fits, eqCs, eqD, mapRow, mapPut, mapVal, mapOne, mapCells]
            refine ⟨by omega, row_int (i := 1) b.row (by omega) rfl (row_len _) ?_⟩
            simp -implicitDefEqProofs [row_len, take_row, pure_d, re_d, kw, ew, sw, aw_cond, awOps_nil, awOps_cons, awOps_guardE, nx_eq, awOp, -List.set_cons_succ, -List.set_cons_zero, A.ok, A.val, setSl, wrapG, guardB, getB, pickA, binA, binC, binD, cmpD, isCmp, unA, unD, lenA, AOp.total, kills, litB, FinQ, resOks, resOk, resA, resList, resOne, A.thaw, C.thaw, A.fits, As.fits, C.fits, evs, oks, callArgs, A.pure, C.pure, A.re, C.re, fieldAddrA, loadC, cut, A.cells, C.rows?, getOb, newOb, setOb, storeC, splice, Ob.re, Cs.fits, partsA, partsOk, parts2A, parts2Ok, fillC, fillRows, optInt, optOk, sliceA, clipC, optK_some, storeK_some, Option.map_some, toDs, C.toD, spliceD, appendA, capsOf, srcRows, allLen_nil_iff, allLen_cons_iff, allLen_append_iff, dropC, Obs.fits, eqCs, eqD, mapRow, mapPut, mapVal, mapOne, mapCells]
            refine qcall_pure cr hf rfl ?_
            simp -implicitDefEqProofs [maxStr, kw, ew, sw, aw_cond, awOps_nil, awOps_cons, awOps_guardE, nx_eq, awOp, -List.set_cons_succ, -List.set_cons_zero, A.ok, A.val, setSl, wrapG, guardB, getB, pickA, binA, binC, binD, cmpD, isCmp, unA, unD, lenA, AOp.total, kills, litB, FinQ, resOks, resOk, resA, resList, resOne, A.thaw, C.thaw, A.fits, As.fits, C.fits, evs, oks, callArgs, A.pure, C.pure, A.re, C.re, fieldAddrA, loadC, cut, A.cells, C.rows?, getOb, newOb, setOb, storeC, splice, Ob.re, Cs.fits, partsA, partsOk, parts2A, parts2Ok, fillC, fillRows, optInt, optOk, sliceA, clipC, optK_some, storeK_some, Option.map_some, toDs, C.toD, spliceD, appendA, capsOf, srcRows, allLen_nil_iff, allLen_cons_iff, allLen_append_iff, dropC, Obs.fits, eqCs, eqD, mapRow, mapPut, mapVal, mapOne, mapCells]
            omega
          · rw [hr3 h3] at cl hol
            have h4 : (levelN s == 3) = false := by simpa using h3
            simp only [hr3 h3]
            simp -implicitDefEqProofs [h3, h4, hsub, kw, ew, sw, aw_cond, awOps_nil, awOps_cons, awOps_guardE, nx_eq, awOp, -List.set_cons_succ, -List.set_cons_zero, A.ok, A.val, setSl, wrapG, guardB, getB, pickA, binA, binC, binD, cmpD, isCmp, unA, unD, lenA, AOp.total, kills, litB, FinQ, resOks, resOk, resA, resList, resOne, A.thaw, C.thaw, A.fits, As.fits, C.fits, evs, oks, callArgs, A.pure, C.pure, A.re, C.re, fieldAddrA, loadC, cut, A.cells, C.rows?, getOb, newOb, setOb, storeC, splice, Ob.re, Cs.fits, partsA, partsOk, parts2A, parts2Ok, fillC, fillRows, optInt, optOk, sliceA, clipC, optK_some, storeK_some, Option.map_some, toDs, C.toD, spliceD, appendA, capsOf, srcRows, allLen_nil_iff, allLen_cons_iff, allLen_append_iff, dropC, Obs.fits, eqCs, eqD, mapRow, mapPut, mapVal, mapOne, mapCells]
            refine row_int (i := 0) a.row (by omega) rfl (row_len _) ?_
            simp -implicitDefEqProofs [row_len, take_row, pure_d, re_d, kw, ew, sw, aw_cond, awOps_nil, awOps_cons, awOps_guardE, nx_eq, awOp, -List.set_cons_succ, -List.set_cons_zero, A.ok, A.val, setSl, wrapG, guardB, getB, pickA, binA, binC, binD, cmpD, isCmp, unA, unD, lenA, AOp.total, kills, litB, FinQ, resOks, resOk, resA, resList, resOne, A.thaw, C.thaw, A.fits, As.fits, C.fits, evs, oks, callArgs, A.pure, C.pure, A.re, C.re, fieldAddrA, loadC, cut, A.cells, C.rows?, getOb, newOb, setOb, storeC, splice, Ob.re, Cs.fits, partsA, partsOk, parts2A, parts2Ok, fillC, fillRows, optInt, optOk, sliceA, clipC, optK_some, storeK_some, Option.map_some, toDs, C.toD, spliceD, appendA, capsOf, srcRows, allLen_nil_iff, allLen_cons_iff, allLen_append_iff, dropC, Obs.fits, eqCs, eqD, mapRow, mapPut, mapVal, mapOne, mapCells]
            refine qcall_pure cl hf rfl ?_
            simp -implicitDefEqProofs [kw, ew, sw, aw_cond, awOps_nil, awOps_cons, awOps_guardE, nx_eq, awOp, -List.set_cons_succ, -List.set_cons_zero, A.ok, A.val, setSl, wrapG, guardB, getB, pickA, binA, binC, binD, cmpD, isCmp, unA, unD, lenA, AOp.total, kills, litB, FinQ, resOks, resOk, resA, resList, resOne, A.thaw, C.thaw, A.fits, As.fits, C.fits, evs, oks, callArgs, A.pure, C.pure, A.re, C.re, fieldAddrA, loadC, cut, A.cells, C.rows?, getOb, newOb, setOb, storeC, splice, Ob.re, Cs.fits, partsA, partsOk, parts2A, parts2Ok, fillC, fillRows, optInt, optOk, sliceA, clipC, optK_some, storeK_some, Option.map_some, toDs, C.toD, spliceD, appendA, capsOf, srcRows, allLen_nil_iff, allLen_cons_iff, allLen_append_iff, dropC, Obs.fits, eqCs, eqD, mapRow, mapPut, mapVal, mapOne, mapCells]
            refine qcall_pure (spaced_calls s hlp) hf rfl ?_
            simp -implicitDefEqProofs [maxStr, kw, ew, sw, aw_cond, awOps_nil, awOps_cons, awOps_guardE, nx_eq, awOp, -List.set_cons_succ, -List.set_cons_zero, A.ok, A.val, setSl, wrapG, guardB, getB, pickA, binA, binC, binD, cmpD, isCmp, unA, unD, lenA, AOp.total, kills, litB, FinQ, resOks, resOk, resA, resList, resOne, A.thaw, C.thaw, A.fits, As.fits, C.fits, evs, oks, callArgs, A.pure, C.pure, A.re, C.re, fieldAddrA, loadC, cut, A.cells, C.rows?, getOb, newOb, setOb, storeC, splice, Ob.re, Cs.fits, partsA, partsOk, parts2A, parts2Ok, fillC, fillRows, optInt, optOk, sliceA, clipC, optK_some, storeK_some, Option.map_some, toDs, C.toD, spliceD, appendA, capsOf, srcRows, allLen_nil_iff, allLen_cons_iff, allLen_append_iff, dropC, Obs.fits, eqCs, eqD, mapRow, mapPut, mapVal, mapOne, mapCells]
            refine ⟨by omega, row_int (i := 1) b.row (by omega) rfl (row_len _) ?_⟩
            simp -implicitDefEqProofs [row_len, take_row, pure_d, re_d, kw, ew, sw, aw_cond, awOps_nil, awOps_cons, awOps_guardE, nx_eq, awOp, -List.set_cons_succ, -List.set_cons_zero, A.ok, A.val, setSl, wrapG, guardB, getB, pickA, binA, binC, binD, cmpD, isCmp, unA, unD, lenA, AOp.total, kills, litB, FinQ, resOks, resOk, resA, resList, resOne, A.thaw, C.thaw, A.fits, As.fits, C.fits, evs, oks, callArgs, A.pure, C.pure, A.re, C.re, fieldAddrA, loadC, cut, A.cells, C.rows?, getOb, newOb, setOb, storeC, splice, Ob.re, Cs.fits, partsA, partsOk, parts2A, parts2Ok, fillC, fillRows, optInt, optOk, sliceA, clipC, optK_some, storeK_some, Option.map_some, toDs, C.toD, spliceD, appendA, capsOf, srcRows, allLen_nil_iff, allLen_cons_iff, allLen_append_iff, dropC, Obs.fits, eqCs, eqD, mapRow, mapPut, mapVal, mapOne, mapCells]
            refine qcall_pure cr hf rfl ?_
            simp -implicitDefEqProofs [maxStr, kw, ew, sw, aw_cond, awOps_nil, awOps_cons, awOps_guardE, nx_eq, awOp, -List.set_cons_succ, -List.set_cons_zero, A.ok, A.val, setSl, wrapG, guardB, getB, pickA, binA, binC, binD, cmpD, isCmp, unA, unD, lenA, AOp.total, kills, litB, FinQ, resOks, resOk, resA, resList, resOne, A.thaw, C.thaw, A.fits, As.fits, C.fits, evs, oks, callArgs, A.pure, C.pure, A.re, C.re, fieldAddrA, loadC, cut, A.cells, C.rows?, getOb, newOb, setOb, storeC, splice, Ob.re, Cs.fits, partsA, partsOk, parts2A, parts2Ok, fillC, fillRows, optInt, optOk, sliceA, clipC, optK_some, storeK_some, Option.map_some, toDs, C.toD, spliceD, appendA, capsOf, srcRows, allLen_nil_iff, allLen_cons_iff, allLen_append_iff, dropC, Obs.fits, eqCs, eqD, mapRow, mapPut, mapVal, mapOne, mapCells]
            omega
      | false =>
        have hli : inR .i64 (t.kids.length : Int) := by
          cases ht.fits with
          | mk _ _ _ h _ => exact small_i64 (by simp only [Tm.kids]; omega) (by simp only [Tm.kids]; omega)
        by_cases hks : t.kids = []
        · have hlf := leaf_calls t ht.fits ht.good hks
          obtain ⟨k, n, s, l⟩ := t
          obtain rfl : l = [] := hks
          have h00 : inR .i64 0 := small_i64 (by omega) (by omega)
          simp [row_mk] at hlf
          by_cases hk : k = 3
          · simp -implicitDefEqProofs [row_mk, hk, h00, kw, ew, sw, aw_cond, awOps_nil, awOps_cons, awOps_guardE, nx_eq, awOp, -List.set_cons_succ, -List.set_cons_zero, A.ok, A.val, setSl, wrapG, guardB, getB, pickA, binA, binC, binD, cmpD, isCmp, unA, unD, lenA, AOp.total, kills, litB, FinQ, resOks, resOk, resA, resList, resOne, A.thaw, C.thaw, A.fits, As.fits, C.fits, evs, oks, callArgs, A.pure, C.pure, A.re, C.re, fieldAddrA, loadC, cut, A.cells, C.rows?, getOb, newOb, setOb, storeC, splice, Ob.re, Cs.fits, partsA, partsOk, parts2A, parts2Ok, fillC, fillRows, optInt, optOk, sliceA, clipC, optK_some, storeK_some, Option.map_some, toDs, C.toD, spliceD, appendA, capsOf, srcRows, allLen_nil_iff, allLen_cons_iff, allLen_append_iff, dropC, Obs.fits, eqCs, eqD, mapRow, mapPut, mapVal, mapOne, mapCells]
            subst hk
            refine qcall_pure hlf hf rfl ?_
            simp -implicitDefEqProofs [kw, ew, sw, aw_cond, awOps_nil, awOps_cons, awOps_guardE, nx_eq, awOp, -List.set_cons_succ, -List.set_cons_zero, A.ok, A.val, setSl, wrapG, guardB, getB, pickA, binA, binC, binD, cmpD, isCmp, unA, unD, lenA, AOp.total, kills, litB, FinQ, resOks, resOk, resA, resList, resOne, A.thaw, C.thaw, A.fits, As.fits, C.fits, evs, oks, callArgs, A.pure, C.pure, A.re, C.re, fieldAddrA, loadC, cut, A.cells, C.rows?, getOb, newOb, setOb, storeC, splice, Ob.re, Cs.fits, partsA, partsOk, parts2A, parts2Ok, fillC, fillRows, optInt, optOk, sliceA, clipC, optK_some, storeK_some, Option.map_some, toDs, C.toD, spliceD, appendA, capsOf, srcRows, allLen_nil_iff, allLen_cons_iff, allLen_append_iff, dropC, Obs.fits, eqCs, eqD, mapRow, mapPut, mapVal, mapOne, mapCells]
          · simp -implicitDefEqProofs [row_mk, hk, h00, kw, ew, sw, aw_cond, awOps_nil, awOps_cons, awOps_guardE, nx_eq, awOp, -List.set_cons_succ, -List.set_cons_zero, A.ok, A.val, setSl, wrapG, guardB, getB, pickA, binA, binC, binD, cmpD, isCmp, unA, unD, lenA, AOp.total, kills, litB, FinQ, resOks, resOk, resA, resList, resOne, A.thaw, C.thaw, A.fits, As.fits, C.fits, evs, oks, callArgs, A.pure, C.pure, A.re, C.re, fieldAddrA, loadC, cut, A.cells, C.rows?, getOb, newOb, setOb, storeC, splice, Ob.re, Cs.fits, partsA, partsOk, parts2A, parts2Ok, fillC, fillRows, optInt, optOk, sliceA, clipC, optK_some, storeK_some, Option.map_some, toDs, C.toD, spliceD, appendA, capsOf, srcRows, allLen_nil_iff, allLen_cons_iff, allLen_append_iff, dropC, Obs.fits, eqCs, eqD, mapRow, mapPut, mapVal, mapOne, mapCells]
            refine qcall_pure hlf hf rfl ?_
            simp -implicitDefEqProofs [kw, ew, sw, aw_cond, awOps_nil, awOps_cons, awOps_guardE, nx_eq, awOp, -List.set_cons_succ, -List.set_cons_zero, A.ok, A.val, setSl, wrapG, guardB, getB, pickA, binA, binC, binD, cmpD, isCmp, unA, unD, lenA, AOp.total, kills, litB, FinQ, resOks, resOk, resA, resList, resOne, A.thaw, C.thaw, A.fits, As.fits, C.fits, evs, oks, callArgs, A.pure, C.pure, A.re, C.re, fieldAddrA, loadC, cut, A.cells, C.rows?, getOb, newOb, setOb, storeC, splice, Ob.re, Cs.fits, partsA, partsOk, parts2A, parts2Ok, fillC, fillRows, optInt, optOk, sliceA, clipC, optK_some, storeK_some, Option.map_some, toDs, C.toD, spliceD, appendA, capsOf, srcRows, allLen_nil_iff, allLen_cons_iff, allLen_append_iff, dropC, Obs.fits, eqCs, eqD, mapRow, mapPut, mapVal, mapOne, mapCells]
        · obtain ⟨k, n, s, l⟩ := t
          have hkl : l ≠ [] := hks
          clear hks
          have hkids := fun u hu => ht.kid (k := k) (n := n) (s := s) (l := l) (u := u) hu
          obtain rfl : k = 3 := by
            cases ht.good with
            | mk ho _ =>
              rcases own_cases ho with ⟨_, _, _, _, h⟩ | ⟨_, _, _, _, h⟩ | ⟨h3, _⟩
              · exact absurd h hkl
              · exact absurd h hkl
              · exact h3
          simp only [Tm.kids] at hli
          have hsl : s.length ≤ 1048576 ∧ l.length ≤ 1048576 := by
            cases ht.fits with
            | mk _ _ h3 h4 _ => exact ⟨h3, h4⟩
          have hps : 0 < l.length := List.length_pos_iff.2 hkl
          have hpos : (0 : Int) < l.length := by omega
          have hargs := args_calls l hsl.2 (fun u hu => ⟨hT u (hkids u hu).1 (hkids u hu).2, by have := (hkids u hu).1.len; omega⟩)
          have hjl := joinS_take l (fun u hu => by have := (hkids u hu).1.len; omega) (Nat.le_refl _)
          rw [List.take_of_length_le (by simp)] at hjl
          have hwr : (Tm.mk 3 n s l).wr = s ++ 40 :: joinS 44 (l.map Tm.wr) ++ [41] := by
            rw [Tm.wr, wrs_map, wrts_map]
            have h1 : ¬ (s = [46] ∧ l.length = 2) := by
              rintro ⟨rfl, h⟩
              have h' : (l.length : Int) = 2 := by omega
              simp [Tm.pairB, Tm.k, Tm.s, Tm.kids, h'] at hp
            have h2 : ¬ (l.length = 2 ∧ 0 < levelN s) := by
              rintro ⟨h, h'⟩
              have h'' : (l.length : Int) = 2 := by omega
              simp [infixB, Tm.k, Tm.s, Tm.kids, h'', h'] at hi
            simp [wrNode, h1, h2, hkl]
          rw [hwr]
          simp -implicitDefEqProofs [row_mk, hli, hpos, hps, hkl, kw, ew, sw, aw_cond, awOps_nil, awOps_cons, awOps_guardE, nx_eq, awOp, -List.set_cons_succ, -List.set_cons_zero, A.ok, A.val, setSl, wrapG, guardB, getB, pickA, binA, binC, binD, cmpD, isCmp, unA, unD, lenA, AOp.total, kills, litB, FinQ, resOks, resOk, resA, resList, resOne, A.thaw, C.thaw, A.fits, As.fits, C.fits, evs, oks, callArgs, A.pure, C.pure, A.re, C.re, fieldAddrA, loadC, cut, A.cells, C.rows?, getOb, newOb, setOb, storeC, splice, Ob.re, Cs.fits, partsA, partsOk, parts2A, parts2Ok, fillC, fillRows, optInt, optOk, sliceA, clipC, optK_some, storeK_some, Option.map_some, toDs, C.toD, spliceD, appendA, capsOf, srcRows, allLen_nil_iff, allLen_cons_iff, allLen_append_iff, dropC, Obs.fits, eqCs, eqD, mapRow, mapPut, mapVal, mapOne, mapCells]
          refine ⟨by unfold maxStr; omega, qcall_pure hargs hf rfl ?_⟩
          simp -implicitDefEqProofs [maxStr, kw, ew, sw, aw_cond, awOps_nil, awOps_cons, awOps_guardE, nx_eq, awOp, -List.set_cons_succ, -List.set_cons_zero, A.ok, A.val, setSl, wrapG, guardB, getB, pickA, binA, binC, binD, cmpD, isCmp, unA, unD, lenA, AOp.total, kills, litB, FinQ, resOks, resOk, resA, resList, resOne, A.thaw, C.thaw, A.fits, As.fits, C.fits, evs, oks, callArgs, A.pure, C.pure, A.re, C.re, fieldAddrA, loadC, cut, A.cells, C.rows?, getOb, newOb, setOb, storeC, splice, Ob.re, Cs.fits, partsA, partsOk, parts2A, parts2Ok, fillC, fillRows, optInt, optOk, sliceA, clipC, optK_some, storeK_some, Option.map_some, toDs, C.toD, spliceD, appendA, capsOf, srcRows, allLen_nil_iff, allLen_cons_iff, allLen_append_iff, dropC, Obs.fits, eqCs, eqD, mapRow, mapPut, mapVal, mapOne, mapCells]
          omega
end Go.Proofs.YtikgpomnibbioaaGreatDoor
