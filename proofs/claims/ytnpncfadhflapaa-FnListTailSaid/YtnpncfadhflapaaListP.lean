/-
  Lists as terms: the plain law, and lists of terms that are the same.
  Conditions: none.
-/
import Derived.Test.YtnpncfadhflapaaLists3
open Go Go.AM Go.Proofs
namespace Go.Proofs.Ytnpncfadhflapaa
open Go.ChangeShapes Go.WideShapes Go.ChangeAt Go.RowKit
set_option linter.unusedVariables false
set_option linter.unusedSimpArgs false
set_option maxRecDepth 100000
theorem shape_spec {d : Nat} {k n : Int} {s : List UInt8} {l : List Tm} : (Tm.mk k n s l).shape d = true ↔ 1 ≤ d ∧ (Tm.mk k n s l).ownB = true ∧ ∀ t ∈ l, t.shape (d - 1) = true := by
  rw [Tm.shape, shapes_all]
  simp
theorem shape_mono : ∀ (t : Tm) (d e : Nat), d ≤ e → t.shape d = true → t.shape e = true := by
  refine Tm.ind fun k n s l ih d e hde h => ?_
  rw [shape_spec] at h ⊢
  exact ⟨by omega, h.2.1, fun t ht => ih t ht (d - 1) (e - 1) (by omega) (h.2.2 t ht)⟩
theorem own_zero {n : Int} {s : List UInt8} {l : List Tm} (h : (Tm.mk 3 n s l).ownB = true) : n = 0 := by
  simp [Tm.ownB] at h
  exact h.1.1
theorem items_shape : ∀ (t : Tm) (d : Nat), t.shape d = true → t = chainT (itemsOf t).1 (itemsOf t).2 ∧ (∀ x ∈ (itemsOf t).1, x.shape d = true ∧ x.size ≤ t.size) ∧ (itemsOf t).2.shape d = true ∧ (itemsOf t).2.size ≤ t.size := by
  refine Tm.ind fun k n s l ih d h => ?_
  cases hp : (Tm.mk k n s l).pairB with
  | false =>
    rw [items_stop hp]
    exact ⟨rfl, fun x hx => by simp at hx, h, Nat.le_refl _⟩
  | true =>
    obtain ⟨n', a, b, e⟩ := pairB_inv hp
    cases e
    rw [shape_spec] at h
    obtain ⟨h1, h2, h3⟩ := h
    have hn := own_zero h2
    subst hn
    have ha := shape_mono a (d - 1) d (by omega) (h3 a (by simp))
    have hb := shape_mono b (d - 1) d (by omega) (h3 b (by simp))
    obtain ⟨i1, i2, i3, i4⟩ := ih b (by simp) d hb
    rw [items_pair]
    have hsz : (Tm.mk 3 0 [46] [a, b]).size = 1 + (a.size + (b.size + 0)) := rfl
    refine ⟨?_, fun x hx => ?_, i3, (by omega : (itemsOf b).2.size ≤ _)⟩
    · show _ = pairT a (chainT (itemsOf b).1 (itemsOf b).2)
      rw [← i1]; rfl
    · rcases List.mem_cons.1 hx with rfl | hx
      · exact ⟨ha, by omega⟩
      · exact ⟨(i2 x hx).1, by have := (i2 x hx).2; omega⟩
theorem items_fits : ∀ (t : Tm), t.fits → (∀ x ∈ (itemsOf t).1, x.fits) ∧ (itemsOf t).2.fits := by
  refine Tm.ind fun k n s l ih h => ?_
  cases hp : (Tm.mk k n s l).pairB with
  | false =>
    rw [items_stop hp]
    exact ⟨fun x hx => by simp at hx, h⟩
  | true =>
    obtain ⟨n', a, b, e⟩ := pairB_inv hp
    cases e
    obtain ⟨_, _, _, _, hk⟩ := h
    obtain ⟨i1, i2⟩ := ih b (by simp) (hk b (by simp))
    rw [items_pair]
    refine ⟨fun x hx => ?_, i2⟩
    rcases List.mem_cons.1 hx with rfl | hx
    · exact hk _ (by simp)
    · exact i1 x hx
def nilT : Tm := .mk 3 0 [91, 93] []
theorem nilB_inv {t : Tm} {d : Nat} (h : t.nilB = true) (hs : t.shape d = true) : t = nilT := by
  obtain ⟨k, n, s, l⟩ := t
  simp only [Tm.nilB, Tm.k, Tm.s, Tm.kids, Bool.and_eq_true, List.isEmpty_iff, beq_iff_eq] at h
  obtain ⟨⟨hk, rfl⟩, rfl⟩ := h
  have hk : k = 3 := of_decide_eq_true hk
  subst hk
  rw [shape_spec] at hs
  have := own_zero hs.2.1
  subst this
  rfl
/-- a list is made again of its elements -/
theorem mk_list {t : Tm} {l : List Tm} (h : listOf t = (l, true)) : mkT l nilT = (t, true) := by
  unfold listOf at h
  split at h
  · rename_i hc
    simp only [Bool.and_eq_true] at hc
    simp only [Prod.mk.injEq, and_true] at h
    subst h
    have hv := hc.1
    simp only [Tm.valid, Bool.and_eq_true, decide_eq_true_eq] at hv
    obtain ⟨i1, i2, i3, i4⟩ := items_shape t 30 hv.1
    have hn := nilB_inv hc.2 i3
    rw [hn] at i1 i3 i4
    have h1 : (itemsOf t).1.length ≤ 120 := by have := items_size t; omega
    have h2 : (itemsOf t).1.all Tm.valid = true := by
      rw [List.all_eq_true]
      intro x hx
      obtain ⟨a, b⟩ := i2 x hx
      simp [Tm.valid, a]
      omega
    have h3 : nilT.valid = true := by simp [Tm.valid, i3]; omega
    rw [mkT, h2, h3, ← i1, hc.1]
    simp [h1]
  · simp at h
theorem items_chain : ∀ (l : List Tm) (t : Tm), itemsOf (chainT l t) = (l ++ (itemsOf t).1, (itemsOf t).2)
  | [], t => rfl
  | x :: l, t => by
    show itemsOf (.mk 3 0 [46] [x, chainT l t]) = _
    rw [items_pair, items_chain l t]
    rfl
/-- a list that is made has its elements -/
theorem list_mk {l : List Tm} {t u : Tm} (h : mkT l t = (u, true)) : u = chainT l t ∧ (listOf u).2 = (listOf t).2 ∧ ((listOf u).2 = true → (listOf u).1 = l ++ (listOf t).1) := by
  unfold mkT at h
  split at h
  · rename_i hc
    simp only [Bool.and_eq_true] at hc
    simp only [Prod.mk.injEq, and_true] at h
    subst h
    refine ⟨rfl, ?_⟩
    rw [listOf, listOf, items_chain, hc.2, hc.1.2]
    simp only [Bool.true_and]
    cases (itemsOf t).2.nilB <;> simp
  · simp at h
theorem pgTerms_calls (l : List Tm) (hl : l.length ≤ 1048576) (h : ∀ t ∈ l, t.fits) (H : Heap) : ACalls Try.prog 14 [.c (.d (.sl (l.map Tm.row))), .c (.d (.sl (l.map Tm.row)))] H (fun r H' => H' = H ∧ r = .c (.d (.bool true))) := by
  refine acalls Try.func14 (by kernel_rfl) ac14_ok fun hf => ?_
  have hli : inR .i64 (l.length : Int) := small_i64 (by omega) (by omega)
  simp -implicitDefEqProofs [ac14, hli, aw_skip, aw_region, aw_seq, aw_block, aw_cond, aw_exit, aw_ret, kq_nil, kq_seq, kq_seq_ret, kq_seq_exit, kq_block, kq_block_ret, kq_block_exit, kq_loop, kq_loop_ret, kq_loop_exit, awOps_nil, awOps_cons, awOps_guardE, nx_eq, awOp, ev_k, ev_0, ev_1, ev_2, ev_3, ev_4, ev_5, ev_6, ev_7, ev_8, set_0, set_1, set_2, set_3, set_4, set_5, set_6, set_7, set_8, -List.set_cons_succ, -List.set_cons_zero, A.ok, A.val, setSl, wrapG, guardB, getB, pickA, binA, binC, binD, cmpD, isCmp, unA, unD, lenA, AOp.total, kills, litB, FinQ, resOks, resOk, resA, resList, resOne, A.thaw, C.thaw, A.fits, As.fits, C.fits, evs, oks, callArgs, A.pure, C.pure, A.re, C.re, fieldAddrA, loadC, cut, A.cells, C.rows?, getOb, newOb, setOb, storeC, splice, Ob.re, Cs.fits, partsA, partsOk, parts2A, parts2Ok, fillC, fillRows, optInt, optOk, sliceA, optK_some, storeK_some, Option.map_some, toDs, C.toD, spliceD, appendA, capsOf, srcRows, allLen_nil_iff, allLen_cons_iff, allLen_append_iff, dropC, Obs.fits, eqCs, eqD]
  refine loop_set (σ := Nat) (fun i => [(5, .c (.d (.int .i64 i)))]) (fun _ => H) (fun _ => []) (fun i => i ≤ l.length) (fun i => l.length - i) 0 rfl (Nat.zero_le _) ?_
  intro i hi
  simp -implicitDefEqProofs [setAll, hli, aw_skip, aw_region, aw_seq, aw_block, aw_cond, aw_exit, aw_ret, kq_nil, kq_seq, kq_seq_ret, kq_seq_exit, kq_block, kq_block_ret, kq_block_exit, kq_loop, kq_loop_ret, kq_loop_exit, awOps_nil, awOps_cons, awOps_guardE, nx_eq, awOp, ev_k, ev_0, ev_1, ev_2, ev_3, ev_4, ev_5, ev_6, ev_7, ev_8, set_0, set_1, set_2, set_3, set_4, set_5, set_6, set_7, set_8, -List.set_cons_succ, -List.set_cons_zero, A.ok, A.val, setSl, wrapG, guardB, getB, pickA, binA, binC, binD, cmpD, isCmp, unA, unD, lenA, AOp.total, kills, litB, FinQ, resOks, resOk, resA, resList, resOne, A.thaw, C.thaw, A.fits, As.fits, C.fits, evs, oks, callArgs, A.pure, C.pure, A.re, C.re, fieldAddrA, loadC, cut, A.cells, C.rows?, getOb, newOb, setOb, storeC, splice, Ob.re, Cs.fits, partsA, partsOk, parts2A, parts2Ok, fillC, fillRows, optInt, optOk, sliceA, optK_some, storeK_some, Option.map_some, toDs, C.toD, spliceD, appendA, capsOf, srcRows, allLen_nil_iff, allLen_cons_iff, allLen_append_iff, dropC, Obs.fits, eqCs, eqD]
  intro hlt
  have hadd : inR .i64 ((i : Int) + 1) := small_i64 (by omega) (by omega)
  refine row_of hlt (row_len _) ?_
  simp -implicitDefEqProofs [row_len, take_row, aw_skip, aw_region, aw_seq, aw_block, aw_cond, aw_exit, aw_ret, kq_nil, kq_seq, kq_seq_ret, kq_seq_exit, kq_block, kq_block_ret, kq_block_exit, kq_loop, kq_loop_ret, kq_loop_exit, awOps_nil, awOps_cons, awOps_guardE, nx_eq, awOp, ev_k, ev_0, ev_1, ev_2, ev_3, ev_4, ev_5, ev_6, ev_7, ev_8, set_0, set_1, set_2, set_3, set_4, set_5, set_6, set_7, set_8, -List.set_cons_succ, -List.set_cons_zero, A.ok, A.val, setSl, wrapG, guardB, getB, pickA, binA, binC, binD, cmpD, isCmp, unA, unD, lenA, AOp.total, kills, litB, FinQ, resOks, resOk, resA, resList, resOne, A.thaw, C.thaw, A.fits, As.fits, C.fits, evs, oks, callArgs, A.pure, C.pure, A.re, C.re, fieldAddrA, loadC, cut, A.cells, C.rows?, getOb, newOb, setOb, storeC, splice, Ob.re, Cs.fits, partsA, partsOk, parts2A, parts2Ok, fillC, fillRows, optInt, optOk, sliceA, optK_some, storeK_some, Option.map_some, toDs, C.toD, spliceD, appendA, capsOf, srcRows, allLen_nil_iff, allLen_cons_iff, allLen_append_iff, dropC, Obs.fits, eqCs, eqD]
  refine row_of hlt (row_len _) ?_
  simp -implicitDefEqProofs [row_len, take_row, pure_d, re_d, aw_skip, aw_region, aw_seq, aw_block, aw_cond, aw_exit, aw_ret, kq_nil, kq_seq, kq_seq_ret, kq_seq_exit, kq_block, kq_block_ret, kq_block_exit, kq_loop, kq_loop_ret, kq_loop_exit, awOps_nil, awOps_cons, awOps_guardE, nx_eq, awOp, ev_k, ev_0, ev_1, ev_2, ev_3, ev_4, ev_5, ev_6, ev_7, ev_8, set_0, set_1, set_2, set_3, set_4, set_5, set_6, set_7, set_8, -List.set_cons_succ, -List.set_cons_zero, A.ok, A.val, setSl, wrapG, guardB, getB, pickA, binA, binC, binD, cmpD, isCmp, unA, unD, lenA, AOp.total, kills, litB, FinQ, resOks, resOk, resA, resList, resOne, A.thaw, C.thaw, A.fits, As.fits, C.fits, evs, oks, callArgs, A.pure, C.pure, A.re, C.re, fieldAddrA, loadC, cut, A.cells, C.rows?, getOb, newOb, setOb, storeC, splice, Ob.re, Cs.fits, partsA, partsOk, parts2A, parts2Ok, fillC, fillRows, optInt, optOk, sliceA, optK_some, storeK_some, Option.map_some, toDs, C.toD, spliceD, appendA, capsOf, srcRows, allLen_nil_iff, allLen_cons_iff, allLen_append_iff, dropC, Obs.fits, eqCs, eqD]
  refine qcall_pure (sameImpl_calls l[i] (h _ (List.getElem_mem hlt)) l[i] (h _ (List.getElem_mem hlt))) hf rfl ?_
  simp -implicitDefEqProofs [hadd, aw_skip, aw_region, aw_seq, aw_block, aw_cond, aw_exit, aw_ret, kq_nil, kq_seq, kq_seq_ret, kq_seq_exit, kq_block, kq_block_ret, kq_block_exit, kq_loop, kq_loop_ret, kq_loop_exit, awOps_nil, awOps_cons, awOps_guardE, nx_eq, awOp, ev_k, ev_0, ev_1, ev_2, ev_3, ev_4, ev_5, ev_6, ev_7, ev_8, set_0, set_1, set_2, set_3, set_4, set_5, set_6, set_7, set_8, -List.set_cons_succ, -List.set_cons_zero, A.ok, A.val, setSl, wrapG, guardB, getB, pickA, binA, binC, binD, cmpD, isCmp, unA, unD, lenA, AOp.total, kills, litB, FinQ, resOks, resOk, resA, resList, resOne, A.thaw, C.thaw, A.fits, As.fits, C.fits, evs, oks, callArgs, A.pure, C.pure, A.re, C.re, fieldAddrA, loadC, cut, A.cells, C.rows?, getOb, newOb, setOb, storeC, splice, Ob.re, Cs.fits, partsA, partsOk, parts2A, parts2Ok, fillC, fillRows, optInt, optOk, sliceA, optK_some, storeK_some, Option.map_some, toDs, C.toD, spliceD, appendA, capsOf, srcRows, allLen_nil_iff, allLen_cons_iff, allLen_append_iff, dropC, Obs.fits, eqCs, eqD]
  exact loop_back (i + 1) (by simp [setAll]) hlt (by show l.length - (i + 1) < l.length - i; omega)
theorem listOf_fits {t : Tm} (ht : t.fits) : (listOf t).1.length ≤ 120 ∧ ∀ x ∈ (listOf t).1, x.fits := by
  unfold listOf
  split
  · rename_i hc
    simp only [Bool.and_eq_true] at hc
    have hv := hc.1
    simp only [Tm.valid, Bool.and_eq_true, decide_eq_true_eq] at hv
    exact ⟨by have := items_size t; simp only; omega, (items_fits t ht).1⟩
  · exact ⟨by simp, fun x hx => by simp at hx⟩
theorem mkT_fits {l : List Tm} {t : Tm} (hl : ∀ x ∈ l, x.fits) (ht : t.fits) : (mkT l t).1.fits := by
  unfold mkT
  split
  · exact chain_fits l t hl ht
  · exact .mk (small_i64 (by omega) (by omega)) (small_i64 (by omega) (by omega)) (by simp) (by simp) (by simp)
end Go.Proofs.Ytnpncfadhflapaa
