/-
  MakeList and ListOf of the program and of the reference.
  Conditions: none.
-/
import Derived.Test.YtnpncfadhflapaaLists
open Go Go.AM Go.Proofs
namespace Go.Proofs.Ytnpncfadhflapaa
open Go.ChangeShapes Go.WideShapes Go.ChangeAt Go.RowKit
set_option linter.unusedVariables false
set_option linter.unusedSimpArgs false
set_option maxRecDepth 100000
-- 10 loop.example/prologserver/impl.ListOf params 1 ntmps 26
-- loop head live: [1, 4]
def ac10 : Cd := .seq (.region [⟨(some 1), .box (.t 0), none⟩,
      ⟨(some 2), .mv (.k (.c (.full []))), none⟩,
      ⟨(some 3), .mv (.k (.c (.d (.bool false)))), none⟩] [0, 2, 3])
  (.seq (.seq (.region [⟨(some 5), .load (some 4) (.t 1), none⟩,
        ⟨(some 6), .qcall 50 [(.t 5)], none⟩,
        ⟨(some 7), .un .not (.t 6), none⟩] [5, 6])
    (.cond (.t 7)
      (.seq (.region [⟨(some 2), .mv (.k (.c (.full []))), none⟩,
          ⟨(some 3), .mv (.k (.c (.d (.bool false)))), none⟩] [1, 7])
      (.ret))
      (.skip)))
  (.seq (.region [⟨(some 4), .mv (.k (.c (.full []))), none⟩] [2, 3, 7])
  (.seq (.block 0 (.loop (.seq (.seq (.region [⟨(some 8), .load (some 4) (.t 1), none⟩,
              ⟨(some 9), .qcall 51 [(.t 8)], none⟩] [8])
          (.cond (.t 9)
            (.skip)
            (.exit 0)))
        (.block 1 (.seq (.region [⟨(some 10), .mv (.t 4), none⟩,
              ⟨(some 11), .fieldAddr 3 (.t 1), none⟩,
              ⟨(some 12), .load none (.t 11), none⟩,
              ⟨(some 13), .indexAddr 4 (.t 12) (.k (.c (.d (.int .i64 0)))), none⟩,
              ⟨(some 14), .load (some 4) (.t 13), none⟩,
              ⟨(some 15), .buildSlice 4 1 [(.int .i64 0), (.int .i64 0), (.str []), (.sl [])] [(0, (.t 14))], none⟩,
              ⟨(some 16), .append false 4 (.t 10) (.t 15), none⟩,
              ⟨(some 4), .mv (.t 16), none⟩] [9, 10, 11, 12, 13, 14, 15, 16])
          (.region [⟨(some 17), .fieldAddr 3 (.t 1), none⟩,
            ⟨(some 18), .load none (.t 17), none⟩,
            ⟨(some 19), .indexAddr 4 (.t 18) (.k (.c (.d (.int .i64 1)))), none⟩,
            ⟨(some 20), .load (some 4) (.t 19), none⟩,
            ⟨none, .store 4 (.t 1) (.t 20), none⟩] [17, 18, 19, 20]))))))
  (.seq (.seq (.region [⟨(some 21), .load (some 4) (.t 1), none⟩,
        ⟨(some 22), .qcall 52 [(.t 21)], none⟩,
        ⟨(some 23), .un .not (.t 22), none⟩] [1, 21, 22])
    (.cond (.t 23)
      (.seq (.region [⟨(some 2), .mv (.k (.c (.full []))), none⟩,
          ⟨(some 3), .mv (.k (.c (.d (.bool false)))), none⟩] [4, 23])
      (.ret))
      (.skip)))
  (.seq (.region [⟨(some 24), .mv (.t 4), none⟩,
      ⟨(some 25), .qcall 53 [(.t 24)], none⟩,
      ⟨(some 2), .mv (.t 25), none⟩,
      ⟨(some 3), .mv (.k (.c (.d (.bool true)))), none⟩] [4, 23, 24, 25])
  (.ret))))))
theorem ac10_ok : cFunc Try.prog [1000050, 1000051, 1000052, 1000053] [(0, [0, 2, 3], []), (1, [5, 6], []), (2, [1, 7], []), (3, [2, 3, 7], []), (4, [8], []), (5, [9, 10, 11, 12, 13, 14, 15, 16], []), (6, [17, 18, 19, 20], []), (7, [1, 21, 22], []), (8, [4, 23], []), (9, [4, 23, 24, 25], [])] Try.f10 = some (ac10, [.tmp 2, .tmp 3], 26) := by kernel_rfl
-- 11 loop.example/prologserver/spec.ListOf params 1 ntmps 29
-- loop head live: [1, 4]
def ac11 : Cd := .seq (.region [⟨(some 1), .box (.t 0), none⟩,
      ⟨(some 2), .mv (.k (.c (.full []))), none⟩,
      ⟨(some 3), .mv (.k (.c (.d (.bool false)))), none⟩] [0, 2, 3])
  (.seq (.region [⟨(some 5), .buildSlice 4 0 [(.int .i64 0), (.int .i64 0), (.str []), (.sl [])] [], none⟩,
      ⟨(some 4), .mv (.t 5), none⟩] [5])
  (.seq (.seq (.region [⟨(some 6), .load (some 4) (.t 1), none⟩,
        ⟨(some 7), .qcall 54 [(.t 6)], none⟩,
        ⟨(some 8), .un .not (.t 7), none⟩] [6, 7])
    (.cond (.t 8)
      (.seq (.region [⟨(some 9), .mv (.t 4), none⟩,
          ⟨(some 2), .mv (.t 9), none⟩,
          ⟨(some 3), .mv (.k (.c (.d (.bool false)))), none⟩] [1, 4, 8, 9])
      (.ret))
      (.skip)))
  (.seq (.block 0 (.loop (.seq (.seq (.region [⟨(some 10), .load (some 4) (.t 1), none⟩,
              ⟨(some 11), .qcall 55 [(.t 10)], none⟩] [10])
          (.cond (.t 11)
            (.skip)
            (.exit 0)))
        (.block 1 (.seq (.region [⟨(some 12), .mv (.t 4), none⟩,
              ⟨(some 13), .fieldAddr 3 (.t 1), none⟩,
              ⟨(some 14), .load none (.t 13), none⟩,
              ⟨(some 15), .indexAddr 4 (.t 14) (.k (.c (.d (.int .i64 0)))), none⟩,
              ⟨(some 16), .load (some 4) (.t 15), none⟩,
              ⟨(some 17), .qcall 56 [(.t 16)], none⟩,
              ⟨(some 18), .buildSlice 4 1 [(.int .i64 0), (.int .i64 0), (.str []), (.sl [])] [(0, (.t 17))], none⟩,
              ⟨(some 19), .append false 4 (.t 12) (.t 18), none⟩,
              ⟨(some 4), .mv (.t 19), none⟩] [11, 12, 13, 14, 15, 16, 17, 18, 19])
          (.region [⟨(some 20), .fieldAddr 3 (.t 1), none⟩,
            ⟨(some 21), .load none (.t 20), none⟩,
            ⟨(some 22), .indexAddr 4 (.t 21) (.k (.c (.d (.int .i64 1)))), none⟩,
            ⟨(some 23), .load (some 4) (.t 22), none⟩,
            ⟨none, .store 4 (.t 1) (.t 23), none⟩] [20, 21, 22, 23]))))))
  (.seq (.seq (.region [⟨(some 24), .load (some 4) (.t 1), none⟩,
        ⟨(some 25), .qcall 57 [(.t 24)], none⟩,
        ⟨(some 26), .un .not (.t 25), none⟩] [1, 24, 25])
    (.cond (.t 26)
      (.seq (.region [⟨(some 27), .buildSlice 4 0 [(.int .i64 0), (.int .i64 0), (.str []), (.sl [])] [], none⟩,
          ⟨(some 2), .mv (.t 27), none⟩,
          ⟨(some 3), .mv (.k (.c (.d (.bool false)))), none⟩] [4, 26, 27])
      (.ret))
      (.skip)))
  (.seq (.region [⟨(some 28), .mv (.t 4), none⟩,
      ⟨(some 2), .mv (.t 28), none⟩,
      ⟨(some 3), .mv (.k (.c (.d (.bool true)))), none⟩] [4, 26, 28])
  (.ret))))))
theorem ac11_ok : cFunc Try.prog [1000054, 1000055, 1000056, 1000057] [(0, [0, 2, 3], []), (1, [5], []), (2, [6, 7], []), (3, [1, 4, 8, 9], []), (4, [10], []), (5, [11, 12, 13, 14, 15, 16, 17, 18, 19], []), (6, [20, 21, 22, 23], []), (7, [1, 24, 25], []), (8, [4, 26, 27], []), (9, [4, 26, 28], [])] Try.f11 = some (ac11, [.tmp 2, .tmp 3], 29) := by kernel_rfl
/-- the elements of a list, and what is behind them -/
def itemsOf : Tm → List Tm × Tm
  | .mk k n s [a, b] => if k = 3 ∧ s = [46] then (a :: (itemsOf b).1, (itemsOf b).2) else ([], .mk k n s [a, b])
  | t => ([], t)
termination_by t => SizeOf.sizeOf t
theorem items_pair (n : Int) (a b : Tm) : itemsOf (.mk 3 n [46] [a, b]) = (a :: (itemsOf b).1, (itemsOf b).2) := by
  rw [itemsOf, if_pos ⟨rfl, rfl⟩]
theorem pairB_inv {t : Tm} (h : t.pairB = true) : ∃ n a b, t = .mk 3 n [46] [a, b] := by
  obtain ⟨k, n, s, l⟩ := t
  simp only [Tm.pairB, Bool.and_eq_true] at h
  obtain ⟨⟨h1, h2⟩, h3⟩ := h
  have e1 : k = 3 := of_decide_eq_true h1
  have e2 : s = [46] := by simpa [Tm.s] using h2
  have h : (l.length : Int) = 2 := of_decide_eq_true h3
  clear h1 h2 h3
  subst e1
  subst e2
  match l, h with
  | [a, b], _ => exact ⟨n, a, b, rfl⟩
  | [], h => simp at h
  | [a], h => simp at h
  | a :: b :: c :: l, h => simp at h; omega
theorem items_stop {t : Tm} (h : t.pairB = false) : itemsOf t = ([], t) := by
  obtain ⟨k, n, s, l⟩ := t
  match l with
  | [a, b] =>
    rw [itemsOf, if_neg]
    rintro ⟨rfl, rfl⟩
    simp [Tm.pairB, Tm.k, Tm.s, Tm.kids] at h
  | [] => simp [itemsOf]
  | [a] => simp [itemsOf]
  | a :: b :: c :: l => simp [itemsOf]
/-- what ListOf answers -/
def listOf (t : Tm) : List Tm × Bool := if t.valid && (itemsOf t).2.nilB then ((itemsOf t).1, true) else ([], false)
theorem items_size : ∀ t : Tm, (itemsOf t).1.length + (itemsOf t).2.size ≤ t.size := by
  refine Tm.ind fun k n s l ih => ?_
  cases hp : (Tm.mk k n s l).pairB with
  | false => rw [items_stop hp]; simp
  | true =>
    obtain ⟨n', a, b, e⟩ := pairB_inv hp
    cases e
    have := ih b (by simp)
    rw [items_pair]
    simp only [Tm.size, sizes, List.length_cons]
    have := size_pos a
    omega
theorem lfImpl_calls (t : Tm) (ht : t.fits) (H : Heap) : ACalls Try.prog 10 [.agg (t.row.map .d)] H (fun r H' => H' = H ∧ r = .tup [.c (.d (.sl ((listOf t).1.map Tm.row))), .c (.d (.bool (listOf t).2))]) := by
  refine acalls Try.func10 (by kernel_rfl) ac10_ok fun hf => ?_
  simp -implicitDefEqProofs [ac10, row_len, take_row, pure_d, re_d, hf, aw_skip, aw_region, aw_seq, aw_block, aw_cond, aw_exit, aw_ret, kq_nil, kq_seq, kq_seq_ret, kq_seq_exit, kq_block, kq_block_ret, kq_block_exit, kq_loop, kq_loop_ret, kq_loop_exit, awOps_nil, awOps_cons, awOps_guardE, nx_eq, awOp, ev_k, ev_0, ev_1, ev_2, ev_3, ev_4, ev_5, ev_6, ev_7, ev_8, set_0, set_1, set_2, set_3, set_4, set_5, set_6, set_7, set_8, -List.set_cons_succ, -List.set_cons_zero, A.ok, A.val, setSl, wrapG, guardB, getB, pickA, binA, binC, binD, cmpD, isCmp, unA, unD, lenA, AOp.total, kills, litB, FinQ, resOks, resOk, resA, resList, resOne, A.thaw, C.thaw, A.fits, As.fits, C.fits, evs, oks, callArgs, A.pure, C.pure, A.re, C.re, fieldAddrA, loadC, cut, A.cells, C.rows?, getOb, newOb, setOb, storeC, splice, Ob.re, Cs.fits, partsA, partsOk, parts2A, parts2Ok, fillC, fillRows, optInt, optOk, sliceA, clipC, optK_some, storeK_some, Option.map_some, toDs, C.toD, spliceD, appendA, capsOf, srcRows, allLen_nil_iff, allLen_cons_iff, allLen_append_iff, dropC, Obs.fits, eqCs, eqD]
  refine qcall_pure (tvImpl_calls t ht) hf rfl ?_
  cases hv : t.valid with
  | false => simp -implicitDefEqProofs [hv, listOf, hf, aw_skip, aw_region, aw_seq, aw_block, aw_cond, aw_exit, aw_ret, kq_nil, kq_seq, kq_seq_ret, kq_seq_exit, kq_block, kq_block_ret, kq_block_exit, kq_loop, kq_loop_ret, kq_loop_exit, awOps_nil, awOps_cons, awOps_guardE, nx_eq, awOp, ev_k, ev_0, ev_1, ev_2, ev_3, ev_4, ev_5, ev_6, ev_7, ev_8, set_0, set_1, set_2, set_3, set_4, set_5, set_6, set_7, set_8, -List.set_cons_succ, -List.set_cons_zero, A.ok, A.val, setSl, wrapG, guardB, getB, pickA, binA, binC, binD, cmpD, isCmp, unA, unD, lenA, AOp.total, kills, litB, FinQ, resOks, resOk, resA, resList, resOne, A.thaw, C.thaw, A.fits, As.fits, C.fits, evs, oks, callArgs, A.pure, C.pure, A.re, C.re, fieldAddrA, loadC, cut, A.cells, C.rows?, getOb, newOb, setOb, storeC, splice, Ob.re, Cs.fits, partsA, partsOk, parts2A, parts2Ok, fillC, fillRows, optInt, optOk, sliceA, clipC, optK_some, storeK_some, Option.map_some, toDs, C.toD, spliceD, appendA, capsOf, srcRows, allLen_nil_iff, allLen_cons_iff, allLen_append_iff, dropC, Obs.fits, eqCs, eqD]
  | true =>
    have hsz : t.size ≤ 120 := by simp [Tm.valid] at hv; exact hv.2
    simp -implicitDefEqProofs [hv, aw_skip, aw_region, aw_seq, aw_block, aw_cond, aw_exit, aw_ret, kq_nil, kq_seq, kq_seq_ret, kq_seq_exit, kq_block, kq_block_ret, kq_block_exit, kq_loop, kq_loop_ret, kq_loop_exit, awOps_nil, awOps_cons, awOps_guardE, nx_eq, awOp, ev_k, ev_0, ev_1, ev_2, ev_3, ev_4, ev_5, ev_6, ev_7, ev_8, set_0, set_1, set_2, set_3, set_4, set_5, set_6, set_7, set_8, -List.set_cons_succ, -List.set_cons_zero, A.ok, A.val, setSl, wrapG, guardB, getB, pickA, binA, binC, binD, cmpD, isCmp, unA, unD, lenA, AOp.total, kills, litB, FinQ, resOks, resOk, resA, resList, resOne, A.thaw, C.thaw, A.fits, As.fits, C.fits, evs, oks, callArgs, A.pure, C.pure, A.re, C.re, fieldAddrA, loadC, cut, A.cells, C.rows?, getOb, newOb, setOb, storeC, splice, Ob.re, Cs.fits, partsA, partsOk, parts2A, parts2Ok, fillC, fillRows, optInt, optOk, sliceA, clipC, optK_some, storeK_some, Option.map_some, toDs, C.toD, spliceD, appendA, capsOf, srcRows, allLen_nil_iff, allLen_cons_iff, allLen_append_iff, dropC, Obs.fits, eqCs, eqD]
    refine loop_enter (St.le_token 4 4 rfl) ?_
    refine loop_set (σ := List Tm × Tm) (fun x => [(4, .c (.own (.l 1) x.1.length (x.1.map Tm.row)))]) (fun _ => H) (fun x => [.cells (x.2.row.map .d), .grow x.1.length 4])
      (fun x => x.2.fits ∧ (∀ y ∈ x.1, y.fits) ∧ x.1 ++ (itemsOf x.2).1 = (itemsOf t).1 ∧ (itemsOf x.2).2 = (itemsOf t).2) (fun x => x.2.size) ([], t) rfl ⟨ht, by simp, rfl, rfl⟩ ?_
    rintro ⟨fs, u⟩ ⟨hu, hfs, i1, i2⟩
    simp only at hu hfs i1 i2
    have hfl : fs.length ≤ 120 := by
      have h1 := items_size t
      have h2 := congrArg List.length i1
      rw [List.length_append] at h2
      omega
    simp -implicitDefEqProofs [setAll, row_len, take_row, pure_d, re_d, aw_skip, aw_region, aw_seq, aw_block, aw_cond, aw_exit, aw_ret, kq_nil, kq_seq, kq_seq_ret, kq_seq_exit, kq_block, kq_block_ret, kq_block_exit, kq_loop, kq_loop_ret, kq_loop_exit, awOps_nil, awOps_cons, awOps_guardE, nx_eq, awOp, ev_k, ev_0, ev_1, ev_2, ev_3, ev_4, ev_5, ev_6, ev_7, ev_8, set_0, set_1, set_2, set_3, set_4, set_5, set_6, set_7, set_8, -List.set_cons_succ, -List.set_cons_zero, A.ok, A.val, setSl, wrapG, guardB, getB, pickA, binA, binC, binD, cmpD, isCmp, unA, unD, lenA, AOp.total, kills, litB, FinQ, resOks, resOk, resA, resList, resOne, A.thaw, C.thaw, A.fits, As.fits, C.fits, evs, oks, callArgs, A.pure, C.pure, A.re, C.re, fieldAddrA, loadC, cut, A.cells, C.rows?, getOb, newOb, setOb, storeC, splice, Ob.re, Cs.fits, partsA, partsOk, parts2A, parts2Ok, fillC, fillRows, optInt, optOk, sliceA, clipC, optK_some, storeK_some, Option.map_some, toDs, C.toD, spliceD, appendA, capsOf, srcRows, allLen_nil_iff, allLen_cons_iff, allLen_append_iff, dropC, Obs.fits, eqCs, eqD]
    refine qcall_pure (pairImpl_calls u hu) hf rfl ?_
    cases hp : u.pairB with
    | true =>
      obtain ⟨n, a, b, rfl⟩ := pairB_inv hp
      obtain ⟨_, _, _, _, hkids⟩ := hu
      rw [items_pair] at i1 i2
      simp -implicitDefEqProofs [hp, row_mk, aw_skip, aw_region, aw_seq, aw_block, aw_cond, aw_exit, aw_ret, kq_nil, kq_seq, kq_seq_ret, kq_seq_exit, kq_block, kq_block_ret, kq_block_exit, kq_loop, kq_loop_ret, kq_loop_exit, awOps_nil, awOps_cons, awOps_guardE, nx_eq, awOp, ev_k, ev_0, ev_1, ev_2, ev_3, ev_4, ev_5, ev_6, ev_7, ev_8, set_0, set_1, set_2, set_3, set_4, set_5, set_6, set_7, set_8, -List.set_cons_succ, -List.set_cons_zero, A.ok, A.val, setSl, wrapG, guardB, getB, pickA, binA, binC, binD, cmpD, isCmp, unA, unD, lenA, AOp.total, kills, litB, FinQ, resOks, resOk, resA, resList, resOne, A.thaw, C.thaw, A.fits, As.fits, C.fits, evs, oks, callArgs, A.pure, C.pure, A.re, C.re, fieldAddrA, loadC, cut, A.cells, C.rows?, getOb, newOb, setOb, storeC, splice, Ob.re, Cs.fits, partsA, partsOk, parts2A, parts2Ok, fillC, fillRows, optInt, optOk, sliceA, clipC, optK_some, storeK_some, Option.map_some, toDs, C.toD, spliceD, appendA, capsOf, srcRows, allLen_nil_iff, allLen_cons_iff, allLen_append_iff, dropC, Obs.fits, eqCs, eqD]
      refine row_int a.row (by omega) rfl (row_len a) ?_
      simp -implicitDefEqProofs [row_len, take_row, toDs_map, aw_skip, aw_region, aw_seq, aw_block, aw_cond, aw_exit, aw_ret, kq_nil, kq_seq, kq_seq_ret, kq_seq_exit, kq_block, kq_block_ret, kq_block_exit, kq_loop, kq_loop_ret, kq_loop_exit, awOps_nil, awOps_cons, awOps_guardE, nx_eq, awOp, ev_k, ev_0, ev_1, ev_2, ev_3, ev_4, ev_5, ev_6, ev_7, ev_8, set_0, set_1, set_2, set_3, set_4, set_5, set_6, set_7, set_8, -List.set_cons_succ, -List.set_cons_zero, A.ok, A.val, setSl, wrapG, guardB, getB, pickA, binA, binC, binD, cmpD, isCmp, unA, unD, lenA, AOp.total, kills, litB, FinQ, resOks, resOk, resA, resList, resOne, A.thaw, C.thaw, A.fits, As.fits, C.fits, evs, oks, callArgs, A.pure, C.pure, A.re, C.re, fieldAddrA, loadC, cut, A.cells, C.rows?, getOb, newOb, setOb, storeC, splice, Ob.re, Cs.fits, partsA, partsOk, parts2A, parts2Ok, fillC, fillRows, optInt, optOk, sliceA, clipC, optK_some, storeK_some, Option.map_some, toDs, C.toD, spliceD, appendA, capsOf, srcRows, allLen_nil_iff, allLen_cons_iff, allLen_append_iff, dropC, Obs.fits, eqCs, eqD]
      refine ⟨allLen_map row_len, by unfold maxApp; omega, ?_⟩
      refine row_int b.row (by omega) rfl (row_len b) ?_
      simp -implicitDefEqProofs [row_len, take_row, hf, aw_skip, aw_region, aw_seq, aw_block, aw_cond, aw_exit, aw_ret, kq_nil, kq_seq, kq_seq_ret, kq_seq_exit, kq_block, kq_block_ret, kq_block_exit, kq_loop, kq_loop_ret, kq_loop_exit, awOps_nil, awOps_cons, awOps_guardE, nx_eq, awOp, ev_k, ev_0, ev_1, ev_2, ev_3, ev_4, ev_5, ev_6, ev_7, ev_8, set_0, set_1, set_2, set_3, set_4, set_5, set_6, set_7, set_8, -List.set_cons_succ, -List.set_cons_zero, A.ok, A.val, setSl, wrapG, guardB, getB, pickA, binA, binC, binD, cmpD, isCmp, unA, unD, lenA, AOp.total, kills, litB, FinQ, resOks, resOk, resA, resList, resOne, A.thaw, C.thaw, A.fits, As.fits, C.fits, evs, oks, callArgs, A.pure, C.pure, A.re, C.re, fieldAddrA, loadC, cut, A.cells, C.rows?, getOb, newOb, setOb, storeC, splice, Ob.re, Cs.fits, partsA, partsOk, parts2A, parts2Ok, fillC, fillRows, optInt, optOk, sliceA, clipC, optK_some, storeK_some, Option.map_some, toDs, C.toD, spliceD, appendA, capsOf, srcRows, allLen_nil_iff, allLen_cons_iff, allLen_append_iff, dropC, Obs.fits, eqCs, eqD]
      refine loop_back (fs ++ [a], b) (by simp [setAll]) ⟨hkids b (by simp), fun y hy => ?_, by simpa using i1, i2⟩ (by show b.size < (Tm.mk 3 n [46] [a, b]).size; simp only [Tm.size, sizes]; omega)
      rcases List.mem_append.1 hy with hy | hy
      · exact hfs y hy
      · simp at hy; subst hy; exact hkids y (by simp)
    | false =>
      rw [items_stop hp] at i1 i2
      simp only [List.append_nil] at i1 i2
      simp -implicitDefEqProofs [hp, row_len, take_row, pure_d, re_d, aw_skip, aw_region, aw_seq, aw_block, aw_cond, aw_exit, aw_ret, kq_nil, kq_seq, kq_seq_ret, kq_seq_exit, kq_block, kq_block_ret, kq_block_exit, kq_loop, kq_loop_ret, kq_loop_exit, awOps_nil, awOps_cons, awOps_guardE, nx_eq, awOp, ev_k, ev_0, ev_1, ev_2, ev_3, ev_4, ev_5, ev_6, ev_7, ev_8, set_0, set_1, set_2, set_3, set_4, set_5, set_6, set_7, set_8, -List.set_cons_succ, -List.set_cons_zero, A.ok, A.val, setSl, wrapG, guardB, getB, pickA, binA, binC, binD, cmpD, isCmp, unA, unD, lenA, AOp.total, kills, litB, FinQ, resOks, resOk, resA, resList, resOne, A.thaw, C.thaw, A.fits, As.fits, C.fits, evs, oks, callArgs, A.pure, C.pure, A.re, C.re, fieldAddrA, loadC, cut, A.cells, C.rows?, getOb, newOb, setOb, storeC, splice, Ob.re, Cs.fits, partsA, partsOk, parts2A, parts2Ok, fillC, fillRows, optInt, optOk, sliceA, clipC, optK_some, storeK_some, Option.map_some, toDs, C.toD, spliceD, appendA, capsOf, srcRows, allLen_nil_iff, allLen_cons_iff, allLen_append_iff, dropC, Obs.fits, eqCs, eqD]
      refine qcall_pure (nilImpl_calls u hu) hf rfl ?_
      cases hnil : u.nilB with
      | false =>
        have : listOf t = ([], false) := by rw [listOf, ← i2, hnil, hv]; rfl
        simp -implicitDefEqProofs [hnil, this, aw_skip, aw_region, aw_seq, aw_block, aw_cond, aw_exit, aw_ret, kq_nil, kq_seq, kq_seq_ret, kq_seq_exit, kq_block, kq_block_ret, kq_block_exit, kq_loop, kq_loop_ret, kq_loop_exit, awOps_nil, awOps_cons, awOps_guardE, nx_eq, awOp, ev_k, ev_0, ev_1, ev_2, ev_3, ev_4, ev_5, ev_6, ev_7, ev_8, set_0, set_1, set_2, set_3, set_4, set_5, set_6, set_7, set_8, -List.set_cons_succ, -List.set_cons_zero, A.ok, A.val, setSl, wrapG, guardB, getB, pickA, binA, binC, binD, cmpD, isCmp, unA, unD, lenA, AOp.total, kills, litB, FinQ, resOks, resOk, resA, resList, resOne, A.thaw, C.thaw, A.fits, As.fits, C.fits, evs, oks, callArgs, A.pure, C.pure, A.re, C.re, fieldAddrA, loadC, cut, A.cells, C.rows?, getOb, newOb, setOb, storeC, splice, Ob.re, Cs.fits, partsA, partsOk, parts2A, parts2Ok, fillC, fillRows, optInt, optOk, sliceA, clipC, optK_some, storeK_some, Option.map_some, toDs, C.toD, spliceD, appendA, capsOf, srcRows, allLen_nil_iff, allLen_cons_iff, allLen_append_iff, dropC, Obs.fits, eqCs, eqD]
      | true =>
        have : listOf t = (fs, true) := by rw [listOf, ← i2, hnil, hv, ← i1]; rfl
        simp -implicitDefEqProofs [hnil, aw_skip, aw_region, aw_seq, aw_block, aw_cond, aw_exit, aw_ret, kq_nil, kq_seq, kq_seq_ret, kq_seq_exit, kq_block, kq_block_ret, kq_block_exit, kq_loop, kq_loop_ret, kq_loop_exit, awOps_nil, awOps_cons, awOps_guardE, nx_eq, awOp, ev_k, ev_0, ev_1, ev_2, ev_3, ev_4, ev_5, ev_6, ev_7, ev_8, set_0, set_1, set_2, set_3, set_4, set_5, set_6, set_7, set_8, -List.set_cons_succ, -List.set_cons_zero, A.ok, A.val, setSl, wrapG, guardB, getB, pickA, binA, binC, binD, cmpD, isCmp, unA, unD, lenA, AOp.total, kills, litB, FinQ, resOks, resOk, resA, resList, resOne, A.thaw, C.thaw, A.fits, As.fits, C.fits, evs, oks, callArgs, A.pure, C.pure, A.re, C.re, fieldAddrA, loadC, cut, A.cells, C.rows?, getOb, newOb, setOb, storeC, splice, Ob.re, Cs.fits, partsA, partsOk, parts2A, parts2Ok, fillC, fillRows, optInt, optOk, sliceA, clipC, optK_some, storeK_some, Option.map_some, toDs, C.toD, spliceD, appendA, capsOf, srcRows, allLen_nil_iff, allLen_cons_iff, allLen_append_iff, dropC, Obs.fits, eqCs, eqD]
        refine qcall_pure (ownList_calls fs (by omega) hfs) hf rfl ?_
        simp -implicitDefEqProofs [this, aw_skip, aw_region, aw_seq, aw_block, aw_cond, aw_exit, aw_ret, kq_nil, kq_seq, kq_seq_ret, kq_seq_exit, kq_block, kq_block_ret, kq_block_exit, kq_loop, kq_loop_ret, kq_loop_exit, awOps_nil, awOps_cons, awOps_guardE, nx_eq, awOp, ev_k, ev_0, ev_1, ev_2, ev_3, ev_4, ev_5, ev_6, ev_7, ev_8, set_0, set_1, set_2, set_3, set_4, set_5, set_6, set_7, set_8, -List.set_cons_succ, -List.set_cons_zero, A.ok, A.val, setSl, wrapG, guardB, getB, pickA, binA, binC, binD, cmpD, isCmp, unA, unD, lenA, AOp.total, kills, litB, FinQ, resOks, resOk, resA, resList, resOne, A.thaw, C.thaw, A.fits, As.fits, C.fits, evs, oks, callArgs, A.pure, C.pure, A.re, C.re, fieldAddrA, loadC, cut, A.cells, C.rows?, getOb, newOb, setOb, storeC, splice, Ob.re, Cs.fits, partsA, partsOk, parts2A, parts2Ok, fillC, fillRows, optInt, optOk, sliceA, clipC, optK_some, storeK_some, Option.map_some, toDs, C.toD, spliceD, appendA, capsOf, srcRows, allLen_nil_iff, allLen_cons_iff, allLen_append_iff, dropC, Obs.fits, eqCs, eqD]
theorem lfSpec_calls (t : Tm) (ht : t.fits) (H : Heap) : ACalls Try.prog 11 [.agg (t.row.map .d)] H (fun r H' => H' = H ∧ r = .tup [.c (.d (.sl ((listOf t).1.map Tm.row))), .c (.d (.bool (listOf t).2))]) := by
  refine acalls Try.func11 (by kernel_rfl) ac11_ok fun hf => ?_
  simp -implicitDefEqProofs [ac11, row_len, take_row, pure_d, re_d, hf, aw_skip, aw_region, aw_seq, aw_block, aw_cond, aw_exit, aw_ret, kq_nil, kq_seq, kq_seq_ret, kq_seq_exit, kq_block, kq_block_ret, kq_block_exit, kq_loop, kq_loop_ret, kq_loop_exit, awOps_nil, awOps_cons, awOps_guardE, nx_eq, awOp, ev_k, ev_0, ev_1, ev_2, ev_3, ev_4, ev_5, ev_6, ev_7, ev_8, set_0, set_1, set_2, set_3, set_4, set_5, set_6, set_7, set_8, -List.set_cons_succ, -List.set_cons_zero, A.ok, A.val, setSl, wrapG, guardB, getB, pickA, binA, binC, binD, cmpD, isCmp, unA, unD, lenA, AOp.total, kills, litB, FinQ, resOks, resOk, resA, resList, resOne, A.thaw, C.thaw, A.fits, As.fits, C.fits, evs, oks, callArgs, A.pure, C.pure, A.re, C.re, fieldAddrA, loadC, cut, A.cells, C.rows?, getOb, newOb, setOb, storeC, splice, Ob.re, Cs.fits, partsA, partsOk, parts2A, parts2Ok, fillC, fillRows, optInt, optOk, sliceA, clipC, optK_some, storeK_some, Option.map_some, toDs, C.toD, spliceD, appendA, capsOf, srcRows, allLen_nil_iff, allLen_cons_iff, allLen_append_iff, dropC, Obs.fits, eqCs, eqD]
  refine qcall_pure (tvSpec_calls t ht) hf rfl ?_
  cases hv : t.valid with
  | false => simp -implicitDefEqProofs [hv, listOf, hf, aw_skip, aw_region, aw_seq, aw_block, aw_cond, aw_exit, aw_ret, kq_nil, kq_seq, kq_seq_ret, kq_seq_exit, kq_block, kq_block_ret, kq_block_exit, kq_loop, kq_loop_ret, kq_loop_exit, awOps_nil, awOps_cons, awOps_guardE, nx_eq, awOp, ev_k, ev_0, ev_1, ev_2, ev_3, ev_4, ev_5, ev_6, ev_7, ev_8, set_0, set_1, set_2, set_3, set_4, set_5, set_6, set_7, set_8, -List.set_cons_succ, -List.set_cons_zero, A.ok, A.val, setSl, wrapG, guardB, getB, pickA, binA, binC, binD, cmpD, isCmp, unA, unD, lenA, AOp.total, kills, litB, FinQ, resOks, resOk, resA, resList, resOne, A.thaw, C.thaw, A.fits, As.fits, C.fits, evs, oks, callArgs, A.pure, C.pure, A.re, C.re, fieldAddrA, loadC, cut, A.cells, C.rows?, getOb, newOb, setOb, storeC, splice, Ob.re, Cs.fits, partsA, partsOk, parts2A, parts2Ok, fillC, fillRows, optInt, optOk, sliceA, clipC, optK_some, storeK_some, Option.map_some, toDs, C.toD, spliceD, appendA, capsOf, srcRows, allLen_nil_iff, allLen_cons_iff, allLen_append_iff, dropC, Obs.fits, eqCs, eqD]
  | true =>
    have hsz : t.size ≤ 120 := by simp [Tm.valid] at hv; exact hv.2
    simp -implicitDefEqProofs [hv, aw_skip, aw_region, aw_seq, aw_block, aw_cond, aw_exit, aw_ret, kq_nil, kq_seq, kq_seq_ret, kq_seq_exit, kq_block, kq_block_ret, kq_block_exit, kq_loop, kq_loop_ret, kq_loop_exit, awOps_nil, awOps_cons, awOps_guardE, nx_eq, awOp, ev_k, ev_0, ev_1, ev_2, ev_3, ev_4, ev_5, ev_6, ev_7, ev_8, set_0, set_1, set_2, set_3, set_4, set_5, set_6, set_7, set_8, -List.set_cons_succ, -List.set_cons_zero, A.ok, A.val, setSl, wrapG, guardB, getB, pickA, binA, binC, binD, cmpD, isCmp, unA, unD, lenA, AOp.total, kills, litB, FinQ, resOks, resOk, resA, resList, resOne, A.thaw, C.thaw, A.fits, As.fits, C.fits, evs, oks, callArgs, A.pure, C.pure, A.re, C.re, fieldAddrA, loadC, cut, A.cells, C.rows?, getOb, newOb, setOb, storeC, splice, Ob.re, Cs.fits, partsA, partsOk, parts2A, parts2Ok, fillC, fillRows, optInt, optOk, sliceA, clipC, optK_some, storeK_some, Option.map_some, toDs, C.toD, spliceD, appendA, capsOf, srcRows, allLen_nil_iff, allLen_cons_iff, allLen_append_iff, dropC, Obs.fits, eqCs, eqD]
    refine loop_enter (St.le_token 4 4 rfl) ?_
    refine loop_set (σ := List Tm × Tm) (fun x => [(4, .c (.own (.l 1) x.1.length (x.1.map Tm.row)))]) (fun _ => H) (fun x => [.cells (x.2.row.map .d), .grow x.1.length 4])
      (fun x => x.2.fits ∧ x.1 ++ (itemsOf x.2).1 = (itemsOf t).1 ∧ (itemsOf x.2).2 = (itemsOf t).2) (fun x => x.2.size) ([], t) rfl ⟨ht, rfl, rfl⟩ ?_
    rintro ⟨fs, u⟩ ⟨hu, i1, i2⟩
    simp only at hu i1 i2
    have hfl : fs.length ≤ 120 := by
      have h1 := items_size t
      have h2 := congrArg List.length i1
      rw [List.length_append] at h2
      omega
    simp -implicitDefEqProofs [setAll, row_len, take_row, pure_d, re_d, aw_skip, aw_region, aw_seq, aw_block, aw_cond, aw_exit, aw_ret, kq_nil, kq_seq, kq_seq_ret, kq_seq_exit, kq_block, kq_block_ret, kq_block_exit, kq_loop, kq_loop_ret, kq_loop_exit, awOps_nil, awOps_cons, awOps_guardE, nx_eq, awOp, ev_k, ev_0, ev_1, ev_2, ev_3, ev_4, ev_5, ev_6, ev_7, ev_8, set_0, set_1, set_2, set_3, set_4, set_5, set_6, set_7, set_8, -List.set_cons_succ, -List.set_cons_zero, A.ok, A.val, setSl, wrapG, guardB, getB, pickA, binA, binC, binD, cmpD, isCmp, unA, unD, lenA, AOp.total, kills, litB, FinQ, resOks, resOk, resA, resList, resOne, A.thaw, C.thaw, A.fits, As.fits, C.fits, evs, oks, callArgs, A.pure, C.pure, A.re, C.re, fieldAddrA, loadC, cut, A.cells, C.rows?, getOb, newOb, setOb, storeC, splice, Ob.re, Cs.fits, partsA, partsOk, parts2A, parts2Ok, fillC, fillRows, optInt, optOk, sliceA, clipC, optK_some, storeK_some, Option.map_some, toDs, C.toD, spliceD, appendA, capsOf, srcRows, allLen_nil_iff, allLen_cons_iff, allLen_append_iff, dropC, Obs.fits, eqCs, eqD]
    refine qcall_pure (pairSpec_calls u hu) hf rfl ?_
    cases hp : u.pairB with
    | true =>
      obtain ⟨n, a, b, rfl⟩ := pairB_inv hp
      obtain ⟨_, _, _, _, hkids⟩ := hu
      rw [items_pair] at i1 i2
      simp -implicitDefEqProofs [hp, row_mk, aw_skip, aw_region, aw_seq, aw_block, aw_cond, aw_exit, aw_ret, kq_nil, kq_seq, kq_seq_ret, kq_seq_exit, kq_block, kq_block_ret, kq_block_exit, kq_loop, kq_loop_ret, kq_loop_exit, awOps_nil, awOps_cons, awOps_guardE, nx_eq, awOp, ev_k, ev_0, ev_1, ev_2, ev_3, ev_4, ev_5, ev_6, ev_7, ev_8, set_0, set_1, set_2, set_3, set_4, set_5, set_6, set_7, set_8, -List.set_cons_succ, -List.set_cons_zero, A.ok, A.val, setSl, wrapG, guardB, getB, pickA, binA, binC, binD, cmpD, isCmp, unA, unD, lenA, AOp.total, kills, litB, FinQ, resOks, resOk, resA, resList, resOne, A.thaw, C.thaw, A.fits, As.fits, C.fits, evs, oks, callArgs, A.pure, C.pure, A.re, C.re, fieldAddrA, loadC, cut, A.cells, C.rows?, getOb, newOb, setOb, storeC, splice, Ob.re, Cs.fits, partsA, partsOk, parts2A, parts2Ok, fillC, fillRows, optInt, optOk, sliceA, clipC, optK_some, storeK_some, Option.map_some, toDs, C.toD, spliceD, appendA, capsOf, srcRows, allLen_nil_iff, allLen_cons_iff, allLen_append_iff, dropC, Obs.fits, eqCs, eqD]
      refine row_int a.row (by omega) rfl (row_len a) ?_
      simp -implicitDefEqProofs [row_len, take_row, pure_d, re_d, aw_skip, aw_region, aw_seq, aw_block, aw_cond, aw_exit, aw_ret, kq_nil, kq_seq, kq_seq_ret, kq_seq_exit, kq_block, kq_block_ret, kq_block_exit, kq_loop, kq_loop_ret, kq_loop_exit, awOps_nil, awOps_cons, awOps_guardE, nx_eq, awOp, ev_k, ev_0, ev_1, ev_2, ev_3, ev_4, ev_5, ev_6, ev_7, ev_8, set_0, set_1, set_2, set_3, set_4, set_5, set_6, set_7, set_8, -List.set_cons_succ, -List.set_cons_zero, A.ok, A.val, setSl, wrapG, guardB, getB, pickA, binA, binC, binD, cmpD, isCmp, unA, unD, lenA, AOp.total, kills, litB, FinQ, resOks, resOk, resA, resList, resOne, A.thaw, C.thaw, A.fits, As.fits, C.fits, evs, oks, callArgs, A.pure, C.pure, A.re, C.re, fieldAddrA, loadC, cut, A.cells, C.rows?, getOb, newOb, setOb, storeC, splice, Ob.re, Cs.fits, partsA, partsOk, parts2A, parts2Ok, fillC, fillRows, optInt, optOk, sliceA, clipC, optK_some, storeK_some, Option.map_some, toDs, C.toD, spliceD, appendA, capsOf, srcRows, allLen_nil_iff, allLen_cons_iff, allLen_append_iff, dropC, Obs.fits, eqCs, eqD]
      refine qcall_pure (copy_calls a (hkids a (by simp))) hf (by simp [A.re, re_d]) ?_
      simp -implicitDefEqProofs [row_len, take_row, toDs_map, aw_skip, aw_region, aw_seq, aw_block, aw_cond, aw_exit, aw_ret, kq_nil, kq_seq, kq_seq_ret, kq_seq_exit, kq_block, kq_block_ret, kq_block_exit, kq_loop, kq_loop_ret, kq_loop_exit, awOps_nil, awOps_cons, awOps_guardE, nx_eq, awOp, ev_k, ev_0, ev_1, ev_2, ev_3, ev_4, ev_5, ev_6, ev_7, ev_8, set_0, set_1, set_2, set_3, set_4, set_5, set_6, set_7, set_8, -List.set_cons_succ, -List.set_cons_zero, A.ok, A.val, setSl, wrapG, guardB, getB, pickA, binA, binC, binD, cmpD, isCmp, unA, unD, lenA, AOp.total, kills, litB, FinQ, resOks, resOk, resA, resList, resOne, A.thaw, C.thaw, A.fits, As.fits, C.fits, evs, oks, callArgs, A.pure, C.pure, A.re, C.re, fieldAddrA, loadC, cut, A.cells, C.rows?, getOb, newOb, setOb, storeC, splice, Ob.re, Cs.fits, partsA, partsOk, parts2A, parts2Ok, fillC, fillRows, optInt, optOk, sliceA, clipC, optK_some, storeK_some, Option.map_some, toDs, C.toD, spliceD, appendA, capsOf, srcRows, allLen_nil_iff, allLen_cons_iff, allLen_append_iff, dropC, Obs.fits, eqCs, eqD]
      refine ⟨allLen_map row_len, by unfold maxApp; omega, ?_⟩
      refine row_int b.row (by omega) rfl (row_len b) ?_
      simp -implicitDefEqProofs [row_len, take_row, hf, aw_skip, aw_region, aw_seq, aw_block, aw_cond, aw_exit, aw_ret, kq_nil, kq_seq, kq_seq_ret, kq_seq_exit, kq_block, kq_block_ret, kq_block_exit, kq_loop, kq_loop_ret, kq_loop_exit, awOps_nil, awOps_cons, awOps_guardE, nx_eq, awOp, ev_k, ev_0, ev_1, ev_2, ev_3, ev_4, ev_5, ev_6, ev_7, ev_8, set_0, set_1, set_2, set_3, set_4, set_5, set_6, set_7, set_8, -List.set_cons_succ, -List.set_cons_zero, A.ok, A.val, setSl, wrapG, guardB, getB, pickA, binA, binC, binD, cmpD, isCmp, unA, unD, lenA, AOp.total, kills, litB, FinQ, resOks, resOk, resA, resList, resOne, A.thaw, C.thaw, A.fits, As.fits, C.fits, evs, oks, callArgs, A.pure, C.pure, A.re, C.re, fieldAddrA, loadC, cut, A.cells, C.rows?, getOb, newOb, setOb, storeC, splice, Ob.re, Cs.fits, partsA, partsOk, parts2A, parts2Ok, fillC, fillRows, optInt, optOk, sliceA, clipC, optK_some, storeK_some, Option.map_some, toDs, C.toD, spliceD, appendA, capsOf, srcRows, allLen_nil_iff, allLen_cons_iff, allLen_append_iff, dropC, Obs.fits, eqCs, eqD]
      exact loop_back (fs ++ [a], b) (by simp [setAll]) ⟨hkids b (by simp), by simpa using i1, i2⟩ (by show b.size < (Tm.mk 3 n [46] [a, b]).size; simp only [Tm.size, sizes]; omega)
    | false =>
      rw [items_stop hp] at i1 i2
      simp only [List.append_nil] at i1 i2
      simp -implicitDefEqProofs [hp, row_len, take_row, pure_d, re_d, aw_skip, aw_region, aw_seq, aw_block, aw_cond, aw_exit, aw_ret, kq_nil, kq_seq, kq_seq_ret, kq_seq_exit, kq_block, kq_block_ret, kq_block_exit, kq_loop, kq_loop_ret, kq_loop_exit, awOps_nil, awOps_cons, awOps_guardE, nx_eq, awOp, ev_k, ev_0, ev_1, ev_2, ev_3, ev_4, ev_5, ev_6, ev_7, ev_8, set_0, set_1, set_2, set_3, set_4, set_5, set_6, set_7, set_8, -List.set_cons_succ, -List.set_cons_zero, A.ok, A.val, setSl, wrapG, guardB, getB, pickA, binA, binC, binD, cmpD, isCmp, unA, unD, lenA, AOp.total, kills, litB, FinQ, resOks, resOk, resA, resList, resOne, A.thaw, C.thaw, A.fits, As.fits, C.fits, evs, oks, callArgs, A.pure, C.pure, A.re, C.re, fieldAddrA, loadC, cut, A.cells, C.rows?, getOb, newOb, setOb, storeC, splice, Ob.re, Cs.fits, partsA, partsOk, parts2A, parts2Ok, fillC, fillRows, optInt, optOk, sliceA, clipC, optK_some, storeK_some, Option.map_some, toDs, C.toD, spliceD, appendA, capsOf, srcRows, allLen_nil_iff, allLen_cons_iff, allLen_append_iff, dropC, Obs.fits, eqCs, eqD]
      refine qcall_pure (nilSpec_calls u hu) hf rfl ?_
      cases hnil : u.nilB with
      | false =>
        have : listOf t = ([], false) := by rw [listOf, ← i2, hnil, hv]; rfl
        simp -implicitDefEqProofs [hnil, this, aw_skip, aw_region, aw_seq, aw_block, aw_cond, aw_exit, aw_ret, kq_nil, kq_seq, kq_seq_ret, kq_seq_exit, kq_block, kq_block_ret, kq_block_exit, kq_loop, kq_loop_ret, kq_loop_exit, awOps_nil, awOps_cons, awOps_guardE, nx_eq, awOp, ev_k, ev_0, ev_1, ev_2, ev_3, ev_4, ev_5, ev_6, ev_7, ev_8, set_0, set_1, set_2, set_3, set_4, set_5, set_6, set_7, set_8, -List.set_cons_succ, -List.set_cons_zero, A.ok, A.val, setSl, wrapG, guardB, getB, pickA, binA, binC, binD, cmpD, isCmp, unA, unD, lenA, AOp.total, kills, litB, FinQ, resOks, resOk, resA, resList, resOne, A.thaw, C.thaw, A.fits, As.fits, C.fits, evs, oks, callArgs, A.pure, C.pure, A.re, C.re, fieldAddrA, loadC, cut, A.cells, C.rows?, getOb, newOb, setOb, storeC, splice, Ob.re, Cs.fits, partsA, partsOk, parts2A, parts2Ok, fillC, fillRows, optInt, optOk, sliceA, clipC, optK_some, storeK_some, Option.map_some, toDs, C.toD, spliceD, appendA, capsOf, srcRows, allLen_nil_iff, allLen_cons_iff, allLen_append_iff, dropC, Obs.fits, eqCs, eqD]
      | true =>
        have : listOf t = (fs, true) := by rw [listOf, ← i2, hnil, hv, ← i1]; rfl
        simp -implicitDefEqProofs [hnil, this, aw_skip, aw_region, aw_seq, aw_block, aw_cond, aw_exit, aw_ret, kq_nil, kq_seq, kq_seq_ret, kq_seq_exit, kq_block, kq_block_ret, kq_block_exit, kq_loop, kq_loop_ret, kq_loop_exit, awOps_nil, awOps_cons, awOps_guardE, nx_eq, awOp, ev_k, ev_0, ev_1, ev_2, ev_3, ev_4, ev_5, ev_6, ev_7, ev_8, set_0, set_1, set_2, set_3, set_4, set_5, set_6, set_7, set_8, -List.set_cons_succ, -List.set_cons_zero, A.ok, A.val, setSl, wrapG, guardB, getB, pickA, binA, binC, binD, cmpD, isCmp, unA, unD, lenA, AOp.total, kills, litB, FinQ, resOks, resOk, resA, resList, resOne, A.thaw, C.thaw, A.fits, As.fits, C.fits, evs, oks, callArgs, A.pure, C.pure, A.re, C.re, fieldAddrA, loadC, cut, A.cells, C.rows?, getOb, newOb, setOb, storeC, splice, Ob.re, Cs.fits, partsA, partsOk, parts2A, parts2Ok, fillC, fillRows, optInt, optOk, sliceA, clipC, optK_some, storeK_some, Option.map_some, toDs, C.toD, spliceD, appendA, capsOf, srcRows, allLen_nil_iff, allLen_cons_iff, allLen_append_iff, dropC, Obs.fits, eqCs, eqD]
end Go.Proofs.Ytnpncfadhflapaa
