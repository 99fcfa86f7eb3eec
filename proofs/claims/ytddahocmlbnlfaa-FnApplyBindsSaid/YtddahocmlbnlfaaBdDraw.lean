/-
  Terms and bindings that are drawn.
  Conditions: none.
-/
import Derived.Test.YtddahocmlbnlfaaBd
import Derived.Test.YtddahocmlbnlfaaTermE
open Go Go.AM Go.Proofs
namespace Go.Proofs.Ytddahocmlbnlfaa
open Go.ChangeShapes Go.WideShapes Go.ChangeAt Go.RowKit
set_option linter.unusedVariables false
set_option linter.unusedSimpArgs false
set_option maxRecDepth 100000
-- 5 loop.example/prologserver/spec.DrawApplyBinds params 1 ntmps 38
-- loop head live: [2, 4, 5, 6, 7]
def ac5 : Cd := .seq (.region [⟨(some 2), .alloc [(.d (.int .i64 0)), (.d (.int .i64 0)), (.d (.str [])), (.full [])], none⟩,
      ⟨(some 3), .mv (.k (.c (.full []))), none⟩] [3])
  (.seq (.region [⟨(some 8), .mv (.t 0), none⟩,
      ⟨(some 9), .call false 20 [(.t 8)], none⟩,
      ⟨(some 4), .mv (.t 9), none⟩] [0, 8, 9])
  (.seq (.region [⟨(some 10), .mv (.t 4), none⟩,
      ⟨(some 11), .mv (.t 4), none⟩,
      ⟨(some 12), .call false 22 [(.t 11)], none⟩,
      ⟨(some 13), .call false 21 [(.t 10), (.t 12)], none⟩,
      ⟨(some 5), .alloc [(.d (.int .i64 0)), (.d (.int .i64 0)), (.d (.str [])), (.full [])], none⟩,
      ⟨none, .store 4 (.t 5) (.t 13), none⟩] [10, 11, 12, 13])
  (.seq (.region [⟨(some 14), .buildSlice 5 0 [(.int .i64 0), (.int .i64 0), (.int .i64 0), (.str []), (.sl [])] [], none⟩,
      ⟨(some 6), .mv (.t 14), none⟩] [14])
  (.seq (.seq (.region [⟨(some 15), .mv (.t 4), none⟩,
        ⟨(some 16), .buildSlice 1 4 [(.int .i64 0)] [(0, (.k (.c (.d (.int .i64 2))))), (1, (.k (.c (.d (.int .i64 1))))), (2, (.k (.c (.d (.int .i64 3))))), (3, (.k (.c (.d (.int .i64 0)))))], none⟩,
        ⟨(some 17), .call false 23 [(.t 15), (.t 16)], none⟩,
        ⟨(some 7), .mv (.t 17), none⟩] [15, 16, 17])
    (.block 0 (.loop (.seq (.seq (.region [⟨(some 18), .mv (.t 7), none⟩,
              ⟨(some 19), .bin .gtr (.t 18) (.k (.c (.d (.int .i64 0)))), none⟩] [18])
          (.cond (.t 19)
            (.skip)
            (.exit 0)))
        (.seq (.block 1 (.region [⟨(some 22), .mv (.t 6), none⟩,
              ⟨(some 23), .mv (.t 4), none⟩,
              ⟨(some 24), .buildSlice 1 5 [(.int .i64 0)] [(0, (.k (.c (.d (.int .i64 0))))), (1, (.k (.c (.d (.int .i64 1))))), (2, (.k (.c (.d (.int .i64 2))))), (3, (.k (.c (.d (.int .i64 3))))), (4, (.k (.c (.d (.int .i64 30)))))], none⟩,
              ⟨(some 25), .call false 23 [(.t 23), (.t 24)], none⟩,
              ⟨(some 26), .mv (.t 4), none⟩,
              ⟨(some 27), .mv (.t 4), none⟩,
              ⟨(some 28), .mv (.t 4), none⟩,
              ⟨(some 29), .buildSlice 1 3 [(.int .i64 0)] [(0, (.k (.c (.d (.int .i64 2))))), (1, (.k (.c (.d (.int .i64 1))))), (2, (.k (.c (.d (.int .i64 3)))))], none⟩,
              ⟨(some 30), .call false 23 [(.t 28), (.t 29)], none⟩,
              ⟨(some 31), .call false 24 [(.t 27), (.t 30)], none⟩,
              ⟨(some 32), .call false 21 [(.t 26), (.t 31)], none⟩,
              ⟨(some 33), .build [(.d (.int .i64 0)), (.d (.int .i64 0)), (.d (.int .i64 0)), (.d (.str [])), (.full [])] [(0, 1, (.t 25)), (1, 4, (.t 32))], none⟩,
              ⟨(some 34), .buildSlice 5 1 [(.int .i64 0), (.int .i64 0), (.int .i64 0), (.str []), (.sl [])] [(0, (.t 33))], none⟩,
              ⟨(some 35), .append false 5 (.t 22) (.t 34), none⟩,
              ⟨(some 6), .mv (.t 35), none⟩] [19, 22, 23, 24, 25, 26, 27, 28, 29, 30, 31, 32, 33, 34, 35]))
        (.region [⟨(some 20), .mv (.t 7), none⟩,
          ⟨(some 21), .bin .sub (.t 20) (.k (.c (.d (.int .i64 1)))), none⟩,
          ⟨(some 7), .mv (.t 21), none⟩] [20, 21]))))))
  (.seq (.region [⟨(some 36), .load (some 4) (.t 5), none⟩,
      ⟨(some 37), .mv (.t 6), none⟩,
      ⟨none, .store 4 (.t 2) (.t 36), none⟩,
      ⟨(some 3), .mv (.t 37), none⟩] [5, 6, 36, 37])
  (.ret))))))
theorem ac5_ok : cFunc Try.prog [] [(0, [3], []), (1, [0, 8, 9], []), (2, [10, 11, 12, 13], []), (3, [14], []), (4, [15, 16, 17], []), (5, [18], []), (7, [19, 22, 23, 24, 25, 26, 27, 28, 29, 30, 31, 32, 33, 34, 35], []), (6, [20, 21], []), (8, [5, 6, 36, 37], [])] Try.f5 = some (ac5, [.cell 2 (some 4), .tmp 3], 38) := by kernel_rfl
/-- a term and bindings -/
def TmBs (r : A) : Prop := ∃ (t : Tm) (bs : List Bd), r = .tup [.agg (t.row.map .d), .c (.d (.sl (bs.map Bd.row)))] ∧ t.fits ∧ bs.length ≤ 3 ∧ ∀ b ∈ bs, b.fits
theorem TmBs.re {n : Nat} {r : A} (h : TmBs r) : A.re n r = r := by
  obtain ⟨t, bs, rfl, _⟩ := h
  simp [A.re, A.res, C.re, re_d]
theorem drawAb_calls (c : List UInt8) (hc : c.length ≤ 1048576) (H : Heap) : ACalls Try.prog 5 [.c (.d (.sl (bytesRows c)))] H (fun r H' => H' = H ∧ TmBs r) := by
  refine acalls Try.func5 (by kernel_rfl) ac5_ok fun hf => ?_
  simp -implicitDefEqProofs [ac5, aw_skip, aw_region, aw_seq, aw_block, aw_cond, aw_exit, aw_ret, kq_nil, kq_seq, kq_seq_ret, kq_seq_exit, kq_block, kq_block_ret, kq_block_exit, kq_loop, kq_loop_ret, kq_loop_exit, awOps_nil, awOps_cons, awOps_guardE, nx_eq, awOp, ev_k, ev_0, ev_1, ev_2, ev_3, ev_4, ev_5, ev_6, ev_7, ev_8, set_0, set_1, set_2, set_3, set_4, set_5, set_6, set_7, set_8, -List.set_cons_succ, -List.set_cons_zero, A.ok, A.val, setSl, wrapG, guardB, getB, pickA, binA, binC, binD, cmpD, isCmp, unA, unD, lenA, AOp.total, kills, litB, FinQ, resOks, resOk, resA, resList, resOne, A.thaw, C.thaw, A.fits, As.fits, C.fits, evs, oks, callArgs, A.pure, C.pure, A.re, C.re, fieldAddrA, loadC, cut, A.cells, C.rows?, getOb, newOb, setOb, storeC, splice, Ob.re, Cs.fits, partsA, partsOk, parts2A, parts2Ok, fillC, fillRows, optInt, optOk, sliceA, clipC, optK_some, storeK_some, Option.map_some, toDs, C.toD, spliceD, appendA, capsOf, srcRows, allLen_nil_iff, allLen_cons_iff, allLen_append_iff, dropC, Obs.fits, eqCs, eqD, mapRow, mapPut, mapVal, mapOne, mapCells]
  refine (open_calls c hc _).mono fun r H' ⟨h1, c', hc', h2⟩ => ⟨H, [.cells [.d (.int .i64 0), .d (.int .i64 0), .d (.str []), .full []], Rd c' 0], .c (.ptr (.l 1) 0), by rw [h2]; simp [Rd, Ob.re, C.re], rfl, by simp, hf, by rw [h1]; simp [A.re, C.re, Ref.re], ?_⟩
  simp -implicitDefEqProofs [aw_skip, aw_region, aw_seq, aw_block, aw_cond, aw_exit, aw_ret, kq_nil, kq_seq, kq_seq_ret, kq_seq_exit, kq_block, kq_block_ret, kq_block_exit, kq_loop, kq_loop_ret, kq_loop_exit, awOps_nil, awOps_cons, awOps_guardE, nx_eq, awOp, ev_k, ev_0, ev_1, ev_2, ev_3, ev_4, ev_5, ev_6, ev_7, ev_8, set_0, set_1, set_2, set_3, set_4, set_5, set_6, set_7, set_8, -List.set_cons_succ, -List.set_cons_zero, A.ok, A.val, setSl, wrapG, guardB, getB, pickA, binA, binC, binD, cmpD, isCmp, unA, unD, lenA, AOp.total, kills, litB, FinQ, resOks, resOk, resA, resList, resOne, A.thaw, C.thaw, A.fits, As.fits, C.fits, evs, oks, callArgs, A.pure, C.pure, A.re, C.re, fieldAddrA, loadC, cut, A.cells, C.rows?, getOb, newOb, setOb, storeC, splice, Ob.re, Cs.fits, partsA, partsOk, parts2A, parts2Ok, fillC, fillRows, optInt, optOk, sliceA, clipC, optK_some, storeK_some, Option.map_some, toDs, C.toD, spliceD, appendA, capsOf, srcRows, allLen_nil_iff, allLen_cons_iff, allLen_append_iff, dropC, Obs.fits, eqCs, eqD, mapRow, mapPut, mapVal, mapOne, mapCells]
  refine call_drawL (j := 1) l1Some_draws hc' (by omega) (by omega) rfl (by simp [Rd, Ob.re, C.re]) (fun r => TmR.re) hf ?_
  rintro _ p1 ⟨t, rfl, ht⟩ h3 h4
  simp -implicitDefEqProofs [row_len, take_row, pure_d, re_d, aw_skip, aw_region, aw_seq, aw_block, aw_cond, aw_exit, aw_ret, kq_nil, kq_seq, kq_seq_ret, kq_seq_exit, kq_block, kq_block_ret, kq_block_exit, kq_loop, kq_loop_ret, kq_loop_exit, awOps_nil, awOps_cons, awOps_guardE, nx_eq, awOp, ev_k, ev_0, ev_1, ev_2, ev_3, ev_4, ev_5, ev_6, ev_7, ev_8, set_0, set_1, set_2, set_3, set_4, set_5, set_6, set_7, set_8, -List.set_cons_succ, -List.set_cons_zero, A.ok, A.val, setSl, wrapG, guardB, getB, pickA, binA, binC, binD, cmpD, isCmp, unA, unD, lenA, AOp.total, kills, litB, FinQ, resOks, resOk, resA, resList, resOne, A.thaw, C.thaw, A.fits, As.fits, C.fits, evs, oks, callArgs, A.pure, C.pure, A.re, C.re, fieldAddrA, loadC, cut, A.cells, C.rows?, getOb, newOb, setOb, storeC, splice, Ob.re, Cs.fits, partsA, partsOk, parts2A, parts2Ok, fillC, fillRows, optInt, optOk, sliceA, clipC, optK_some, storeK_some, Option.map_some, toDs, C.toD, spliceD, appendA, capsOf, srcRows, allLen_nil_iff, allLen_cons_iff, allLen_append_iff, dropC, Obs.fits, eqCs, eqD, mapRow, mapPut, mapVal, mapOne, mapCells]
  refine call_drawL (j := 1) (l1Mutate_draws t ht) hc' (by omega) (by omega) rfl (by simp [Rd, Ob.re, C.re]) (fun r => TmR.re) hf ?_
  rintro _ p2 ⟨u, rfl, hu⟩ h5 h6
  rw [row_eq]
  simp -implicitDefEqProofs [aw_skip, aw_region, aw_seq, aw_block, aw_cond, aw_exit, aw_ret, kq_nil, kq_seq, kq_seq_ret, kq_seq_exit, kq_block, kq_block_ret, kq_block_exit, kq_loop, kq_loop_ret, kq_loop_exit, awOps_nil, awOps_cons, awOps_guardE, nx_eq, awOp, ev_k, ev_0, ev_1, ev_2, ev_3, ev_4, ev_5, ev_6, ev_7, ev_8, set_0, set_1, set_2, set_3, set_4, set_5, set_6, set_7, set_8, -List.set_cons_succ, -List.set_cons_zero, A.ok, A.val, setSl, wrapG, guardB, getB, pickA, binA, binC, binD, cmpD, isCmp, unA, unD, lenA, AOp.total, kills, litB, FinQ, resOks, resOk, resA, resList, resOne, A.thaw, C.thaw, A.fits, As.fits, C.fits, evs, oks, callArgs, A.pure, C.pure, A.re, C.re, fieldAddrA, loadC, cut, A.cells, C.rows?, getOb, newOb, setOb, storeC, splice, Ob.re, Cs.fits, partsA, partsOk, parts2A, parts2Ok, fillC, fillRows, optInt, optOk, sliceA, clipC, optK_some, storeK_some, Option.map_some, toDs, C.toD, spliceD, appendA, capsOf, srcRows, allLen_nil_iff, allLen_cons_iff, allLen_append_iff, dropC, Obs.fits, eqCs, eqD, mapRow, mapPut, mapVal, mapOne, mapCells]
  refine ⟨hf, ?_⟩
  refine call_drawL (j := 1) (num_draws [2, 1, 3, 0] (by decide)) hc' (by omega) (by omega) rfl (by simp [Rd, Ob.re, C.re]) (fun r ⟨n, _, hn⟩ => by subst hn; rfl) hf ?_
  rintro _ p3 ⟨n, hn, rfl⟩ h7 h8
  have hn : 0 ≤ n ∧ n ≤ 3 := by simp at hn; omega
  simp -implicitDefEqProofs [aw_skip, aw_region, aw_seq, aw_block, aw_cond, aw_exit, aw_ret, kq_nil, kq_seq, kq_seq_ret, kq_seq_exit, kq_block, kq_block_ret, kq_block_exit, kq_loop, kq_loop_ret, kq_loop_exit, awOps_nil, awOps_cons, awOps_guardE, nx_eq, awOp, ev_k, ev_0, ev_1, ev_2, ev_3, ev_4, ev_5, ev_6, ev_7, ev_8, set_0, set_1, set_2, set_3, set_4, set_5, set_6, set_7, set_8, -List.set_cons_succ, -List.set_cons_zero, A.ok, A.val, setSl, wrapG, guardB, getB, pickA, binA, binC, binD, cmpD, isCmp, unA, unD, lenA, AOp.total, kills, litB, FinQ, resOks, resOk, resA, resList, resOne, A.thaw, C.thaw, A.fits, As.fits, C.fits, evs, oks, callArgs, A.pure, C.pure, A.re, C.re, fieldAddrA, loadC, cut, A.cells, C.rows?, getOb, newOb, setOb, storeC, splice, Ob.re, Cs.fits, partsA, partsOk, parts2A, parts2Ok, fillC, fillRows, optInt, optOk, sliceA, clipC, optK_some, storeK_some, Option.map_some, toDs, C.toD, spliceD, appendA, capsOf, srcRows, allLen_nil_iff, allLen_cons_iff, allLen_append_iff, dropC, Obs.fits, eqCs, eqD, mapRow, mapPut, mapVal, mapOne, mapCells]
  refine loop_enter (St.le_token 6 5 rfl) ?_
  refine loop_set (σ := Int × List Bd × Int) (fun x => [(7, .c (.d (.int .i64 x.1))), (6, .c (.own (.l 3) x.2.1.length (x.2.1.map Bd.row)))]) (fun x => H) (fun x => [.cells [.d (.int .i64 0), .d (.int .i64 0), .d (.str []), .full []], Rd c' x.2.2, .cells [.d (.int .i64 u.k), .d (.int .i64 u.n), .d (.str u.s), .d (.sl (u.kids.map Tm.row))], .grow x.2.1.length 5])
    (fun x => 0 ≤ x.1 ∧ x.1 + x.2.1.length ≤ 3 ∧ 0 ≤ x.2.2 ∧ x.2.2 ≤ 1300 + 400 * x.2.1.length ∧ ∀ b ∈ x.2.1, b.fits) (fun x => x.1.toNat) (n, [], p3) rfl ⟨hn.1, by simp; omega, by simp only; omega, by simp; omega, by simp⟩ ?_
  rintro ⟨k, l, q⟩ ⟨i0, i1, i2, i3, i4⟩
  simp only at i0 i1 i2 i3 i4
  simp -implicitDefEqProofs [setAll, aw_skip, aw_region, aw_seq, aw_block, aw_cond, aw_exit, aw_ret, kq_nil, kq_seq, kq_seq_ret, kq_seq_exit, kq_block, kq_block_ret, kq_block_exit, kq_loop, kq_loop_ret, kq_loop_exit, awOps_nil, awOps_cons, awOps_guardE, nx_eq, awOp, ev_k, ev_0, ev_1, ev_2, ev_3, ev_4, ev_5, ev_6, ev_7, ev_8, set_0, set_1, set_2, set_3, set_4, set_5, set_6, set_7, set_8, -List.set_cons_succ, -List.set_cons_zero, A.ok, A.val, setSl, wrapG, guardB, getB, pickA, binA, binC, binD, cmpD, isCmp, unA, unD, lenA, AOp.total, kills, litB, FinQ, resOks, resOk, resA, resList, resOne, A.thaw, C.thaw, A.fits, As.fits, C.fits, evs, oks, callArgs, A.pure, C.pure, A.re, C.re, fieldAddrA, loadC, cut, A.cells, C.rows?, getOb, newOb, setOb, storeC, splice, Ob.re, Cs.fits, partsA, partsOk, parts2A, parts2Ok, fillC, fillRows, optInt, optOk, sliceA, clipC, optK_some, storeK_some, Option.map_some, toDs, C.toD, spliceD, appendA, capsOf, srcRows, allLen_nil_iff, allLen_cons_iff, allLen_append_iff, dropC, Obs.fits, eqCs, eqD, mapRow, mapPut, mapVal, mapOne, mapCells]
  refine ⟨fun hlt => ?_, fun hge => ?_⟩
  · refine call_drawL (j := 1) (num_draws [0, 1, 2, 3, 30] (by decide)) hc' (by omega) (by omega) rfl (by simp [Rd, Ob.re, C.re]) (fun r ⟨n, _, hn⟩ => by subst hn; rfl) hf ?_
    rintro _ q1 ⟨v, hv, rfl⟩ a1 a2
    have hv : 0 ≤ v ∧ v ≤ 30 := by simp at hv; omega
    simp -implicitDefEqProofs [aw_skip, aw_region, aw_seq, aw_block, aw_cond, aw_exit, aw_ret, kq_nil, kq_seq, kq_seq_ret, kq_seq_exit, kq_block, kq_block_ret, kq_block_exit, kq_loop, kq_loop_ret, kq_loop_exit, awOps_nil, awOps_cons, awOps_guardE, nx_eq, awOp, ev_k, ev_0, ev_1, ev_2, ev_3, ev_4, ev_5, ev_6, ev_7, ev_8, set_0, set_1, set_2, set_3, set_4, set_5, set_6, set_7, set_8, -List.set_cons_succ, -List.set_cons_zero, A.ok, A.val, setSl, wrapG, guardB, getB, pickA, binA, binC, binD, cmpD, isCmp, unA, unD, lenA, AOp.total, kills, litB, FinQ, resOks, resOk, resA, resList, resOne, A.thaw, C.thaw, A.fits, As.fits, C.fits, evs, oks, callArgs, A.pure, C.pure, A.re, C.re, fieldAddrA, loadC, cut, A.cells, C.rows?, getOb, newOb, setOb, storeC, splice, Ob.re, Cs.fits, partsA, partsOk, parts2A, parts2Ok, fillC, fillRows, optInt, optOk, sliceA, clipC, optK_some, storeK_some, Option.map_some, toDs, C.toD, spliceD, appendA, capsOf, srcRows, allLen_nil_iff, allLen_cons_iff, allLen_append_iff, dropC, Obs.fits, eqCs, eqD, mapRow, mapPut, mapVal, mapOne, mapCells]
    refine call_drawL (j := 1) (num_draws [2, 1, 3] (by decide)) hc' (by omega) (by omega) rfl (by simp [Rd, Ob.re, C.re]) (fun r ⟨n, _, hn⟩ => by subst hn; rfl) hf ?_
    rintro _ q2 ⟨d, hd, rfl⟩ a3 a4
    obtain ⟨e, rfl, he⟩ : ∃ e : Nat, d = (e : Int) ∧ 1 ≤ e ∧ e ≤ 3 := ⟨d.toNat, by simp at hd; omega, by simp at hd; omega, by simp at hd; omega⟩
    simp -implicitDefEqProofs [aw_skip, aw_region, aw_seq, aw_block, aw_cond, aw_exit, aw_ret, kq_nil, kq_seq, kq_seq_ret, kq_seq_exit, kq_block, kq_block_ret, kq_block_exit, kq_loop, kq_loop_ret, kq_loop_exit, awOps_nil, awOps_cons, awOps_guardE, nx_eq, awOp, ev_k, ev_0, ev_1, ev_2, ev_3, ev_4, ev_5, ev_6, ev_7, ev_8, set_0, set_1, set_2, set_3, set_4, set_5, set_6, set_7, set_8, -List.set_cons_succ, -List.set_cons_zero, A.ok, A.val, setSl, wrapG, guardB, getB, pickA, binA, binC, binD, cmpD, isCmp, unA, unD, lenA, AOp.total, kills, litB, FinQ, resOks, resOk, resA, resList, resOne, A.thaw, C.thaw, A.fits, As.fits, C.fits, evs, oks, callArgs, A.pure, C.pure, A.re, C.re, fieldAddrA, loadC, cut, A.cells, C.rows?, getOb, newOb, setOb, storeC, splice, Ob.re, Cs.fits, partsA, partsOk, parts2A, parts2Ok, fillC, fillRows, optInt, optOk, sliceA, clipC, optK_some, storeK_some, Option.map_some, toDs, C.toD, spliceD, appendA, capsOf, srcRows, allLen_nil_iff, allLen_cons_iff, allLen_append_iff, dropC, Obs.fits, eqCs, eqD, mapRow, mapPut, mapVal, mapOne, mapCells]
    have hdr := (l1Draw_draws e (by omega)).mono (N' := 320) (by
      have : e = 1 ∨ e = 2 ∨ e = 3 := by omega
      rcases this with rfl | rfl | rfl <;> decide)
    refine call_drawL (j := 1) hdr hc' (by omega) (by omega) rfl (by simp [Rd, Ob.re, C.re]) (fun r => TmR.re) hf ?_
    rintro _ q3 ⟨x, rfl, hx⟩ a5 a6
    simp -implicitDefEqProofs [row_len, take_row, pure_d, re_d, aw_skip, aw_region, aw_seq, aw_block, aw_cond, aw_exit, aw_ret, kq_nil, kq_seq, kq_seq_ret, kq_seq_exit, kq_block, kq_block_ret, kq_block_exit, kq_loop, kq_loop_ret, kq_loop_exit, awOps_nil, awOps_cons, awOps_guardE, nx_eq, awOp, ev_k, ev_0, ev_1, ev_2, ev_3, ev_4, ev_5, ev_6, ev_7, ev_8, set_0, set_1, set_2, set_3, set_4, set_5, set_6, set_7, set_8, -List.set_cons_succ, -List.set_cons_zero, A.ok, A.val, setSl, wrapG, guardB, getB, pickA, binA, binC, binD, cmpD, isCmp, unA, unD, lenA, AOp.total, kills, litB, FinQ, resOks, resOk, resA, resList, resOne, A.thaw, C.thaw, A.fits, As.fits, C.fits, evs, oks, callArgs, A.pure, C.pure, A.re, C.re, fieldAddrA, loadC, cut, A.cells, C.rows?, getOb, newOb, setOb, storeC, splice, Ob.re, Cs.fits, partsA, partsOk, parts2A, parts2Ok, fillC, fillRows, optInt, optOk, sliceA, clipC, optK_some, storeK_some, Option.map_some, toDs, C.toD, spliceD, appendA, capsOf, srcRows, allLen_nil_iff, allLen_cons_iff, allLen_append_iff, dropC, Obs.fits, eqCs, eqD, mapRow, mapPut, mapVal, mapOne, mapCells]
    refine call_drawL (j := 1) (l1Mutate_draws x hx) hc' (by omega) (by omega) rfl (by simp [Rd, Ob.re, C.re]) (fun r => TmR.re) hf ?_
    rintro _ q4 ⟨y, rfl, hy⟩ a7 a8
    rw [row_eq]
    have hsub : inR .i64 (k - 1) := small_i64 (by omega) (by omega)
    simp -implicitDefEqProofs [hsub, aw_skip, aw_region, aw_seq, aw_block, aw_cond, aw_exit, aw_ret, kq_nil, kq_seq, kq_seq_ret, kq_seq_exit, kq_block, kq_block_ret, kq_block_exit, kq_loop, kq_loop_ret, kq_loop_exit, awOps_nil, awOps_cons, awOps_guardE, nx_eq, awOp, ev_k, ev_0, ev_1, ev_2, ev_3, ev_4, ev_5, ev_6, ev_7, ev_8, set_0, set_1, set_2, set_3, set_4, set_5, set_6, set_7, set_8, -List.set_cons_succ, -List.set_cons_zero, A.ok, A.val, setSl, wrapG, guardB, getB, pickA, binA, binC, binD, cmpD, isCmp, unA, unD, lenA, AOp.total, kills, litB, FinQ, resOks, resOk, resA, resList, resOne, A.thaw, C.thaw, A.fits, As.fits, C.fits, evs, oks, callArgs, A.pure, C.pure, A.re, C.re, fieldAddrA, loadC, cut, A.cells, C.rows?, getOb, newOb, setOb, storeC, splice, Ob.re, Cs.fits, partsA, partsOk, parts2A, parts2Ok, fillC, fillRows, optInt, optOk, sliceA, clipC, optK_some, storeK_some, Option.map_some, toDs, C.toD, spliceD, appendA, capsOf, srcRows, allLen_nil_iff, allLen_cons_iff, allLen_append_iff, dropC, Obs.fits, eqCs, eqD, mapRow, mapPut, mapVal, mapOne, mapCells]
    refine ⟨allLen_map bdrow_len, by unfold maxApp; omega, ?_⟩
    refine loop_back (k - 1, l ++ [⟨v, y⟩], q4) (by simp [setAll, Bd.row]) ⟨by simp only; omega, by simp; omega, by simp only; omega, by simp; omega, fun b hb => ?_⟩ (by show (k - 1).toNat < k.toNat; omega)
    rcases List.mem_append.1 hb with hb | hb
    · exact i4 b hb
    · simp at hb; subst hb; exact ⟨small_i64 (by simp only; omega) (by simp only; omega), hy⟩
  · exact ⟨hf, u, l, by rw [row_eq]; rfl, hu, by omega, i4⟩
end Go.Proofs.Ytddahocmlbnlfaa
