/-
  What the laws of lists draw.
  Conditions: none.
-/
import Derived.Test.YtnpncfadhflapaaTermE
open Go Go.AM Go.Proofs
namespace Go.Proofs.Ytnpncfadhflapaa
open Go.ChangeShapes Go.WideShapes Go.ChangeAt Go.RowKit
set_option linter.unusedVariables false
set_option linter.unusedSimpArgs false
set_option maxRecDepth 100000
-- 9 loop.example/prologserver/spec.DrawListOf params 1 ntmps 28
-- loop head live: [2, 3, 4, 5]
def ac9 : Cd := .seq (.region [⟨(some 2), .alloc [(.d (.int .i64 0)), (.d (.int .i64 0)), (.d (.str [])), (.full [])], none⟩] [])
  (.seq (.region [⟨(some 6), .mv (.t 0), none⟩,
      ⟨(some 7), .call false 43 [(.t 6)], none⟩,
      ⟨(some 3), .mv (.t 7), none⟩] [0, 6, 7])
  (.seq (.region [⟨(some 8), .buildSlice 4 0 [(.int .i64 0), (.int .i64 0), (.str []), (.sl [])] [], none⟩,
      ⟨(some 4), .mv (.t 8), none⟩] [8])
  (.seq (.seq (.region [⟨(some 9), .mv (.t 3), none⟩,
        ⟨(some 10), .call false 44 [(.t 9), (.k (.c (.d (.int .i64 4))))], none⟩,
        ⟨(some 5), .mv (.t 10), none⟩] [9, 10])
    (.block 0 (.loop (.seq (.seq (.region [⟨(some 11), .mv (.t 5), none⟩,
              ⟨(some 12), .bin .gtr (.t 11) (.k (.c (.d (.int .i64 0)))), none⟩] [11])
          (.cond (.t 12)
            (.skip)
            (.exit 0)))
        (.seq (.block 1 (.region [⟨(some 15), .mv (.t 4), none⟩,
              ⟨(some 16), .mv (.t 3), none⟩,
              ⟨(some 17), .call false 45 [(.t 16)], none⟩,
              ⟨(some 18), .buildSlice 4 1 [(.int .i64 0), (.int .i64 0), (.str []), (.sl [])] [(0, (.t 17))], none⟩,
              ⟨(some 19), .append false 4 (.t 15) (.t 18), none⟩,
              ⟨(some 4), .mv (.t 19), none⟩] [12, 15, 16, 17, 18, 19]))
        (.region [⟨(some 13), .mv (.t 5), none⟩,
          ⟨(some 14), .bin .sub (.t 13) (.k (.c (.d (.int .i64 1)))), none⟩,
          ⟨(some 5), .mv (.t 14), none⟩] [13, 14]))))))
  (.seq (.region [⟨(some 20), .mv (.t 3), none⟩,
      ⟨(some 21), .mv (.t 4), none⟩,
      ⟨(some 22), .mv (.t 3), none⟩,
      ⟨(some 23), .buildSlice 1 3 [(.str [])] [(0, (.k (.c (.d (.str [91, 93]))))), (1, (.k (.c (.d (.str [91, 93]))))), (2, (.k (.c (.d (.str [97])))))], none⟩,
      ⟨(some 24), .call false 49 [(.t 22), (.t 23)], none⟩,
      ⟨(some 25), .qcall 48 [(.t 24), (.k (.c (.full [])))], none⟩,
      ⟨(some 26), .qcall 47 [(.t 21), (.t 25)], none⟩,
      ⟨(some 27), .call false 46 [(.t 20), (.t 26)], none⟩,
      ⟨none, .store 4 (.t 2) (.t 27), none⟩] [3, 4, 20, 21, 22, 23, 24, 25, 26, 27])
  (.ret)))))
theorem ac9_ok : cFunc Try.prog [1000047, 1000048] [(0, [], []), (1, [0, 6, 7], []), (2, [8], []), (3, [9, 10], []), (4, [11], []), (6, [12, 15, 16, 17, 18, 19], []), (5, [13, 14], []), (7, [3, 4, 20, 21, 22, 23, 24, 25, 26, 27], [])] Try.f9 = some (ac9, [.cell 2 (some 4)], 28) := by kernel_rfl
theorem drawListOf_calls (c : List UInt8) (hc : c.length ≤ 1048576) (H : Heap) : ACalls Try.prog 9 [.c (.d (.sl (bytesRows c)))] H (fun r H' => H' = H ∧ TmR r) := by
  refine acalls Try.func9 (by kernel_rfl) ac9_ok fun hf => ?_
  simp -implicitDefEqProofs [ac9, aw_skip, aw_region, aw_seq, aw_block, aw_cond, aw_exit, aw_ret, kq_nil, kq_seq, kq_seq_ret, kq_seq_exit, kq_block, kq_block_ret, kq_block_exit, kq_loop, kq_loop_ret, kq_loop_exit, awOps_nil, awOps_cons, awOps_guardE, nx_eq, awOp, ev_k, ev_0, ev_1, ev_2, ev_3, ev_4, ev_5, ev_6, ev_7, ev_8, set_0, set_1, set_2, set_3, set_4, set_5, set_6, set_7, set_8, -List.set_cons_succ, -List.set_cons_zero, A.ok, A.val, setSl, wrapG, guardB, getB, pickA, binA, binC, binD, cmpD, isCmp, unA, unD, lenA, AOp.total, kills, litB, FinQ, resOks, resOk, resA, resList, resOne, A.thaw, C.thaw, A.fits, As.fits, C.fits, evs, oks, callArgs, A.pure, C.pure, A.re, C.re, fieldAddrA, loadC, cut, A.cells, C.rows?, getOb, newOb, setOb, storeC, splice, Ob.re, Cs.fits, partsA, partsOk, parts2A, parts2Ok, fillC, fillRows, optInt, optOk, sliceA, optK_some, storeK_some, Option.map_some, toDs, C.toD, spliceD, appendA, capsOf, srcRows, allLen_nil_iff, allLen_cons_iff, allLen_append_iff, dropC, Obs.fits, eqCs, eqD]
  refine (open_calls c hc _).mono fun r H' ⟨h1, c', hc', h2⟩ => ⟨H, [.cells [.d (.int .i64 0), .d (.int .i64 0), .d (.str []), .full []], Rd c' 0], .c (.ptr (.l 1) 0), by rw [h2]; simp [Rd, Ob.re, C.re], rfl, by simp, hf, by rw [h1]; simp [A.re, C.re, Ref.re], ?_⟩
  simp -implicitDefEqProofs [aw_skip, aw_region, aw_seq, aw_block, aw_cond, aw_exit, aw_ret, kq_nil, kq_seq, kq_seq_ret, kq_seq_exit, kq_block, kq_block_ret, kq_block_exit, kq_loop, kq_loop_ret, kq_loop_exit, awOps_nil, awOps_cons, awOps_guardE, nx_eq, awOp, ev_k, ev_0, ev_1, ev_2, ev_3, ev_4, ev_5, ev_6, ev_7, ev_8, set_0, set_1, set_2, set_3, set_4, set_5, set_6, set_7, set_8, -List.set_cons_succ, -List.set_cons_zero, A.ok, A.val, setSl, wrapG, guardB, getB, pickA, binA, binC, binD, cmpD, isCmp, unA, unD, lenA, AOp.total, kills, litB, FinQ, resOks, resOk, resA, resList, resOne, A.thaw, C.thaw, A.fits, As.fits, C.fits, evs, oks, callArgs, A.pure, C.pure, A.re, C.re, fieldAddrA, loadC, cut, A.cells, C.rows?, getOb, newOb, setOb, storeC, splice, Ob.re, Cs.fits, partsA, partsOk, parts2A, parts2Ok, fillC, fillRows, optInt, optOk, sliceA, optK_some, storeK_some, Option.map_some, toDs, C.toD, spliceD, appendA, capsOf, srcRows, allLen_nil_iff, allLen_cons_iff, allLen_append_iff, dropC, Obs.fits, eqCs, eqD]
  refine call_drawL (j := 1) (pick_draws 4 (by omega)) hc' (by omega) (by omega) rfl (by simp [Rd, Ob.re, C.re]) (fun r => IntIn.re) hf ?_
  rintro _ p1 ⟨n, rfl, n0, n1⟩ h3 h4
  simp -implicitDefEqProofs [aw_skip, aw_region, aw_seq, aw_block, aw_cond, aw_exit, aw_ret, kq_nil, kq_seq, kq_seq_ret, kq_seq_exit, kq_block, kq_block_ret, kq_block_exit, kq_loop, kq_loop_ret, kq_loop_exit, awOps_nil, awOps_cons, awOps_guardE, nx_eq, awOp, ev_k, ev_0, ev_1, ev_2, ev_3, ev_4, ev_5, ev_6, ev_7, ev_8, set_0, set_1, set_2, set_3, set_4, set_5, set_6, set_7, set_8, -List.set_cons_succ, -List.set_cons_zero, A.ok, A.val, setSl, wrapG, guardB, getB, pickA, binA, binC, binD, cmpD, isCmp, unA, unD, lenA, AOp.total, kills, litB, FinQ, resOks, resOk, resA, resList, resOne, A.thaw, C.thaw, A.fits, As.fits, C.fits, evs, oks, callArgs, A.pure, C.pure, A.re, C.re, fieldAddrA, loadC, cut, A.cells, C.rows?, getOb, newOb, setOb, storeC, splice, Ob.re, Cs.fits, partsA, partsOk, parts2A, parts2Ok, fillC, fillRows, optInt, optOk, sliceA, optK_some, storeK_some, Option.map_some, toDs, C.toD, spliceD, appendA, capsOf, srcRows, allLen_nil_iff, allLen_cons_iff, allLen_append_iff, dropC, Obs.fits, eqCs, eqD]
  refine loop_enter (St.le_token 4 4 rfl) ?_
  refine loop_set (σ := Int × List Tm × Int) (fun x => [(5, .c (.d (.int .i64 x.1))), (4, .c (.own (.l 2) x.2.1.length (x.2.1.map Tm.row)))]) (fun x => H) (fun x => [.cells [.d (.int .i64 0), .d (.int .i64 0), .d (.str []), .full []], Rd c' x.2.2, .grow x.2.1.length 4])
    (fun x => 0 ≤ x.1 ∧ x.1 + x.2.1.length ≤ 3 ∧ 0 ≤ x.2.2 ∧ x.2.2 ≤ 1 + 1281 * x.2.1.length ∧ ∀ t ∈ x.2.1, t.fits) (fun x => x.1.toNat) (n, [], p1) rfl ⟨n0, by simp; omega, h3, by simp; omega, by simp⟩ ?_
  rintro ⟨k, l, q⟩ ⟨i0, i1, i2, i3, i4⟩
  simp only at i0 i1 i2 i3 i4
  simp -implicitDefEqProofs [setAll, aw_skip, aw_region, aw_seq, aw_block, aw_cond, aw_exit, aw_ret, kq_nil, kq_seq, kq_seq_ret, kq_seq_exit, kq_block, kq_block_ret, kq_block_exit, kq_loop, kq_loop_ret, kq_loop_exit, awOps_nil, awOps_cons, awOps_guardE, nx_eq, awOp, ev_k, ev_0, ev_1, ev_2, ev_3, ev_4, ev_5, ev_6, ev_7, ev_8, set_0, set_1, set_2, set_3, set_4, set_5, set_6, set_7, set_8, -List.set_cons_succ, -List.set_cons_zero, A.ok, A.val, setSl, wrapG, guardB, getB, pickA, binA, binC, binD, cmpD, isCmp, unA, unD, lenA, AOp.total, kills, litB, FinQ, resOks, resOk, resA, resList, resOne, A.thaw, C.thaw, A.fits, As.fits, C.fits, evs, oks, callArgs, A.pure, C.pure, A.re, C.re, fieldAddrA, loadC, cut, A.cells, C.rows?, getOb, newOb, setOb, storeC, splice, Ob.re, Cs.fits, partsA, partsOk, parts2A, parts2Ok, fillC, fillRows, optInt, optOk, sliceA, optK_some, storeK_some, Option.map_some, toDs, C.toD, spliceD, appendA, capsOf, srcRows, allLen_nil_iff, allLen_cons_iff, allLen_append_iff, dropC, Obs.fits, eqCs, eqD]
  refine ⟨fun hlt => ?_, fun hge => ?_⟩
  · refine call_drawL (j := 1) l1Some_draws hc' (by omega) (by omega) rfl (by simp [Rd, Ob.re, C.re]) (fun r => TmR.re) hf ?_
    rintro _ q2 ⟨t, rfl, ht⟩ h5 h6
    have hsub : inR .i64 (k - 1) := small_i64 (by omega) (by omega)
    simp -implicitDefEqProofs [hsub, row_len, take_row, toDs_map, aw_skip, aw_region, aw_seq, aw_block, aw_cond, aw_exit, aw_ret, kq_nil, kq_seq, kq_seq_ret, kq_seq_exit, kq_block, kq_block_ret, kq_block_exit, kq_loop, kq_loop_ret, kq_loop_exit, awOps_nil, awOps_cons, awOps_guardE, nx_eq, awOp, ev_k, ev_0, ev_1, ev_2, ev_3, ev_4, ev_5, ev_6, ev_7, ev_8, set_0, set_1, set_2, set_3, set_4, set_5, set_6, set_7, set_8, -List.set_cons_succ, -List.set_cons_zero, A.ok, A.val, setSl, wrapG, guardB, getB, pickA, binA, binC, binD, cmpD, isCmp, unA, unD, lenA, AOp.total, kills, litB, FinQ, resOks, resOk, resA, resList, resOne, A.thaw, C.thaw, A.fits, As.fits, C.fits, evs, oks, callArgs, A.pure, C.pure, A.re, C.re, fieldAddrA, loadC, cut, A.cells, C.rows?, getOb, newOb, setOb, storeC, splice, Ob.re, Cs.fits, partsA, partsOk, parts2A, parts2Ok, fillC, fillRows, optInt, optOk, sliceA, optK_some, storeK_some, Option.map_some, toDs, C.toD, spliceD, appendA, capsOf, srcRows, allLen_nil_iff, allLen_cons_iff, allLen_append_iff, dropC, Obs.fits, eqCs, eqD]
    refine ⟨allLen_map row_len, by unfold maxApp; omega, ?_⟩
    refine loop_back (k - 1, l ++ [t], q2) (by simp [setAll]) ⟨by simp; omega, by simp; omega, by simp; omega, by simp; omega, fun x hx => ?_⟩ (by show (k - 1).toNat < k.toNat; omega)
    rcases List.mem_append.1 hx with hx | hx
    · exact i4 x hx
    · simp at hx; subst hx; exact ht
  · refine call_drawL (j := 1) (of_draws [[91, 93], [91, 93], [97]] (by decide)) hc' (by omega) (by omega) rfl (by simp [Rd, Ob.re, C.re]) (fun r ⟨n, _, hn⟩ => by subst hn; rfl) hf ?_
    rintro _ q2 ⟨s, hs, rfl⟩ h5 h6
    have hs : s.length ≤ 1000 := by simp at hs; rcases hs with rfl | rfl <;> decide
    have hend : (Tm.mk 3 0 s []).fits := .mk (small_i64 (by omega) (by omega)) (small_i64 (by omega) (by omega)) (by omega) (by simp) (by simp)
    have hst := struct_calls s [] (by simp)
    simp only [List.map_nil] at hst
    simp -implicitDefEqProofs [aw_skip, aw_region, aw_seq, aw_block, aw_cond, aw_exit, aw_ret, kq_nil, kq_seq, kq_seq_ret, kq_seq_exit, kq_block, kq_block_ret, kq_block_exit, kq_loop, kq_loop_ret, kq_loop_exit, awOps_nil, awOps_cons, awOps_guardE, nx_eq, awOp, ev_k, ev_0, ev_1, ev_2, ev_3, ev_4, ev_5, ev_6, ev_7, ev_8, set_0, set_1, set_2, set_3, set_4, set_5, set_6, set_7, set_8, -List.set_cons_succ, -List.set_cons_zero, A.ok, A.val, setSl, wrapG, guardB, getB, pickA, binA, binC, binD, cmpD, isCmp, unA, unD, lenA, AOp.total, kills, litB, FinQ, resOks, resOk, resA, resList, resOne, A.thaw, C.thaw, A.fits, As.fits, C.fits, evs, oks, callArgs, A.pure, C.pure, A.re, C.re, fieldAddrA, loadC, cut, A.cells, C.rows?, getOb, newOb, setOb, storeC, splice, Ob.re, Cs.fits, partsA, partsOk, parts2A, parts2Ok, fillC, fillRows, optInt, optOk, sliceA, optK_some, storeK_some, Option.map_some, toDs, C.toD, spliceD, appendA, capsOf, srcRows, allLen_nil_iff, allLen_cons_iff, allLen_append_iff, dropC, Obs.fits, eqCs, eqD]
    refine qcall_pure hst hf (by simp [A.re, re_d]) ?_
    simp -implicitDefEqProofs [row_len, take_row, pure_d, re_d, aw_skip, aw_region, aw_seq, aw_block, aw_cond, aw_exit, aw_ret, kq_nil, kq_seq, kq_seq_ret, kq_seq_exit, kq_block, kq_block_ret, kq_block_exit, kq_loop, kq_loop_ret, kq_loop_exit, awOps_nil, awOps_cons, awOps_guardE, nx_eq, awOp, ev_k, ev_0, ev_1, ev_2, ev_3, ev_4, ev_5, ev_6, ev_7, ev_8, set_0, set_1, set_2, set_3, set_4, set_5, set_6, set_7, set_8, -List.set_cons_succ, -List.set_cons_zero, A.ok, A.val, setSl, wrapG, guardB, getB, pickA, binA, binC, binD, cmpD, isCmp, unA, unD, lenA, AOp.total, kills, litB, FinQ, resOks, resOk, resA, resList, resOne, A.thaw, C.thaw, A.fits, As.fits, C.fits, evs, oks, callArgs, A.pure, C.pure, A.re, C.re, fieldAddrA, loadC, cut, A.cells, C.rows?, getOb, newOb, setOb, storeC, splice, Ob.re, Cs.fits, partsA, partsOk, parts2A, parts2Ok, fillC, fillRows, optInt, optOk, sliceA, optK_some, storeK_some, Option.map_some, toDs, C.toD, spliceD, appendA, capsOf, srcRows, allLen_nil_iff, allLen_cons_iff, allLen_append_iff, dropC, Obs.fits, eqCs, eqD]
    refine qcall_pure (chainSpec_calls l (by omega) (.mk 3 0 s [])) hf (by simp [A.re, re_d]) ?_
    simp -implicitDefEqProofs [row_len, take_row, pure_d, re_d, aw_skip, aw_region, aw_seq, aw_block, aw_cond, aw_exit, aw_ret, kq_nil, kq_seq, kq_seq_ret, kq_seq_exit, kq_block, kq_block_ret, kq_block_exit, kq_loop, kq_loop_ret, kq_loop_exit, awOps_nil, awOps_cons, awOps_guardE, nx_eq, awOp, ev_k, ev_0, ev_1, ev_2, ev_3, ev_4, ev_5, ev_6, ev_7, ev_8, set_0, set_1, set_2, set_3, set_4, set_5, set_6, set_7, set_8, -List.set_cons_succ, -List.set_cons_zero, A.ok, A.val, setSl, wrapG, guardB, getB, pickA, binA, binC, binD, cmpD, isCmp, unA, unD, lenA, AOp.total, kills, litB, FinQ, resOks, resOk, resA, resList, resOne, A.thaw, C.thaw, A.fits, As.fits, C.fits, evs, oks, callArgs, A.pure, C.pure, A.re, C.re, fieldAddrA, loadC, cut, A.cells, C.rows?, getOb, newOb, setOb, storeC, splice, Ob.re, Cs.fits, partsA, partsOk, parts2A, parts2Ok, fillC, fillRows, optInt, optOk, sliceA, optK_some, storeK_some, Option.map_some, toDs, C.toD, spliceD, appendA, capsOf, srcRows, allLen_nil_iff, allLen_cons_iff, allLen_append_iff, dropC, Obs.fits, eqCs, eqD]
    refine call_drawL (j := 1) (l1Mutate_draws _ (chain_fits l _ i4 hend)) hc' (by omega) (by omega) rfl (by simp [Rd, Ob.re, C.re]) (fun r => TmR.re) hf ?_
    rintro _ q3 ⟨t, rfl, ht⟩ h7 h8
    rw [row_eq]
    simp -implicitDefEqProofs [hf, aw_skip, aw_region, aw_seq, aw_block, aw_cond, aw_exit, aw_ret, kq_nil, kq_seq, kq_seq_ret, kq_seq_exit, kq_block, kq_block_ret, kq_block_exit, kq_loop, kq_loop_ret, kq_loop_exit, awOps_nil, awOps_cons, awOps_guardE, nx_eq, awOp, ev_k, ev_0, ev_1, ev_2, ev_3, ev_4, ev_5, ev_6, ev_7, ev_8, set_0, set_1, set_2, set_3, set_4, set_5, set_6, set_7, set_8, -List.set_cons_succ, -List.set_cons_zero, A.ok, A.val, setSl, wrapG, guardB, getB, pickA, binA, binC, binD, cmpD, isCmp, unA, unD, lenA, AOp.total, kills, litB, FinQ, resOks, resOk, resA, resList, resOne, A.thaw, C.thaw, A.fits, As.fits, C.fits, evs, oks, callArgs, A.pure, C.pure, A.re, C.re, fieldAddrA, loadC, cut, A.cells, C.rows?, getOb, newOb, setOb, storeC, splice, Ob.re, Cs.fits, partsA, partsOk, parts2A, parts2Ok, fillC, fillRows, optInt, optOk, sliceA, optK_some, storeK_some, Option.map_some, toDs, C.toD, spliceD, appendA, capsOf, srcRows, allLen_nil_iff, allLen_cons_iff, allLen_append_iff, dropC, Obs.fits, eqCs, eqD]
    exact ⟨t, by rw [row_eq]; rfl, ht⟩
end Go.Proofs.Ytnpncfadhflapaa
