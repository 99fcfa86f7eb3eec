/-
  FnListTail: lists grow in front.
  Conditions: none.
-/
import Derived.Test.YtnpncfadhflapaaListP
import Derived.Test.YtnpncfadhflapaaListD
open Go Go.AM Go.Proofs
namespace Go.Proofs.Ytnpncfadhflapaa
open Go.ChangeShapes Go.WideShapes Go.ChangeAt Go.RowKit
set_option linter.unusedVariables false
set_option linter.unusedSimpArgs false
set_option maxRecDepth 100000
-- 12 loop.example/prologserver/spec.DrawTermValid params 1 ntmps 10
def ac12 : Cd := .seq (.region [⟨(some 2), .alloc [(.d (.int .i64 0)), (.d (.int .i64 0)), (.d (.str [])), (.full [])], none⟩] [])
  (.seq (.region [⟨(some 4), .mv (.t 0), none⟩,
      ⟨(some 5), .call false 43 [(.t 4)], none⟩,
      ⟨(some 3), .mv (.t 5), none⟩] [0, 4, 5])
  (.seq (.region [⟨(some 6), .mv (.t 3), none⟩,
      ⟨(some 7), .mv (.t 3), none⟩,
      ⟨(some 8), .call false 45 [(.t 7)], none⟩,
      ⟨(some 9), .call false 46 [(.t 6), (.t 8)], none⟩,
      ⟨none, .store 4 (.t 2) (.t 9), none⟩] [3, 6, 7, 8, 9])
  (.ret)))
theorem ac12_ok : cFunc Try.prog [] [(0, [], []), (1, [0, 4, 5], []), (2, [3, 6, 7, 8, 9], [])] Try.f12 = some (ac12, [.cell 2 (some 4)], 10) := by kernel_rfl
-- 3 loop.example/prologserver/laws.FnListTail params 2 ntmps 98
def ac3 : Cd := .seq (.region [⟨(some 4), .mv (.k (.c (.d (.bool false)))), none⟩] [4])
  (.seq (.seq (.region [⟨(some 15), .mv (.t 0), none⟩,
        ⟨(some 16), .len 1 (.t 15), none⟩,
        ⟨(some 17), .bin .gtr (.t 16) (.k (.c (.d (.int .i64 1048576)))), none⟩,
        ⟨(some 18), .mv (.t 17), none⟩,
        ⟨(some 19), .mv (.t 1), some (18, false)⟩,
        ⟨(some 20), .len 1 (.t 19), some (18, false)⟩,
        ⟨(some 21), .bin .gtr (.t 20) (.k (.c (.d (.int .i64 1048576)))), some (18, false)⟩,
        ⟨(some 22), .pick (.t 18) (.k (.c (.d (.bool true)))) (.t 21), none⟩] [15, 16, 17, 18, 19, 20, 21])
    (.cond (.t 22)
      (.seq (.region [⟨(some 4), .mv (.k (.c (.d (.bool true)))), none⟩] [0, 1, 22])
      (.ret))
      (.skip)))
  (.seq (.region [⟨(some 23), .mv (.t 0), none⟩,
      ⟨(some 24), .call false 9 [(.t 23)], none⟩,
      ⟨(some 5), .alloc [(.d (.int .i64 0)), (.d (.int .i64 0)), (.d (.str [])), (.full [])], none⟩,
      ⟨none, .store 4 (.t 5) (.t 24), none⟩] [0, 4, 22, 23, 24])
  (.seq (.region [⟨(some 26), .load (some 4) (.t 5), none⟩,
      ⟨(some 27), .qcall 10 [(.t 26)], none⟩,
      ⟨(some 25), .mv (.t 27), none⟩,
      ⟨(some 28), .extract 0 (.t 25), none⟩,
      ⟨(some 29), .extract 1 (.t 25), none⟩,
      ⟨(some 6), .mv (.t 28), none⟩,
      ⟨(some 7), .mv (.t 29), none⟩] [25, 26, 27, 28, 29])
  (.seq (.region [⟨(some 31), .load (some 4) (.t 5), none⟩,
      ⟨(some 32), .qcall 11 [(.t 31)], none⟩,
      ⟨(some 30), .mv (.t 32), none⟩,
      ⟨(some 33), .extract 0 (.t 30), none⟩,
      ⟨(some 34), .extract 1 (.t 30), none⟩,
      ⟨(some 8), .mv (.t 33), none⟩,
      ⟨(some 9), .mv (.t 34), none⟩] [30, 31, 32, 33, 34])
  (.seq (.region [⟨(some 35), .mv (.t 1), none⟩,
      ⟨(some 36), .call false 12 [(.t 35)], none⟩,
      ⟨(some 10), .alloc [(.d (.int .i64 0)), (.d (.int .i64 0)), (.d (.str [])), (.full [])], none⟩,
      ⟨none, .store 4 (.t 10) (.t 36), none⟩] [1, 35, 36])
  (.seq (.region [⟨(some 38), .load (some 4) (.t 10), none⟩,
      ⟨(some 39), .buildSlice 4 1 [(.int .i64 0), (.int .i64 0), (.str []), (.sl [])] [(0, (.t 38))], none⟩,
      ⟨(some 40), .load (some 4) (.t 5), none⟩,
      ⟨(some 41), .qcall 13 [(.t 39), (.t 40)], none⟩,
      ⟨(some 37), .mv (.t 41), none⟩,
      ⟨(some 42), .extract 0 (.t 37), none⟩,
      ⟨(some 43), .extract 1 (.t 37), none⟩,
      ⟨(some 11), .alloc [(.d (.int .i64 0)), (.d (.int .i64 0)), (.d (.str [])), (.full [])], none⟩,
      ⟨none, .store 4 (.t 11) (.t 42), none⟩,
      ⟨(some 12), .mv (.t 43), none⟩] [5, 37, 38, 39, 40, 41, 42, 43])
  (.seq (.seq (.region [⟨(some 44), .mv (.t 7), none⟩,
        ⟨(some 45), .mv (.t 9), none⟩,
        ⟨(some 46), .binB true (.t 44) (.t 45), none⟩,
        ⟨(some 47), .mv (.t 46), none⟩,
        ⟨(some 48), .mv (.t 6), some (47, false)⟩,
        ⟨(some 49), .mv (.t 8), some (47, false)⟩,
        ⟨(some 50), .qcall 14 [(.t 48), (.t 49)], some (47, false)⟩,
        ⟨(some 51), .un .not (.t 50), some (47, false)⟩,
        ⟨(some 52), .pick (.t 47) (.k (.c (.d (.bool true)))) (.t 51), none⟩,
        ⟨(some 53), .mv (.t 52), none⟩,
        ⟨(some 54), .mv (.t 12), some (53, false)⟩,
        ⟨(some 55), .un .not (.t 54), some (53, false)⟩,
        ⟨(some 56), .pick (.t 53) (.k (.c (.d (.bool true)))) (.t 55), none⟩] [12, 44, 45, 46, 47, 48, 49, 50, 51, 52, 53, 54, 55])
    (.cond (.t 56)
      (.seq (.region [⟨(some 57), .mv (.t 7), none⟩,
          ⟨(some 58), .mv (.t 9), none⟩,
          ⟨(some 59), .binB false (.t 57) (.t 58), none⟩,
          ⟨(some 60), .mv (.t 59), none⟩,
          ⟨(some 61), .mv (.t 6), some (60, true)⟩,
          ⟨(some 62), .mv (.t 8), some (60, true)⟩,
          ⟨(some 63), .qcall 14 [(.t 61), (.t 62)], some (60, true)⟩,
          ⟨(some 64), .pick (.t 60) (.t 63) (.k (.c (.d (.bool false)))), none⟩,
          ⟨(some 4), .mv (.t 64), none⟩] [6, 7, 8, 9, 10, 11, 56, 57, 58, 59, 60, 61, 62, 63, 64])
      (.ret))
      (.skip)))
  (.seq (.region [⟨(some 66), .load (some 4) (.t 11), none⟩,
      ⟨(some 67), .qcall 10 [(.t 66)], none⟩,
      ⟨(some 65), .mv (.t 67), none⟩,
      ⟨(some 68), .extract 0 (.t 65), none⟩,
      ⟨(some 69), .extract 1 (.t 65), none⟩,
      ⟨(some 13), .mv (.t 68), none⟩,
      ⟨(some 14), .mv (.t 69), none⟩] [4, 8, 9, 11, 56, 65, 66, 67, 68, 69])
  (.seq (.region [⟨(some 70), .mv (.t 14), none⟩,
      ⟨(some 71), .mv (.t 7), none⟩,
      ⟨(some 72), .binB false (.t 70) (.t 71), none⟩,
      ⟨(some 73), .mv (.t 72), none⟩,
      ⟨(some 74), .mv (.t 7), some (73, true)⟩,
      ⟨(some 75), .un .not (.t 74), some (73, true)⟩,
      ⟨(some 76), .mv (.t 75), some (73, true)⟩,
      ⟨(some 77), .mv (.t 13), some (76, false)⟩,
      ⟨(some 78), .len 1 (.t 77), some (76, false)⟩,
      ⟨(some 79), .mv (.t 6), some (76, false)⟩,
      ⟨(some 80), .len 1 (.t 79), some (76, false)⟩,
      ⟨(some 81), .bin .add (.t 80) (.k (.c (.d (.int .i64 1)))), some (76, false)⟩,
      ⟨(some 82), .bin .eql (.t 78) (.t 81), some (76, false)⟩,
      ⟨(some 83), .mv (.t 82), some (76, false)⟩,
      ⟨(some 84), .mv (.t 13), some (83, true)⟩,
      ⟨(some 85), .indexAddr 4 (.t 84) (.k (.c (.d (.int .i64 0)))), some (83, true)⟩,
      ⟨(some 86), .load (some 4) (.t 85), some (83, true)⟩,
      ⟨(some 87), .load (some 4) (.t 10), some (83, true)⟩,
      ⟨(some 88), .qcall 15 [(.t 86), (.t 87)], some (83, true)⟩,
      ⟨(some 89), .pick (.t 83) (.t 88) (.k (.c (.d (.bool false)))), some (76, false)⟩,
      ⟨(some 90), .mv (.t 89), some (76, false)⟩,
      ⟨(some 91), .mv (.t 13), some (90, true)⟩,
      ⟨(some 92), .slice 4 (.t 91) (some (.k (.c (.d (.int .i64 1))))) none none, some (90, true)⟩,
      ⟨(some 93), .mv (.t 6), some (90, true)⟩,
      ⟨(some 94), .qcall 14 [(.t 92), (.t 93)], some (90, true)⟩,
      ⟨(some 95), .pick (.t 90) (.t 94) (.k (.c (.d (.bool false)))), some (76, false)⟩,
      ⟨(some 96), .pick (.t 76) (.k (.c (.d (.bool true)))) (.t 95), some (73, true)⟩,
      ⟨(some 97), .pick (.t 73) (.t 96) (.k (.c (.d (.bool false)))), none⟩,
      ⟨(some 4), .mv (.t 97), none⟩] [6, 7, 10, 13, 14, 70, 71, 72, 73, 74, 75, 76, 77, 78, 79, 80, 81, 82, 83, 84, 85, 86, 87, 88, 89, 90, 91, 92, 93, 94, 95, 96, 97])
  (.ret))))))))))
theorem ac3_ok : cFunc Try.prog [1000010, 1000011, 1000013, 1000014, 1000015] [(0, [4], []), (1, [15, 16, 17, 18, 19, 20, 21], []), (2, [0, 1, 22], []), (3, [0, 4, 22, 23, 24], []), (4, [25, 26, 27, 28, 29], []), (5, [30, 31, 32, 33, 34], []), (6, [1, 35, 36], []), (7, [5, 37, 38, 39, 40, 41, 42, 43], []), (8, [12, 44, 45, 46, 47, 48, 49, 50, 51, 52, 53, 54, 55], []), (9, [6, 7, 8, 9, 10, 11, 56, 57, 58, 59, 60, 61, 62, 63, 64], []), (10, [4, 8, 9, 11, 56, 65, 66, 67, 68, 69], []), (11, [6, 7, 10, 13, 14, 70, 71, 72, 73, 74, 75, 76, 77, 78, 79, 80, 81, 82, 83, 84, 85, 86, 87, 88, 89, 90, 91, 92, 93, 94, 95, 96, 97], [0, 1, 2, 3, 4, 5, 6, 7, 8, 9, 10, 11, 12, 13, 14, 15, 16, 17, 18, 19, 20, 21, 22, 23, 24, 25, 26, 27, 28])] Try.f3 = some (ac3, [.tmp 4], 98) := by kernel_rfl
theorem drawTerm_calls (c : List UInt8) (hc : c.length ≤ 1048576) (H : Heap) : ACalls Try.prog 12 [.c (.d (.sl (bytesRows c)))] H (fun r H' => H' = H ∧ TmR r) := by
  refine acalls Try.func12 (by kernel_rfl) ac12_ok fun hf => ?_
  simp -implicitDefEqProofs [ac12, aw_skip, aw_region, aw_seq, aw_block, aw_cond, aw_exit, aw_ret, kq_nil, kq_seq, kq_seq_ret, kq_seq_exit, kq_block, kq_block_ret, kq_block_exit, kq_loop, kq_loop_ret, kq_loop_exit, awOps_nil, awOps_cons, awOps_guardE, nx_eq, awOp, ev_k, ev_0, ev_1, ev_2, ev_3, ev_4, ev_5, ev_6, ev_7, ev_8, set_0, set_1, set_2, set_3, set_4, set_5, set_6, set_7, set_8, -List.set_cons_succ, -List.set_cons_zero, A.ok, A.val, setSl, wrapG, guardB, getB, pickA, binA, binC, binD, cmpD, isCmp, unA, unD, lenA, AOp.total, kills, litB, FinQ, resOks, resOk, resA, resList, resOne, A.thaw, C.thaw, A.fits, As.fits, C.fits, evs, oks, callArgs, A.pure, C.pure, A.re, C.re, fieldAddrA, loadC, cut, A.cells, C.rows?, getOb, newOb, setOb, storeC, splice, Ob.re, Cs.fits, partsA, partsOk, parts2A, parts2Ok, fillC, fillRows, optInt, optOk, sliceA, optK_some, storeK_some, Option.map_some, toDs, C.toD, spliceD, appendA, capsOf, srcRows, allLen_nil_iff, allLen_cons_iff, allLen_append_iff, dropC, Obs.fits, eqCs, eqD]
  refine (open_calls c hc _).mono fun r H' ⟨h1, c', hc', h2⟩ => ⟨H, [.cells [.d (.int .i64 0), .d (.int .i64 0), .d (.str []), .full []], Rd c' 0], .c (.ptr (.l 1) 0), by rw [h2]; simp [Rd, Ob.re, C.re], rfl, by simp, hf, by rw [h1]; simp [A.re, C.re, Ref.re], ?_⟩
  simp -implicitDefEqProofs [aw_skip, aw_region, aw_seq, aw_block, aw_cond, aw_exit, aw_ret, kq_nil, kq_seq, kq_seq_ret, kq_seq_exit, kq_block, kq_block_ret, kq_block_exit, kq_loop, kq_loop_ret, kq_loop_exit, awOps_nil, awOps_cons, awOps_guardE, nx_eq, awOp, ev_k, ev_0, ev_1, ev_2, ev_3, ev_4, ev_5, ev_6, ev_7, ev_8, set_0, set_1, set_2, set_3, set_4, set_5, set_6, set_7, set_8, -List.set_cons_succ, -List.set_cons_zero, A.ok, A.val, setSl, wrapG, guardB, getB, pickA, binA, binC, binD, cmpD, isCmp, unA, unD, lenA, AOp.total, kills, litB, FinQ, resOks, resOk, resA, resList, resOne, A.thaw, C.thaw, A.fits, As.fits, C.fits, evs, oks, callArgs, A.pure, C.pure, A.re, C.re, fieldAddrA, loadC, cut, A.cells, C.rows?, getOb, newOb, setOb, storeC, splice, Ob.re, Cs.fits, partsA, partsOk, parts2A, parts2Ok, fillC, fillRows, optInt, optOk, sliceA, optK_some, storeK_some, Option.map_some, toDs, C.toD, spliceD, appendA, capsOf, srcRows, allLen_nil_iff, allLen_cons_iff, allLen_append_iff, dropC, Obs.fits, eqCs, eqD]
  refine call_drawL (j := 1) l1Some_draws hc' (by omega) (by omega) rfl (by simp [Rd, Ob.re, C.re]) (fun r => TmR.re) hf ?_
  rintro _ q2 ⟨t, rfl, ht⟩ h5 h6
  simp -implicitDefEqProofs [row_len, take_row, pure_d, re_d, aw_skip, aw_region, aw_seq, aw_block, aw_cond, aw_exit, aw_ret, kq_nil, kq_seq, kq_seq_ret, kq_seq_exit, kq_block, kq_block_ret, kq_block_exit, kq_loop, kq_loop_ret, kq_loop_exit, awOps_nil, awOps_cons, awOps_guardE, nx_eq, awOp, ev_k, ev_0, ev_1, ev_2, ev_3, ev_4, ev_5, ev_6, ev_7, ev_8, set_0, set_1, set_2, set_3, set_4, set_5, set_6, set_7, set_8, -List.set_cons_succ, -List.set_cons_zero, A.ok, A.val, setSl, wrapG, guardB, getB, pickA, binA, binC, binD, cmpD, isCmp, unA, unD, lenA, AOp.total, kills, litB, FinQ, resOks, resOk, resA, resList, resOne, A.thaw, C.thaw, A.fits, As.fits, C.fits, evs, oks, callArgs, A.pure, C.pure, A.re, C.re, fieldAddrA, loadC, cut, A.cells, C.rows?, getOb, newOb, setOb, storeC, splice, Ob.re, Cs.fits, partsA, partsOk, parts2A, parts2Ok, fillC, fillRows, optInt, optOk, sliceA, optK_some, storeK_some, Option.map_some, toDs, C.toD, spliceD, appendA, capsOf, srcRows, allLen_nil_iff, allLen_cons_iff, allLen_append_iff, dropC, Obs.fits, eqCs, eqD]
  refine call_drawL (j := 1) (l1Mutate_draws t ht) hc' (by omega) (by omega) rfl (by simp [Rd, Ob.re, C.re]) (fun r => TmR.re) hf ?_
  rintro _ q3 ⟨u, rfl, hu⟩ h7 h8
  obtain ⟨uk, un, us, ul⟩ := u
  rw [row_mk]
  simp -implicitDefEqProofs [hf, aw_skip, aw_region, aw_seq, aw_block, aw_cond, aw_exit, aw_ret, kq_nil, kq_seq, kq_seq_ret, kq_seq_exit, kq_block, kq_block_ret, kq_block_exit, kq_loop, kq_loop_ret, kq_loop_exit, awOps_nil, awOps_cons, awOps_guardE, nx_eq, awOp, ev_k, ev_0, ev_1, ev_2, ev_3, ev_4, ev_5, ev_6, ev_7, ev_8, set_0, set_1, set_2, set_3, set_4, set_5, set_6, set_7, set_8, -List.set_cons_succ, -List.set_cons_zero, A.ok, A.val, setSl, wrapG, guardB, getB, pickA, binA, binC, binD, cmpD, isCmp, unA, unD, lenA, AOp.total, kills, litB, FinQ, resOks, resOk, resA, resList, resOne, A.thaw, C.thaw, A.fits, As.fits, C.fits, evs, oks, callArgs, A.pure, C.pure, A.re, C.re, fieldAddrA, loadC, cut, A.cells, C.rows?, getOb, newOb, setOb, storeC, splice, Ob.re, Cs.fits, partsA, partsOk, parts2A, parts2Ok, fillC, fillRows, optInt, optOk, sliceA, optK_some, storeK_some, Option.map_some, toDs, C.toD, spliceD, appendA, capsOf, srcRows, allLen_nil_iff, allLen_cons_iff, allLen_append_iff, dropC, Obs.fits, eqCs, eqD]
  exact ⟨_, by rw [row_mk]; rfl, hu⟩
theorem listOf_nil {t : Tm} {l : List Tm} (h : listOf t = (l, false)) : l = [] := by
  unfold listOf at h
  split at h
  · simp at h
  · simp only [Prod.mk.injEq, and_true] at h
    exact h.symm
theorem tlLaw_calls (a b : List UInt8) (ha : a.length ≤ reachBytes) (hb : b.length ≤ reachBytes) : ACalls Try.prog 3 [.c (.d (.sl (bytesRows a))), .c (.d (.sl (bytesRows b)))] [] (fun r _ => r = .c (.d (.bool true))) := by
  refine acalls Try.func3 (by kernel_rfl) ac3_ok fun hf => ?_
  have hla := reach_i64 ha
  have hlb := reach_i64 hb
  simp -implicitDefEqProofs [ac3, hla, hlb, bytesRows_len, aw_skip, aw_region, aw_seq, aw_block, aw_cond, aw_exit, aw_ret, kq_nil, kq_seq, kq_seq_ret, kq_seq_exit, kq_block, kq_block_ret, kq_block_exit, kq_loop, kq_loop_ret, kq_loop_exit, awOps_nil, awOps_cons, awOps_guardE, nx_eq, awOp, ev_k, ev_0, ev_1, ev_2, ev_3, ev_4, ev_5, ev_6, ev_7, ev_8, set_0, set_1, set_2, set_3, set_4, set_5, set_6, set_7, set_8, -List.set_cons_succ, -List.set_cons_zero, A.ok, A.val, setSl, wrapG, guardB, getB, pickA, binA, binC, binD, cmpD, isCmp, unA, unD, lenA, AOp.total, kills, litB, FinQ, resOks, resOk, resA, resList, resOne, A.thaw, C.thaw, A.fits, As.fits, C.fits, evs, oks, callArgs, A.pure, C.pure, A.re, C.re, fieldAddrA, loadC, cut, A.cells, C.rows?, getOb, newOb, setOb, storeC, splice, Ob.re, Cs.fits, partsA, partsOk, parts2A, parts2Ok, fillC, fillRows, optInt, optOk, sliceA, optK_some, storeK_some, Option.map_some, toDs, C.toD, spliceD, appendA, capsOf, srcRows, allLen_nil_iff, allLen_cons_iff, allLen_append_iff, dropC, Obs.fits, eqCs, eqD]
  intro hle hle'
  have hle : a.length ≤ 1048576 := by omega
  have hle' : b.length ≤ 1048576 := by omega
  refine call_some (drawListOf_calls a hle _) (by simp) (fun r => TmR.re) hf ?_
  rintro _ ⟨t, rfl, ht⟩
  simp -implicitDefEqProofs [row_len, take_row, pure_d, re_d, hf, aw_skip, aw_region, aw_seq, aw_block, aw_cond, aw_exit, aw_ret, kq_nil, kq_seq, kq_seq_ret, kq_seq_exit, kq_block, kq_block_ret, kq_block_exit, kq_loop, kq_loop_ret, kq_loop_exit, awOps_nil, awOps_cons, awOps_guardE, nx_eq, awOp, ev_k, ev_0, ev_1, ev_2, ev_3, ev_4, ev_5, ev_6, ev_7, ev_8, set_0, set_1, set_2, set_3, set_4, set_5, set_6, set_7, set_8, -List.set_cons_succ, -List.set_cons_zero, A.ok, A.val, setSl, wrapG, guardB, getB, pickA, binA, binC, binD, cmpD, isCmp, unA, unD, lenA, AOp.total, kills, litB, FinQ, resOks, resOk, resA, resList, resOne, A.thaw, C.thaw, A.fits, As.fits, C.fits, evs, oks, callArgs, A.pure, C.pure, A.re, C.re, fieldAddrA, loadC, cut, A.cells, C.rows?, getOb, newOb, setOb, storeC, splice, Ob.re, Cs.fits, partsA, partsOk, parts2A, parts2Ok, fillC, fillRows, optInt, optOk, sliceA, optK_some, storeK_some, Option.map_some, toDs, C.toD, spliceD, appendA, capsOf, srcRows, allLen_nil_iff, allLen_cons_iff, allLen_append_iff, dropC, Obs.fits, eqCs, eqD]
  refine qcall_pure (lfImpl_calls t ht) hf (by simp [A.re, A.res, C.re, re_d]) ?_
  simp -implicitDefEqProofs [row_len, take_row, pure_d, re_d, hf, aw_skip, aw_region, aw_seq, aw_block, aw_cond, aw_exit, aw_ret, kq_nil, kq_seq, kq_seq_ret, kq_seq_exit, kq_block, kq_block_ret, kq_block_exit, kq_loop, kq_loop_ret, kq_loop_exit, awOps_nil, awOps_cons, awOps_guardE, nx_eq, awOp, ev_k, ev_0, ev_1, ev_2, ev_3, ev_4, ev_5, ev_6, ev_7, ev_8, set_0, set_1, set_2, set_3, set_4, set_5, set_6, set_7, set_8, -List.set_cons_succ, -List.set_cons_zero, A.ok, A.val, setSl, wrapG, guardB, getB, pickA, binA, binC, binD, cmpD, isCmp, unA, unD, lenA, AOp.total, kills, litB, FinQ, resOks, resOk, resA, resList, resOne, A.thaw, C.thaw, A.fits, As.fits, C.fits, evs, oks, callArgs, A.pure, C.pure, A.re, C.re, fieldAddrA, loadC, cut, A.cells, C.rows?, getOb, newOb, setOb, storeC, splice, Ob.re, Cs.fits, partsA, partsOk, parts2A, parts2Ok, fillC, fillRows, optInt, optOk, sliceA, optK_some, storeK_some, Option.map_some, toDs, C.toD, spliceD, appendA, capsOf, srcRows, allLen_nil_iff, allLen_cons_iff, allLen_append_iff, dropC, Obs.fits, eqCs, eqD]
  refine qcall_pure (lfSpec_calls t ht) hf (by simp [A.re, A.res, C.re, re_d]) ?_
  simp -implicitDefEqProofs [row_len, take_row, pure_d, re_d, hf, aw_skip, aw_region, aw_seq, aw_block, aw_cond, aw_exit, aw_ret, kq_nil, kq_seq, kq_seq_ret, kq_seq_exit, kq_block, kq_block_ret, kq_block_exit, kq_loop, kq_loop_ret, kq_loop_exit, awOps_nil, awOps_cons, awOps_guardE, nx_eq, awOp, ev_k, ev_0, ev_1, ev_2, ev_3, ev_4, ev_5, ev_6, ev_7, ev_8, set_0, set_1, set_2, set_3, set_4, set_5, set_6, set_7, set_8, -List.set_cons_succ, -List.set_cons_zero, A.ok, A.val, setSl, wrapG, guardB, getB, pickA, binA, binC, binD, cmpD, isCmp, unA, unD, lenA, AOp.total, kills, litB, FinQ, resOks, resOk, resA, resList, resOne, A.thaw, C.thaw, A.fits, As.fits, C.fits, evs, oks, callArgs, A.pure, C.pure, A.re, C.re, fieldAddrA, loadC, cut, A.cells, C.rows?, getOb, newOb, setOb, storeC, splice, Ob.re, Cs.fits, partsA, partsOk, parts2A, parts2Ok, fillC, fillRows, optInt, optOk, sliceA, optK_some, storeK_some, Option.map_some, toDs, C.toD, spliceD, appendA, capsOf, srcRows, allLen_nil_iff, allLen_cons_iff, allLen_append_iff, dropC, Obs.fits, eqCs, eqD]
  refine call_some (drawTerm_calls b hle' _) (by simp [Ob.re, re_d]) (fun r => TmR.re) hf ?_
  rintro _ ⟨x, rfl, hx⟩
  simp -implicitDefEqProofs [row_len, take_row, toDs_map, pure_d, re_d, hf, aw_skip, aw_region, aw_seq, aw_block, aw_cond, aw_exit, aw_ret, kq_nil, kq_seq, kq_seq_ret, kq_seq_exit, kq_block, kq_block_ret, kq_block_exit, kq_loop, kq_loop_ret, kq_loop_exit, awOps_nil, awOps_cons, awOps_guardE, nx_eq, awOp, ev_k, ev_0, ev_1, ev_2, ev_3, ev_4, ev_5, ev_6, ev_7, ev_8, set_0, set_1, set_2, set_3, set_4, set_5, set_6, set_7, set_8, -List.set_cons_succ, -List.set_cons_zero, A.ok, A.val, setSl, wrapG, guardB, getB, pickA, binA, binC, binD, cmpD, isCmp, unA, unD, lenA, AOp.total, kills, litB, FinQ, resOks, resOk, resA, resList, resOne, A.thaw, C.thaw, A.fits, As.fits, C.fits, evs, oks, callArgs, A.pure, C.pure, A.re, C.re, fieldAddrA, loadC, cut, A.cells, C.rows?, getOb, newOb, setOb, storeC, splice, Ob.re, Cs.fits, partsA, partsOk, parts2A, parts2Ok, fillC, fillRows, optInt, optOk, sliceA, optK_some, storeK_some, Option.map_some, toDs, C.toD, spliceD, appendA, capsOf, srcRows, allLen_nil_iff, allLen_cons_iff, allLen_append_iff, dropC, Obs.fits, eqCs, eqD]
  have hmf := mkT_fits (l := [x]) (t := t) (by simpa using hx) ht
  have hmi := mkImpl_calls [x] (by simp) (by simpa using hx) t ht
  have hmk := fun u => list_mk (l := [x]) (t := t) (u := u)
  obtain ⟨h3, h4⟩ := listOf_fits ht
  generalize mkT [x] t = y at hmf hmi hmk ⊢
  obtain ⟨u, fine⟩ := y
  simp only [List.map_cons, List.map_nil] at hmf hmi hmk
  refine qcall_pure hmi hf (by simp [A.re, A.res, C.re, re_d]) ?_
  simp -implicitDefEqProofs [row_len, take_row, pure_d, re_d, hf, aw_skip, aw_region, aw_seq, aw_block, aw_cond, aw_exit, aw_ret, kq_nil, kq_seq, kq_seq_ret, kq_seq_exit, kq_block, kq_block_ret, kq_block_exit, kq_loop, kq_loop_ret, kq_loop_exit, awOps_nil, awOps_cons, awOps_guardE, nx_eq, awOp, ev_k, ev_0, ev_1, ev_2, ev_3, ev_4, ev_5, ev_6, ev_7, ev_8, set_0, set_1, set_2, set_3, set_4, set_5, set_6, set_7, set_8, -List.set_cons_succ, -List.set_cons_zero, A.ok, A.val, setSl, wrapG, guardB, getB, pickA, binA, binC, binD, cmpD, isCmp, unA, unD, lenA, AOp.total, kills, litB, FinQ, resOks, resOk, resA, resList, resOne, A.thaw, C.thaw, A.fits, As.fits, C.fits, evs, oks, callArgs, A.pure, C.pure, A.re, C.re, fieldAddrA, loadC, cut, A.cells, C.rows?, getOb, newOb, setOb, storeC, splice, Ob.re, Cs.fits, partsA, partsOk, parts2A, parts2Ok, fillC, fillRows, optInt, optOk, sliceA, optK_some, storeK_some, Option.map_some, toDs, C.toD, spliceD, appendA, capsOf, srcRows, allLen_nil_iff, allLen_cons_iff, allLen_append_iff, dropC, Obs.fits, eqCs, eqD]
  generalize hlo : listOf t = y at hmk h3 h4 ⊢
  obtain ⟨rest, ok⟩ := y
  simp only at hmk h3 h4 ⊢
  refine qcall_pure (pgTerms_calls rest (by omega) h4) hf rfl ?_
  cases fine with
  | false =>
    simp -implicitDefEqProofs [row_len, take_row, pure_d, re_d, hf, aw_skip, aw_region, aw_seq, aw_block, aw_cond, aw_exit, aw_ret, kq_nil, kq_seq, kq_seq_ret, kq_seq_exit, kq_block, kq_block_ret, kq_block_exit, kq_loop, kq_loop_ret, kq_loop_exit, awOps_nil, awOps_cons, awOps_guardE, nx_eq, awOp, ev_k, ev_0, ev_1, ev_2, ev_3, ev_4, ev_5, ev_6, ev_7, ev_8, set_0, set_1, set_2, set_3, set_4, set_5, set_6, set_7, set_8, -List.set_cons_succ, -List.set_cons_zero, A.ok, A.val, setSl, wrapG, guardB, getB, pickA, binA, binC, binD, cmpD, isCmp, unA, unD, lenA, AOp.total, kills, litB, FinQ, resOks, resOk, resA, resList, resOne, A.thaw, C.thaw, A.fits, As.fits, C.fits, evs, oks, callArgs, A.pure, C.pure, A.re, C.re, fieldAddrA, loadC, cut, A.cells, C.rows?, getOb, newOb, setOb, storeC, splice, Ob.re, Cs.fits, partsA, partsOk, parts2A, parts2Ok, fillC, fillRows, optInt, optOk, sliceA, optK_some, storeK_some, Option.map_some, toDs, C.toD, spliceD, appendA, capsOf, srcRows, allLen_nil_iff, allLen_cons_iff, allLen_append_iff, dropC, Obs.fits, eqCs, eqD]
    refine qcall_pure (pgTerms_calls rest (by omega) h4) hf rfl ?_
    simp -implicitDefEqProofs [hf, aw_skip, aw_region, aw_seq, aw_block, aw_cond, aw_exit, aw_ret, kq_nil, kq_seq, kq_seq_ret, kq_seq_exit, kq_block, kq_block_ret, kq_block_exit, kq_loop, kq_loop_ret, kq_loop_exit, awOps_nil, awOps_cons, awOps_guardE, nx_eq, awOp, ev_k, ev_0, ev_1, ev_2, ev_3, ev_4, ev_5, ev_6, ev_7, ev_8, set_0, set_1, set_2, set_3, set_4, set_5, set_6, set_7, set_8, -List.set_cons_succ, -List.set_cons_zero, A.ok, A.val, setSl, wrapG, guardB, getB, pickA, binA, binC, binD, cmpD, isCmp, unA, unD, lenA, AOp.total, kills, litB, FinQ, resOks, resOk, resA, resList, resOne, A.thaw, C.thaw, A.fits, As.fits, C.fits, evs, oks, callArgs, A.pure, C.pure, A.re, C.re, fieldAddrA, loadC, cut, A.cells, C.rows?, getOb, newOb, setOb, storeC, splice, Ob.re, Cs.fits, partsA, partsOk, parts2A, parts2Ok, fillC, fillRows, optInt, optOk, sliceA, optK_some, storeK_some, Option.map_some, toDs, C.toD, spliceD, appendA, capsOf, srcRows, allLen_nil_iff, allLen_cons_iff, allLen_append_iff, dropC, Obs.fits, eqCs, eqD]
  | true =>
    obtain ⟨e1, e2, e3⟩ := hmk u rfl
    obtain ⟨h1, h2⟩ := listOf_fits hmf
    simp -implicitDefEqProofs [row_len, take_row, pure_d, re_d, hf, aw_skip, aw_region, aw_seq, aw_block, aw_cond, aw_exit, aw_ret, kq_nil, kq_seq, kq_seq_ret, kq_seq_exit, kq_block, kq_block_ret, kq_block_exit, kq_loop, kq_loop_ret, kq_loop_exit, awOps_nil, awOps_cons, awOps_guardE, nx_eq, awOp, ev_k, ev_0, ev_1, ev_2, ev_3, ev_4, ev_5, ev_6, ev_7, ev_8, set_0, set_1, set_2, set_3, set_4, set_5, set_6, set_7, set_8, -List.set_cons_succ, -List.set_cons_zero, A.ok, A.val, setSl, wrapG, guardB, getB, pickA, binA, binC, binD, cmpD, isCmp, unA, unD, lenA, AOp.total, kills, litB, FinQ, resOks, resOk, resA, resList, resOne, A.thaw, C.thaw, A.fits, As.fits, C.fits, evs, oks, callArgs, A.pure, C.pure, A.re, C.re, fieldAddrA, loadC, cut, A.cells, C.rows?, getOb, newOb, setOb, storeC, splice, Ob.re, Cs.fits, partsA, partsOk, parts2A, parts2Ok, fillC, fillRows, optInt, optOk, sliceA, optK_some, storeK_some, Option.map_some, toDs, C.toD, spliceD, appendA, capsOf, srcRows, allLen_nil_iff, allLen_cons_iff, allLen_append_iff, dropC, Obs.fits, eqCs, eqD]
    refine qcall_pure (lfImpl_calls u hmf) hf (by simp [A.re, A.res, C.re, re_d]) ?_
    generalize hlu : listOf u = y at e2 e3 h1 h2 ⊢
    obtain ⟨longer, closed⟩ := y
    simp only at e2 e3 h1 h2 ⊢
    subst e2
    cases closed with
    | false =>
      obtain rfl := listOf_nil hlu
      obtain rfl := listOf_nil hlo
      simp -implicitDefEqProofs [row_len, take_row, pure_d, re_d, hf, aw_skip, aw_region, aw_seq, aw_block, aw_cond, aw_exit, aw_ret, kq_nil, kq_seq, kq_seq_ret, kq_seq_exit, kq_block, kq_block_ret, kq_block_exit, kq_loop, kq_loop_ret, kq_loop_exit, awOps_nil, awOps_cons, awOps_guardE, nx_eq, awOp, ev_k, ev_0, ev_1, ev_2, ev_3, ev_4, ev_5, ev_6, ev_7, ev_8, set_0, set_1, set_2, set_3, set_4, set_5, set_6, set_7, set_8, -List.set_cons_succ, -List.set_cons_zero, A.ok, A.val, setSl, wrapG, guardB, getB, pickA, binA, binC, binD, cmpD, isCmp, unA, unD, lenA, AOp.total, kills, litB, FinQ, resOks, resOk, resA, resList, resOne, A.thaw, C.thaw, A.fits, As.fits, C.fits, evs, oks, callArgs, A.pure, C.pure, A.re, C.re, fieldAddrA, loadC, cut, A.cells, C.rows?, getOb, newOb, setOb, storeC, splice, Ob.re, Cs.fits, partsA, partsOk, parts2A, parts2Ok, fillC, fillRows, optInt, optOk, sliceA, optK_some, storeK_some, Option.map_some, toDs, C.toD, spliceD, appendA, capsOf, srcRows, allLen_nil_iff, allLen_cons_iff, allLen_append_iff, dropC, Obs.fits, eqCs, eqD]
      refine ⟨fun h => (by cases h), x.row, fun h => (by cases h), ?_⟩
      simp -implicitDefEqProofs [row_len, take_row, pure_d, re_d, hf, aw_skip, aw_region, aw_seq, aw_block, aw_cond, aw_exit, aw_ret, kq_nil, kq_seq, kq_seq_ret, kq_seq_exit, kq_block, kq_block_ret, kq_block_exit, kq_loop, kq_loop_ret, kq_loop_exit, awOps_nil, awOps_cons, awOps_guardE, nx_eq, awOp, ev_k, ev_0, ev_1, ev_2, ev_3, ev_4, ev_5, ev_6, ev_7, ev_8, set_0, set_1, set_2, set_3, set_4, set_5, set_6, set_7, set_8, -List.set_cons_succ, -List.set_cons_zero, A.ok, A.val, setSl, wrapG, guardB, getB, pickA, binA, binC, binD, cmpD, isCmp, unA, unD, lenA, AOp.total, kills, litB, FinQ, resOks, resOk, resA, resList, resOne, A.thaw, C.thaw, A.fits, As.fits, C.fits, evs, oks, callArgs, A.pure, C.pure, A.re, C.re, fieldAddrA, loadC, cut, A.cells, C.rows?, getOb, newOb, setOb, storeC, splice, Ob.re, Cs.fits, partsA, partsOk, parts2A, parts2Ok, fillC, fillRows, optInt, optOk, sliceA, optK_some, storeK_some, Option.map_some, toDs, C.toD, spliceD, appendA, capsOf, srcRows, allLen_nil_iff, allLen_cons_iff, allLen_append_iff, dropC, Obs.fits, eqCs, eqD]
    | true =>
      have e3 := e3 rfl
      subst e3
      simp -implicitDefEqProofs [row_len, take_row, pure_d, re_d, hf, aw_skip, aw_region, aw_seq, aw_block, aw_cond, aw_exit, aw_ret, kq_nil, kq_seq, kq_seq_ret, kq_seq_exit, kq_block, kq_block_ret, kq_block_exit, kq_loop, kq_loop_ret, kq_loop_exit, awOps_nil, awOps_cons, awOps_guardE, nx_eq, awOp, ev_k, ev_0, ev_1, ev_2, ev_3, ev_4, ev_5, ev_6, ev_7, ev_8, set_0, set_1, set_2, set_3, set_4, set_5, set_6, set_7, set_8, -List.set_cons_succ, -List.set_cons_zero, A.ok, A.val, setSl, wrapG, guardB, getB, pickA, binA, binC, binD, cmpD, isCmp, unA, unD, lenA, AOp.total, kills, litB, FinQ, resOks, resOk, resA, resList, resOne, A.thaw, C.thaw, A.fits, As.fits, C.fits, evs, oks, callArgs, A.pure, C.pure, A.re, C.re, fieldAddrA, loadC, cut, A.cells, C.rows?, getOb, newOb, setOb, storeC, splice, Ob.re, Cs.fits, partsA, partsOk, parts2A, parts2Ok, fillC, fillRows, optInt, optOk, sliceA, optK_some, storeK_some, Option.map_some, toDs, C.toD, spliceD, appendA, capsOf, srcRows, allLen_nil_iff, allLen_cons_iff, allLen_append_iff, dropC, Obs.fits, eqCs, eqD]
      refine ⟨small_i64 (by omega) (by omega), small_i64 (by omega) (by omega), small_i64 (by omega) (by omega), row_int x.row (by omega) rfl (row_len x) ?_⟩
      simp -implicitDefEqProofs [row_len, take_row, pure_d, re_d, hf, aw_skip, aw_region, aw_seq, aw_block, aw_cond, aw_exit, aw_ret, kq_nil, kq_seq, kq_seq_ret, kq_seq_exit, kq_block, kq_block_ret, kq_block_exit, kq_loop, kq_loop_ret, kq_loop_exit, awOps_nil, awOps_cons, awOps_guardE, nx_eq, awOp, ev_k, ev_0, ev_1, ev_2, ev_3, ev_4, ev_5, ev_6, ev_7, ev_8, set_0, set_1, set_2, set_3, set_4, set_5, set_6, set_7, set_8, -List.set_cons_succ, -List.set_cons_zero, A.ok, A.val, setSl, wrapG, guardB, getB, pickA, binA, binC, binD, cmpD, isCmp, unA, unD, lenA, AOp.total, kills, litB, FinQ, resOks, resOk, resA, resList, resOne, A.thaw, C.thaw, A.fits, As.fits, C.fits, evs, oks, callArgs, A.pure, C.pure, A.re, C.re, fieldAddrA, loadC, cut, A.cells, C.rows?, getOb, newOb, setOb, storeC, splice, Ob.re, Cs.fits, partsA, partsOk, parts2A, parts2Ok, fillC, fillRows, optInt, optOk, sliceA, optK_some, storeK_some, Option.map_some, toDs, C.toD, spliceD, appendA, capsOf, srcRows, allLen_nil_iff, allLen_cons_iff, allLen_append_iff, dropC, Obs.fits, eqCs, eqD]
      refine qcall_pure (sameImpl_calls x hx x hx) hf rfl ?_
      simp -implicitDefEqProofs [row_len, take_row, pure_d, re_d, hf, aw_skip, aw_region, aw_seq, aw_block, aw_cond, aw_exit, aw_ret, kq_nil, kq_seq, kq_seq_ret, kq_seq_exit, kq_block, kq_block_ret, kq_block_exit, kq_loop, kq_loop_ret, kq_loop_exit, awOps_nil, awOps_cons, awOps_guardE, nx_eq, awOp, ev_k, ev_0, ev_1, ev_2, ev_3, ev_4, ev_5, ev_6, ev_7, ev_8, set_0, set_1, set_2, set_3, set_4, set_5, set_6, set_7, set_8, -List.set_cons_succ, -List.set_cons_zero, A.ok, A.val, setSl, wrapG, guardB, getB, pickA, binA, binC, binD, cmpD, isCmp, unA, unD, lenA, AOp.total, kills, litB, FinQ, resOks, resOk, resA, resList, resOne, A.thaw, C.thaw, A.fits, As.fits, C.fits, evs, oks, callArgs, A.pure, C.pure, A.re, C.re, fieldAddrA, loadC, cut, A.cells, C.rows?, getOb, newOb, setOb, storeC, splice, Ob.re, Cs.fits, partsA, partsOk, parts2A, parts2Ok, fillC, fillRows, optInt, optOk, sliceA, optK_some, storeK_some, Option.map_some, toDs, C.toD, spliceD, appendA, capsOf, srcRows, allLen_nil_iff, allLen_cons_iff, allLen_append_iff, dropC, Obs.fits, eqCs, eqD]
      refine ⟨allLen_map row_len, by omega, ?_⟩
      refine qcall_pure (pgTerms_calls rest (by omega) h4) hf rfl ?_
      simp -implicitDefEqProofs [hf, aw_skip, aw_region, aw_seq, aw_block, aw_cond, aw_exit, aw_ret, kq_nil, kq_seq, kq_seq_ret, kq_seq_exit, kq_block, kq_block_ret, kq_block_exit, kq_loop, kq_loop_ret, kq_loop_exit, awOps_nil, awOps_cons, awOps_guardE, nx_eq, awOp, ev_k, ev_0, ev_1, ev_2, ev_3, ev_4, ev_5, ev_6, ev_7, ev_8, set_0, set_1, set_2, set_3, set_4, set_5, set_6, set_7, set_8, -List.set_cons_succ, -List.set_cons_zero, A.ok, A.val, setSl, wrapG, guardB, getB, pickA, binA, binC, binD, cmpD, isCmp, unA, unD, lenA, AOp.total, kills, litB, FinQ, resOks, resOk, resA, resList, resOne, A.thaw, C.thaw, A.fits, As.fits, C.fits, evs, oks, callArgs, A.pure, C.pure, A.re, C.re, fieldAddrA, loadC, cut, A.cells, C.rows?, getOb, newOb, setOb, storeC, splice, Ob.re, Cs.fits, partsA, partsOk, parts2A, parts2Ok, fillC, fillRows, optInt, optOk, sliceA, optK_some, storeK_some, Option.map_some, toDs, C.toD, spliceD, appendA, capsOf, srcRows, allLen_nil_iff, allLen_cons_iff, allLen_append_iff, dropC, Obs.fits, eqCs, eqD]
theorem law_run3 (rows : List (List D)) (hr : HasTys Try.prog (#[22, 22] : Array TypeId).toList rows) : ACalls Try.prog 3 (argsA Try.prog (#[22, 22] : Array TypeId).toList rows) [] (fun r _ => r = .c (.d (.bool true))) := by
  obtain ⟨r, rs, rfl, h1, h2⟩ := hr.cons
  obtain ⟨r', rs, rfl, h2', h3⟩ := h2.cons
  obtain rfl := h3.nil
  obtain ⟨s, rfl, hs⟩ := bytes_ty h1
  obtain ⟨s', rfl, hs'⟩ := bytes_ty h2'
  simp only [argsA, argA, Try.underlying22, List.headD_cons]
  exact tlLaw_calls s s' hs hs'
namespace fnListTail
theorem own : ownKnob Try.prog.godebug = none := by kernel_rfl
theorem contract (H : Type) (enc : TypeId × Value → H) (W : World) (base : Nat) (args : Array Value) (ds gs : List (DataW H)) (before : List MemPlace)
    (hval : ∀ (j : Nat) t v, Try.f3.params[j]? = some t → args[j]? = some v → Value.okWide Try.prog W .any base t v)
    (hW : DataW.Whole enc Try.prog Try.f3.params.toList Rows.fnListTailSpec.vars false W args.toList ds gs before)
    (hw : (DataW.weightsEach Try.prog (Try.f3.params.toList ++ Rows.fnListTailSpec.plain.varTypes Try.prog) (ds ++ gs)).all (· ≤ reachBytes) = true) :
    Calls Try.prog 3 args W fun e W' => ∃ v, e = .returned v ∧ Rows.fnListTailSpec.post enc Try.prog Try.f3 false true false false W args v W' := by
  refine law_contract (L := [5, 22]) (tb := 4) (by kernel_rfl) (by kernel_rfl) (by kernel_rfl) rfl ?_ (by kernel_rfl) Try.underlying4 ?_ W base args ds gs before hval hW hw
  · intro ds hl
    match ds, hl with
    | [d0, d1], _ => rfl
  · intro rows hr
    rw [Try.params3] at hr ⊢
    exact law_run3 rows hr

theorem lifted (os : Os) (started : os.Started) (H : Type) (enc : TypeId × Value → H) :
    ReturnsInHanded {} Try.checked os 3 .any (Rows.fnListTailSpec.pre6 enc Try.prog Try.f3 Rows.fnListTailRow.domain false) (Rows.fnListTailSpec.post enc Try.prog Try.f3 false true false false) := by
  refine returnsInHanded_of_change_sized (C := Try.checked) own started (by kernel_rfl) Try.func3
    (ChangeSpec.witness6 (enc := enc) (C := Try.checked) false ⟨#[], #[.slice none 0 0, .slice none 0 0], []⟩ 8 (by kernel_rfl) (by kernel_rfl) (by kernel_rfl) (by kernel_rfl)) ?_
  intro W base args ds gs before hval hW _ hw _
  exact contract H enc W base args ds gs before hval hW hw

theorem proved : Rows.FnListTailSaid :=
  OpenClaim.holds_of_wide 3 Try.f3 rfl rfl rfl rfl rfl rfl rfl ⟨rfl, rfl, rfl, rfl, rfl⟩ rfl rfl rfl rfl rfl (by kernel_rfl) Try.func3 (by kernel_rfl)
    (of_decide_eq_true (by kernel_rfl)) (by unfold Func.isWrapper; first | (rw [if_pos (by decide +kernel)]; kernel_rfl) | (rw [if_neg (by decide +kernel)]; exact ⟨rfl, rfl⟩))
    (fun os started H enc _ => lifted os started H enc)
end fnListTail

end Go.Proofs.Ytnpncfadhflapaa
