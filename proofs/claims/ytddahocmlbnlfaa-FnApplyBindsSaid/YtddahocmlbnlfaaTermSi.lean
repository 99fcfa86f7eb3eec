/-
  TermSame of the program.
  Conditions: none.
-/
import Derived.Test.YtddahocmlbnlfaaTerm
open Go Go.AM Go.Proofs
namespace Go.Proofs.Ytddahocmlbnlfaa
open Go.ChangeShapes Go.WideShapes Go.ChangeAt Go.RowKit
set_option linter.unusedVariables false
set_option linter.unusedSimpArgs false
set_option maxRecDepth 100000
-- 8 loop.example/prologserver/impl.TermSame params 2 ntmps 31
def ac8 : Cd := .seq (.region [⟨(some 2), .box (.t 0), none⟩,
      ⟨(some 3), .box (.t 1), none⟩,
      ⟨(some 4), .mv (.k (.c (.d (.bool false)))), none⟩] [0, 1, 4])
  (.seq (.region [⟨(some 5), .fieldAddr 0 (.t 2), none⟩,
      ⟨(some 6), .load none (.t 5), none⟩,
      ⟨(some 7), .fieldAddr 0 (.t 3), none⟩,
      ⟨(some 8), .load none (.t 7), none⟩,
      ⟨(some 9), .bin .eql (.t 6) (.t 8), none⟩,
      ⟨(some 10), .mv (.t 9), none⟩,
      ⟨(some 11), .fieldAddr 1 (.t 2), some (10, true)⟩,
      ⟨(some 12), .load none (.t 11), some (10, true)⟩,
      ⟨(some 13), .fieldAddr 1 (.t 3), some (10, true)⟩,
      ⟨(some 14), .load none (.t 13), some (10, true)⟩,
      ⟨(some 15), .bin .eql (.t 12) (.t 14), some (10, true)⟩,
      ⟨(some 16), .pick (.t 10) (.t 15) (.k (.c (.d (.bool false)))), none⟩,
      ⟨(some 17), .mv (.t 16), none⟩,
      ⟨(some 18), .fieldAddr 2 (.t 2), some (17, true)⟩,
      ⟨(some 19), .load none (.t 18), some (17, true)⟩,
      ⟨(some 20), .fieldAddr 2 (.t 3), some (17, true)⟩,
      ⟨(some 21), .load none (.t 20), some (17, true)⟩,
      ⟨(some 22), .bin .eql (.t 19) (.t 21), some (17, true)⟩,
      ⟨(some 23), .pick (.t 17) (.t 22) (.k (.c (.d (.bool false)))), none⟩,
      ⟨(some 24), .mv (.t 23), none⟩,
      ⟨(some 25), .fieldAddr 3 (.t 2), some (24, true)⟩,
      ⟨(some 26), .load none (.t 25), some (24, true)⟩,
      ⟨(some 27), .fieldAddr 3 (.t 3), some (24, true)⟩,
      ⟨(some 28), .load none (.t 27), some (24, true)⟩,
      ⟨(some 29), .qcall 36 [(.t 26), (.t 28), (.k (.c (.fn 8 [])))], some (24, true)⟩,
      ⟨(some 30), .pick (.t 24) (.t 29) (.k (.c (.d (.bool false)))), none⟩,
      ⟨(some 4), .mv (.t 30), none⟩] [2, 3, 5, 6, 7, 8, 9, 10, 11, 12, 13, 14, 15, 16, 17, 18, 19, 20, 21, 22, 23, 24, 25, 26, 27, 28, 29, 30])
  (.ret))
theorem ac8_ok : cFunc Try.prog [1000036] [(0, [0, 1, 4], []), (1, [2, 3, 5, 6, 7, 8, 9, 10, 11, 12, 13, 14, 15, 16, 17, 18, 19, 20, 21, 22, 23, 24, 25, 26, 27, 28, 29, 30], [])] Try.f8 = some (ac8, [.tmp 4], 31) := by kernel_rfl
-- 36 slices.EqualFunc[[]loop.example/prologserver/impl.Term,[]loop.example/prologserver/impl.Term,loop.example/prologserver/impl.Term,loop.example/prologserver/impl.Term] params 3 ntmps 32
-- loop head live: [1, 2, 15, 16, 17]
def ac36 : Cd := .seq (.region [⟨(some 6), .mv (.k (.c (.d (.bool false)))), none⟩] [6])
  (.seq (.seq (.region [⟨(some 10), .mv (.t 0), none⟩,
        ⟨(some 11), .len 1 (.t 10), none⟩,
        ⟨(some 12), .mv (.t 1), none⟩,
        ⟨(some 13), .len 1 (.t 12), none⟩,
        ⟨(some 14), .bin .neq (.t 11) (.t 13), none⟩] [10, 11, 12, 13])
    (.cond (.t 14)
      (.seq (.region [⟨(some 6), .mv (.k (.c (.d (.bool false)))), none⟩] [0, 1, 2, 14])
      (.ret))
      (.skip)))
  (.seq (.seq (.region [⟨(some 15), .mv (.t 0), none⟩,
        ⟨(some 16), .len 1 (.t 15), none⟩,
        ⟨(some 17), .mv (.k (.c (.d (.int .i64 0)))), none⟩] [0, 6, 14])
    (.block 0 (.loop (.seq (.region [⟨(some 18), .bin .lss (.t 17) (.t 16), none⟩] [])
        (.seq (.cond (.t 18)
            (.skip)
            (.exit 0))
        (.seq (.block 1 (.seq (.region [⟨(some 19), .mv (.t 17), none⟩,
                ⟨(some 20), .indexAddr 4 (.t 15) (.t 17), none⟩,
                ⟨(some 21), .load (some 4) (.t 20), none⟩,
                ⟨(some 8), .alloc [(.d (.int .i64 0)), (.d (.int .i64 0)), (.d (.str [])), (.full [])], none⟩,
                ⟨(some 7), .mv (.t 19), none⟩,
                ⟨none, .store 4 (.t 8) (.t 21), none⟩] [18, 19, 20, 21])
            (.seq (.region [⟨(some 22), .mv (.t 1), none⟩,
                ⟨(some 23), .mv (.t 7), none⟩,
                ⟨(some 24), .indexAddr 4 (.t 22) (.t 23), none⟩,
                ⟨(some 25), .load (some 4) (.t 24), none⟩,
                ⟨(some 9), .alloc [(.d (.int .i64 0)), (.d (.int .i64 0)), (.d (.str [])), (.full [])], none⟩,
                ⟨none, .store 4 (.t 9) (.t 25), none⟩] [7, 22, 23, 24, 25])
            (.seq (.region [⟨(some 26), .mv (.t 2), none⟩,
                ⟨(some 27), .load (some 4) (.t 8), none⟩,
                ⟨(some 28), .load (some 4) (.t 9), none⟩,
                ⟨(some 29), .callv (.t 26) [(.t 27), (.t 28)], none⟩,
                ⟨(some 30), .un .not (.t 29), none⟩] [8, 9, 26, 27, 28, 29])
            (.cond (.t 30)
              (.seq (.region [⟨(some 6), .mv (.k (.c (.d (.bool false)))), none⟩] [1, 2, 15, 16, 17, 30])
              (.ret))
              (.skip))))))
        (.region [⟨(some 31), .bin .add (.t 17) (.k (.c (.d (.int .i64 1)))), none⟩,
          ⟨(some 17), .mv (.t 31), none⟩] [6, 30, 31])))))))
  (.seq (.region [⟨(some 6), .mv (.k (.c (.d (.bool true)))), none⟩] [])
  (.ret))))
theorem ac36_ok : cFunc Try.prog [] [(0, [6], []), (1, [10, 11, 12, 13], []), (2, [0, 1, 2, 14], []), (3, [0, 6, 14], []), (4, [], []), (5, [18, 19, 20, 21], []), (6, [7, 22, 23, 24, 25], []), (7, [8, 9, 26, 27, 28, 29], []), (8, [1, 2, 15, 16, 17, 30], []), (9, [6, 30, 31], []), (10, [], [])] Try.f36 = some (ac36, [.tmp 6], 32) := by kernel_rfl
theorem eqFunc_of (f : FuncId) (l r : List Tm) (hl : l.length ≤ 1048576) (hr : r.length ≤ 1048576) (h : ∀ x ∈ l, ∀ y ∈ r, Same2 f x y) (H : Heap) :
    ACalls Try.prog 36 [.c (.d (.sl (l.map Tm.row))), .c (.d (.sl (r.map Tm.row))), .c (.fn f [])] H (fun r' H' => H' = H ∧ r' = .c (.d (.bool (decide (l = r))))) := by
  refine acalls Try.func36 (by kernel_rfl) ac36_ok fun hf => ?_
  have hli : inR .i64 (l.length : Int) := small_i64 (by omega) (by omega)
  have hri : inR .i64 (r.length : Int) := small_i64 (by omega) (by omega)
  simp -implicitDefEqProofs [ac36, hli, hri, aw_skip, aw_region, aw_seq, aw_block, aw_cond, aw_exit, aw_ret, kq_nil, kq_seq, kq_seq_ret, kq_seq_exit, kq_block, kq_block_ret, kq_block_exit, kq_loop, kq_loop_ret, kq_loop_exit, awOps_nil, awOps_cons, awOps_guardE, nx_eq, awOp, ev_k, ev_0, ev_1, ev_2, ev_3, ev_4, ev_5, ev_6, ev_7, ev_8, set_0, set_1, set_2, set_3, set_4, set_5, set_6, set_7, set_8, -List.set_cons_succ, -List.set_cons_zero, A.ok, A.val, setSl, wrapG, guardB, getB, pickA, binA, binC, binD, cmpD, isCmp, unA, unD, lenA, AOp.total, kills, litB, FinQ, resOks, resOk, resA, resList, resOne, A.thaw, C.thaw, A.fits, As.fits, C.fits, evs, oks, callArgs, A.pure, C.pure, A.re, C.re, fieldAddrA, loadC, cut, A.cells, C.rows?, getOb, newOb, setOb, storeC, splice, Ob.re, Cs.fits, partsA, partsOk, parts2A, parts2Ok, fillC, fillRows, optInt, optOk, sliceA, clipC, optK_some, storeK_some, Option.map_some, toDs, C.toD, spliceD, appendA, capsOf, srcRows, allLen_nil_iff, allLen_cons_iff, allLen_append_iff, dropC, Obs.fits, eqCs, eqD, mapRow, mapPut, mapVal, mapOne, mapCells]
  refine ⟨fun h1 e => by subst e; simp at h1, fun e4 => ?_⟩
  have e4 : l.length = r.length := by omega
  refine loop_set (σ := Nat) (fun i => [(17, .c (.d (.int .i64 i)))]) (fun _ => H) (fun _ => []) (fun i => i ≤ l.length ∧ l.take i = r.take i) (fun i => l.length - i) 0 rfl ⟨Nat.zero_le _, rfl⟩ ?_
  rintro i ⟨hi, htk⟩
  simp -implicitDefEqProofs [setAll, hli, aw_skip, aw_region, aw_seq, aw_block, aw_cond, aw_exit, aw_ret, kq_nil, kq_seq, kq_seq_ret, kq_seq_exit, kq_block, kq_block_ret, kq_block_exit, kq_loop, kq_loop_ret, kq_loop_exit, awOps_nil, awOps_cons, awOps_guardE, nx_eq, awOp, ev_k, ev_0, ev_1, ev_2, ev_3, ev_4, ev_5, ev_6, ev_7, ev_8, set_0, set_1, set_2, set_3, set_4, set_5, set_6, set_7, set_8, -List.set_cons_succ, -List.set_cons_zero, A.ok, A.val, setSl, wrapG, guardB, getB, pickA, binA, binC, binD, cmpD, isCmp, unA, unD, lenA, AOp.total, kills, litB, FinQ, resOks, resOk, resA, resList, resOne, A.thaw, C.thaw, A.fits, As.fits, C.fits, evs, oks, callArgs, A.pure, C.pure, A.re, C.re, fieldAddrA, loadC, cut, A.cells, C.rows?, getOb, newOb, setOb, storeC, splice, Ob.re, Cs.fits, partsA, partsOk, parts2A, parts2Ok, fillC, fillRows, optInt, optOk, sliceA, clipC, optK_some, storeK_some, Option.map_some, toDs, C.toD, spliceD, appendA, capsOf, srcRows, allLen_nil_iff, allLen_cons_iff, allLen_append_iff, dropC, Obs.fits, eqCs, eqD, mapRow, mapPut, mapVal, mapOne, mapCells]
  refine ⟨fun hlt => ?_, fun hge => by rw [List.take_of_length_le hge, List.take_of_length_le (by omega)] at htk; exact htk⟩
  have hadd : inR .i64 ((i : Int) + 1) := small_i64 (by omega) (by omega)
  refine row_of hlt (row_len _) ?_
  simp -implicitDefEqProofs [row_len, take_row, fits_map, hf, aw_skip, aw_region, aw_seq, aw_block, aw_cond, aw_exit, aw_ret, kq_nil, kq_seq, kq_seq_ret, kq_seq_exit, kq_block, kq_block_ret, kq_block_exit, kq_loop, kq_loop_ret, kq_loop_exit, awOps_nil, awOps_cons, awOps_guardE, nx_eq, awOp, ev_k, ev_0, ev_1, ev_2, ev_3, ev_4, ev_5, ev_6, ev_7, ev_8, set_0, set_1, set_2, set_3, set_4, set_5, set_6, set_7, set_8, -List.set_cons_succ, -List.set_cons_zero, A.ok, A.val, setSl, wrapG, guardB, getB, pickA, binA, binC, binD, cmpD, isCmp, unA, unD, lenA, AOp.total, kills, litB, FinQ, resOks, resOk, resA, resList, resOne, A.thaw, C.thaw, A.fits, As.fits, C.fits, evs, oks, callArgs, A.pure, C.pure, A.re, C.re, fieldAddrA, loadC, cut, A.cells, C.rows?, getOb, newOb, setOb, storeC, splice, Ob.re, Cs.fits, partsA, partsOk, parts2A, parts2Ok, fillC, fillRows, optInt, optOk, sliceA, clipC, optK_some, storeK_some, Option.map_some, toDs, C.toD, spliceD, appendA, capsOf, srcRows, allLen_nil_iff, allLen_cons_iff, allLen_append_iff, dropC, Obs.fits, eqCs, eqD, mapRow, mapPut, mapVal, mapOne, mapCells]
  refine row_of (by omega) (row_len _) ?_
  simp -implicitDefEqProofs [row_len, take_row, fits_map, hf, aw_skip, aw_region, aw_seq, aw_block, aw_cond, aw_exit, aw_ret, kq_nil, kq_seq, kq_seq_ret, kq_seq_exit, kq_block, kq_block_ret, kq_block_exit, kq_loop, kq_loop_ret, kq_loop_exit, awOps_nil, awOps_cons, awOps_guardE, nx_eq, awOp, ev_k, ev_0, ev_1, ev_2, ev_3, ev_4, ev_5, ev_6, ev_7, ev_8, set_0, set_1, set_2, set_3, set_4, set_5, set_6, set_7, set_8, -List.set_cons_succ, -List.set_cons_zero, A.ok, A.val, setSl, wrapG, guardB, getB, pickA, binA, binC, binD, cmpD, isCmp, unA, unD, lenA, AOp.total, kills, litB, FinQ, resOks, resOk, resA, resList, resOne, A.thaw, C.thaw, A.fits, As.fits, C.fits, evs, oks, callArgs, A.pure, C.pure, A.re, C.re, fieldAddrA, loadC, cut, A.cells, C.rows?, getOb, newOb, setOb, storeC, splice, Ob.re, Cs.fits, partsA, partsOk, parts2A, parts2Ok, fillC, fillRows, optInt, optOk, sliceA, clipC, optK_some, storeK_some, Option.map_some, toDs, C.toD, spliceD, appendA, capsOf, srcRows, allLen_nil_iff, allLen_cons_iff, allLen_append_iff, dropC, Obs.fits, eqCs, eqD, mapRow, mapPut, mapVal, mapOne, mapCells]
  simp -implicitDefEqProofs [pure_d, re_d, aw_skip, aw_region, aw_seq, aw_block, aw_cond, aw_exit, aw_ret, kq_nil, kq_seq, kq_seq_ret, kq_seq_exit, kq_block, kq_block_ret, kq_block_exit, kq_loop, kq_loop_ret, kq_loop_exit, awOps_nil, awOps_cons, awOps_guardE, nx_eq, awOp, ev_k, ev_0, ev_1, ev_2, ev_3, ev_4, ev_5, ev_6, ev_7, ev_8, set_0, set_1, set_2, set_3, set_4, set_5, set_6, set_7, set_8, -List.set_cons_succ, -List.set_cons_zero, A.ok, A.val, setSl, wrapG, guardB, getB, pickA, binA, binC, binD, cmpD, isCmp, unA, unD, lenA, AOp.total, kills, litB, FinQ, resOks, resOk, resA, resList, resOne, A.thaw, C.thaw, A.fits, As.fits, C.fits, evs, oks, callArgs, A.pure, C.pure, A.re, C.re, fieldAddrA, loadC, cut, A.cells, C.rows?, getOb, newOb, setOb, storeC, splice, Ob.re, Cs.fits, partsA, partsOk, parts2A, parts2Ok, fillC, fillRows, optInt, optOk, sliceA, clipC, optK_some, storeK_some, Option.map_some, toDs, C.toD, spliceD, appendA, capsOf, srcRows, allLen_nil_iff, allLen_cons_iff, allLen_append_iff, dropC, Obs.fits, eqCs, eqD, mapRow, mapPut, mapVal, mapOne, mapCells]
  refine call_same (h l[i] (List.getElem_mem hlt) (r[i]'(by omega)) (List.getElem_mem (by omega)) _) (by simp [Ob.re, C.re, re_d]) rfl hf ?_
  simp -implicitDefEqProofs [hadd, aw_skip, aw_region, aw_seq, aw_block, aw_cond, aw_exit, aw_ret, kq_nil, kq_seq, kq_seq_ret, kq_seq_exit, kq_block, kq_block_ret, kq_block_exit, kq_loop, kq_loop_ret, kq_loop_exit, awOps_nil, awOps_cons, awOps_guardE, nx_eq, awOp, ev_k, ev_0, ev_1, ev_2, ev_3, ev_4, ev_5, ev_6, ev_7, ev_8, set_0, set_1, set_2, set_3, set_4, set_5, set_6, set_7, set_8, -List.set_cons_succ, -List.set_cons_zero, A.ok, A.val, setSl, wrapG, guardB, getB, pickA, binA, binC, binD, cmpD, isCmp, unA, unD, lenA, AOp.total, kills, litB, FinQ, resOks, resOk, resA, resList, resOne, A.thaw, C.thaw, A.fits, As.fits, C.fits, evs, oks, callArgs, A.pure, C.pure, A.re, C.re, fieldAddrA, loadC, cut, A.cells, C.rows?, getOb, newOb, setOb, storeC, splice, Ob.re, Cs.fits, partsA, partsOk, parts2A, parts2Ok, fillC, fillRows, optInt, optOk, sliceA, clipC, optK_some, storeK_some, Option.map_some, toDs, C.toD, spliceD, appendA, capsOf, srcRows, allLen_nil_iff, allLen_cons_iff, allLen_append_iff, dropC, Obs.fits, eqCs, eqD, mapRow, mapPut, mapVal, mapOne, mapCells]
  refine ⟨fun hne e => ?_, fun he => ?_⟩
  · subst e; exact hne rfl
  · exact loop_less (i + 1) (St.le_cut [_, _] (by simp [setAll, Sl.le, A.le_refl_iff, A.le_u_iff, As.lo, A.lo, C.lo, Ref.lo, Cs.lo, Obs.lo, Ob.lo, setAll, and_true, true_and, List.length_nil, List.length_cons]) (by simp [Sl.le, A.le_refl_iff, A.le_u_iff, As.lo, A.lo, C.lo, Ref.lo, Cs.lo, Obs.lo, Ob.lo, setAll, and_true, true_and, List.length_nil, List.length_cons]) rfl (by simp [Sl.le, A.le_refl_iff, A.le_u_iff, As.lo, A.lo, C.lo, Ref.lo, Cs.lo, Obs.lo, Ob.lo, setAll, and_true, true_and, List.length_nil, List.length_cons])) ⟨hlt, take_snoc hlt (by omega) htk he⟩ (by show l.length - (i + 1) < l.length - i; omega)
theorem sameImpl_calls : ∀ a : Tm, a.fits → ∀ b : Tm, b.fits → Same2 8 a b := by
  refine Tm.ind fun k n s l ih hfits b hb H => ?_
  obtain ⟨k', n', s', r⟩ := b
  obtain ⟨_, _, _, hl, hkids⟩ := hfits
  obtain ⟨_, _, _, hr, hkids'⟩ := hb
  refine acalls Try.func8 (by kernel_rfl) ac8_ok fun hf => ?_
  simp -implicitDefEqProofs [ac8, row_mk, aw_skip, aw_region, aw_seq, aw_block, aw_cond, aw_exit, aw_ret, kq_nil, kq_seq, kq_seq_ret, kq_seq_exit, kq_block, kq_block_ret, kq_block_exit, kq_loop, kq_loop_ret, kq_loop_exit, awOps_nil, awOps_cons, awOps_guardE, nx_eq, awOp, ev_k, ev_0, ev_1, ev_2, ev_3, ev_4, ev_5, ev_6, ev_7, ev_8, set_0, set_1, set_2, set_3, set_4, set_5, set_6, set_7, set_8, -List.set_cons_succ, -List.set_cons_zero, A.ok, A.val, setSl, wrapG, guardB, getB, pickA, binA, binC, binD, cmpD, isCmp, unA, unD, lenA, AOp.total, kills, litB, FinQ, resOks, resOk, resA, resList, resOne, A.thaw, C.thaw, A.fits, As.fits, C.fits, evs, oks, callArgs, A.pure, C.pure, A.re, C.re, fieldAddrA, loadC, cut, A.cells, C.rows?, getOb, newOb, setOb, storeC, splice, Ob.re, Cs.fits, partsA, partsOk, parts2A, parts2Ok, fillC, fillRows, optInt, optOk, sliceA, clipC, optK_some, storeK_some, Option.map_some, toDs, C.toD, spliceD, appendA, capsOf, srcRows, allLen_nil_iff, allLen_cons_iff, allLen_append_iff, dropC, Obs.fits, eqCs, eqD, mapRow, mapPut, mapVal, mapOne, mapCells]
  refine ⟨fun e1 e2 e3 => ⟨⟨⟨e1, e2⟩, e3⟩, ?_⟩, fun h => ?_⟩
  · subst e1 e2 e3
    refine qcall_pure (eqFunc_of 8 l r hl hr fun x hx y hy => ih x hx (hkids x hx) y (hkids' y hy)) hf rfl ?_
    simp -implicitDefEqProofs [aw_skip, aw_region, aw_seq, aw_block, aw_cond, aw_exit, aw_ret, kq_nil, kq_seq, kq_seq_ret, kq_seq_exit, kq_block, kq_block_ret, kq_block_exit, kq_loop, kq_loop_ret, kq_loop_exit, awOps_nil, awOps_cons, awOps_guardE, nx_eq, awOp, ev_k, ev_0, ev_1, ev_2, ev_3, ev_4, ev_5, ev_6, ev_7, ev_8, set_0, set_1, set_2, set_3, set_4, set_5, set_6, set_7, set_8, -List.set_cons_succ, -List.set_cons_zero, A.ok, A.val, setSl, wrapG, guardB, getB, pickA, binA, binC, binD, cmpD, isCmp, unA, unD, lenA, AOp.total, kills, litB, FinQ, resOks, resOk, resA, resList, resOne, A.thaw, C.thaw, A.fits, As.fits, C.fits, evs, oks, callArgs, A.pure, C.pure, A.re, C.re, fieldAddrA, loadC, cut, A.cells, C.rows?, getOb, newOb, setOb, storeC, splice, Ob.re, Cs.fits, partsA, partsOk, parts2A, parts2Ok, fillC, fillRows, optInt, optOk, sliceA, clipC, optK_some, storeK_some, Option.map_some, toDs, C.toD, spliceD, appendA, capsOf, srcRows, allLen_nil_iff, allLen_cons_iff, allLen_append_iff, dropC, Obs.fits, eqCs, eqD, mapRow, mapPut, mapVal, mapOne, mapCells]
  · exact fun e1 e2 e3 => absurd e3 (h e1 e2)
end Go.Proofs.Ytddahocmlbnlfaa
