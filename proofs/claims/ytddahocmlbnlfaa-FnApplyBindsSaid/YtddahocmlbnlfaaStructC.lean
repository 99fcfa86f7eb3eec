/-
  Structures that are made.
  Conditions: none.
-/
import Derived.Test.YtddahocmlbnlfaaListsA
open Go Go.AM Go.Proofs
namespace Go.Proofs.Ytddahocmlbnlfaa
open Go.ChangeShapes Go.WideShapes Go.ChangeAt Go.RowKit
set_option linter.unusedVariables false
set_option linter.unusedSimpArgs false
set_option maxRecDepth 100000
-- 52 loop.example/prologserver/spec.l1Struct params 2 ntmps 10
def ac52 : Cd := .seq (.region [⟨(some 4), .alloc [(.d (.int .i64 0)), (.d (.int .i64 0)), (.d (.str [])), (.full [])], none⟩] [])
  (.seq (.region [⟨(some 5), .mv (.t 0), none⟩,
      ⟨(some 6), .buildSlice 4 0 [(.int .i64 0), (.int .i64 0), (.str []), (.sl [])] [], none⟩,
      ⟨(some 7), .mv (.t 1), none⟩,
      ⟨(some 8), .append false 4 (.t 6) (.t 7), none⟩,
      ⟨(some 9), .build [(.d (.int .i64 0)), (.d (.int .i64 0)), (.d (.str [])), (.full [])] [(0, 1, (.k (.c (.d (.int .i64 3))))), (2, 1, (.t 5)), (3, 1, (.t 8))], none⟩,
      ⟨none, .store 4 (.t 4) (.t 9), none⟩] [0, 1, 5, 6, 7, 8, 9])
  (.ret))
theorem ac52_ok : cFunc Try.prog [] [(0, [], []), (1, [0, 1, 5, 6, 7, 8, 9], [])] Try.f52 = some (ac52, [.cell 4 (some 4)], 10) := by kernel_rfl
theorem struct_calls (name : List UInt8) (l : List Tm) (hl : l.length ≤ 1048576) (H : Heap) : ACalls Try.prog 52 [.c (.d (.str name)), .c (.d (.sl (l.map Tm.row)))] H (fun r H' => H' = H ∧ r = .agg ((Tm.mk 3 0 name l).row.map .d)) := by
  refine acalls Try.func52 (by kernel_rfl) ac52_ok fun hf => ?_
  simp -implicitDefEqProofs [ac52, row_mk, hf, aw_skip, aw_region, aw_seq, aw_block, aw_cond, aw_exit, aw_ret, kq_nil, kq_seq, kq_seq_ret, kq_seq_exit, kq_block, kq_block_ret, kq_block_exit, kq_loop, kq_loop_ret, kq_loop_exit, awOps_nil, awOps_cons, awOps_guardE, nx_eq, awOp, ev_k, ev_0, ev_1, ev_2, ev_3, ev_4, ev_5, ev_6, ev_7, ev_8, set_0, set_1, set_2, set_3, set_4, set_5, set_6, set_7, set_8, -List.set_cons_succ, -List.set_cons_zero, A.ok, A.val, setSl, wrapG, guardB, getB, pickA, binA, binC, binD, cmpD, isCmp, unA, unD, lenA, AOp.total, kills, litB, FinQ, resOks, resOk, resA, resList, resOne, A.thaw, C.thaw, A.fits, As.fits, C.fits, evs, oks, callArgs, A.pure, C.pure, A.re, C.re, fieldAddrA, loadC, cut, A.cells, C.rows?, getOb, newOb, setOb, storeC, splice, Ob.re, Cs.fits, partsA, partsOk, parts2A, parts2Ok, fillC, fillRows, optInt, optOk, sliceA, clipC, optK_some, storeK_some, Option.map_some, toDs, C.toD, spliceD, appendA, capsOf, srcRows, allLen_nil_iff, allLen_cons_iff, allLen_append_iff, dropC, Obs.fits, eqCs, eqD, mapRow, mapPut, mapVal, mapOne, mapCells]
  exact ⟨allLen_map row_len, by unfold maxApp; omega⟩
end Go.Proofs.Ytddahocmlbnlfaa
