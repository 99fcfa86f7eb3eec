/-
  Pairs of lists, and the empty list.
  Conditions: none.
-/
import Derived.Test.YtikgpomnibbioaaGreatDoorAtom
import Derived.Test.YtikgpomnibbioaaGreatDoorValid2
open Go Go.AM Go.Proofs
namespace Go.Proofs.YtikgpomnibbioaaGreatDoor
open Go.ChangeShapes Go.WideShapes Go.ChangeAt Go.RowKit
set_option linter.unusedVariables false
set_option linter.unusedSimpArgs false
set_option maxRecDepth 100000
-- 79 loop.example/prologserver/impl.isNil params 1 ntmps 10
def ac79 : Cd := .seq (.region [⟨(some 1), .box (.t 0), none⟩,
      ⟨(some 2), .mv (.k (.c (.d (.bool false)))), none⟩] [0, 2])
  (.seq (.region [⟨(some 3), .load (some 4) (.t 1), none⟩,
      ⟨(some 4), .qcall 75 [(.t 3)], none⟩,
      ⟨(some 5), .mv (.t 4), none⟩,
      ⟨(some 6), .fieldAddr 2 (.t 1), some (5, true)⟩,
      ⟨(some 7), .load none (.t 6), some (5, true)⟩,
      ⟨(some 8), .bin .eql (.t 7) (.k (.c (.d (.str [91, 93])))), some (5, true)⟩,
      ⟨(some 9), .pick (.t 5) (.t 8) (.k (.c (.d (.bool false)))), none⟩,
      ⟨(some 2), .mv (.t 9), none⟩] [1, 3, 4, 5, 6, 7, 8, 9])
  (.ret))
theorem ac79_ok : cFunc Tryz.prog [1000075] [(0, [0, 2], []), (1, [1, 3, 4, 5, 6, 7, 8, 9], [])] Tryz.f79 = some (ac79, [.tmp 2], 10) := by kernel_rfl
-- 78 loop.example/prologserver/impl.isPair params 1 ntmps 17
def ac78 : Cd := .seq (.region [⟨(some 1), .box (.t 0), none⟩,
      ⟨(some 2), .mv (.k (.c (.d (.bool false)))), none⟩] [0, 2])
  (.seq (.region [⟨(some 3), .fieldAddr 0 (.t 1), none⟩,
      ⟨(some 4), .load none (.t 3), none⟩,
      ⟨(some 5), .bin .eql (.t 4) (.k (.c (.d (.int .i64 3)))), none⟩,
      ⟨(some 6), .mv (.t 5), none⟩,
      ⟨(some 7), .fieldAddr 2 (.t 1), some (6, true)⟩,
      ⟨(some 8), .load none (.t 7), some (6, true)⟩,
      ⟨(some 9), .bin .eql (.t 8) (.k (.c (.d (.str [46])))), some (6, true)⟩,
      ⟨(some 10), .pick (.t 6) (.t 9) (.k (.c (.d (.bool false)))), none⟩,
      ⟨(some 11), .mv (.t 10), none⟩,
      ⟨(some 12), .fieldAddr 3 (.t 1), some (11, true)⟩,
      ⟨(some 13), .load none (.t 12), some (11, true)⟩,
      ⟨(some 14), .len 1 (.t 13), some (11, true)⟩,
      ⟨(some 15), .bin .eql (.t 14) (.k (.c (.d (.int .i64 2)))), some (11, true)⟩,
      ⟨(some 16), .pick (.t 11) (.t 15) (.k (.c (.d (.bool false)))), none⟩,
      ⟨(some 2), .mv (.t 16), none⟩] [1, 3, 4, 5, 6, 7, 8, 9, 10, 11, 12, 13, 14, 15, 16])
  (.ret))
theorem ac78_ok : cFunc Tryz.prog [] [(0, [0, 2], []), (1, [1, 3, 4, 5, 6, 7, 8, 9, 10, 11, 12, 13, 14, 15, 16], [])] Tryz.f78 = some (ac78, [.tmp 2], 17) := by kernel_rfl
-- 63 loop.example/prologserver/spec.l1Nil params 1 ntmps 17
def ac63 : Cd := .seq (.region [⟨(some 1), .box (.t 0), none⟩,
      ⟨(some 2), .mv (.k (.c (.d (.bool false)))), none⟩] [0, 2])
  (.seq (.region [⟨(some 3), .fieldAddr 0 (.t 1), none⟩,
      ⟨(some 4), .load none (.t 3), none⟩,
      ⟨(some 5), .bin .eql (.t 4) (.k (.c (.d (.int .i64 3)))), none⟩,
      ⟨(some 6), .mv (.t 5), none⟩,
      ⟨(some 7), .fieldAddr 2 (.t 1), some (6, true)⟩,
      ⟨(some 8), .load none (.t 7), some (6, true)⟩,
      ⟨(some 9), .bin .eql (.t 8) (.k (.c (.d (.str [91, 93])))), some (6, true)⟩,
      ⟨(some 10), .pick (.t 6) (.t 9) (.k (.c (.d (.bool false)))), none⟩,
      ⟨(some 11), .mv (.t 10), none⟩,
      ⟨(some 12), .fieldAddr 3 (.t 1), some (11, true)⟩,
      ⟨(some 13), .load none (.t 12), some (11, true)⟩,
      ⟨(some 14), .len 1 (.t 13), some (11, true)⟩,
      ⟨(some 15), .bin .eql (.t 14) (.k (.c (.d (.int .i64 0)))), some (11, true)⟩,
      ⟨(some 16), .pick (.t 11) (.t 15) (.k (.c (.d (.bool false)))), none⟩,
      ⟨(some 2), .mv (.t 16), none⟩] [1, 3, 4, 5, 6, 7, 8, 9, 10, 11, 12, 13, 14, 15, 16])
  (.ret))
theorem ac63_ok : cFunc Tryz.prog [] [(0, [0, 2], []), (1, [1, 3, 4, 5, 6, 7, 8, 9, 10, 11, 12, 13, 14, 15, 16], [])] Tryz.f63 = some (ac63, [.tmp 2], 17) := by kernel_rfl
-- 36 loop.example/prologserver/spec.l1Pair params 1 ntmps 17
def ac36 : Cd := .seq (.region [⟨(some 1), .box (.t 0), none⟩,
      ⟨(some 2), .mv (.k (.c (.d (.bool false)))), none⟩] [0, 2])
  (.seq (.region [⟨(some 3), .fieldAddr 0 (.t 1), none⟩,
      ⟨(some 4), .load none (.t 3), none⟩,
      ⟨(some 5), .bin .eql (.t 4) (.k (.c (.d (.int .i64 3)))), none⟩,
      ⟨(some 6), .mv (.t 5), none⟩,
      ⟨(some 7), .fieldAddr 2 (.t 1), some (6, true)⟩,
      ⟨(some 8), .load none (.t 7), some (6, true)⟩,
      ⟨(some 9), .bin .eql (.t 8) (.k (.c (.d (.str [46])))), some (6, true)⟩,
      ⟨(some 10), .pick (.t 6) (.t 9) (.k (.c (.d (.bool false)))), none⟩,
      ⟨(some 11), .mv (.t 10), none⟩,
      ⟨(some 12), .fieldAddr 3 (.t 1), some (11, true)⟩,
      ⟨(some 13), .load none (.t 12), some (11, true)⟩,
      ⟨(some 14), .len 1 (.t 13), some (11, true)⟩,
      ⟨(some 15), .bin .eql (.t 14) (.k (.c (.d (.int .i64 2)))), some (11, true)⟩,
      ⟨(some 16), .pick (.t 11) (.t 15) (.k (.c (.d (.bool false)))), none⟩,
      ⟨(some 2), .mv (.t 16), none⟩] [1, 3, 4, 5, 6, 7, 8, 9, 10, 11, 12, 13, 14, 15, 16])
  (.ret))
theorem ac36_ok : cFunc Tryz.prog [] [(0, [0, 2], []), (1, [1, 3, 4, 5, 6, 7, 8, 9, 10, 11, 12, 13, 14, 15, 16], [])] Tryz.f36 = some (ac36, [.tmp 2], 17) := by kernel_rfl
def Tm.nilB (t : Tm) : Bool := (decide (t.k = 3) && t.kids.isEmpty) && t.s == [91, 93]
def Tm.pairB (t : Tm) : Bool := (decide (t.k = 3) && t.s == [46]) && decide ((t.kids.length : Int) = 2)
theorem nilImpl_calls (t : Tm) (ht : t.fits) (H : Heap) : ACalls Tryz.prog 79 [.agg (t.row.map .d)] H (fun r H' => H' = H ∧ r = .c (.d (.bool t.nilB))) := by
  have c3 := isAtom_calls t ht
  have e : t.nilB = ((decide (t.k = 3) && t.kids.isEmpty) && t.s == [91, 93]) := rfl
  rw [e]
  generalize (decide (t.k = 3) && t.kids.isEmpty) = b at c3
  obtain ⟨k, n, s, l⟩ := t
  rw [row_mk] at c3
  simp only [List.map_cons, List.map_nil] at c3
  refine acalls Tryz.func79 (by kernel_rfl) ac79_ok fun hf => ?_
  simp -implicitDefEqProofs [ac79, row_mk, kw, ew, sw, aw_cond, awOps_nil, awOps_cons, awOps_guardE, nx_eq, awOp, -List.set_cons_succ, -List.set_cons_zero, A.ok, A.val, setSl, wrapG, guardB, getB, pickA, binA, binC, binD, cmpD, isCmp, unA, unD, lenA, AOp.total, kills, litB, FinQ, resOks, resOk, resA, resList, resOne, A.thaw, C.thaw, A.fits, As.fits, C.fits, evs, oks, callArgs, A.pure, C.pure, A.re, C.re, fieldAddrA, loadC, cut, A.cells, C.rows?, getOb, newOb, setOb, storeC, splice, Ob.re, Cs.fits, partsA, partsOk, parts2A, parts2Ok, fillC, fillRows, optInt, optOk, sliceA, clipC, optK_some, storeK_some, Option.map_some, toDs, C.toD, spliceD, appendA, capsOf, srcRows, allLen_nil_iff, allLen_cons_iff, allLen_append_iff, dropC, Obs.fits, eqCs, eqD, mapRow, mapPut, mapVal, mapOne, mapCells]
  refine qcall_pure c3 hf rfl ?_
  cases b <;> simp -implicitDefEqProofs [Tm.s, kw, ew, sw, aw_cond, awOps_nil, awOps_cons, awOps_guardE, nx_eq, awOp, -List.set_cons_succ, -List.set_cons_zero, A.ok, A.val, setSl, wrapG, guardB, getB, pickA, binA, binC, binD, cmpD, isCmp, unA, unD, lenA, AOp.total, kills, litB, FinQ, resOks, resOk, resA, resList, resOne, A.thaw, C.thaw, A.fits, As.fits, C.fits, evs, oks, callArgs, A.pure, C.pure, A.re, C.re, fieldAddrA, loadC, cut, A.cells, C.rows?, getOb, newOb, setOb, storeC, splice, Ob.re, Cs.fits, partsA, partsOk, parts2A, parts2Ok, fillC, fillRows, optInt, optOk, sliceA, clipC, optK_some, storeK_some, Option.map_some, toDs, C.toD, spliceD, appendA, capsOf, srcRows, allLen_nil_iff, allLen_cons_iff, allLen_append_iff, dropC, Obs.fits, eqCs, eqD, mapRow, mapPut, mapVal, mapOne, mapCells]
theorem nilSpec_calls (t : Tm) (ht : t.fits) (H : Heap) : ACalls Tryz.prog 63 [.agg (t.row.map .d)] H (fun r H' => H' = H ∧ r = .c (.d (.bool t.nilB))) := by
  obtain ⟨k, n, s, l⟩ := t
  obtain ⟨_, _, hs, hl, hkids⟩ := ht
  have hli : inR .i64 (l.length : Int) := small_i64 (by omega) (by omega)
  refine acalls Tryz.func63 (by kernel_rfl) ac63_ok fun hf => ?_
  by_cases hk : k = 3
  · simp -implicitDefEqProofs [ac63, row_mk, hk, hli, Tm.nilB, Tm.k, Tm.s, Tm.kids, isEmpty_len, Bool.and_comm, kw, ew, sw, aw_cond, awOps_nil, awOps_cons, awOps_guardE, nx_eq, awOp, -List.set_cons_succ, -List.set_cons_zero, A.ok, A.val, setSl, wrapG, guardB, getB, pickA, binA, binC, binD, cmpD, isCmp, unA, unD, lenA, AOp.total, kills, litB, FinQ, resOks, resOk, resA, resList, resOne, A.thaw, C.thaw, A.fits, As.fits, C.fits, evs, oks, callArgs, A.pure, C.pure, A.re, C.re, fieldAddrA, loadC, cut, A.cells, C.rows?, getOb, newOb, setOb, storeC, splice, Ob.re, Cs.fits, partsA, partsOk, parts2A, parts2Ok, fillC, fillRows, optInt, optOk, sliceA, clipC, optK_some, storeK_some, Option.map_some, toDs, C.toD, spliceD, appendA, capsOf, srcRows, allLen_nil_iff, allLen_cons_iff, allLen_append_iff, dropC, Obs.fits, eqCs, eqD, mapRow, mapPut, mapVal, mapOne, mapCells]
  · have hkb : (k == 3) = false := by simpa using hk
    simp -implicitDefEqProofs [ac63, row_mk, hk, hkb, hli, Tm.nilB, Tm.k, kw, ew, sw, aw_cond, awOps_nil, awOps_cons, awOps_guardE, nx_eq, awOp, -List.set_cons_succ, -List.set_cons_zero, A.ok, A.val, setSl, wrapG, guardB, getB, pickA, binA, binC, binD, cmpD, isCmp, unA, unD, lenA, AOp.total, kills, litB, FinQ, resOks, resOk, resA, resList, resOne, A.thaw, C.thaw, A.fits, As.fits, C.fits, evs, oks, callArgs, A.pure, C.pure, A.re, C.re, fieldAddrA, loadC, cut, A.cells, C.rows?, getOb, newOb, setOb, storeC, splice, Ob.re, Cs.fits, partsA, partsOk, parts2A, parts2Ok, fillC, fillRows, optInt, optOk, sliceA, clipC, optK_some, storeK_some, Option.map_some, toDs, C.toD, spliceD, appendA, capsOf, srcRows, allLen_nil_iff, allLen_cons_iff, allLen_append_iff, dropC, Obs.fits, eqCs, eqD, mapRow, mapPut, mapVal, mapOne, mapCells]
theorem pairImpl_calls (t : Tm) (ht : t.fits) (H : Heap) : ACalls Tryz.prog 78 [.agg (t.row.map .d)] H (fun r H' => H' = H ∧ r = .c (.d (.bool t.pairB))) := by
  obtain ⟨k, n, s, l⟩ := t
  obtain ⟨_, _, hs, hl, hkids⟩ := ht
  have hli : inR .i64 (l.length : Int) := small_i64 (by omega) (by omega)
  refine acalls Tryz.func78 (by kernel_rfl) ac78_ok fun hf => ?_
  by_cases hk : k = 3
  · simp -implicitDefEqProofs [ac78, row_mk, hk, hli, Tm.pairB, Tm.k, Tm.s, Tm.kids, kw, ew, sw, aw_cond, awOps_nil, awOps_cons, awOps_guardE, nx_eq, awOp, -List.set_cons_succ, -List.set_cons_zero, A.ok, A.val, setSl, wrapG, guardB, getB, pickA, binA, binC, binD, cmpD, isCmp, unA, unD, lenA, AOp.total, kills, litB, FinQ, resOks, resOk, resA, resList, resOne, A.thaw, C.thaw, A.fits, As.fits, C.fits, evs, oks, callArgs, A.pure, C.pure, A.re, C.re, fieldAddrA, loadC, cut, A.cells, C.rows?, getOb, newOb, setOb, storeC, splice, Ob.re, Cs.fits, partsA, partsOk, parts2A, parts2Ok, fillC, fillRows, optInt, optOk, sliceA, clipC, optK_some, storeK_some, Option.map_some, toDs, C.toD, spliceD, appendA, capsOf, srcRows, allLen_nil_iff, allLen_cons_iff, allLen_append_iff, dropC, Obs.fits, eqCs, eqD, mapRow, mapPut, mapVal, mapOne, mapCells]
    try rfl
  · have hkb : (k == 3) = false := by simpa using hk
    simp -implicitDefEqProofs [ac78, row_mk, hk, hkb, hli, Tm.pairB, Tm.k, kw, ew, sw, aw_cond, awOps_nil, awOps_cons, awOps_guardE, nx_eq, awOp, -List.set_cons_succ, -List.set_cons_zero, A.ok, A.val, setSl, wrapG, guardB, getB, pickA, binA, binC, binD, cmpD, isCmp, unA, unD, lenA, AOp.total, kills, litB, FinQ, resOks, resOk, resA, resList, resOne, A.thaw, C.thaw, A.fits, As.fits, C.fits, evs, oks, callArgs, A.pure, C.pure, A.re, C.re, fieldAddrA, loadC, cut, A.cells, C.rows?, getOb, newOb, setOb, storeC, splice, Ob.re, Cs.fits, partsA, partsOk, parts2A, parts2Ok, fillC, fillRows, optInt, optOk, sliceA, clipC, optK_some, storeK_some, Option.map_some, toDs, C.toD, spliceD, appendA, capsOf, srcRows, allLen_nil_iff, allLen_cons_iff, allLen_append_iff, dropC, Obs.fits, eqCs, eqD, mapRow, mapPut, mapVal, mapOne, mapCells]
theorem pairSpec_calls (t : Tm) (ht : t.fits) (H : Heap) : ACalls Tryz.prog 36 [.agg (t.row.map .d)] H (fun r H' => H' = H ∧ r = .c (.d (.bool t.pairB))) := by
  obtain ⟨k, n, s, l⟩ := t
  obtain ⟨_, _, hs, hl, hkids⟩ := ht
  have hli : inR .i64 (l.length : Int) := small_i64 (by omega) (by omega)
  refine acalls Tryz.func36 (by kernel_rfl) ac36_ok fun hf => ?_
  by_cases hk : k = 3
  · simp -implicitDefEqProofs [ac36, row_mk, hk, hli, Tm.pairB, Tm.k, Tm.s, Tm.kids, kw, ew, sw, aw_cond, awOps_nil, awOps_cons, awOps_guardE, nx_eq, awOp, -List.set_cons_succ, -List.set_cons_zero, A.ok, A.val, setSl, wrapG, guardB, getB, pickA, binA, binC, binD, cmpD, isCmp, unA, unD, lenA, AOp.total, kills, litB, FinQ, resOks, resOk, resA, resList, resOne, A.thaw, C.thaw, A.fits, As.fits, C.fits, evs, oks, callArgs, A.pure, C.pure, A.re, C.re, fieldAddrA, loadC, cut, A.cells, C.rows?, getOb, newOb, setOb, storeC, splice, Ob.re, Cs.fits, partsA, partsOk, parts2A, parts2Ok, fillC, fillRows, optInt, optOk, sliceA, clipC, optK_some, storeK_some, Option.map_some, toDs, C.toD, spliceD, appendA, capsOf, srcRows, allLen_nil_iff, allLen_cons_iff, allLen_append_iff, dropC, Obs.fits, eqCs, eqD, mapRow, mapPut, mapVal, mapOne, mapCells]
    try rfl
  · have hkb : (k == 3) = false := by simpa using hk
    simp -implicitDefEqProofs [ac36, row_mk, hk, hkb, hli, Tm.pairB, Tm.k, kw, ew, sw, aw_cond, awOps_nil, awOps_cons, awOps_guardE, nx_eq, awOp, -List.set_cons_succ, -List.set_cons_zero, A.ok, A.val, setSl, wrapG, guardB, getB, pickA, binA, binC, binD, cmpD, isCmp, unA, unD, lenA, AOp.total, kills, litB, FinQ, resOks, resOk, resA, resList, resOne, A.thaw, C.thaw, A.fits, As.fits, C.fits, evs, oks, callArgs, A.pure, C.pure, A.re, C.re, fieldAddrA, loadC, cut, A.cells, C.rows?, getOb, newOb, setOb, storeC, splice, Ob.re, Cs.fits, partsA, partsOk, parts2A, parts2Ok, fillC, fillRows, optInt, optOk, sliceA, clipC, optK_some, storeK_some, Option.map_some, toDs, C.toD, spliceD, appendA, capsOf, srcRows, allLen_nil_iff, allLen_cons_iff, allLen_append_iff, dropC, Obs.fits, eqCs, eqD, mapRow, mapPut, mapVal, mapOne, mapCells]
end Go.Proofs.YtikgpomnibbioaaGreatDoor
