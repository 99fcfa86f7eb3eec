/-
  The card FnExactFormatAnswer holds: impl.FormatAnswer answers as spec.FormatAnswer does.
  Conditions: none.
-/
import Derived.Test.YtikgpomnibbioaaGreatDoorFaT
import Derived.Test.YtikgpomnibbioaaGreatDoorAnsT
import Derived.Test.YtikgpomnibbioaaGreatDoorTermTy
import Derived.Test.YtikgpomnibbioaaGreatDoorCards
import Derived.Test.YtikgpomnibbioaaGreatDoorTie
import Derived.ProofKit
import Derived.OpenShut
import Derived.Stop.Joined
import Derived.SevenTiedAt
open Go Go.AM Go.Proofs
namespace Go.Proofs.YtikgpomnibbioaaGreatDoor
open Go.ChangeShapes Go.WideShapes Go.ChangeAt Go.WideElems Go.RowKit
set_option linter.unusedVariables false
set_option linter.unusedSimpArgs false
set_option maxRecDepth 100000
-- 3 loop.example/prologserver/laws.FnExactFormatAnswer params 2 ntmps 45
def ac3 : Cd := .seq (.region [⟨(some 3), .box (.t 1), none⟩,
      ⟨(some 4), .mv (.k (.c (.d (.bool false)))), none⟩] [1, 4])
  (.seq (.region [⟨(some 5), .mv (.k (.c (.d (.int .i64 1048576)))), none⟩] [])
  (.seq (.region [⟨(some 10), .mv (.t 0), none⟩,
      ⟨(some 11), .mv (.t 5), none⟩,
      ⟨(some 12), .call false 4 [(.t 10), (.t 11)], none⟩,
      ⟨(some 5), .mv (.t 12), none⟩] [10, 11, 12])
  (.seq (.seq (.region [⟨(some 13), .mv (.t 5), none⟩,
        ⟨(some 14), .bin .lss (.t 13) (.k (.c (.d (.int .i64 0)))), none⟩] [13])
    (.cond (.t 14)
      (.seq (.region [⟨(some 4), .mv (.k (.c (.d (.bool true)))), none⟩] [0, 3, 5, 14])
      (.ret))
      (.skip)))
  (.seq (.region [⟨(some 15), .load (some 1) (.t 3), none⟩,
      ⟨(some 16), .mv (.t 5), none⟩,
      ⟨(some 17), .call false 5 [(.t 15), (.t 16)], none⟩,
      ⟨(some 5), .mv (.t 17), none⟩] [4, 14, 15, 16, 17])
  (.seq (.seq (.region [⟨(some 18), .mv (.t 5), none⟩,
        ⟨(some 19), .bin .lss (.t 18) (.k (.c (.d (.int .i64 0)))), none⟩] [5, 18])
    (.cond (.t 19)
      (.seq (.region [⟨(some 4), .mv (.k (.c (.d (.bool true)))), none⟩] [0, 3, 19])
      (.ret))
      (.skip)))
  (.seq (.region [⟨(some 20), .mv (.t 0), none⟩,
      ⟨(some 21), .qcall 7 [(.t 20)], none⟩,
      ⟨(some 22), .load (some 1) (.t 3), none⟩,
      ⟨(some 23), .qcall 8 [(.t 22)], none⟩,
      ⟨(some 24), .qcall 6 [(.t 21), (.t 23)], none⟩,
      ⟨(some 6), .mv (.t 24), none⟩] [4, 19, 20, 21, 22, 23, 24])
  (.seq (.region [⟨(some 25), .mv (.t 0), none⟩,
      ⟨(some 26), .qcall 7 [(.t 25)], none⟩,
      ⟨(some 7), .mv (.t 26), none⟩] [25, 26])
  (.seq (.region [⟨(some 27), .load (some 1) (.t 3), none⟩,
      ⟨(some 28), .qcall 8 [(.t 27)], none⟩,
      ⟨(some 8), .alloc [(.full [])], none⟩,
      ⟨none, .store 1 (.t 8) (.t 28), none⟩] [27, 28])
  (.seq (.region [⟨(some 29), .mv (.t 7), none⟩,
      ⟨(some 30), .load (some 1) (.t 8), none⟩,
      ⟨(some 31), .qcall 9 [(.t 29), (.t 30)], none⟩,
      ⟨(some 9), .mv (.t 31), none⟩] [29, 30, 31])
  (.seq (.seq (.region [⟨(some 32), .mv (.t 9), none⟩,
        ⟨(some 33), .mv (.t 6), none⟩,
        ⟨(some 34), .bin .neq (.t 32) (.t 33), none⟩] [6, 9, 32, 33])
    (.cond (.t 34)
      (.seq (.region [⟨(some 4), .mv (.k (.c (.d (.bool false)))), none⟩] [0, 3, 7, 8, 34])
      (.ret))
      (.skip)))
  (.seq (.seq (.region [⟨(some 35), .mv (.t 7), none⟩,
        ⟨(some 36), .mv (.t 0), none⟩,
        ⟨(some 37), .qcall 7 [(.t 36)], none⟩,
        ⟨(some 38), .qcall 10 [(.t 35), (.t 37)], none⟩,
        ⟨(some 39), .un .not (.t 38), none⟩] [0, 4, 7, 34, 35, 36, 37, 38])
    (.cond (.t 39)
      (.seq (.region [⟨(some 4), .mv (.k (.c (.d (.bool false)))), none⟩] [3, 8, 39])
      (.ret))
      (.skip)))
  (.seq (.seq (.region [⟨(some 40), .load (some 1) (.t 8), none⟩,
        ⟨(some 41), .load (some 1) (.t 3), none⟩,
        ⟨(some 42), .qcall 8 [(.t 41)], none⟩,
        ⟨(some 43), .qcall 11 [(.t 40), (.t 42)], none⟩,
        ⟨(some 44), .un .not (.t 43), none⟩] [3, 4, 8, 39, 40, 41, 42, 43])
    (.cond (.t 44)
      (.seq (.region [⟨(some 4), .mv (.k (.c (.d (.bool false)))), none⟩] [44])
      (.ret))
      (.skip)))
  (.seq (.region [⟨(some 4), .mv (.k (.c (.d (.bool true)))), none⟩] [44])
  (.ret))))))))))))))
theorem ac3_ok : cFunc Tryz.prog [1000006, 1000007, 1000008, 1000009, 1000010, 1000011] [(0, [1, 4], []), (1, [], []), (2, [10, 11, 12], []), (3, [13], []), (4, [0, 3, 5, 14], []), (5, [4, 14, 15, 16, 17], []), (6, [5, 18], []), (7, [0, 3, 19], []), (8, [4, 19, 20, 21, 22, 23, 24], [0, 1, 2, 3, 4, 5]), (9, [25, 26], []), (10, [27, 28], []), (11, [29, 30, 31], []), (12, [6, 9, 32, 33], []), (13, [0, 3, 7, 8, 34], []), (14, [0, 4, 7, 34, 35, 36, 37, 38], []), (15, [3, 8, 39], []), (16, [3, 4, 8, 39, 40, 41, 42, 43], [0, 1, 2, 3, 4]), (17, [44], []), (18, [44], [])] Tryz.f3 = some (ac3, [.tmp 4], 45) := by kernel_rfl
theorem faLaw_calls {g : Nat} {o : Obj} (hT : Tab g o) (l : List Tm) (hl : l.length ≤ reachBytes) (hfine : ∀ t ∈ l, t.fine) (vals : List Tm) (hvl : vals.length ≤ reachBytes) (hvf : ∀ t ∈ vals, t.fine) (H : Heap) (hH : H[0]? = some (.tab g o)) :
    ACalls Tryz.prog 3 [.c (.d (.sl (l.map Tm.row))), .agg [.d (.sl (vals.map Tm.row))]] H (fun r H' => H' = H ∧ r = .c (.d (.bool true))) := by
  refine acalls Tryz.func3 (by kernel_rfl) ac3_ok fun hf => ?_
  simp -implicitDefEqProofs [ac3, kw, ew, sw, aw_cond, awOps_nil, awOps_cons, awOps_guardE, nx_eq, awOp, -List.set_cons_succ, -List.set_cons_zero, A.ok, A.val, setSl, wrapG, guardB, getB, pickA, binA, binC, binD, cmpD, isCmp, unA, unD, lenA, AOp.total, kills, litB, FinQ, resOks, resOk, resA, resList, resOne, A.thaw, C.thaw, A.fits, As.fits, C.fits, evs, oks, callArgs, A.pure, C.pure, A.re, C.re, fieldAddrA, loadC, cut, A.cells, C.rows?, getOb, newOb, setOb, storeC, splice, Ob.re, Cs.fits, partsA, partsOk, parts2A, parts2Ok, fillC, fillRows, optInt, optOk, sliceA, clipC, optK_some, storeK_some, Option.map_some, toDs, C.toD, spliceD, appendA, capsOf, srcRows, allLen_nil_iff, allLen_cons_iff, allLen_append_iff, dropC, Obs.fits, eqCs, eqD, mapRow, mapPut, mapVal, mapOne, mapCells]
  refine call_some (szTermS_calls l hl hfine 1048576 (by omega) (by omega) _) (by simp [Ob.re, C.re]) (fun r => Left.re) hf ?_
  rintro _ ⟨q, rfl, hq0, hq1, hq2⟩
  simp -implicitDefEqProofs [kw, ew, sw, aw_cond, awOps_nil, awOps_cons, awOps_guardE, nx_eq, awOp, -List.set_cons_succ, -List.set_cons_zero, A.ok, A.val, setSl, wrapG, guardB, getB, pickA, binA, binC, binD, cmpD, isCmp, unA, unD, lenA, AOp.total, kills, litB, FinQ, resOks, resOk, resA, resList, resOne, A.thaw, C.thaw, A.fits, As.fits, C.fits, evs, oks, callArgs, A.pure, C.pure, A.re, C.re, fieldAddrA, loadC, cut, A.cells, C.rows?, getOb, newOb, setOb, storeC, splice, Ob.re, Cs.fits, partsA, partsOk, parts2A, parts2Ok, fillC, fillRows, optInt, optOk, sliceA, clipC, optK_some, storeK_some, Option.map_some, toDs, C.toD, spliceD, appendA, capsOf, srcRows, allLen_nil_iff, allLen_cons_iff, allLen_append_iff, dropC, Obs.fits, eqCs, eqD, mapRow, mapPut, mapVal, mapOne, mapCells]
  intro hq
  have hL := hq2 hq
  refine call_some (szAnswer_calls vals hvl hvf q hq hq1 _) (by simp [Ob.re, C.re]) (fun r => Left.re) hf ?_
  rintro _ ⟨q2, rfl, hp0, hp1, hp2⟩
  simp -implicitDefEqProofs [kw, ew, sw, aw_cond, awOps_nil, awOps_cons, awOps_guardE, nx_eq, awOp, -List.set_cons_succ, -List.set_cons_zero, A.ok, A.val, setSl, wrapG, guardB, getB, pickA, binA, binC, binD, cmpD, isCmp, unA, unD, lenA, AOp.total, kills, litB, FinQ, resOks, resOk, resA, resList, resOne, A.thaw, C.thaw, A.fits, As.fits, C.fits, evs, oks, callArgs, A.pure, C.pure, A.re, C.re, fieldAddrA, loadC, cut, A.cells, C.rows?, getOb, newOb, setOb, storeC, splice, Ob.re, Cs.fits, partsA, partsOk, parts2A, parts2Ok, fillC, fillRows, optInt, optOk, sliceA, clipC, optK_some, storeK_some, Option.map_some, toDs, C.toD, spliceD, appendA, capsOf, srcRows, allLen_nil_iff, allLen_cons_iff, allLen_append_iff, dropC, Obs.fits, eqCs, eqD, mapRow, mapPut, mapVal, mapOne, mapCells]
  intro hp
  have hR := hp2 hp
  refine qcall_pure (toTermS_calls l hL.1 hL.2) hf rfl ?_
  simp -implicitDefEqProofs [kw, ew, sw, aw_cond, awOps_nil, awOps_cons, awOps_guardE, nx_eq, awOp, -List.set_cons_succ, -List.set_cons_zero, A.ok, A.val, setSl, wrapG, guardB, getB, pickA, binA, binC, binD, cmpD, isCmp, unA, unD, lenA, AOp.total, kills, litB, FinQ, resOks, resOk, resA, resList, resOne, A.thaw, C.thaw, A.fits, As.fits, C.fits, evs, oks, callArgs, A.pure, C.pure, A.re, C.re, fieldAddrA, loadC, cut, A.cells, C.rows?, getOb, newOb, setOb, storeC, splice, Ob.re, Cs.fits, partsA, partsOk, parts2A, parts2Ok, fillC, fillRows, optInt, optOk, sliceA, clipC, optK_some, storeK_some, Option.map_some, toDs, C.toD, spliceD, appendA, capsOf, srcRows, allLen_nil_iff, allLen_cons_iff, allLen_append_iff, dropC, Obs.fits, eqCs, eqD, mapRow, mapPut, mapVal, mapOne, mapCells]
  refine qcall_pure (toAnswer_calls vals hR) hf rfl ?_
  simp -implicitDefEqProofs [kw, ew, sw, aw_cond, awOps_nil, awOps_cons, awOps_guardE, nx_eq, awOp, -List.set_cons_succ, -List.set_cons_zero, A.ok, A.val, setSl, wrapG, guardB, getB, pickA, binA, binC, binD, cmpD, isCmp, unA, unD, lenA, AOp.total, kills, litB, FinQ, resOks, resOk, resA, resList, resOne, A.thaw, C.thaw, A.fits, As.fits, C.fits, evs, oks, callArgs, A.pure, C.pure, A.re, C.re, fieldAddrA, loadC, cut, A.cells, C.rows?, getOb, newOb, setOb, storeC, splice, Ob.re, Cs.fits, partsA, partsOk, parts2A, parts2Ok, fillC, fillRows, optInt, optOk, sliceA, clipC, optK_some, storeK_some, Option.map_some, toDs, C.toD, spliceD, appendA, capsOf, srcRows, allLen_nil_iff, allLen_cons_iff, allLen_append_iff, dropC, Obs.fits, eqCs, eqD, mapRow, mapPut, mapVal, mapOne, mapCells]
  refine qcall_pure (faSpec_calls l hL.1 hL.2 vals hR.1 hR.2) hf rfl ?_
  simp -implicitDefEqProofs [kw, ew, sw, aw_cond, awOps_nil, awOps_cons, awOps_guardE, nx_eq, awOp, -List.set_cons_succ, -List.set_cons_zero, A.ok, A.val, setSl, wrapG, guardB, getB, pickA, binA, binC, binD, cmpD, isCmp, unA, unD, lenA, AOp.total, kills, litB, FinQ, resOks, resOk, resA, resList, resOne, A.thaw, C.thaw, A.fits, As.fits, C.fits, evs, oks, callArgs, A.pure, C.pure, A.re, C.re, fieldAddrA, loadC, cut, A.cells, C.rows?, getOb, newOb, setOb, storeC, splice, Ob.re, Cs.fits, partsA, partsOk, parts2A, parts2Ok, fillC, fillRows, optInt, optOk, sliceA, clipC, optK_some, storeK_some, Option.map_some, toDs, C.toD, spliceD, appendA, capsOf, srcRows, allLen_nil_iff, allLen_cons_iff, allLen_append_iff, dropC, Obs.fits, eqCs, eqD, mapRow, mapPut, mapVal, mapOne, mapCells]
  refine qcall_pure (toTermS_calls l hL.1 hL.2) hf rfl ?_
  simp -implicitDefEqProofs [hf, kw, ew, sw, aw_cond, awOps_nil, awOps_cons, awOps_guardE, nx_eq, awOp, -List.set_cons_succ, -List.set_cons_zero, A.ok, A.val, setSl, wrapG, guardB, getB, pickA, binA, binC, binD, cmpD, isCmp, unA, unD, lenA, AOp.total, kills, litB, FinQ, resOks, resOk, resA, resList, resOne, A.thaw, C.thaw, A.fits, As.fits, C.fits, evs, oks, callArgs, A.pure, C.pure, A.re, C.re, fieldAddrA, loadC, cut, A.cells, C.rows?, getOb, newOb, setOb, storeC, splice, Ob.re, Cs.fits, partsA, partsOk, parts2A, parts2Ok, fillC, fillRows, optInt, optOk, sliceA, clipC, optK_some, storeK_some, Option.map_some, toDs, C.toD, spliceD, appendA, capsOf, srcRows, allLen_nil_iff, allLen_cons_iff, allLen_append_iff, dropC, Obs.fits, eqCs, eqD, mapRow, mapPut, mapVal, mapOne, mapCells]
  refine qcall_pure (toAnswer_calls vals hR) hf rfl ?_
  simp -implicitDefEqProofs [hf, kw, ew, sw, aw_cond, awOps_nil, awOps_cons, awOps_guardE, nx_eq, awOp, -List.set_cons_succ, -List.set_cons_zero, A.ok, A.val, setSl, wrapG, guardB, getB, pickA, binA, binC, binD, cmpD, isCmp, unA, unD, lenA, AOp.total, kills, litB, FinQ, resOks, resOk, resA, resList, resOne, A.thaw, C.thaw, A.fits, As.fits, C.fits, evs, oks, callArgs, A.pure, C.pure, A.re, C.re, fieldAddrA, loadC, cut, A.cells, C.rows?, getOb, newOb, setOb, storeC, splice, Ob.re, Cs.fits, partsA, partsOk, parts2A, parts2Ok, fillC, fillRows, optInt, optOk, sliceA, clipC, optK_some, storeK_some, Option.map_some, toDs, C.toD, spliceD, appendA, capsOf, srcRows, allLen_nil_iff, allLen_cons_iff, allLen_append_iff, dropC, Obs.fits, eqCs, eqD, mapRow, mapPut, mapVal, mapOne, mapCells]
  refine qcall_tab (faImpl_calls hT l hL.1 hL.2 vals hR.1 hR.2) hf hH rfl ?_
  simp -implicitDefEqProofs [kw, ew, sw, aw_cond, awOps_nil, awOps_cons, awOps_guardE, nx_eq, awOp, -List.set_cons_succ, -List.set_cons_zero, A.ok, A.val, setSl, wrapG, guardB, getB, pickA, binA, binC, binD, cmpD, isCmp, unA, unD, lenA, AOp.total, kills, litB, FinQ, resOks, resOk, resA, resList, resOne, A.thaw, C.thaw, A.fits, As.fits, C.fits, evs, oks, callArgs, A.pure, C.pure, A.re, C.re, fieldAddrA, loadC, cut, A.cells, C.rows?, getOb, newOb, setOb, storeC, splice, Ob.re, Cs.fits, partsA, partsOk, parts2A, parts2Ok, fillC, fillRows, optInt, optOk, sliceA, clipC, optK_some, storeK_some, Option.map_some, toDs, C.toD, spliceD, appendA, capsOf, srcRows, allLen_nil_iff, allLen_cons_iff, allLen_append_iff, dropC, Obs.fits, eqCs, eqD, mapRow, mapPut, mapVal, mapOne, mapCells]
  refine qcall_pure (toTermS_calls l hL.1 hL.2) hf rfl ?_
  simp -implicitDefEqProofs [hf, kw, ew, sw, aw_cond, awOps_nil, awOps_cons, awOps_guardE, nx_eq, awOp, -List.set_cons_succ, -List.set_cons_zero, A.ok, A.val, setSl, wrapG, guardB, getB, pickA, binA, binC, binD, cmpD, isCmp, unA, unD, lenA, AOp.total, kills, litB, FinQ, resOks, resOk, resA, resList, resOne, A.thaw, C.thaw, A.fits, As.fits, C.fits, evs, oks, callArgs, A.pure, C.pure, A.re, C.re, fieldAddrA, loadC, cut, A.cells, C.rows?, getOb, newOb, setOb, storeC, splice, Ob.re, Cs.fits, partsA, partsOk, parts2A, parts2Ok, fillC, fillRows, optInt, optOk, sliceA, clipC, optK_some, storeK_some, Option.map_some, toDs, C.toD, spliceD, appendA, capsOf, srcRows, allLen_nil_iff, allLen_cons_iff, allLen_append_iff, dropC, Obs.fits, eqCs, eqD, mapRow, mapPut, mapVal, mapOne, mapCells]
  refine qcall_pure (eqTermS_calls l hL.1 hL.2) hf rfl ?_
  simp -implicitDefEqProofs [kw, ew, sw, aw_cond, awOps_nil, awOps_cons, awOps_guardE, nx_eq, awOp, -List.set_cons_succ, -List.set_cons_zero, A.ok, A.val, setSl, wrapG, guardB, getB, pickA, binA, binC, binD, cmpD, isCmp, unA, unD, lenA, AOp.total, kills, litB, FinQ, resOks, resOk, resA, resList, resOne, A.thaw, C.thaw, A.fits, As.fits, C.fits, evs, oks, callArgs, A.pure, C.pure, A.re, C.re, fieldAddrA, loadC, cut, A.cells, C.rows?, getOb, newOb, setOb, storeC, splice, Ob.re, Cs.fits, partsA, partsOk, parts2A, parts2Ok, fillC, fillRows, optInt, optOk, sliceA, clipC, optK_some, storeK_some, Option.map_some, toDs, C.toD, spliceD, appendA, capsOf, srcRows, allLen_nil_iff, allLen_cons_iff, allLen_append_iff, dropC, Obs.fits, eqCs, eqD, mapRow, mapPut, mapVal, mapOne, mapCells]
  refine qcall_pure (toAnswer_calls vals hR) hf rfl ?_
  simp -implicitDefEqProofs [hf, kw, ew, sw, aw_cond, awOps_nil, awOps_cons, awOps_guardE, nx_eq, awOp, -List.set_cons_succ, -List.set_cons_zero, A.ok, A.val, setSl, wrapG, guardB, getB, pickA, binA, binC, binD, cmpD, isCmp, unA, unD, lenA, AOp.total, kills, litB, FinQ, resOks, resOk, resA, resList, resOne, A.thaw, C.thaw, A.fits, As.fits, C.fits, evs, oks, callArgs, A.pure, C.pure, A.re, C.re, fieldAddrA, loadC, cut, A.cells, C.rows?, getOb, newOb, setOb, storeC, splice, Ob.re, Cs.fits, partsA, partsOk, parts2A, parts2Ok, fillC, fillRows, optInt, optOk, sliceA, clipC, optK_some, storeK_some, Option.map_some, toDs, C.toD, spliceD, appendA, capsOf, srcRows, allLen_nil_iff, allLen_cons_iff, allLen_append_iff, dropC, Obs.fits, eqCs, eqD, mapRow, mapPut, mapVal, mapOne, mapCells]
  refine qcall_pure (eqAnswer_calls vals hR) hf rfl ?_
  simp -implicitDefEqProofs [kw, ew, sw, aw_cond, awOps_nil, awOps_cons, awOps_guardE, nx_eq, awOp, -List.set_cons_succ, -List.set_cons_zero, A.ok, A.val, setSl, wrapG, guardB, getB, pickA, binA, binC, binD, cmpD, isCmp, unA, unD, lenA, AOp.total, kills, litB, FinQ, resOks, resOk, resA, resList, resOne, A.thaw, C.thaw, A.fits, As.fits, C.fits, evs, oks, callArgs, A.pure, C.pure, A.re, C.re, fieldAddrA, loadC, cut, A.cells, C.rows?, getOb, newOb, setOb, storeC, splice, Ob.re, Cs.fits, partsA, partsOk, parts2A, parts2Ok, fillC, fillRows, optInt, optOk, sliceA, clipC, optK_some, storeK_some, Option.map_some, toDs, C.toD, spliceD, appendA, capsOf, srcRows, allLen_nil_iff, allLen_cons_iff, allLen_append_iff, dropC, Obs.fits, eqCs, eqD, mapRow, mapPut, mapVal, mapOne, mapCells]
theorem law_run3 {g : Nat} {o : Obj} (hT : Tab g o) (rows : List (List D)) (hr : HasTys Tryz.prog (#[22, 24] : Array TypeId).toList rows) : ACalls Tryz.prog 3 (argsA Tryz.prog (#[22, 24] : Array TypeId).toList rows) [.tab g o] (fun r H' => H' = [.tab g o] ∧ r = .c (.d (.bool true))) := by
  obtain ⟨r, rs, rfl, h1, h2⟩ := hr.cons
  obtain ⟨r', rs, rfl, h2', h3⟩ := h2.cons
  obtain rfl := h3.nil
  obtain ⟨l, rfl, hl, hfine⟩ := tms_ty h1
  obtain ⟨l', rfl, hl', hfine'⟩ := answer_ty h2'
  simp only [argsA, argA, Tryz.underlying24]
  exact faLaw_calls hT l hl hfine l' hl' hfine' _ rfl
namespace fnExactFormatAnswer
theorem own : ownKnob Tryz.prog.godebug = none := by kernel_rfl
theorem door_met (os : Os) (args : Array Value) : laidMetH Tryz.prog laid ((World.doorLaid Tryz.prog 400 os).forCall (fun _ _ => 0) ⟨#[], args, []⟩).memory :=
  laidMetH_of_parts3 (fuel := 8) (laidMet_of_run' 8 (by kernel_rfl) (by kernel_rfl)) (by kernel_rfl) (by kernel_rfl)
theorem contract (H : Type) (enc : TypeId × Value → H) (W : World) (base : Nat) (args : Array Value) (ds gs : List (DataW H)) (before : List MemPlace) (hL : laidMetH Tryz.prog laid W)
    (hval : ∀ (j : Nat) t v, Tryz.f3.params[j]? = some t → args[j]? = some v → Value.okWide Tryz.prog W .any base t v)
    (hW : DataW.Whole enc Tryz.prog Tryz.f3.params.toList Rows.fnExactFormatAnswerSpec.vars false W args.toList ds gs before)
    (hw : (DataW.weightsEach Tryz.prog (Tryz.f3.params.toList ++ Rows.fnExactFormatAnswerSpec.plain.varTypes Tryz.prog) (ds ++ gs)).all (· ≤ reachBytes) = true) :
    Calls Tryz.prog 3 args W fun e W' => ∃ v, e = .returned v ∧ Rows.fnExactFormatAnswerSpec.post enc Tryz.prog Tryz.f3 false true false false W args v W' := by
  refine law_contract_tab (T := Tab) (L := [3, 9, 38, 22, 24]) (tb := 4) (by kernel_rfl) (by kernel_rfl) (by kernel_rfl) rfl ?_ (by kernel_rfl) Tryz.underlying4 ?_ W base args ds gs before (tab_laid hL) hval hW hw
  · intro ds hl
    match ds, hl with
    | [d0, d1], _ => rfl
  · intro g o hT rows hr
    rw [Tryz.params3] at hr ⊢
    exact law_run3 hT rows hr

theorem lifted (os : Os) (started : os.Started) (H : Type) (enc : TypeId × Value → H) :
    ReturnsInHanded {} Tryz.checked os 3 .any (fun w args => (Rows.fnExactFormatAnswerSpec.pre enc Tryz.prog Tryz.f3 [] false w args ∧ laidMetH Tryz.prog laid w) ∧ sizedMet enc Tryz.prog Tryz.f3 (OpenSpec.ofChange Rows.fnExactFormatAnswerSpec) false w args)
      (Rows.fnExactFormatAnswerSpec.post enc Tryz.prog Tryz.f3 false true false false) := by
  refine returnsInHanded_of_change_and (C := Tryz.checked) (X := fun w _ => laidMetH Tryz.prog laid w) (fun _ _ _ hh h => h.of_heap hh) own started (by kernel_rfl) Tryz.func3
    (ChangeSpec.witness_shaped (enc := enc) (C := Tryz.checked) (os := os) (X := fun w _ => laidMetH Tryz.prog laid w) false (World.doorLaid Tryz.prog 400 os) #[.slice none 0 0, .agg #[.slice none 0 0]] 8 rfl (World.shaped_of_RefB (by kernel_rfl) (by kernel_rfl)) (by kernel_rfl) (by kernel_rfl) (by kernel_rfl) (door_met os _)) ?_
  intro W base args ds gs before hval hW _ hw hL _
  exact contract H enc W base args ds gs before hL hval hW hw

theorem said : Rows.FnExactFormatAnswerSaid :=
  OpenClaim.holds_of_wide 3 Tryz.f3 rfl rfl rfl rfl rfl rfl rfl ⟨rfl, rfl, rfl, rfl, rfl⟩ rfl rfl rfl rfl rfl (by kernel_rfl) Tryz.func3 (by kernel_rfl)
    (of_decide_eq_true (by kernel_rfl)) (by unfold Func.isWrapper; first | (rw [if_pos (by decide +kernel)]; kernel_rfl) | (rw [if_neg (by decide +kernel)]; exact ⟨rfl, rfl⟩))
    (fun os started H enc _ => lifted os started H enc)

theorem proved : Rows.FnExactFormatAnswerCardSaid :=
  Claim7.holds_tied_plain_at .later [] [.data, .data, .data] true Rows.fnExactFormatAnswerCard.stood.harness false
    said (fun _ h => by cases h) (by kernel_rfl) (fun _ h => by cases h) fnExactFormatAnswer_row_tie rfl ⟨rfl, rfl⟩ (by kernel_rfl) rfl
    (fun f fn hf hfn => by
      obtain rfl : f = 3 := Option.some.inj ((show Tryz.prog.funcNamed Rows.fnExactFormatAnswerRow.func = some 3 by kernel_rfl).symm.trans hf) |>.symm
      obtain rfl : fn = Tryz.f3 := (Option.some.inj (Tryz.func3.symm.trans hfn)).symm
      exact ⟨by kernel_rfl, fun j t ht => by
        rw [Tryz.params3] at ht
        have hall : (Tryz.f3.params.toList.all fun u => !Tryz.prog.wantsStandIn u) = true := by kernel_rfl
        have hm : t ∈ Tryz.f3.params.toList := by
          rw [Tryz.params3]
          simpa using Array.mem_of_getElem? ht
        exact (show Tryz.prog.wantsStandIn t = false by simpa using List.all_eq_true.1 hall t hm)⟩)
    (by kernel_rfl)
end fnExactFormatAnswer

end Go.Proofs.YtikgpomnibbioaaGreatDoor
