/-
  The law FnExactCompileClause holds: impl.CompileClause answers as spec.CompileClause does, with memory of its own.
  Conditions: none.
-/
import Derived.Test.YtaegeehpajlebaaCmP
import Derived.Test.YtaegeehpajlebaaInsM
import Derived.Test.YtaegeehpajlebaaClauseW
import Derived.Test.YtaegeehpajlebaaTermTy
open Go Go.AM Go.Proofs
namespace Go.Proofs.Ytaegeehpajlebaa
open Go.ChangeShapes Go.WideShapes Go.ChangeAt Go.RowKit
set_option linter.unusedVariables false
set_option linter.unusedSimpArgs false
set_option maxRecDepth 100000
-- 5 loop.example/prologserver/laws.FnExactCompileClause params 1 ntmps 96
def ac5 : Cd := .seq (.region [⟨(some 1), .box (.t 0), none⟩,
      ⟨(some 2), .mv (.k (.c (.d (.bool false)))), none⟩] [0, 2])
  (.seq (.region [⟨(some 3), .mv (.k (.c (.d (.int .i64 1048576)))), none⟩] [])
  (.seq (.region [⟨(some 14), .load (some 5) (.t 1), none⟩,
      ⟨(some 15), .mv (.t 3), none⟩,
      ⟨(some 16), .call false 27 [(.t 14), (.t 15)], none⟩,
      ⟨(some 3), .mv (.t 16), none⟩] [14, 15, 16])
  (.seq (.seq (.region [⟨(some 17), .mv (.t 3), none⟩,
        ⟨(some 18), .bin .lss (.t 17) (.k (.c (.d (.int .i64 0)))), none⟩] [3, 17])
    (.cond (.t 18)
      (.seq (.region [⟨(some 2), .mv (.k (.c (.d (.bool true)))), none⟩] [1, 18])
      (.ret))
      (.skip)))
  (.seq (.region [⟨(some 20), .load (some 5) (.t 1), none⟩,
      ⟨(some 21), .qcall 29 [(.t 20)], none⟩,
      ⟨(some 22), .qcall 28 [(.t 21)], none⟩,
      ⟨(some 19), .mv (.t 22), none⟩,
      ⟨(some 23), .extract 0 (.t 19), none⟩,
      ⟨(some 24), .extract 1 (.t 19), none⟩,
      ⟨(some 4), .mv (.t 23), none⟩,
      ⟨(some 5), .mv (.t 24), none⟩] [2, 18, 19, 20, 21, 22, 23, 24])
  (.seq (.region [⟨(some 25), .load (some 5) (.t 1), none⟩,
      ⟨(some 26), .call false 29 [(.t 25)], none⟩,
      ⟨(some 6), .alloc [(.d (.int .i64 0)), (.d (.int .i64 0)), (.d (.str [])), (.full []), (.full [])], none⟩,
      ⟨none, .store 5 (.t 6) (.t 26), none⟩] [25, 26])
  (.seq (.region [⟨(some 28), .load (some 5) (.t 6), none⟩,
      ⟨(some 29), .call false 30 [(.t 28)], none⟩,
      ⟨(some 27), .mv (.t 29), none⟩,
      ⟨(some 30), .extract 0 (.t 27), none⟩,
      ⟨(some 31), .extract 1 (.t 27), none⟩,
      ⟨(some 7), .mv (.t 30), none⟩,
      ⟨(some 8), .mv (.t 31), none⟩] [27, 28, 29, 30, 31])
  (.seq (.seq (.region [⟨(some 32), .mv (.t 7), none⟩,
        ⟨(some 33), .mv (.t 4), none⟩,
        ⟨(some 34), .qcall 22 [(.t 32), (.t 33)], none⟩,
        ⟨(some 35), .un .not (.t 34), none⟩,
        ⟨(some 36), .mv (.t 35), none⟩,
        ⟨(some 37), .mv (.t 8), some (36, false)⟩,
        ⟨(some 38), .mv (.t 5), some (36, false)⟩,
        ⟨(some 39), .binB true (.t 37) (.t 38), some (36, false)⟩,
        ⟨(some 40), .pick (.t 36) (.k (.c (.d (.bool true)))) (.t 39), none⟩] [32, 33, 34, 35, 36, 37, 38, 39])
    (.cond (.t 40)
      (.seq (.region [⟨(some 2), .mv (.k (.c (.d (.bool false)))), none⟩] [1, 4, 5, 6, 7, 8, 40])
      (.ret))
      (.skip)))
  (.seq (.seq (.region [⟨(some 41), .load (some 5) (.t 6), none⟩,
        ⟨(some 42), .load (some 5) (.t 1), none⟩,
        ⟨(some 43), .qcall 29 [(.t 42)], none⟩,
        ⟨(some 44), .qcall 31 [(.t 41), (.t 43)], none⟩,
        ⟨(some 45), .un .not (.t 44), none⟩] [2, 40, 41, 42, 43, 44])
    (.cond (.t 45)
      (.seq (.region [⟨(some 2), .mv (.k (.c (.d (.bool false)))), none⟩] [1, 4, 5, 6, 7, 8, 45])
      (.ret))
      (.skip)))
  (.seq (.region [⟨(some 9), .mv (.k (.c (.d (.int .i64 1)))), none⟩] [2, 45])
  (.seq (.region [⟨(some 46), .load (some 5) (.t 6), none⟩,
      ⟨(some 47), .mv (.t 9), none⟩,
      ⟨(some 48), .call false 32 [(.t 46), (.t 47)], none⟩,
      ⟨(some 9), .mv (.t 48), none⟩] [6, 46, 47, 48])
  (.seq (.seq (.region [⟨(some 49), .mv (.t 9), none⟩,
        ⟨(some 50), .bin .lss (.t 49) (.k (.c (.d (.int .i64 0)))), none⟩,
        ⟨(some 51), .mv (.t 50), none⟩,
        ⟨(some 52), .mv (.t 7), some (51, false)⟩,
        ⟨(some 53), .mv (.t 4), some (51, false)⟩,
        ⟨(some 54), .qcall 22 [(.t 52), (.t 53)], some (51, false)⟩,
        ⟨(some 55), .un .not (.t 54), some (51, false)⟩,
        ⟨(some 56), .pick (.t 51) (.k (.c (.d (.bool true)))) (.t 55), none⟩,
        ⟨(some 57), .mv (.t 56), none⟩,
        ⟨(some 58), .mv (.t 8), some (57, false)⟩,
        ⟨(some 59), .mv (.t 5), some (57, false)⟩,
        ⟨(some 60), .binB true (.t 58) (.t 59), some (57, false)⟩,
        ⟨(some 61), .pick (.t 57) (.k (.c (.d (.bool true)))) (.t 60), none⟩] [8, 9, 49, 50, 51, 52, 53, 54, 55, 56, 57, 58, 59, 60])
    (.cond (.t 61)
      (.seq (.region [⟨(some 2), .mv (.k (.c (.d (.bool false)))), none⟩] [1, 4, 5, 7, 61])
      (.ret))
      (.skip)))
  (.seq (.region [⟨(some 10), .mv (.k (.c (.d (.int .i64 1)))), none⟩] [2, 61])
  (.seq (.region [⟨(some 62), .mv (.t 7), none⟩,
      ⟨(some 63), .mv (.t 10), none⟩,
      ⟨(some 64), .call false 25 [(.t 62), (.t 63)], none⟩,
      ⟨(some 10), .mv (.t 64), none⟩] [62, 63, 64])
  (.seq (.region [⟨(some 11), .mv (.k (.c (.d (.int .i64 1)))), none⟩] [])
  (.seq (.region [⟨(some 65), .mv (.t 7), none⟩,
      ⟨(some 66), .mv (.t 11), none⟩,
      ⟨(some 67), .qcall 26 [(.t 65), (.t 66)], none⟩,
      ⟨(some 11), .mv (.t 67), none⟩] [65, 66, 67])
  (.seq (.seq (.region [⟨(some 68), .mv (.t 11), none⟩,
        ⟨(some 69), .bin .lss (.t 68) (.k (.c (.d (.int .i64 0)))), none⟩] [68])
    (.cond (.t 69)
      (.seq (.region [⟨(some 2), .mv (.k (.c (.d (.bool false)))), none⟩] [1, 4, 5, 7, 10, 11, 69])
      (.ret))
      (.skip)))
  (.seq (.seq (.region [⟨(some 70), .mv (.t 11), none⟩,
        ⟨(some 71), .mv (.t 10), none⟩,
        ⟨(some 72), .bin .neq (.t 70) (.t 71), none⟩] [2, 11, 69, 70, 71])
    (.cond (.t 72)
      (.seq (.region [⟨(some 2), .mv (.k (.c (.d (.bool false)))), none⟩] [1, 4, 5, 7, 10, 72])
      (.ret))
      (.skip)))
  (.seq (.region [⟨(some 74), .load (some 5) (.t 1), none⟩,
      ⟨(some 75), .qcall 29 [(.t 74)], none⟩,
      ⟨(some 76), .call false 30 [(.t 75)], none⟩,
      ⟨(some 73), .mv (.t 76), none⟩,
      ⟨(some 77), .extract 0 (.t 73), none⟩,
      ⟨(some 78), .extract 1 (.t 73), none⟩,
      ⟨(some 12), .mv (.t 77), none⟩,
      ⟨(some 13), .mv (.t 78), none⟩] [1, 2, 72, 73, 74, 75, 76, 77, 78])
  (.seq (.seq (.region [⟨(some 79), .mv (.t 12), none⟩,
        ⟨(some 80), .mv (.t 4), none⟩,
        ⟨(some 81), .qcall 22 [(.t 79), (.t 80)], none⟩,
        ⟨(some 82), .un .not (.t 81), none⟩,
        ⟨(some 83), .mv (.t 82), none⟩,
        ⟨(some 84), .mv (.t 13), some (83, false)⟩,
        ⟨(some 85), .mv (.t 5), some (83, false)⟩,
        ⟨(some 86), .binB true (.t 84) (.t 85), some (83, false)⟩,
        ⟨(some 87), .pick (.t 83) (.k (.c (.d (.bool true)))) (.t 86), none⟩] [4, 5, 12, 13, 79, 80, 81, 82, 83, 84, 85, 86])
    (.cond (.t 87)
      (.seq (.region [⟨(some 2), .mv (.k (.c (.d (.bool false)))), none⟩] [7, 10, 87])
      (.ret))
      (.skip)))
  (.seq (.region [⟨(some 11), .mv (.k (.c (.d (.int .i64 1)))), none⟩] [2, 87])
  (.seq (.region [⟨(some 88), .mv (.t 7), none⟩,
      ⟨(some 89), .mv (.t 11), none⟩,
      ⟨(some 90), .qcall 26 [(.t 88), (.t 89)], none⟩,
      ⟨(some 11), .mv (.t 90), none⟩] [7, 88, 89, 90])
  (.seq (.seq (.region [⟨(some 91), .mv (.t 11), none⟩,
        ⟨(some 92), .bin .lss (.t 91) (.k (.c (.d (.int .i64 0)))), none⟩] [91])
    (.cond (.t 92)
      (.seq (.region [⟨(some 2), .mv (.k (.c (.d (.bool false)))), none⟩] [10, 11, 92])
      (.ret))
      (.skip)))
  (.seq (.seq (.region [⟨(some 93), .mv (.t 11), none⟩,
        ⟨(some 94), .mv (.t 10), none⟩,
        ⟨(some 95), .bin .neq (.t 93) (.t 94), none⟩] [2, 10, 11, 92, 93, 94])
    (.cond (.t 95)
      (.seq (.region [⟨(some 2), .mv (.k (.c (.d (.bool false)))), none⟩] [95])
      (.ret))
      (.skip)))
  (.seq (.region [⟨(some 2), .mv (.k (.c (.d (.bool true)))), none⟩] [95])
  (.ret)))))))))))))))))))))))))
theorem ac5_ok : cFunc Try.prog [1000022, 1000026, 1000028, 1000029, 1000031, 7000025] [(0, [0, 2], []), (1, [], []), (2, [14, 15, 16], []), (3, [3, 17], []), (4, [1, 18], []), (5, [2, 18, 19, 20, 21, 22, 23, 24], []), (6, [25, 26], []), (7, [27, 28, 29, 30, 31], []), (8, [32, 33, 34, 35, 36, 37, 38, 39], []), (9, [1, 4, 5, 6, 7, 8, 40], []), (10, [2, 40, 41, 42, 43, 44], [0, 1, 2, 3, 4]), (11, [1, 4, 5, 6, 7, 8, 45], []), (12, [2, 45], []), (13, [6, 46, 47, 48], []), (14, [8, 9, 49, 50, 51, 52, 53, 54, 55, 56, 57, 58, 59, 60], []), (15, [1, 4, 5, 7, 61], []), (16, [2, 61], []), (17, [62, 63, 64], []), (18, [], []), (19, [65, 66, 67], []), (20, [68], []), (21, [1, 4, 5, 7, 10, 11, 69], []), (22, [2, 11, 69, 70, 71], []), (23, [1, 4, 5, 7, 10, 72], []), (24, [1, 2, 72, 73, 74, 75, 76, 77, 78], []), (25, [4, 5, 12, 13, 79, 80, 81, 82, 83, 84, 85, 86], []), (26, [7, 10, 87], []), (27, [2, 87], []), (28, [7, 88, 89, 90], []), (29, [91], []), (30, [10, 11, 92], []), (31, [2, 10, 11, 92, 93, 94], []), (32, [95], []), (33, [95], [])] Try.f5 = some (ac5, [.tmp 2], 96) := by kernel_rfl
-- 32 loop.example/prologserver/laws.markClause params 2 ntmps 14
def ac32 : Cd := .seq (.region [⟨(some 2), .box (.t 0), none⟩,
      ⟨(some 4), .mv (.k (.c (.d (.int .i64 0)))), none⟩] [0, 4])
  (.seq (.region [⟨(some 5), .fieldAddr 0 (.t 2), none⟩,
      ⟨(some 6), .load (some 4) (.t 5), none⟩,
      ⟨(some 7), .mv (.t 1), none⟩,
      ⟨(some 8), .call false 15 [(.t 6), (.t 7)], none⟩,
      ⟨(some 1), .mv (.t 8), none⟩] [5, 6, 7, 8])
  (.seq (.region [⟨(some 9), .fieldAddr 4 (.t 2), none⟩,
      ⟨(some 10), .load none (.t 9), none⟩,
      ⟨(some 11), .mv (.t 1), none⟩,
      ⟨(some 12), .call false 24 [(.t 10), (.t 11)], none⟩,
      ⟨(some 1), .mv (.t 12), none⟩] [2, 9, 10, 11, 12])
  (.seq (.region [⟨(some 13), .mv (.t 1), none⟩,
      ⟨(some 4), .mv (.t 13), none⟩] [1, 13])
  (.ret))))
theorem ac32_ok : cFunc Try.prog [] [(0, [0, 4], []), (1, [5, 6, 7, 8], []), (2, [2, 9, 10, 11, 12], []), (3, [1, 13], [])] Try.f32 = some (ac32, [.tmp 4], 14) := by kernel_rfl
theorem markClause_calls (c : Cl) (h : c.fits) (k : Int) (h0 : 0 ≤ k) (h1 : k + 3 * c.sub ≤ 500000000000000) (v w : Value) :
    ACalls Try.prog 32 [.agg [.d (.int .i64 c.head.k), .d (.int .i64 c.head.n), .d (.str c.head.s), .d (.v v), .d (.v w)], .c (.d (.int .i64 k))] [.tree v (c.head.kids.map Tm.row), .tree w (c.body.map Tm.row)]
    (fun r H' => H' = [.tree v ((mTms k c.head.kids).map Tm.row), .tree w ((mTms (k + 3 * c.head.sub) c.body).map Tm.row)] ∧ r = .c (.d (.int .i64 (k + 3 * c.sub)))) := by
  have hs : c.sub = c.head.sub + Tm.cnt c.body := rfl
  refine acalls Try.func32 (by kernel_rfl) ac32_ok fun hf => ?_
  simp -implicitDefEqProofs [ac32, kw, ew, sw, tw, aw_cond, awOps_guardE, awOp, -List.set_cons_succ, -List.set_cons_zero, A.ok, A.val, setSl, wrapG, guardB, getB, pickA, binA, binC, binD, cmpD, isCmp, unA, unD, lenA, AOp.total, kills, litB, FinQ, resOks, resOk, resA, resList, resOne, A.thaw, C.thaw, A.fits, As.fits, C.fits, evs, oks, callArgs, A.pure, C.pure, A.re, C.re, fieldAddrA, loadC, cut, A.cells, C.rows?, getOb, newOb, setOb, storeC, splice, Ob.re, Cs.fits, partsA, partsOk, parts2A, parts2Ok, fillC, fillRows, optInt, optOk, sliceA, clipC, toDs, C.toD, spliceD, appendA, capsOf, srcRows, dropC, Obs.fits, eqCs, eqD, mapRow, mapPut, mapVal, mapOne, mapCells]
  refine call_ext (J := [0]) (markTerm_calls c.head h.head k h0 (by omega) v) (fun r H' ⟨h1, h2⟩ => by subst h1; subst h2; exact ⟨⟨rfl, rfl⟩, rfl⟩) rfl (.cons (.agg (fzCs_id [.int .i64 c.head.k, .int .i64 c.head.n, .str c.head.s, .v v])) (.cons (.c .d) .nil)) (by simp) rfl rfl ⟨trivial, trivial, trivial⟩ ?_
  rintro _ _ ⟨rfl, rfl⟩
  simp -implicitDefEqProofs [putAll, kw, ew, sw, tw, aw_cond, awOps_guardE, awOp, -List.set_cons_succ, -List.set_cons_zero, A.ok, A.val, setSl, wrapG, guardB, getB, pickA, binA, binC, binD, cmpD, isCmp, unA, unD, lenA, AOp.total, kills, litB, FinQ, resOks, resOk, resA, resList, resOne, A.thaw, C.thaw, A.fits, As.fits, C.fits, evs, oks, callArgs, A.pure, C.pure, A.re, C.re, fieldAddrA, loadC, cut, A.cells, C.rows?, getOb, newOb, setOb, storeC, splice, Ob.re, Cs.fits, partsA, partsOk, parts2A, parts2Ok, fillC, fillRows, optInt, optOk, sliceA, clipC, toDs, C.toD, spliceD, appendA, capsOf, srcRows, dropC, Obs.fits, eqCs, eqD, mapRow, mapPut, mapVal, mapOne, mapCells]
  refine call_ext (J := [1]) (markTermS_calls c.body h.len h.body (k + 3 * c.head.sub) (by omega) (by omega) w) (fun r H' ⟨h1, h2⟩ => by subst h1; subst h2; exact ⟨⟨rfl, rfl⟩, rfl⟩) rfl (.cons (.c .d) (.cons (.c .d) .nil)) (by simp) rfl rfl ⟨trivial, trivial, trivial⟩ ?_
  rintro _ _ ⟨rfl, rfl⟩
  simp -implicitDefEqProofs [putAll, kw, ew, sw, tw, aw_cond, awOps_guardE, awOp, -List.set_cons_succ, -List.set_cons_zero, A.ok, A.val, setSl, wrapG, guardB, getB, pickA, binA, binC, binD, cmpD, isCmp, unA, unD, lenA, AOp.total, kills, litB, FinQ, resOks, resOk, resA, resList, resOne, A.thaw, C.thaw, A.fits, As.fits, C.fits, evs, oks, callArgs, A.pure, C.pure, A.re, C.re, fieldAddrA, loadC, cut, A.cells, C.rows?, getOb, newOb, setOb, storeC, splice, Ob.re, Cs.fits, partsA, partsOk, parts2A, parts2Ok, fillC, fillRows, optInt, optOk, sliceA, clipC, toDs, C.toD, spliceD, appendA, capsOf, srcRows, dropC, Obs.fits, eqCs, eqD, mapRow, mapPut, mapVal, mapOne, mapCells]
  omega
theorem ccxLaw_calls (c : Cl) (hfine : c.fine) : ACalls Try.prog 5 [.agg (c.row.map .d)] [] (fun r _ => r = .c (.d (.bool true))) := by
  refine acalls Try.func5 (by kernel_rfl) ac5_ok fun hf => ?_
  simp -implicitDefEqProofs [ac5, crow_len, take_crow, pure_d, re_d, kw, ew, sw, tw, aw_cond, awOps_guardE, awOp, -List.set_cons_succ, -List.set_cons_zero, A.ok, A.val, setSl, wrapG, guardB, getB, pickA, binA, binC, binD, cmpD, isCmp, unA, unD, lenA, AOp.total, kills, litB, FinQ, resOks, resOk, resA, resList, resOne, A.thaw, C.thaw, A.fits, As.fits, C.fits, evs, oks, callArgs, A.pure, C.pure, A.re, C.re, fieldAddrA, loadC, cut, A.cells, C.rows?, getOb, newOb, setOb, storeC, splice, Ob.re, Cs.fits, partsA, partsOk, parts2A, parts2Ok, fillC, fillRows, optInt, optOk, sliceA, clipC, toDs, C.toD, spliceD, appendA, capsOf, srcRows, dropC, Obs.fits, eqCs, eqD, mapRow, mapPut, mapVal, mapOne, mapCells]
  refine call_some (szwClause_calls c hfine 1048576 (by omega) (by omega) _) (by simp [Ob.re, C.re, re_d]) (fun r => LeftW.re) hf ?_
  rintro _ ⟨k, rfl, _, _, hk⟩
  simp -implicitDefEqProofs [crow_len, take_crow, pure_d, re_d, kw, ew, sw, tw, aw_cond, awOps_guardE, awOp, -List.set_cons_succ, -List.set_cons_zero, A.ok, A.val, setSl, wrapG, guardB, getB, pickA, binA, binC, binD, cmpD, isCmp, unA, unD, lenA, AOp.total, kills, litB, FinQ, resOks, resOk, resA, resList, resOne, A.thaw, C.thaw, A.fits, As.fits, C.fits, evs, oks, callArgs, A.pure, C.pure, A.re, C.re, fieldAddrA, loadC, cut, A.cells, C.rows?, getOb, newOb, setOb, storeC, splice, Ob.re, Cs.fits, partsA, partsOk, parts2A, parts2Ok, fillC, fillRows, optInt, optOk, sliceA, clipC, toDs, C.toD, spliceD, appendA, capsOf, srcRows, dropC, Obs.fits, eqCs, eqD, mapRow, mapPut, mapVal, mapOne, mapCells]
  intro h0
  have hfit : c.fits := (hk h0).1
  have hw := (hk h0).2
  have hcw := csub_wt c
  have cs := ccSpec_calls c hfit
  have ci := ccxOwn_calls c hfit
  obtain ⟨u, hu, hul⟩ := codeC_ins c
  rw [hu] at cs ci
  generalize c.validB = ok at cs ci
  have ctt := toClause_calls c hfit
  have ctto := toClauseOwn_calls c hfit
  have ceu := eqInstrS_calls u (by unfold reachBytes; omega) []
  have cet := eqClause_calls c hfit []
  have hp1 : ¬ (1 + 3 * (c.sub : Int) < 0) := by omega
  have hp2 : ¬ (1 + 4 * (u.length : Int) < 0) := by omega
  have zu : ∀ {H : Heap} {v : Value} {i : Nat}, H[i]? = some (.tree v (u.map Ins.row)) → FzL H [] [.c (.d (.v v)), .c (.d (.sl (u.map Ins.row)))] [.c (.d (.sl (u.map Ins.row))), .c (.d (.sl (u.map Ins.row)))] := fun h =>
    .cons (.c (.tree h (by simp))) (.cons (.c .d) .nil)
  refine qcall_pure ctt hf (by simp [A.re, re_d]) ?_
  simp -implicitDefEqProofs [crow_len, take_crow, pure_d, re_d, kw, ew, sw, tw, aw_cond, awOps_guardE, awOp, -List.set_cons_succ, -List.set_cons_zero, A.ok, A.val, setSl, wrapG, guardB, getB, pickA, binA, binC, binD, cmpD, isCmp, unA, unD, lenA, AOp.total, kills, litB, FinQ, resOks, resOk, resA, resList, resOne, A.thaw, C.thaw, A.fits, As.fits, C.fits, evs, oks, callArgs, A.pure, C.pure, A.re, C.re, fieldAddrA, loadC, cut, A.cells, C.rows?, getOb, newOb, setOb, storeC, splice, Ob.re, Cs.fits, partsA, partsOk, parts2A, parts2Ok, fillC, fillRows, optInt, optOk, sliceA, clipC, toDs, C.toD, spliceD, appendA, capsOf, srcRows, dropC, Obs.fits, eqCs, eqD, mapRow, mapPut, mapVal, mapOne, mapCells]
  refine qcall_pure cs hf rfl ?_
  simp -implicitDefEqProofs [crow_len, take_crow, pure_d, re_d, kw, ew, sw, tw, aw_cond, awOps_guardE, awOp, -List.set_cons_succ, -List.set_cons_zero, A.ok, A.val, setSl, wrapG, guardB, getB, pickA, binA, binC, binD, cmpD, isCmp, unA, unD, lenA, AOp.total, kills, litB, FinQ, resOks, resOk, resA, resList, resOne, A.thaw, C.thaw, A.fits, As.fits, C.fits, evs, oks, callArgs, A.pure, C.pure, A.re, C.re, fieldAddrA, loadC, cut, A.cells, C.rows?, getOb, newOb, setOb, storeC, splice, Ob.re, Cs.fits, partsA, partsOk, parts2A, parts2Ok, fillC, fillRows, optInt, optOk, sliceA, clipC, toDs, C.toD, spliceD, appendA, capsOf, srcRows, dropC, Obs.fits, eqCs, eqD, mapRow, mapPut, mapVal, mapOne, mapCells]
  refine call_loc (J := []) ctto (fun r H' h => h.handed) (by simp [Ob.re, C.re, re_d]) (.cons (.agg (fzCs_id c.row)) .nil) List.nodup_nil rfl rfl ?_
  rintro _ _ ⟨vs, hvs, rfl, rfl⟩ _
  obtain ⟨v, w, rfl⟩ : ∃ v w, vs = [v, w] := by
    match vs, hvs with
    | [v, w], _ => exact ⟨v, w, rfl⟩
  have ecut : cutR c.row [v, w] = [.int .i64 c.head.k, .int .i64 c.head.n, .str c.head.s, .v v, .v w] := rfl
  have etrs : trs c.row [v, w] = [.tree v (c.head.kids.map Tm.row), .tree w (c.body.map Tm.row)] := rfl
  have erow : c.row.map C.d = [.d (.int .i64 c.head.k), .d (.int .i64 c.head.n), .d (.str c.head.s), .d (.sl (c.head.kids.map Tm.row)), .d (.sl (c.body.map Tm.row))] := rfl
  rw [ecut, etrs]
  simp -implicitDefEqProofs [putAll, crow_len, take_crow, pure_d, re_d, kw, ew, sw, tw, aw_cond, awOps_guardE, awOp, -List.set_cons_succ, -List.set_cons_zero, A.ok, A.val, setSl, wrapG, guardB, getB, pickA, binA, binC, binD, cmpD, isCmp, unA, unD, lenA, AOp.total, kills, litB, FinQ, resOks, resOk, resA, resList, resOne, A.thaw, C.thaw, A.fits, As.fits, C.fits, evs, oks, callArgs, A.pure, C.pure, A.re, C.re, fieldAddrA, loadC, cut, A.cells, C.rows?, getOb, newOb, setOb, storeC, splice, Ob.re, Cs.fits, partsA, partsOk, parts2A, parts2Ok, fillC, fillRows, optInt, optOk, sliceA, clipC, toDs, C.toD, spliceD, appendA, capsOf, srcRows, dropC, Obs.fits, eqCs, eqD, mapRow, mapPut, mapVal, mapOne, mapCells]
  have fz : ∀ {H : Heap}, H[1]? = some (.tree v (c.head.kids.map Tm.row)) → H[2]? = some (.tree w (c.body.map Tm.row)) → FzA H [] (.agg [.d (.int .i64 c.head.k), .d (.int .i64 c.head.n), .d (.str c.head.s), .d (.v v), .d (.v w)]) (.agg (c.row.map .d)) := fun h1 h2 => by
    rw [erow]
    exact .agg (.cons .d (.cons .d (.cons .d (.cons (.tree h1 (by simp)) (.cons (.tree h2 (by simp)) .nil)))))
  refine call_loc (J := []) ci (fun r H' h => h.handed) (by simp [Ob.re, C.re, re_d]) (.cons (fz rfl rfl) .nil) List.nodup_nil rfl rfl ?_
  rintro _ _ ⟨vu, rfl, rfl⟩ _
  simp -implicitDefEqProofs [putAll, crow_len, take_crow, pure_d, re_d, kw, ew, sw, tw, aw_cond, awOps_guardE, awOp, -List.set_cons_succ, -List.set_cons_zero, A.ok, A.val, setSl, wrapG, guardB, getB, pickA, binA, binC, binD, cmpD, isCmp, unA, unD, lenA, AOp.total, kills, litB, FinQ, resOks, resOk, resA, resList, resOne, A.thaw, C.thaw, A.fits, As.fits, C.fits, evs, oks, callArgs, A.pure, C.pure, A.re, C.re, fieldAddrA, loadC, cut, A.cells, C.rows?, getOb, newOb, setOb, storeC, splice, Ob.re, Cs.fits, partsA, partsOk, parts2A, parts2Ok, fillC, fillRows, optInt, optOk, sliceA, clipC, toDs, C.toD, spliceD, appendA, capsOf, srcRows, dropC, Obs.fits, eqCs, eqD, mapRow, mapPut, mapVal, mapOne, mapCells]
  refine qcall_read ceu rfl hf (zu (i := 4) rfl) ?_
  simp -implicitDefEqProofs [crow_len, take_crow, pure_d, re_d, kw, ew, sw, tw, aw_cond, awOps_guardE, awOp, -List.set_cons_succ, -List.set_cons_zero, A.ok, A.val, setSl, wrapG, guardB, getB, pickA, binA, binC, binD, cmpD, isCmp, unA, unD, lenA, AOp.total, kills, litB, FinQ, resOks, resOk, resA, resList, resOne, A.thaw, C.thaw, A.fits, As.fits, C.fits, evs, oks, callArgs, A.pure, C.pure, A.re, C.re, fieldAddrA, loadC, cut, A.cells, C.rows?, getOb, newOb, setOb, storeC, splice, Ob.re, Cs.fits, partsA, partsOk, parts2A, parts2Ok, fillC, fillRows, optInt, optOk, sliceA, clipC, toDs, C.toD, spliceD, appendA, capsOf, srcRows, dropC, Obs.fits, eqCs, eqD, mapRow, mapPut, mapVal, mapOne, mapCells]
  refine qcall_pure ctt hf (by simp [A.re, re_d]) ?_
  simp -implicitDefEqProofs [crow_len, take_crow, pure_d, re_d, kw, ew, sw, tw, aw_cond, awOps_guardE, awOp, -List.set_cons_succ, -List.set_cons_zero, A.ok, A.val, setSl, wrapG, guardB, getB, pickA, binA, binC, binD, cmpD, isCmp, unA, unD, lenA, AOp.total, kills, litB, FinQ, resOks, resOk, resA, resList, resOne, A.thaw, C.thaw, A.fits, As.fits, C.fits, evs, oks, callArgs, A.pure, C.pure, A.re, C.re, fieldAddrA, loadC, cut, A.cells, C.rows?, getOb, newOb, setOb, storeC, splice, Ob.re, Cs.fits, partsA, partsOk, parts2A, parts2Ok, fillC, fillRows, optInt, optOk, sliceA, clipC, toDs, C.toD, spliceD, appendA, capsOf, srcRows, dropC, Obs.fits, eqCs, eqD, mapRow, mapPut, mapVal, mapOne, mapCells]
  refine qcall_read cet rfl hf (.cons (fz rfl rfl) (.cons (.agg (fzCs_id c.row)) .nil)) ?_
  simp -implicitDefEqProofs [crow_len, take_crow, pure_d, re_d, kw, ew, sw, tw, aw_cond, awOps_guardE, awOp, -List.set_cons_succ, -List.set_cons_zero, A.ok, A.val, setSl, wrapG, guardB, getB, pickA, binA, binC, binD, cmpD, isCmp, unA, unD, lenA, AOp.total, kills, litB, FinQ, resOks, resOk, resA, resList, resOne, A.thaw, C.thaw, A.fits, As.fits, C.fits, evs, oks, callArgs, A.pure, C.pure, A.re, C.re, fieldAddrA, loadC, cut, A.cells, C.rows?, getOb, newOb, setOb, storeC, splice, Ob.re, Cs.fits, partsA, partsOk, parts2A, parts2Ok, fillC, fillRows, optInt, optOk, sliceA, clipC, toDs, C.toD, spliceD, appendA, capsOf, srcRows, dropC, Obs.fits, eqCs, eqD, mapRow, mapPut, mapVal, mapOne, mapCells]
  refine call_loc (J := [1, 2]) (markClause_calls c hfit 1 (by omega) (by omega) v w) (fun r H' ⟨h1, h2⟩ => by subst h1; subst h2; exact ⟨rfl, rfl⟩) (by simp [Ob.re, C.re, re_d]) (.cons (.agg (fzCs_id [.int .i64 c.head.k, .int .i64 c.head.n, .str c.head.s, .v v, .v w])) (.cons (.c .d) .nil)) (by simp) rfl rfl ?_
  rintro _ _ ⟨rfl, rfl⟩ _
  simp -implicitDefEqProofs [putAll, hp1, crow_len, take_crow, pure_d, re_d, kw, ew, sw, tw, aw_cond, awOps_guardE, awOp, -List.set_cons_succ, -List.set_cons_zero, A.ok, A.val, setSl, wrapG, guardB, getB, pickA, binA, binC, binD, cmpD, isCmp, unA, unD, lenA, AOp.total, kills, litB, FinQ, resOks, resOk, resA, resList, resOne, A.thaw, C.thaw, A.fits, As.fits, C.fits, evs, oks, callArgs, A.pure, C.pure, A.re, C.re, fieldAddrA, loadC, cut, A.cells, C.rows?, getOb, newOb, setOb, storeC, splice, Ob.re, Cs.fits, partsA, partsOk, parts2A, parts2Ok, fillC, fillRows, optInt, optOk, sliceA, clipC, toDs, C.toD, spliceD, appendA, capsOf, srcRows, dropC, Obs.fits, eqCs, eqD, mapRow, mapPut, mapVal, mapOne, mapCells]
  refine qcall_read ceu rfl hf (zu (i := 4) rfl) ?_
  simp -implicitDefEqProofs [crow_len, take_crow, pure_d, re_d, kw, ew, sw, tw, aw_cond, awOps_guardE, awOp, -List.set_cons_succ, -List.set_cons_zero, A.ok, A.val, setSl, wrapG, guardB, getB, pickA, binA, binC, binD, cmpD, isCmp, unA, unD, lenA, AOp.total, kills, litB, FinQ, resOks, resOk, resA, resList, resOne, A.thaw, C.thaw, A.fits, As.fits, C.fits, evs, oks, callArgs, A.pure, C.pure, A.re, C.re, fieldAddrA, loadC, cut, A.cells, C.rows?, getOb, newOb, setOb, storeC, splice, Ob.re, Cs.fits, partsA, partsOk, parts2A, parts2Ok, fillC, fillRows, optInt, optOk, sliceA, clipC, toDs, C.toD, spliceD, appendA, capsOf, srcRows, dropC, Obs.fits, eqCs, eqD, mapRow, mapPut, mapVal, mapOne, mapCells]
  refine call_loc (J := [4]) (markInstrS_calls u 1 (by omega) (by omega) vu) (fun r H' ⟨h1, h2⟩ => by subst h1; subst h2; exact ⟨rfl, rfl⟩) (by simp [Ob.re, C.re, re_d]) (.cons (.c .d) (.cons (.c .d) .nil)) (by simp) rfl rfl ?_
  rintro _ _ ⟨rfl, rfl⟩ _
  simp -implicitDefEqProofs [putAll, crow_len, take_crow, pure_d, re_d, kw, ew, sw, tw, aw_cond, awOps_guardE, awOp, -List.set_cons_succ, -List.set_cons_zero, A.ok, A.val, setSl, wrapG, guardB, getB, pickA, binA, binC, binD, cmpD, isCmp, unA, unD, lenA, AOp.total, kills, litB, FinQ, resOks, resOk, resA, resList, resOne, A.thaw, C.thaw, A.fits, As.fits, C.fits, evs, oks, callArgs, A.pure, C.pure, A.re, C.re, fieldAddrA, loadC, cut, A.cells, C.rows?, getOb, newOb, setOb, storeC, splice, Ob.re, Cs.fits, partsA, partsOk, parts2A, parts2Ok, fillC, fillRows, optInt, optOk, sliceA, clipC, toDs, C.toD, spliceD, appendA, capsOf, srcRows, dropC, Obs.fits, eqCs, eqD, mapRow, mapPut, mapVal, mapOne, mapCells]
  have zg : ∀ {H : Heap}, H[4]? = some (.tree vu (mIns 1 u.length)) → FzL H [] [.c (.d (.v vu)), .c (.d (.int .i64 1))] [.c (.d (.sl (mIns 1 u.length))), .c (.d (.int .i64 1))] := fun h =>
    .cons (.c (.tree (i := 4) h (by simp))) (.cons (.c .d) .nil)
  refine qcall_read (heldInstrS_calls u.length 1 (by omega) (by omega) []) rfl hf (zg rfl) ?_
  simp -implicitDefEqProofs [hp2, crow_len, take_crow, pure_d, re_d, kw, ew, sw, tw, aw_cond, awOps_guardE, awOp, -List.set_cons_succ, -List.set_cons_zero, A.ok, A.val, setSl, wrapG, guardB, getB, pickA, binA, binC, binD, cmpD, isCmp, unA, unD, lenA, AOp.total, kills, litB, FinQ, resOks, resOk, resA, resList, resOne, A.thaw, C.thaw, A.fits, As.fits, C.fits, evs, oks, callArgs, A.pure, C.pure, A.re, C.re, fieldAddrA, loadC, cut, A.cells, C.rows?, getOb, newOb, setOb, storeC, splice, Ob.re, Cs.fits, partsA, partsOk, parts2A, parts2Ok, fillC, fillRows, optInt, optOk, sliceA, clipC, toDs, C.toD, spliceD, appendA, capsOf, srcRows, dropC, Obs.fits, eqCs, eqD, mapRow, mapPut, mapVal, mapOne, mapCells]
  refine qcall_pure ctt hf (by simp [A.re, re_d]) ?_
  simp -implicitDefEqProofs [crow_len, take_crow, pure_d, re_d, kw, ew, sw, tw, aw_cond, awOps_guardE, awOp, -List.set_cons_succ, -List.set_cons_zero, A.ok, A.val, setSl, wrapG, guardB, getB, pickA, binA, binC, binD, cmpD, isCmp, unA, unD, lenA, AOp.total, kills, litB, FinQ, resOks, resOk, resA, resList, resOne, A.thaw, C.thaw, A.fits, As.fits, C.fits, evs, oks, callArgs, A.pure, C.pure, A.re, C.re, fieldAddrA, loadC, cut, A.cells, C.rows?, getOb, newOb, setOb, storeC, splice, Ob.re, Cs.fits, partsA, partsOk, parts2A, parts2Ok, fillC, fillRows, optInt, optOk, sliceA, clipC, toDs, C.toD, spliceD, appendA, capsOf, srcRows, dropC, Obs.fits, eqCs, eqD, mapRow, mapPut, mapVal, mapOne, mapCells]
  refine call_loc (J := []) ci (fun r H' h => h.handed) (by simp [Ob.re, C.re, re_d]) (.cons (.agg (fzCs_id c.row)) .nil) List.nodup_nil rfl rfl ?_
  rintro _ _ ⟨vh, rfl, rfl⟩ _
  simp -implicitDefEqProofs [putAll, crow_len, take_crow, pure_d, re_d, kw, ew, sw, tw, aw_cond, awOps_guardE, awOp, -List.set_cons_succ, -List.set_cons_zero, A.ok, A.val, setSl, wrapG, guardB, getB, pickA, binA, binC, binD, cmpD, isCmp, unA, unD, lenA, AOp.total, kills, litB, FinQ, resOks, resOk, resA, resList, resOne, A.thaw, C.thaw, A.fits, As.fits, C.fits, evs, oks, callArgs, A.pure, C.pure, A.re, C.re, fieldAddrA, loadC, cut, A.cells, C.rows?, getOb, newOb, setOb, storeC, splice, Ob.re, Cs.fits, partsA, partsOk, parts2A, parts2Ok, fillC, fillRows, optInt, optOk, sliceA, clipC, toDs, C.toD, spliceD, appendA, capsOf, srcRows, dropC, Obs.fits, eqCs, eqD, mapRow, mapPut, mapVal, mapOne, mapCells]
  refine qcall_read ceu rfl hf (zu (i := 5) rfl) ?_
  simp -implicitDefEqProofs [crow_len, take_crow, pure_d, re_d, kw, ew, sw, tw, aw_cond, awOps_guardE, awOp, -List.set_cons_succ, -List.set_cons_zero, A.ok, A.val, setSl, wrapG, guardB, getB, pickA, binA, binC, binD, cmpD, isCmp, unA, unD, lenA, AOp.total, kills, litB, FinQ, resOks, resOk, resA, resList, resOne, A.thaw, C.thaw, A.fits, As.fits, C.fits, evs, oks, callArgs, A.pure, C.pure, A.re, C.re, fieldAddrA, loadC, cut, A.cells, C.rows?, getOb, newOb, setOb, storeC, splice, Ob.re, Cs.fits, partsA, partsOk, parts2A, parts2Ok, fillC, fillRows, optInt, optOk, sliceA, clipC, toDs, C.toD, spliceD, appendA, capsOf, srcRows, dropC, Obs.fits, eqCs, eqD, mapRow, mapPut, mapVal, mapOne, mapCells]
  refine qcall_read (heldInstrS_calls u.length 1 (by omega) (by omega) []) rfl hf (zg rfl) ?_
  simp -implicitDefEqProofs [hp2, kw, ew, sw, tw, aw_cond, awOps_guardE, awOp, -List.set_cons_succ, -List.set_cons_zero, A.ok, A.val, setSl, wrapG, guardB, getB, pickA, binA, binC, binD, cmpD, isCmp, unA, unD, lenA, AOp.total, kills, litB, FinQ, resOks, resOk, resA, resList, resOne, A.thaw, C.thaw, A.fits, As.fits, C.fits, evs, oks, callArgs, A.pure, C.pure, A.re, C.re, fieldAddrA, loadC, cut, A.cells, C.rows?, getOb, newOb, setOb, storeC, splice, Ob.re, Cs.fits, partsA, partsOk, parts2A, parts2Ok, fillC, fillRows, optInt, optOk, sliceA, clipC, toDs, C.toD, spliceD, appendA, capsOf, srcRows, dropC, Obs.fits, eqCs, eqD, mapRow, mapPut, mapVal, mapOne, mapCells]
theorem law_run5 (rows : List (List D)) (hr : HasTys Try.prog (#[52] : Array TypeId).toList rows) : ACalls Try.prog 5 (argsA Try.prog (#[52] : Array TypeId).toList rows) [] (fun r _ => r = .c (.d (.bool true))) := by
  obtain ⟨r, rs, rfl, h1, h2⟩ := hr.cons
  obtain rfl := h2.nil
  obtain ⟨c, rfl, hc⟩ := clause_ty h1
  simp only [argsA, argA, Try.underlying52]
  exact ccxLaw_calls c hc
namespace fnExactCompileClause
theorem own : ownKnob Try.prog.godebug = none := by kernel_rfl
theorem contract (H : Type) (enc : TypeId × Value → H) (W : World) (base : Nat) (args : Array Value) (ds gs : List (DataW H)) (before : List MemPlace)
    (hval : ∀ (j : Nat) t v, Try.f5.params[j]? = some t → args[j]? = some v → Value.okWide Try.prog W .any base t v)
    (hW : DataW.Whole enc Try.prog Try.f5.params.toList Rows.fnExactCompileClauseSpec.vars false W args.toList ds gs before)
    (hw : (DataW.weightsEach Try.prog (Try.f5.params.toList ++ Rows.fnExactCompileClauseSpec.plain.varTypes Try.prog) (ds ++ gs)).all (· ≤ reachBytes) = true) :
    Calls Try.prog 5 args W fun e W' => ∃ v, e = .returned v ∧ Rows.fnExactCompileClauseSpec.post enc Try.prog Try.f5 false true false false W args v W' := by
  refine law_contract (L := [3, 9, 24, 22, 52]) (tb := 4) (by kernel_rfl) (by kernel_rfl) (by kernel_rfl) rfl ?_ (by kernel_rfl) Try.underlying4 ?_ W base args ds gs before hval hW hw
  · intro ds hl
    match ds, hl with
    | [d0], _ => rfl
  · intro rows hr
    rw [Try.params5] at hr ⊢
    exact law_run5 rows hr

theorem lifted (os : Os) (started : os.Started) (H : Type) (enc : TypeId × Value → H) :
    ReturnsInHanded {} Try.checked os 5 .any (Rows.fnExactCompileClauseSpec.pre6 enc Try.prog Try.f5 Rows.fnExactCompileClauseRow.domain false) (Rows.fnExactCompileClauseSpec.post enc Try.prog Try.f5 false true false false) := by
  refine returnsInHanded_of_change_sized (C := Try.checked) own started (by kernel_rfl) Try.func5
    (ChangeSpec.witness6 (enc := enc) (C := Try.checked) false ⟨#[], #[.agg #[.int .i64 0, .int .i64 0, .string ⟨#[]⟩, .slice none 0 0, .slice none 0 0]], []⟩ 8 (by kernel_rfl) (by kernel_rfl) (by kernel_rfl) (by kernel_rfl)) ?_
  intro W base args ds gs before hval hW _ hw _
  exact contract H enc W base args ds gs before hval hW hw

theorem proved : Rows.FnExactCompileClauseSaid :=
  OpenClaim.holds_of_wide 5 Try.f5 rfl rfl rfl rfl rfl rfl rfl ⟨rfl, rfl, rfl, rfl, rfl⟩ rfl rfl rfl rfl rfl (by kernel_rfl) Try.func5 (by kernel_rfl)
    (of_decide_eq_true (by kernel_rfl)) (by unfold Func.isWrapper; first | (rw [if_pos (by decide +kernel)]; kernel_rfl) | (rw [if_neg (by decide +kernel)]; exact ⟨rfl, rfl⟩))
    (fun os started H enc _ => lifted os started H enc)
end fnExactCompileClause

end Go.Proofs.Ytaegeehpajlebaa
