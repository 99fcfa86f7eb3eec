/-
  The law FnExactCompileQuery holds: impl.CompileQuery answers as spec.CompileQuery does, with memory of its own.
  Conditions: none.
-/
import Derived.Test.YtaegeehpajlebaaCmO
import Derived.Test.YtaegeehpajlebaaInsM
import Derived.Test.YtaegeehpajlebaaTermMk
import Derived.Test.YtaegeehpajlebaaTermTy
open Go Go.AM Go.Proofs
namespace Go.Proofs.Ytaegeehpajlebaa
open Go.ChangeShapes Go.WideShapes Go.ChangeAt Go.RowKit
set_option linter.unusedVariables false
set_option linter.unusedSimpArgs false
set_option maxRecDepth 100000
-- 4 loop.example/prologserver/laws.FnExactCompileQuery params 1 ntmps 96
def ac4 : Cd := .seq (.region [⟨(some 2), .mv (.k (.c (.d (.bool false)))), none⟩] [2])
  (.seq (.region [⟨(some 3), .mv (.k (.c (.d (.int .i64 1048576)))), none⟩] [])
  (.seq (.region [⟨(some 14), .mv (.t 0), none⟩,
      ⟨(some 15), .mv (.t 3), none⟩,
      ⟨(some 16), .call false 18 [(.t 14), (.t 15)], none⟩,
      ⟨(some 3), .mv (.t 16), none⟩] [14, 15, 16])
  (.seq (.seq (.region [⟨(some 17), .mv (.t 3), none⟩,
        ⟨(some 18), .bin .lss (.t 17) (.k (.c (.d (.int .i64 0)))), none⟩] [3, 17])
    (.cond (.t 18)
      (.seq (.region [⟨(some 2), .mv (.k (.c (.d (.bool true)))), none⟩] [0, 18])
      (.ret))
      (.skip)))
  (.seq (.region [⟨(some 20), .mv (.t 0), none⟩,
      ⟨(some 21), .qcall 20 [(.t 20)], none⟩,
      ⟨(some 22), .qcall 19 [(.t 21)], none⟩,
      ⟨(some 19), .mv (.t 22), none⟩,
      ⟨(some 23), .extract 0 (.t 19), none⟩,
      ⟨(some 24), .extract 1 (.t 19), none⟩,
      ⟨(some 4), .mv (.t 23), none⟩,
      ⟨(some 5), .mv (.t 24), none⟩] [2, 18, 19, 20, 21, 22, 23, 24])
  (.seq (.region [⟨(some 25), .mv (.t 0), none⟩,
      ⟨(some 26), .call false 20 [(.t 25)], none⟩,
      ⟨(some 6), .mv (.t 26), none⟩] [25, 26])
  (.seq (.region [⟨(some 28), .mv (.t 6), none⟩,
      ⟨(some 29), .call false 21 [(.t 28)], none⟩,
      ⟨(some 27), .mv (.t 29), none⟩,
      ⟨(some 30), .extract 0 (.t 27), none⟩,
      ⟨(some 31), .extract 1 (.t 27), none⟩,
      ⟨(some 7), .mv (.t 30), none⟩,
      ⟨(some 8), .mv (.t 31), none⟩] [27, 28, 29, 30, 31])
  (.seq (.seq (.region [⟨(some 32), .mv (.t 7), none⟩,
        ⟨(some 33), .mv (.t 4), none⟩,
        ⟨(some 34), .qcall 22 [(.t 32), (.t 33)], none⟩,
        ⟨(some 35), .un .not (.t 34), none⟩,
        ⟨(some 36), .mv (.t 35), none⟩,
        ⟨(some 37), .mv (.t 8), some (36, false)⟩,
        ⟨(some 38), .mv (.t 5), some (36, false)⟩,
        ⟨(some 39), .binB true (.t 37) (.t 38), some (36, false)⟩,
        ⟨(some 40), .pick (.t 36) (.k (.c (.d (.bool true)))) (.t 39), none⟩] [32, 33, 34, 35, 36, 37, 38, 39])
    (.cond (.t 40)
      (.seq (.region [⟨(some 2), .mv (.k (.c (.d (.bool false)))), none⟩] [0, 4, 5, 6, 7, 8, 40])
      (.ret))
      (.skip)))
  (.seq (.seq (.region [⟨(some 41), .mv (.t 6), none⟩,
        ⟨(some 42), .mv (.t 0), none⟩,
        ⟨(some 43), .qcall 20 [(.t 42)], none⟩,
        ⟨(some 44), .qcall 23 [(.t 41), (.t 43)], none⟩,
        ⟨(some 45), .un .not (.t 44), none⟩] [2, 40, 41, 42, 43, 44])
    (.cond (.t 45)
      (.seq (.region [⟨(some 2), .mv (.k (.c (.d (.bool false)))), none⟩] [0, 4, 5, 6, 7, 8, 45])
      (.ret))
      (.skip)))
  (.seq (.region [⟨(some 9), .mv (.k (.c (.d (.int .i64 1)))), none⟩] [2, 45])
  (.seq (.region [⟨(some 46), .mv (.t 6), none⟩,
      ⟨(some 47), .mv (.t 9), none⟩,
      ⟨(some 48), .call false 24 [(.t 46), (.t 47)], none⟩,
      ⟨(some 9), .mv (.t 48), none⟩] [6, 46, 47, 48])
  (.seq (.seq (.region [⟨(some 49), .mv (.t 9), none⟩,
        ⟨(some 50), .bin .lss (.t 49) (.k (.c (.d (.int .i64 0)))), none⟩,
        ⟨(some 51), .mv (.t 50), none⟩,
        ⟨(some 52), .mv (.t 7), some (51, false)⟩,
        ⟨(some 53), .mv (.t 4), some (51, false)⟩,
        ⟨(some 54), .qcall 22 [(.t 52), (.t 53)], some (51, false)⟩,
        ⟨(some 55), .un .not (.t 54), some (51, false)⟩,
        ⟨(some 56), .pick (.t 51) (.k (.c (.d (.bool true)))) (.t 55), none⟩,
        ⟨(some 57), .mv (.t 56), none⟩,
        ⟨(some 58), .mv (.t 8), some (57, false)⟩,
        ⟨(some 59), .mv (.t 5), some (57, false)⟩,
        ⟨(some 60), .binB true (.t 58) (.t 59), some (57, false)⟩,
        ⟨(some 61), .pick (.t 57) (.k (.c (.d (.bool true)))) (.t 60), none⟩] [8, 9, 49, 50, 51, 52, 53, 54, 55, 56, 57, 58, 59, 60])
    (.cond (.t 61)
      (.seq (.region [⟨(some 2), .mv (.k (.c (.d (.bool false)))), none⟩] [0, 4, 5, 7, 61])
      (.ret))
      (.skip)))
  (.seq (.region [⟨(some 10), .mv (.k (.c (.d (.int .i64 1)))), none⟩] [2, 61])
  (.seq (.region [⟨(some 62), .mv (.t 7), none⟩,
      ⟨(some 63), .mv (.t 10), none⟩,
      ⟨(some 64), .call false 25 [(.t 62), (.t 63)], none⟩,
      ⟨(some 10), .mv (.t 64), none⟩] [62, 63, 64])
  (.seq (.region [⟨(some 11), .mv (.k (.c (.d (.int .i64 1)))), none⟩] [])
  (.seq (.region [⟨(some 65), .mv (.t 7), none⟩,
      ⟨(some 66), .mv (.t 11), none⟩,
      ⟨(some 67), .qcall 26 [(.t 65), (.t 66)], none⟩,
      ⟨(some 11), .mv (.t 67), none⟩] [65, 66, 67])
  (.seq (.seq (.region [⟨(some 68), .mv (.t 11), none⟩,
        ⟨(some 69), .bin .lss (.t 68) (.k (.c (.d (.int .i64 0)))), none⟩] [68])
    (.cond (.t 69)
      (.seq (.region [⟨(some 2), .mv (.k (.c (.d (.bool false)))), none⟩] [0, 4, 5, 7, 10, 11, 69])
      (.ret))
      (.skip)))
  (.seq (.seq (.region [⟨(some 70), .mv (.t 11), none⟩,
        ⟨(some 71), .mv (.t 10), none⟩,
        ⟨(some 72), .bin .neq (.t 70) (.t 71), none⟩] [2, 11, 69, 70, 71])
    (.cond (.t 72)
      (.seq (.region [⟨(some 2), .mv (.k (.c (.d (.bool false)))), none⟩] [0, 4, 5, 7, 10, 72])
      (.ret))
      (.skip)))
  (.seq (.region [⟨(some 74), .mv (.t 0), none⟩,
      ⟨(some 75), .qcall 20 [(.t 74)], none⟩,
      ⟨(some 76), .call false 21 [(.t 75)], none⟩,
      ⟨(some 73), .mv (.t 76), none⟩,
      ⟨(some 77), .extract 0 (.t 73), none⟩,
      ⟨(some 78), .extract 1 (.t 73), none⟩,
      ⟨(some 12), .mv (.t 77), none⟩,
      ⟨(some 13), .mv (.t 78), none⟩] [0, 2, 72, 73, 74, 75, 76, 77, 78])
  (.seq (.seq (.region [⟨(some 79), .mv (.t 12), none⟩,
        ⟨(some 80), .mv (.t 4), none⟩,
        ⟨(some 81), .qcall 22 [(.t 79), (.t 80)], none⟩,
        ⟨(some 82), .un .not (.t 81), none⟩,
        ⟨(some 83), .mv (.t 82), none⟩,
        ⟨(some 84), .mv (.t 13), some (83, false)⟩,
        ⟨(some 85), .mv (.t 5), some (83, false)⟩,
        ⟨(some 86), .binB true (.t 84) (.t 85), some (83, false)⟩,
        ⟨(some 87), .pick (.t 83) (.k (.c (.d (.bool true)))) (.t 86), none⟩] [4, 5, 12, 13, 79, 80, 81, 82, 83, 84, 85, 86])
    (.cond (.t 87)
      (.seq (.region [⟨(some 2), .mv (.k (.c (.d (.bool false)))), none⟩] [7, 10, 87])
      (.ret))
      (.skip)))
  (.seq (.region [⟨(some 11), .mv (.k (.c (.d (.int .i64 1)))), none⟩] [2, 87])
  (.seq (.region [⟨(some 88), .mv (.t 7), none⟩,
      ⟨(some 89), .mv (.t 11), none⟩,
      ⟨(some 90), .qcall 26 [(.t 88), (.t 89)], none⟩,
      ⟨(some 11), .mv (.t 90), none⟩] [7, 88, 89, 90])
  (.seq (.seq (.region [⟨(some 91), .mv (.t 11), none⟩,
        ⟨(some 92), .bin .lss (.t 91) (.k (.c (.d (.int .i64 0)))), none⟩] [91])
    (.cond (.t 92)
      (.seq (.region [⟨(some 2), .mv (.k (.c (.d (.bool false)))), none⟩] [10, 11, 92])
      (.ret))
      (.skip)))
  (.seq (.seq (.region [⟨(some 93), .mv (.t 11), none⟩,
        ⟨(some 94), .mv (.t 10), none⟩,
        ⟨(some 95), .bin .neq (.t 93) (.t 94), none⟩] [2, 10, 11, 92, 93, 94])
    (.cond (.t 95)
      (.seq (.region [⟨(some 2), .mv (.k (.c (.d (.bool false)))), none⟩] [95])
      (.ret))
      (.skip)))
  (.seq (.region [⟨(some 2), .mv (.k (.c (.d (.bool true)))), none⟩] [95])
  (.ret)))))))))))))))))))))))))
theorem ac4_ok : cFunc Try.prog [1000019, 1000020, 1000022, 1000023, 1000026, 7000025] [(0, [2], []), (1, [], []), (2, [14, 15, 16], []), (3, [3, 17], []), (4, [0, 18], []), (5, [2, 18, 19, 20, 21, 22, 23, 24], []), (6, [25, 26], []), (7, [27, 28, 29, 30, 31], []), (8, [32, 33, 34, 35, 36, 37, 38, 39], []), (9, [0, 4, 5, 6, 7, 8, 40], []), (10, [2, 40, 41, 42, 43, 44], []), (11, [0, 4, 5, 6, 7, 8, 45], []), (12, [2, 45], []), (13, [6, 46, 47, 48], []), (14, [8, 9, 49, 50, 51, 52, 53, 54, 55, 56, 57, 58, 59, 60], []), (15, [0, 4, 5, 7, 61], []), (16, [2, 61], []), (17, [62, 63, 64], []), (18, [], []), (19, [65, 66, 67], []), (20, [68], []), (21, [0, 4, 5, 7, 10, 11, 69], []), (22, [2, 11, 69, 70, 71], []), (23, [0, 4, 5, 7, 10, 72], []), (24, [0, 2, 72, 73, 74, 75, 76, 77, 78], []), (25, [4, 5, 12, 13, 79, 80, 81, 82, 83, 84, 85, 86], []), (26, [7, 10, 87], []), (27, [2, 87], []), (28, [7, 88, 89, 90], []), (29, [91], []), (30, [10, 11, 92], []), (31, [2, 10, 11, 92, 93, 94], []), (32, [95], []), (33, [95], [])] Try.f4 = some (ac4, [.tmp 2], 96) := by kernel_rfl
theorem codeQ_ins (l : List Tm) : ∃ L : List Ins, (if goalsB l then codeQ l else []) = L.map Ins.row ∧ L.length ≤ 1000000 := by
  cases hv : goalsB l with
  | false => exact ⟨[], by simp, by simp⟩
  | true =>
    obtain ⟨g1, g2, g3⟩ := goalsB_iff hv
    have hfit := (goals_fit l mk0 4 mk0_fit).emit 14 0 0 []
    obtain ⟨L, hL, _⟩ := list_of_ty (f := Ins.row) (p := fun _ => True) (rows := codeQ l) fun r hr => by
      obtain ⟨x, hx⟩ := hfit.rows r hr
      exact ⟨x, hx, trivial⟩
    have hc : (codeQ l).length ≤ _ := hfit.code
    refine ⟨L, by simpa using hL, ?_⟩
    rw [hL] at hc
    simp at hc
    omega
theorem cqxLaw_calls (l : List Tm) (hl : l.length ≤ reachBytes) (hfine : ∀ t ∈ l, t.fine) : ACalls Try.prog 4 [.c (.d (.sl (l.map Tm.row)))] [] (fun r _ => r = .c (.d (.bool true))) := by
  refine acalls Try.func4 (by kernel_rfl) ac4_ok fun hf => ?_
  simp -implicitDefEqProofs [ac4, kw, ew, sw, aw_cond, awOps_nil, awOps_cons, awOps_guardE, nx_eq, awOp, -List.set_cons_succ, -List.set_cons_zero, A.ok, A.val, setSl, wrapG, guardB, getB, pickA, binA, binC, binD, cmpD, isCmp, unA, unD, lenA, AOp.total, kills, litB, FinQ, resOks, resOk, resA, resList, resOne, A.thaw, C.thaw, A.fits, As.fits, C.fits, evs, oks, callArgs, A.pure, C.pure, A.re, C.re, fieldAddrA, loadC, cut, A.cells, C.rows?, getOb, newOb, setOb, storeC, splice, Ob.re, Cs.fits, partsA, partsOk, parts2A, parts2Ok, fillC, fillRows, optInt, optOk, sliceA, clipC, optK_some, storeK_some, Option.map_some, toDs, C.toD, spliceD, appendA, capsOf, srcRows, allLen_nil_iff, allLen_cons_iff, allLen_append_iff, dropC, Obs.fits, eqCs, eqD, mapRow, mapPut, mapVal, mapOne, mapCells]
  refine call_some (szwTermS_calls l hl hfine 1048576 (by omega) (by omega) _) (by simp [Ob.re, C.re]) (fun r => LeftW.re) hf ?_
  rintro _ ⟨k, rfl, _, _, hk⟩
  simp -implicitDefEqProofs [kw, ew, sw, aw_cond, awOps_nil, awOps_cons, awOps_guardE, nx_eq, awOp, -List.set_cons_succ, -List.set_cons_zero, A.ok, A.val, setSl, wrapG, guardB, getB, pickA, binA, binC, binD, cmpD, isCmp, unA, unD, lenA, AOp.total, kills, litB, FinQ, resOks, resOk, resA, resList, resOne, A.thaw, C.thaw, A.fits, As.fits, C.fits, evs, oks, callArgs, A.pure, C.pure, A.re, C.re, fieldAddrA, loadC, cut, A.cells, C.rows?, getOb, newOb, setOb, storeC, splice, Ob.re, Cs.fits, partsA, partsOk, parts2A, parts2Ok, fillC, fillRows, optInt, optOk, sliceA, clipC, optK_some, storeK_some, Option.map_some, toDs, C.toD, spliceD, appendA, capsOf, srcRows, allLen_nil_iff, allLen_cons_iff, allLen_append_iff, dropC, Obs.fits, eqCs, eqD, mapRow, mapPut, mapVal, mapOne, mapCells]
  intro h0
  obtain ⟨hlb, hfit⟩ := (hk h0).1
  have hw := (hk h0).2
  have hcw := cnt_wts l
  have cs := cqSpec_calls l hlb hfit
  have ci := cqOwn_calls l hlb hfit
  obtain ⟨u, hu, hul⟩ := codeQ_ins l
  rw [hu] at cs ci
  generalize goalsB l = ok at cs ci
  have ctt := toTermS_calls l hlb hfit
  have ctto := toTermSOwn_calls l hlb hfit
  have ceu := eqInstrS_calls u (by unfold reachBytes; omega) []
  have cet := eqTermS_calls l hlb hfit []
  have hp1 : ¬ (1 + 3 * (Tm.cnt l : Int) < 0) := by omega
  have hp2 : ¬ (1 + 4 * (u.length : Int) < 0) := by omega
  have zu : ∀ {H : Heap} {v : Value} {i : Nat}, H[i]? = some (.tree v (u.map Ins.row)) → FzL H [] [.c (.d (.v v)), .c (.d (.sl (u.map Ins.row)))] [.c (.d (.sl (u.map Ins.row))), .c (.d (.sl (u.map Ins.row)))] := fun h =>
    .cons (.c (.tree h (by simp))) (.cons (.c .d) .nil)
  refine qcall_pure ctt hf rfl ?_
  simp -implicitDefEqProofs [kw, ew, sw, aw_cond, awOps_nil, awOps_cons, awOps_guardE, nx_eq, awOp, -List.set_cons_succ, -List.set_cons_zero, A.ok, A.val, setSl, wrapG, guardB, getB, pickA, binA, binC, binD, cmpD, isCmp, unA, unD, lenA, AOp.total, kills, litB, FinQ, resOks, resOk, resA, resList, resOne, A.thaw, C.thaw, A.fits, As.fits, C.fits, evs, oks, callArgs, A.pure, C.pure, A.re, C.re, fieldAddrA, loadC, cut, A.cells, C.rows?, getOb, newOb, setOb, storeC, splice, Ob.re, Cs.fits, partsA, partsOk, parts2A, parts2Ok, fillC, fillRows, optInt, optOk, sliceA, clipC, optK_some, storeK_some, Option.map_some, toDs, C.toD, spliceD, appendA, capsOf, srcRows, allLen_nil_iff, allLen_cons_iff, allLen_append_iff, dropC, Obs.fits, eqCs, eqD, mapRow, mapPut, mapVal, mapOne, mapCells]
  refine qcall_pure cs hf rfl ?_
  simp -implicitDefEqProofs [kw, ew, sw, aw_cond, awOps_nil, awOps_cons, awOps_guardE, nx_eq, awOp, -List.set_cons_succ, -List.set_cons_zero, A.ok, A.val, setSl, wrapG, guardB, getB, pickA, binA, binC, binD, cmpD, isCmp, unA, unD, lenA, AOp.total, kills, litB, FinQ, resOks, resOk, resA, resList, resOne, A.thaw, C.thaw, A.fits, As.fits, C.fits, evs, oks, callArgs, A.pure, C.pure, A.re, C.re, fieldAddrA, loadC, cut, A.cells, C.rows?, getOb, newOb, setOb, storeC, splice, Ob.re, Cs.fits, partsA, partsOk, parts2A, parts2Ok, fillC, fillRows, optInt, optOk, sliceA, clipC, optK_some, storeK_some, Option.map_some, toDs, C.toD, spliceD, appendA, capsOf, srcRows, allLen_nil_iff, allLen_cons_iff, allLen_append_iff, dropC, Obs.fits, eqCs, eqD, mapRow, mapPut, mapVal, mapOne, mapCells]
  refine call_loc (J := []) ctto (fun r H' h => h.handed) rfl (.cons (.c .d) .nil) List.nodup_nil rfl rfl ?_
  rintro _ _ ⟨vp, rfl, rfl⟩ _
  simp -implicitDefEqProofs [putAll, kw, ew, sw, aw_cond, awOps_nil, awOps_cons, awOps_guardE, nx_eq, awOp, -List.set_cons_succ, -List.set_cons_zero, A.ok, A.val, setSl, wrapG, guardB, getB, pickA, binA, binC, binD, cmpD, isCmp, unA, unD, lenA, AOp.total, kills, litB, FinQ, resOks, resOk, resA, resList, resOne, A.thaw, C.thaw, A.fits, As.fits, C.fits, evs, oks, callArgs, A.pure, C.pure, A.re, C.re, fieldAddrA, loadC, cut, A.cells, C.rows?, getOb, newOb, setOb, storeC, splice, Ob.re, Cs.fits, partsA, partsOk, parts2A, parts2Ok, fillC, fillRows, optInt, optOk, sliceA, clipC, optK_some, storeK_some, Option.map_some, toDs, C.toD, spliceD, appendA, capsOf, srcRows, allLen_nil_iff, allLen_cons_iff, allLen_append_iff, dropC, Obs.fits, eqCs, eqD, mapRow, mapPut, mapVal, mapOne, mapCells]
  refine call_loc (J := []) ci (fun r H' h => h.handed) rfl (.cons (.c (.tree (i := 0) rfl (by simp))) .nil) List.nodup_nil rfl rfl ?_
  rintro _ _ ⟨vu, rfl, rfl⟩ _
  simp -implicitDefEqProofs [putAll, kw, ew, sw, aw_cond, awOps_nil, awOps_cons, awOps_guardE, nx_eq, awOp, -List.set_cons_succ, -List.set_cons_zero, A.ok, A.val, setSl, wrapG, guardB, getB, pickA, binA, binC, binD, cmpD, isCmp, unA, unD, lenA, AOp.total, kills, litB, FinQ, resOks, resOk, resA, resList, resOne, A.thaw, C.thaw, A.fits, As.fits, C.fits, evs, oks, callArgs, A.pure, C.pure, A.re, C.re, fieldAddrA, loadC, cut, A.cells, C.rows?, getOb, newOb, setOb, storeC, splice, Ob.re, Cs.fits, partsA, partsOk, parts2A, parts2Ok, fillC, fillRows, optInt, optOk, sliceA, clipC, optK_some, storeK_some, Option.map_some, toDs, C.toD, spliceD, appendA, capsOf, srcRows, allLen_nil_iff, allLen_cons_iff, allLen_append_iff, dropC, Obs.fits, eqCs, eqD, mapRow, mapPut, mapVal, mapOne, mapCells]
  refine qcall_read ceu rfl hf (zu (i := 1) rfl) ?_
  simp -implicitDefEqProofs [kw, ew, sw, aw_cond, awOps_nil, awOps_cons, awOps_guardE, nx_eq, awOp, -List.set_cons_succ, -List.set_cons_zero, A.ok, A.val, setSl, wrapG, guardB, getB, pickA, binA, binC, binD, cmpD, isCmp, unA, unD, lenA, AOp.total, kills, litB, FinQ, resOks, resOk, resA, resList, resOne, A.thaw, C.thaw, A.fits, As.fits, C.fits, evs, oks, callArgs, A.pure, C.pure, A.re, C.re, fieldAddrA, loadC, cut, A.cells, C.rows?, getOb, newOb, setOb, storeC, splice, Ob.re, Cs.fits, partsA, partsOk, parts2A, parts2Ok, fillC, fillRows, optInt, optOk, sliceA, clipC, optK_some, storeK_some, Option.map_some, toDs, C.toD, spliceD, appendA, capsOf, srcRows, allLen_nil_iff, allLen_cons_iff, allLen_append_iff, dropC, Obs.fits, eqCs, eqD, mapRow, mapPut, mapVal, mapOne, mapCells]
  refine qcall_pure ctt hf rfl ?_
  simp -implicitDefEqProofs [kw, ew, sw, aw_cond, awOps_nil, awOps_cons, awOps_guardE, nx_eq, awOp, -List.set_cons_succ, -List.set_cons_zero, A.ok, A.val, setSl, wrapG, guardB, getB, pickA, binA, binC, binD, cmpD, isCmp, unA, unD, lenA, AOp.total, kills, litB, FinQ, resOks, resOk, resA, resList, resOne, A.thaw, C.thaw, A.fits, As.fits, C.fits, evs, oks, callArgs, A.pure, C.pure, A.re, C.re, fieldAddrA, loadC, cut, A.cells, C.rows?, getOb, newOb, setOb, storeC, splice, Ob.re, Cs.fits, partsA, partsOk, parts2A, parts2Ok, fillC, fillRows, optInt, optOk, sliceA, clipC, optK_some, storeK_some, Option.map_some, toDs, C.toD, spliceD, appendA, capsOf, srcRows, allLen_nil_iff, allLen_cons_iff, allLen_append_iff, dropC, Obs.fits, eqCs, eqD, mapRow, mapPut, mapVal, mapOne, mapCells]
  refine qcall_read cet rfl hf (.cons (.c (.tree (i := 0) rfl (by simp))) (.cons (.c .d) .nil)) ?_
  simp -implicitDefEqProofs [kw, ew, sw, aw_cond, awOps_nil, awOps_cons, awOps_guardE, nx_eq, awOp, -List.set_cons_succ, -List.set_cons_zero, A.ok, A.val, setSl, wrapG, guardB, getB, pickA, binA, binC, binD, cmpD, isCmp, unA, unD, lenA, AOp.total, kills, litB, FinQ, resOks, resOk, resA, resList, resOne, A.thaw, C.thaw, A.fits, As.fits, C.fits, evs, oks, callArgs, A.pure, C.pure, A.re, C.re, fieldAddrA, loadC, cut, A.cells, C.rows?, getOb, newOb, setOb, storeC, splice, Ob.re, Cs.fits, partsA, partsOk, parts2A, parts2Ok, fillC, fillRows, optInt, optOk, sliceA, clipC, optK_some, storeK_some, Option.map_some, toDs, C.toD, spliceD, appendA, capsOf, srcRows, allLen_nil_iff, allLen_cons_iff, allLen_append_iff, dropC, Obs.fits, eqCs, eqD, mapRow, mapPut, mapVal, mapOne, mapCells]
  refine call_loc (J := [0]) (markTermS_calls l hlb hfit 1 (by omega) (by omega) vp) (fun r H' ⟨h1, h2⟩ => by subst h1; subst h2; exact ⟨rfl, rfl⟩) rfl (.cons (.c .d) (.cons (.c .d) .nil)) (by simp) rfl rfl ?_
  rintro _ _ ⟨rfl, rfl⟩ _
  simp -implicitDefEqProofs [putAll, hp1, kw, ew, sw, aw_cond, awOps_nil, awOps_cons, awOps_guardE, nx_eq, awOp, -List.set_cons_succ, -List.set_cons_zero, A.ok, A.val, setSl, wrapG, guardB, getB, pickA, binA, binC, binD, cmpD, isCmp, unA, unD, lenA, AOp.total, kills, litB, FinQ, resOks, resOk, resA, resList, resOne, A.thaw, C.thaw, A.fits, As.fits, C.fits, evs, oks, callArgs, A.pure, C.pure, A.re, C.re, fieldAddrA, loadC, cut, A.cells, C.rows?, getOb, newOb, setOb, storeC, splice, Ob.re, Cs.fits, partsA, partsOk, parts2A, parts2Ok, fillC, fillRows, optInt, optOk, sliceA, clipC, optK_some, storeK_some, Option.map_some, toDs, C.toD, spliceD, appendA, capsOf, srcRows, allLen_nil_iff, allLen_cons_iff, allLen_append_iff, dropC, Obs.fits, eqCs, eqD, mapRow, mapPut, mapVal, mapOne, mapCells]
  refine qcall_read ceu rfl hf (zu (i := 1) rfl) ?_
  simp -implicitDefEqProofs [kw, ew, sw, aw_cond, awOps_nil, awOps_cons, awOps_guardE, nx_eq, awOp, -List.set_cons_succ, -List.set_cons_zero, A.ok, A.val, setSl, wrapG, guardB, getB, pickA, binA, binC, binD, cmpD, isCmp, unA, unD, lenA, AOp.total, kills, litB, FinQ, resOks, resOk, resA, resList, resOne, A.thaw, C.thaw, A.fits, As.fits, C.fits, evs, oks, callArgs, A.pure, C.pure, A.re, C.re, fieldAddrA, loadC, cut, A.cells, C.rows?, getOb, newOb, setOb, storeC, splice, Ob.re, Cs.fits, partsA, partsOk, parts2A, parts2Ok, fillC, fillRows, optInt, optOk, sliceA, clipC, optK_some, storeK_some, Option.map_some, toDs, C.toD, spliceD, appendA, capsOf, srcRows, allLen_nil_iff, allLen_cons_iff, allLen_append_iff, dropC, Obs.fits, eqCs, eqD, mapRow, mapPut, mapVal, mapOne, mapCells]
  refine call_loc (J := [1]) (markInstrS_calls u 1 (by omega) (by omega) vu) (fun r H' ⟨h1, h2⟩ => by subst h1; subst h2; exact ⟨rfl, rfl⟩) rfl (.cons (.c .d) (.cons (.c .d) .nil)) (by simp) rfl rfl ?_
  rintro _ _ ⟨rfl, rfl⟩ _
  simp -implicitDefEqProofs [putAll, kw, ew, sw, aw_cond, awOps_nil, awOps_cons, awOps_guardE, nx_eq, awOp, -List.set_cons_succ, -List.set_cons_zero, A.ok, A.val, setSl, wrapG, guardB, getB, pickA, binA, binC, binD, cmpD, isCmp, unA, unD, lenA, AOp.total, kills, litB, FinQ, resOks, resOk, resA, resList, resOne, A.thaw, C.thaw, A.fits, As.fits, C.fits, evs, oks, callArgs, A.pure, C.pure, A.re, C.re, fieldAddrA, loadC, cut, A.cells, C.rows?, getOb, newOb, setOb, storeC, splice, Ob.re, Cs.fits, partsA, partsOk, parts2A, parts2Ok, fillC, fillRows, optInt, optOk, sliceA, clipC, optK_some, storeK_some, Option.map_some, toDs, C.toD, spliceD, appendA, capsOf, srcRows, allLen_nil_iff, allLen_cons_iff, allLen_append_iff, dropC, Obs.fits, eqCs, eqD, mapRow, mapPut, mapVal, mapOne, mapCells]
  have zg : ∀ {H : Heap}, H[1]? = some (.tree vu (mIns 1 u.length)) → FzL H [] [.c (.d (.v vu)), .c (.d (.int .i64 1))] [.c (.d (.sl (mIns 1 u.length))), .c (.d (.int .i64 1))] := fun h =>
    .cons (.c (.tree (i := 1) h (by simp))) (.cons (.c .d) .nil)
  refine qcall_read (heldInstrS_calls u.length 1 (by omega) (by omega) []) rfl hf (zg rfl) ?_
  simp -implicitDefEqProofs [hp2, kw, ew, sw, aw_cond, awOps_nil, awOps_cons, awOps_guardE, nx_eq, awOp, -List.set_cons_succ, -List.set_cons_zero, A.ok, A.val, setSl, wrapG, guardB, getB, pickA, binA, binC, binD, cmpD, isCmp, unA, unD, lenA, AOp.total, kills, litB, FinQ, resOks, resOk, resA, resList, resOne, A.thaw, C.thaw, A.fits, As.fits, C.fits, evs, oks, callArgs, A.pure, C.pure, A.re, C.re, fieldAddrA, loadC, cut, A.cells, C.rows?, getOb, newOb, setOb, storeC, splice, Ob.re, Cs.fits, partsA, partsOk, parts2A, parts2Ok, fillC, fillRows, optInt, optOk, sliceA, clipC, optK_some, storeK_some, Option.map_some, toDs, C.toD, spliceD, appendA, capsOf, srcRows, allLen_nil_iff, allLen_cons_iff, allLen_append_iff, dropC, Obs.fits, eqCs, eqD, mapRow, mapPut, mapVal, mapOne, mapCells]
  refine qcall_pure ctt hf rfl ?_
  simp -implicitDefEqProofs [kw, ew, sw, aw_cond, awOps_nil, awOps_cons, awOps_guardE, nx_eq, awOp, -List.set_cons_succ, -List.set_cons_zero, A.ok, A.val, setSl, wrapG, guardB, getB, pickA, binA, binC, binD, cmpD, isCmp, unA, unD, lenA, AOp.total, kills, litB, FinQ, resOks, resOk, resA, resList, resOne, A.thaw, C.thaw, A.fits, As.fits, C.fits, evs, oks, callArgs, A.pure, C.pure, A.re, C.re, fieldAddrA, loadC, cut, A.cells, C.rows?, getOb, newOb, setOb, storeC, splice, Ob.re, Cs.fits, partsA, partsOk, parts2A, parts2Ok, fillC, fillRows, optInt, optOk, sliceA, clipC, optK_some, storeK_some, Option.map_some, toDs, C.toD, spliceD, appendA, capsOf, srcRows, allLen_nil_iff, allLen_cons_iff, allLen_append_iff, dropC, Obs.fits, eqCs, eqD, mapRow, mapPut, mapVal, mapOne, mapCells]
  refine call_loc (J := []) ci (fun r H' h => h.handed) rfl (.cons (.c .d) .nil) List.nodup_nil rfl rfl ?_
  rintro _ _ ⟨vh, rfl, rfl⟩ _
  simp -implicitDefEqProofs [putAll, kw, ew, sw, aw_cond, awOps_nil, awOps_cons, awOps_guardE, nx_eq, awOp, -List.set_cons_succ, -List.set_cons_zero, A.ok, A.val, setSl, wrapG, guardB, getB, pickA, binA, binC, binD, cmpD, isCmp, unA, unD, lenA, AOp.total, kills, litB, FinQ, resOks, resOk, resA, resList, resOne, A.thaw, C.thaw, A.fits, As.fits, C.fits, evs, oks, callArgs, A.pure, C.pure, A.re, C.re, fieldAddrA, loadC, cut, A.cells, C.rows?, getOb, newOb, setOb, storeC, splice, Ob.re, Cs.fits, partsA, partsOk, parts2A, parts2Ok, fillC, fillRows, optInt, optOk, sliceA, clipC, optK_some, storeK_some, Option.map_some, toDs, C.toD, spliceD, appendA, capsOf, srcRows, allLen_nil_iff, allLen_cons_iff, allLen_append_iff, dropC, Obs.fits, eqCs, eqD, mapRow, mapPut, mapVal, mapOne, mapCells]
  refine qcall_read ceu rfl hf (zu (i := 2) rfl) ?_
  simp -implicitDefEqProofs [kw, ew, sw, aw_cond, awOps_nil, awOps_cons, awOps_guardE, nx_eq, awOp, -List.set_cons_succ, -List.set_cons_zero, A.ok, A.val, setSl, wrapG, guardB, getB, pickA, binA, binC, binD, cmpD, isCmp, unA, unD, lenA, AOp.total, kills, litB, FinQ, resOks, resOk, resA, resList, resOne, A.thaw, C.thaw, A.fits, As.fits, C.fits, evs, oks, callArgs, A.pure, C.pure, A.re, C.re, fieldAddrA, loadC, cut, A.cells, C.rows?, getOb, newOb, setOb, storeC, splice, Ob.re, Cs.fits, partsA, partsOk, parts2A, parts2Ok, fillC, fillRows, optInt, optOk, sliceA, clipC, optK_some, storeK_some, Option.map_some, toDs, C.toD, spliceD, appendA, capsOf, srcRows, allLen_nil_iff, allLen_cons_iff, allLen_append_iff, dropC, Obs.fits, eqCs, eqD, mapRow, mapPut, mapVal, mapOne, mapCells]
  refine qcall_read (heldInstrS_calls u.length 1 (by omega) (by omega) []) rfl hf (zg rfl) ?_
  simp -implicitDefEqProofs [hp2, kw, ew, sw, aw_cond, awOps_nil, awOps_cons, awOps_guardE, nx_eq, awOp, -List.set_cons_succ, -List.set_cons_zero, A.ok, A.val, setSl, wrapG, guardB, getB, pickA, binA, binC, binD, cmpD, isCmp, unA, unD, lenA, AOp.total, kills, litB, FinQ, resOks, resOk, resA, resList, resOne, A.thaw, C.thaw, A.fits, As.fits, C.fits, evs, oks, callArgs, A.pure, C.pure, A.re, C.re, fieldAddrA, loadC, cut, A.cells, C.rows?, getOb, newOb, setOb, storeC, splice, Ob.re, Cs.fits, partsA, partsOk, parts2A, parts2Ok, fillC, fillRows, optInt, optOk, sliceA, clipC, optK_some, storeK_some, Option.map_some, toDs, C.toD, spliceD, appendA, capsOf, srcRows, allLen_nil_iff, allLen_cons_iff, allLen_append_iff, dropC, Obs.fits, eqCs, eqD, mapRow, mapPut, mapVal, mapOne, mapCells]
theorem law_run4 (rows : List (List D)) (hr : HasTys Try.prog (#[22] : Array TypeId).toList rows) : ACalls Try.prog 4 (argsA Try.prog (#[22] : Array TypeId).toList rows) [] (fun r _ => r = .c (.d (.bool true))) := by
  obtain ⟨r, rs, rfl, h1, h2⟩ := hr.cons
  obtain rfl := h2.nil
  obtain ⟨l, rfl, hl, hfine⟩ := tms_ty h1
  simp only [argsA, argA, Try.underlying22, List.headD_cons]
  exact cqxLaw_calls l hl hfine
namespace fnExactCompileQuery
theorem own : ownKnob Try.prog.godebug = none := by kernel_rfl
theorem contract (H : Type) (enc : TypeId × Value → H) (W : World) (base : Nat) (args : Array Value) (ds gs : List (DataW H)) (before : List MemPlace)
    (hval : ∀ (j : Nat) t v, Try.f4.params[j]? = some t → args[j]? = some v → Value.okWide Try.prog W .any base t v)
    (hW : DataW.Whole enc Try.prog Try.f4.params.toList Rows.fnExactCompileQuerySpec.vars false W args.toList ds gs before)
    (hw : (DataW.weightsEach Try.prog (Try.f4.params.toList ++ Rows.fnExactCompileQuerySpec.plain.varTypes Try.prog) (ds ++ gs)).all (· ≤ reachBytes) = true) :
    Calls Try.prog 4 args W fun e W' => ∃ v, e = .returned v ∧ Rows.fnExactCompileQuerySpec.post enc Try.prog Try.f4 false true false false W args v W' := by
  refine law_contract (L := [3, 9, 24, 22]) (tb := 4) (by kernel_rfl) (by kernel_rfl) (by kernel_rfl) rfl ?_ (by kernel_rfl) Try.underlying4 ?_ W base args ds gs before hval hW hw
  · intro ds hl
    match ds, hl with
    | [d0], _ => rfl
  · intro rows hr
    rw [Try.params4] at hr ⊢
    exact law_run4 rows hr

theorem lifted (os : Os) (started : os.Started) (H : Type) (enc : TypeId × Value → H) :
    ReturnsInHanded {} Try.checked os 4 .any (Rows.fnExactCompileQuerySpec.pre6 enc Try.prog Try.f4 Rows.fnExactCompileQueryRow.domain false) (Rows.fnExactCompileQuerySpec.post enc Try.prog Try.f4 false true false false) := by
  refine returnsInHanded_of_change_sized (C := Try.checked) own started (by kernel_rfl) Try.func4
    (ChangeSpec.witness6 (enc := enc) (C := Try.checked) false ⟨#[], #[.slice none 0 0], []⟩ 8 (by kernel_rfl) (by kernel_rfl) (by kernel_rfl) (by kernel_rfl)) ?_
  intro W base args ds gs before hval hW _ hw _
  exact contract H enc W base args ds gs before hval hW hw

theorem proved : Rows.FnExactCompileQuerySaid :=
  OpenClaim.holds_of_wide 4 Try.f4 rfl rfl rfl rfl rfl rfl rfl ⟨rfl, rfl, rfl, rfl, rfl⟩ rfl rfl rfl rfl rfl (by kernel_rfl) Try.func4 (by kernel_rfl)
    (of_decide_eq_true (by kernel_rfl)) (by unfold Func.isWrapper; first | (rw [if_pos (by decide +kernel)]; kernel_rfl) | (rw [if_neg (by decide +kernel)]; exact ⟨rfl, rfl⟩))
    (fun os started H enc _ => lifted os started H enc)
end fnExactCompileQuery

end Go.Proofs.Ytaegeehpajlebaa
