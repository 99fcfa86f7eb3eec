/-
  Answers: what fits, and the texts of both sides.
  Conditions: none.
-/
import Derived.Test.YtikgpomnibbioaaGreatDoorWrT
import Derived.Test.YtikgpomnibbioaaGreatDoorQvS
import Derived.Test.YtikgpomnibbioaaGreatDoorAllV
open Go Go.AM Go.Proofs
namespace Go.Proofs.YtikgpomnibbioaaGreatDoor
open Go.ChangeShapes Go.WideShapes Go.ChangeAt Go.RowKit
set_option linter.unusedVariables false
set_option linter.unusedSimpArgs false
set_option maxRecDepth 100000
-- 6 loop.example/prologserver/spec.FormatAnswer params 2 ntmps 28
def ac6 : Cd := .seq (.region [⟨(some 3), .box (.t 1), none⟩,
      ⟨(some 4), .mv (.k (.c (.d (.str [])))), none⟩] [1, 4])
  (.seq (.region [⟨(some 6), .mv (.t 0), none⟩,
      ⟨(some 7), .qcall 13 [(.t 6)], none⟩,
      ⟨(some 5), .mv (.t 7), none⟩] [6, 7])
  (.seq (.seq (.region [⟨(some 8), .mv (.t 0), none⟩,
        ⟨(some 9), .qcall 14 [(.t 8)], none⟩,
        ⟨(some 10), .un .not (.t 9), none⟩,
        ⟨(some 11), .mv (.t 10), none⟩,
        ⟨(some 12), .mv (.t 5), some (11, false)⟩,
        ⟨(some 13), .len 1 (.t 12), some (11, false)⟩,
        ⟨(some 14), .fieldAddr 0 (.t 3), some (11, false)⟩,
        ⟨(some 15), .load none (.t 14), some (11, false)⟩,
        ⟨(some 16), .len 1 (.t 15), some (11, false)⟩,
        ⟨(some 17), .bin .neq (.t 13) (.t 16), some (11, false)⟩,
        ⟨(some 18), .pick (.t 11) (.k (.c (.d (.bool true)))) (.t 17), none⟩,
        ⟨(some 19), .mv (.t 18), none⟩,
        ⟨(some 20), .fieldAddr 0 (.t 3), some (19, false)⟩,
        ⟨(some 21), .load none (.t 20), some (19, false)⟩,
        ⟨(some 22), .qcall 15 [(.t 21)], some (19, false)⟩,
        ⟨(some 23), .un .not (.t 22), some (19, false)⟩,
        ⟨(some 24), .pick (.t 19) (.k (.c (.d (.bool true)))) (.t 23), none⟩] [0, 8, 9, 10, 11, 12, 13, 14, 15, 16, 17, 18, 19, 20, 21, 22, 23])
    (.cond (.t 24)
      (.seq (.region [⟨(some 4), .mv (.k (.c (.d (.str [])))), none⟩] [3, 5, 24])
      (.ret))
      (.skip)))
  (.seq (.region [⟨(some 25), .mv (.t 5), none⟩,
      ⟨(some 26), .load (some 1) (.t 3), none⟩,
      ⟨(some 27), .qcall 16 [(.t 25), (.t 26)], none⟩,
      ⟨(some 4), .mv (.t 27), none⟩] [3, 5, 24, 25, 26, 27])
  (.ret))))
theorem ac6_ok : cFunc Tryz.prog [1000013, 1000014, 1000015, 1000016] [(0, [1, 4], []), (1, [6, 7], []), (2, [0, 8, 9, 10, 11, 12, 13, 14, 15, 16, 17, 18, 19, 20, 21, 22, 23], []), (3, [3, 5, 24], []), (4, [3, 5, 24, 25, 26, 27], [])] Tryz.f6 = some (ac6, [.tmp 4], 28) := by kernel_rfl
-- 16 loop.example/prologserver/spec.l6Text params 2 ntmps 36
-- loop head live: [0, 3, 5, 6]
def ac16 : Cd := .seq (.region [⟨(some 3), .box (.t 1), none⟩,
      ⟨(some 4), .mv (.k (.c (.d (.str [])))), none⟩] [1, 4])
  (.seq (.seq (.region [⟨(some 7), .mv (.t 0), none⟩,
        ⟨(some 8), .len 1 (.t 7), none⟩,
        ⟨(some 9), .bin .eql (.t 8) (.k (.c (.d (.int .i64 0)))), none⟩] [7, 8])
    (.cond (.t 9)
      (.seq (.region [⟨(some 4), .mv (.k (.c (.d (.str [121, 101, 115])))), none⟩] [0, 3, 9])
      (.ret))
      (.skip)))
  (.seq (.region [⟨(some 5), .mv (.k (.c (.d (.str [])))), none⟩] [4, 9])
  (.seq (.seq (.region [⟨(some 6), .mv (.k (.c (.d (.int .i64 0)))), none⟩] [])
    (.block 0 (.loop (.seq (.seq (.region [⟨(some 10), .mv (.t 6), none⟩,
              ⟨(some 11), .mv (.t 0), none⟩,
              ⟨(some 12), .len 1 (.t 11), none⟩,
              ⟨(some 13), .bin .lss (.t 10) (.t 12), none⟩] [10, 11, 12])
          (.cond (.t 13)
            (.skip)
            (.exit 0)))
        (.seq (.block 1 (.seq (.seq (.region [⟨(some 16), .mv (.t 6), none⟩,
                  ⟨(some 17), .bin .gtr (.t 16) (.k (.c (.d (.int .i64 0)))), none⟩] [13, 16])
              (.cond (.t 17)
                (.region [⟨(some 18), .mv (.t 5), none⟩,
                  ⟨(some 19), .bin .add (.t 18) (.k (.c (.d (.str [59])))), none⟩,
                  ⟨(some 5), .mv (.t 19), none⟩] [17, 18, 19])
                (.skip)))
            (.region [⟨(some 20), .mv (.t 5), none⟩,
              ⟨(some 21), .mv (.t 0), none⟩,
              ⟨(some 22), .mv (.t 6), none⟩,
              ⟨(some 23), .indexAddr 1 (.t 21) (.t 22), none⟩,
              ⟨(some 28), .fieldAddr 0 (.t 3), none⟩,
              ⟨(some 30), .mv (.t 6), none⟩,
              ⟨(some 24), .load none (.t 23), none⟩,
              ⟨(some 25), .qcall 24 [(.t 24)], none⟩,
              ⟨(some 26), .bin .add (.t 20) (.t 25), none⟩,
              ⟨(some 27), .bin .add (.t 26) (.k (.c (.d (.str [61])))), none⟩,
              ⟨(some 29), .load none (.t 28), none⟩,
              ⟨(some 31), .indexAddr 4 (.t 29) (.t 30), none⟩,
              ⟨(some 32), .load (some 4) (.t 31), none⟩,
              ⟨(some 33), .qcall 25 [(.t 32)], none⟩,
              ⟨(some 34), .bin .add (.t 27) (.t 33), none⟩,
              ⟨(some 5), .mv (.t 34), none⟩] [17, 20, 21, 22, 23, 24, 25, 26, 27, 28, 29, 30, 31, 32, 33, 34])))
        (.region [⟨(some 14), .mv (.t 6), none⟩,
          ⟨(some 15), .bin .add (.t 14) (.k (.c (.d (.int .i64 1)))), none⟩,
          ⟨(some 6), .mv (.t 15), none⟩] [14, 15]))))))
  (.seq (.region [⟨(some 35), .mv (.t 5), none⟩,
      ⟨(some 4), .mv (.t 35), none⟩] [5, 35])
  (.ret)))))
theorem ac16_ok : cFunc Tryz.prog [1000024, 1000025] [(0, [1, 4], []), (1, [7, 8], []), (2, [0, 3, 9], []), (3, [4, 9], []), (4, [], []), (5, [10, 11, 12], []), (7, [13, 16], []), (8, [17, 18, 19], []), (9, [17, 20, 21, 22, 23, 24, 25, 26, 27, 28, 29, 30, 31, 32, 33, 34], [0, 1, 2, 3, 8, 10, 4, 5, 6, 7, 9, 11, 12, 13, 14, 15]), (6, [14, 15], []), (10, [5, 35], [])] Tryz.f16 = some (ac16, [.tmp 4], 36) := by kernel_rfl
-- 9 loop.example/prologserver/impl.FormatAnswer params 2 ntmps 12
def ac9 : Cd := .seq (.region [⟨(some 3), .box (.t 1), none⟩,
      ⟨(some 4), .mv (.k (.c (.d (.str [])))), none⟩] [1, 4])
  (.seq (.seq (.region [⟨(some 5), .load (some 1) (.t 3), none⟩,
        ⟨(some 6), .mv (.t 0), none⟩,
        ⟨(some 7), .qcall 18 [(.t 5), (.t 6)], none⟩,
        ⟨(some 8), .un .not (.t 7), none⟩] [5, 6, 7])
    (.cond (.t 8)
      (.seq (.region [⟨(some 4), .mv (.k (.c (.d (.str [])))), none⟩] [0, 3, 8])
      (.ret))
      (.skip)))
  (.seq (.region [⟨(some 9), .mv (.t 0), none⟩,
      ⟨(some 10), .load (some 1) (.t 3), none⟩,
      ⟨(some 11), .qcall 19 [(.t 9), (.t 10)], none⟩,
      ⟨(some 4), .mv (.t 11), none⟩] [0, 3, 8, 9, 10, 11])
  (.ret)))
theorem ac9_ok : cFunc Tryz.prog [1000018, 1000019] [(0, [1, 4], []), (1, [5, 6, 7], []), (2, [0, 3, 8], []), (3, [0, 3, 8, 9, 10, 11], [])] Tryz.f9 = some (ac9, [.tmp 4], 12) := by kernel_rfl
-- 18 (loop.example/prologserver/impl.Answer).fits params 2 ntmps 21
def ac18 : Cd := .seq (.region [⟨(some 2), .box (.t 0), none⟩,
      ⟨(some 4), .mv (.k (.c (.d (.bool false)))), none⟩] [0, 4])
  (.seq (.region [⟨(some 5), .mv (.t 1), none⟩,
      ⟨(some 6), .qcall 26 [(.t 5)], none⟩,
      ⟨(some 7), .mv (.t 6), none⟩,
      ⟨(some 8), .fieldAddr 0 (.t 2), some (7, true)⟩,
      ⟨(some 11), .mv (.t 1), some (7, true)⟩,
      ⟨(some 9), .load none (.t 8), some (7, true)⟩,
      ⟨(some 10), .len 1 (.t 9), some (7, true)⟩,
      ⟨(some 12), .qcall 27 [(.t 11)], some (7, true)⟩,
      ⟨(some 13), .len 1 (.t 12), some (7, true)⟩,
      ⟨(some 14), .bin .eql (.t 10) (.t 13), some (7, true)⟩,
      ⟨(some 15), .pick (.t 7) (.t 14) (.k (.c (.d (.bool false)))), none⟩,
      ⟨(some 16), .mv (.t 15), none⟩,
      ⟨(some 17), .fieldAddr 0 (.t 2), some (16, true)⟩,
      ⟨(some 18), .load none (.t 17), some (16, true)⟩,
      ⟨(some 19), .qcall 28 [(.t 18)], some (16, true)⟩,
      ⟨(some 20), .pick (.t 16) (.t 19) (.k (.c (.d (.bool false)))), none⟩,
      ⟨(some 4), .mv (.t 20), none⟩] [1, 2, 5, 6, 7, 8, 9, 10, 11, 12, 13, 14, 15, 16, 17, 18, 19, 20])
  (.ret))
theorem ac18_ok : cFunc Tryz.prog [1000026, 1000027, 1000028] [(0, [0, 4], []), (1, [1, 2, 5, 6, 7, 8, 9, 10, 11, 12, 13, 14, 15, 16, 17, 18, 19, 20], [0, 1, 2, 3, 6, 4, 5, 7, 8, 9, 10, 11, 12, 13, 14, 15, 16])] Tryz.f18 = some (ac18, [.tmp 4], 21) := by kernel_rfl
-- 19 loop.example/prologserver/impl.answerText params 2 ntmps 35
-- loop head live: [3, 5, 9, 10, 11]
def ac19 : Cd := .seq (.region [⟨(some 3), .box (.t 1), none⟩,
      ⟨(some 4), .mv (.k (.c (.d (.str [])))), none⟩] [1, 4])
  (.seq (.region [⟨(some 5), .mv (.k (.c (.full []))), none⟩] [])
  (.seq (.seq (.region [⟨(some 8), .mv (.t 0), none⟩,
        ⟨(some 9), .qcall 27 [(.t 8)], none⟩,
        ⟨(some 10), .len 1 (.t 9), none⟩,
        ⟨(some 11), .mv (.k (.c (.d (.int .i64 0)))), none⟩] [0, 8])
    (.block 0 (.loop (.seq (.region [⟨(some 12), .bin .lss (.t 11) (.t 10), none⟩] [])
        (.seq (.cond (.t 12)
            (.skip)
            (.exit 0))
        (.seq (.block 1 (.seq (.region [⟨(some 13), .mv (.t 11), none⟩,
                ⟨(some 14), .indexAddr 1 (.t 9) (.t 11), none⟩,
                ⟨(some 15), .load none (.t 14), none⟩,
                ⟨(some 6), .mv (.t 13), none⟩,
                ⟨(some 7), .mv (.t 15), none⟩] [12, 13, 14, 15])
            (.region [⟨(some 16), .mv (.t 5), none⟩,
              ⟨(some 17), .mv (.t 7), none⟩,
              ⟨(some 20), .fieldAddr 0 (.t 3), none⟩,
              ⟨(some 22), .mv (.t 6), none⟩,
              ⟨(some 18), .qcall 29 [(.t 17)], none⟩,
              ⟨(some 19), .bin .add (.t 18) (.k (.c (.d (.str [61])))), none⟩,
              ⟨(some 21), .load none (.t 20), none⟩,
              ⟨(some 23), .indexAddr 4 (.t 21) (.t 22), none⟩,
              ⟨(some 24), .load (some 4) (.t 23), none⟩,
              ⟨(some 25), .qcall 30 [(.t 24)], none⟩,
              ⟨(some 26), .bin .add (.t 19) (.t 25), none⟩,
              ⟨(some 27), .buildSlice 1 1 [(.str [])] [(0, (.t 26))], none⟩,
              ⟨(some 28), .append false 1 (.t 16) (.t 27), none⟩,
              ⟨(some 5), .mv (.t 28), none⟩] [6, 7, 16, 17, 18, 19, 20, 21, 22, 23, 24, 25, 26, 27, 28])))
        (.region [⟨(some 29), .bin .add (.t 11) (.k (.c (.d (.int .i64 1)))), none⟩,
          ⟨(some 11), .mv (.t 29), none⟩] [29])))))))
  (.seq (.seq (.region [⟨(some 30), .mv (.t 5), none⟩,
        ⟨(some 31), .len 1 (.t 30), none⟩,
        ⟨(some 32), .bin .eql (.t 31) (.k (.c (.d (.int .i64 0)))), none⟩] [30, 31])
    (.cond (.t 32)
      (.seq (.region [⟨(some 4), .mv (.k (.c (.d (.str [121, 101, 115])))), none⟩] [5, 32])
      (.ret))
      (.skip)))
  (.seq (.region [⟨(some 33), .mv (.t 5), none⟩,
      ⟨(some 34), .qcall 31 [(.t 33), (.k (.c (.d (.str [59]))))], none⟩,
      ⟨(some 4), .mv (.t 34), none⟩] [5, 32, 33, 34])
  (.ret)))))
theorem ac19_ok : cFunc Tryz.prog [1000027, 1000029, 1000030, 1000031] [(0, [1, 4], []), (1, [], []), (2, [0, 8], []), (3, [], []), (4, [12, 13, 14, 15], []), (5, [6, 7, 16, 17, 18, 19, 20, 21, 22, 23, 24, 25, 26, 27, 28], [0, 1, 4, 6, 2, 3, 5, 7, 8, 9, 10, 11, 12, 13]), (6, [29], []), (7, [30, 31], []), (8, [5, 32], []), (9, [5, 32, 33, 34], [])] Tryz.f19 = some (ac19, [.tmp 4], 35) := by kernel_rfl
theorem varsOfQ_calls (l : List Tm) (hl : l.length ≤ 1048576) (h : ∀ t ∈ l, t.fits) (hc : Tm.cnt l ≤ 3000000) (H : Heap) : ACalls Tryz.prog 27 [.c (.d (.sl (l.map Tm.row)))] H
    (fun r H' => H' = H ∧ r = .c (.d (.sl (intRows (varsL l []))))) := by
  have hli : inR .i64 (l.length : Int) := small_i64 (by omega) (by omega)
  refine acalls Tryz.func27 (by kernel_rfl) ac27_ok fun hf => ?_
  simp -implicitDefEqProofs [ac27, hli, kw, ew, sw, aw_cond, awOps_nil, awOps_cons, awOps_guardE, nx_eq, awOp, -List.set_cons_succ, -List.set_cons_zero, A.ok, A.val, setSl, wrapG, guardB, getB, pickA, binA, binC, binD, cmpD, isCmp, unA, unD, lenA, AOp.total, kills, litB, FinQ, resOks, resOk, resA, resList, resOne, A.thaw, C.thaw, A.fits, As.fits, C.fits, evs, oks, callArgs, A.pure, C.pure, A.re, C.re, fieldAddrA, loadC, cut, A.cells, C.rows?, getOb, newOb, setOb, storeC, splice, Ob.re, Cs.fits, partsA, partsOk, parts2A, parts2Ok, fillC, fillRows, optInt, optOk, sliceA, clipC, optK_some, storeK_some, Option.map_some, toDs, C.toD, spliceD, appendA, capsOf, srcRows, allLen_nil_iff, allLen_cons_iff, allLen_append_iff, dropC, Obs.fits, eqCs, eqD, mapRow, mapPut, mapVal, mapOne, mapCells]
  refine loop_enter (St.le_token 3 1 rfl) ?_
  refine loop_set (σ := Nat) (fun j => [(8, .c (.d (.int .i64 j))), (3, .c (.own (.l 0) (varsL (l.take j) []).length (intRows (varsL (l.take j) []))))]) (fun _ => H) (fun j => [.grow (varsL (l.take j) []).length 1]) (fun j => j ≤ l.length) (fun j => l.length - j) 0 (by simp [setAll, varsL_nil, intRows]) (Nat.zero_le _) ?_
  intro j hj
  obtain ⟨W, hW⟩ : ∃ W, W = varsL (l.take j) [] := ⟨_, rfl⟩
  have hWl : W.length ≤ Tm.cnt (l.take j) := by
    have h1 := varsL_len (l.take j) []
    rw [hW]; simpa using h1
  rw [← hW]
  simp -implicitDefEqProofs [setAll, hli, kw, ew, sw, aw_cond, awOps_nil, awOps_cons, awOps_guardE, nx_eq, awOp, -List.set_cons_succ, -List.set_cons_zero, A.ok, A.val, setSl, wrapG, guardB, getB, pickA, binA, binC, binD, cmpD, isCmp, unA, unD, lenA, AOp.total, kills, litB, FinQ, resOks, resOk, resA, resList, resOne, A.thaw, C.thaw, A.fits, As.fits, C.fits, evs, oks, callArgs, A.pure, C.pure, A.re, C.re, fieldAddrA, loadC, cut, A.cells, C.rows?, getOb, newOb, setOb, storeC, splice, Ob.re, Cs.fits, partsA, partsOk, parts2A, parts2Ok, fillC, fillRows, optInt, optOk, sliceA, clipC, optK_some, storeK_some, Option.map_some, toDs, C.toD, spliceD, appendA, capsOf, srcRows, allLen_nil_iff, allLen_cons_iff, allLen_append_iff, dropC, Obs.fits, eqCs, eqD, mapRow, mapPut, mapVal, mapOne, mapCells]
  refine ⟨fun hjl => ?_, fun hje => ?_⟩
  · have hadd : inR .i64 ((j : Int) + 1) := small_i64 (by omega) (by omega)
    have hw1 := varsL_succ l [] hjl
    rw [← hW] at hw1
    have hs1 := cnt_take_sub l hjl
    refine row_of hjl (row_len _) ?_
    simp -implicitDefEqProofs [row_len, take_row, pure_d, re_d, hf, kw, ew, sw, aw_cond, awOps_nil, awOps_cons, awOps_guardE, nx_eq, awOp, -List.set_cons_succ, -List.set_cons_zero, A.ok, A.val, setSl, wrapG, guardB, getB, pickA, binA, binC, binD, cmpD, isCmp, unA, unD, lenA, AOp.total, kills, litB, FinQ, resOks, resOk, resA, resList, resOne, A.thaw, C.thaw, A.fits, As.fits, C.fits, evs, oks, callArgs, A.pure, C.pure, A.re, C.re, fieldAddrA, loadC, cut, A.cells, C.rows?, getOb, newOb, setOb, storeC, splice, Ob.re, Cs.fits, partsA, partsOk, parts2A, parts2Ok, fillC, fillRows, optInt, optOk, sliceA, clipC, optK_some, storeK_some, Option.map_some, toDs, C.toD, spliceD, appendA, capsOf, srcRows, allLen_nil_iff, allLen_cons_iff, allLen_append_iff, dropC, Obs.fits, eqCs, eqD, mapRow, mapPut, mapVal, mapOne, mapCells]
    refine call_addL (j := 0) (r := .c (.own (.l 0) (l[j].vars W).length (intRows (l[j].vars W)))) (addVars_calls l[j] (h _ (List.getElem_mem hjl)) W _ (H.length + 0) (by simp) (by omega)) rfl rfl hf (by simp [Ob.re, C.re, re_d]) ?_
    simp -implicitDefEqProofs [hadd, kw, ew, sw, aw_cond, awOps_nil, awOps_cons, awOps_guardE, nx_eq, awOp, -List.set_cons_succ, -List.set_cons_zero, A.ok, A.val, setSl, wrapG, guardB, getB, pickA, binA, binC, binD, cmpD, isCmp, unA, unD, lenA, AOp.total, kills, litB, FinQ, resOks, resOk, resA, resList, resOne, A.thaw, C.thaw, A.fits, As.fits, C.fits, evs, oks, callArgs, A.pure, C.pure, A.re, C.re, fieldAddrA, loadC, cut, A.cells, C.rows?, getOb, newOb, setOb, storeC, splice, Ob.re, Cs.fits, partsA, partsOk, parts2A, parts2Ok, fillC, fillRows, optInt, optOk, sliceA, clipC, optK_some, storeK_some, Option.map_some, toDs, C.toD, spliceD, appendA, capsOf, srcRows, allLen_nil_iff, allLen_cons_iff, allLen_append_iff, dropC, Obs.fits, eqCs, eqD, mapRow, mapPut, mapVal, mapOne, mapCells]
    rw [← hw1]
    refine loop_less (j + 1) (St.le_cut [_] ?_ (by simp [Sl.le, A.le_refl_iff, A.le_u_iff, As.lo, A.lo, C.lo, Ref.lo, Cs.lo, Obs.lo, Ob.lo, setAll, and_true, true_and, List.length_nil, List.length_cons]) rfl ⟨trivial, trivial⟩) hjl (by show l.length - (j + 1) < l.length - j; omega)
    simp [setAll, Sl.le, A.le_refl_iff, A.le_u_iff, As.lo, A.lo, C.lo, Ref.lo, Cs.lo, Obs.lo, Ob.lo, setAll, and_true, true_and, List.length_nil, List.length_cons]
  · obtain rfl : j = l.length := by omega
    rw [List.take_length] at hW
    rw [← hW]

/-- a variable is a letter -/
def lettersV (l : List Int) : Prop := ∀ n ∈ l, 0 ≤ n ∧ n ≤ 25
theorem addI_ok {l : List Int} {n : Int} (h : lettersV l) (h0 : 0 ≤ n) (h1 : n ≤ 25) : lettersV (addI l n) := by
  unfold addI
  split
  · exact h
  · intro x hx
    rcases List.mem_append.1 hx with hx | hx
    · exact h x hx
    · simp at hx; subst hx; exact ⟨h0, h1⟩
theorem vars_ok : ∀ t : Tm, t.good → ∀ l : List Int, lettersV l → lettersV (t.vars l) := by
  refine Tm.ind fun k n s kids ih hg l hl => ?_
  cases hg with
  | mk ho hk =>
    rw [vars_mk]
    have key : ∀ (ks : List Tm), (∀ t ∈ ks, t ∈ kids) → ∀ l, lettersV l → lettersV (varsL ks l) := by
      intro ks
      induction ks with
      | nil => intro _ l h; rw [varsL_nil]; exact h
      | cons t ks ih2 =>
        intro hm l h
        rw [varsL_cons]
        exact ih2 (fun u hu => hm u (by simp [hu])) _ (ih t (hm t (by simp)) (hk t (hm t (by simp))) l h)
    refine key kids (fun t h => h) _ ?_
    split
    · rename_i h1
      rcases own_cases ho with ⟨_, h2, h3, _⟩ | ⟨h2, _⟩ | ⟨h2, _⟩
      · exact addI_ok hl h2 h3
      · omega
      · omega
    · exact hl
theorem varsL_ok (ts : List Tm) (h : ∀ t ∈ ts, t.good) : ∀ l : List Int, lettersV l → lettersV (varsL ts l) := by
  induction ts with
  | nil => intro l h; rw [varsL_nil]; exact h
  | cons t ks ih =>
    intro l hl
    rw [varsL_cons]
    exact ih (fun u hu => h u (by simp [hu])) _ (vars_ok t (h t (by simp)) l hl)
/-- the parts of an answer's text -/
def ansP (vs : List Int) (ws : List Tm) : List (List UInt8) := List.zipWith (fun n w => UInt8.ofNat (65 + n.toNat) :: 61 :: w.wr) vs ws
theorem ansP_len {vs : List Int} {ws : List Tm} (h : ws.length = vs.length) : (ansP vs ws).length = vs.length := by simp [ansP, h]
theorem ansP_get {vs : List Int} {ws : List Tm} (h : ws.length = vs.length) {i : Nat} (hi : i < vs.length) : (ansP vs ws)[i]'(by rw [ansP_len h]; exact hi) = (65 + UInt8.ofNat vs[i].toNat) :: 61 :: (ws[i]'(by omega)).wr := by
  simp [ansP]
theorem sum_le {B : Nat} : ∀ (l : List (List UInt8)), (∀ x ∈ l, x.length ≤ B) → (l.map fun x => x.length + 1).sum ≤ l.length * (B + 1)
  | [], _ => by simp
  | a :: l, h => by
    have h1 := sum_le l fun x hx => h x (by simp [hx])
    have h2 := h a (by simp)
    simp only [List.map_cons, List.sum_cons, List.length_cons, Nat.succ_mul]
    omega
theorem ansP_all {vs : List Int} {ws : List Tm} (h : ws.length = vs.length) (hv : ∀ t ∈ ws, t.ok) : ∀ x ∈ ansP vs ws, x.length ≤ 2402 := by
  intro x hx
  obtain ⟨i, hi, rfl⟩ := List.getElem_of_mem hx
  have hi2 : i < vs.length := by rw [ansP_len h] at hi; exact hi
  rw [ansP_get h hi2]
  have := (hv (ws[i]'(by omega)) (List.getElem_mem _)).len.1
  simp
  omega
theorem take_str {P : List (List UInt8)} {i : Nat} (h : i < P.length) : (P.take i).map (fun x => [D.str x]) ++ [[D.str P[i]]] = (P.take (i + 1)).map fun x => [D.str x] := by
  rw [List.take_add_one, List.getElem?_eq_getElem h, List.map_append]
  rfl
def ansText (vs : List Int) (ws : List Tm) : List UInt8 := if vs = [] then [121, 101, 115] else joinS 59 (ansP vs ws)
def ansR (l vals : List Tm) : List UInt8 := if goalsB l && decide ((varsL l []).length = vals.length) && vals.all Tm.valid then ansText (varsL l []) vals else []
theorem fits_calls (l : List Tm) (hl : l.length ≤ 1048576) (h : ∀ t ∈ l, t.fits) (vals : List Tm) (hvl : vals.length ≤ 1048576) (hv : ∀ t ∈ vals, t.fits) (H : Heap) : ACalls Tryz.prog 18 [.agg [.d (.sl (vals.map Tm.row))], .c (.d (.sl (l.map Tm.row)))] H
    (fun r H' => H' = H ∧ r = .c (.d (.bool (goalsB l && decide ((varsL l []).length = vals.length) && vals.all Tm.valid)))) := by
  have hvi : inR .i64 (vals.length : Int) := small_i64 (by omega) (by omega)
  refine acalls Tryz.func18 (by kernel_rfl) ac18_ok fun hf => ?_
  simp -implicitDefEqProofs [ac18, hvi, kw, ew, sw, aw_cond, awOps_nil, awOps_cons, awOps_guardE, nx_eq, awOp, -List.set_cons_succ, -List.set_cons_zero, A.ok, A.val, setSl, wrapG, guardB, getB, pickA, binA, binC, binD, cmpD, isCmp, unA, unD, lenA, AOp.total, kills, litB, FinQ, resOks, resOk, resA, resList, resOne, A.thaw, C.thaw, A.fits, As.fits, C.fits, evs, oks, callArgs, A.pure, C.pure, A.re, C.re, fieldAddrA, loadC, cut, A.cells, C.rows?, getOb, newOb, setOb, storeC, splice, Ob.re, Cs.fits, partsA, partsOk, parts2A, parts2Ok, fillC, fillRows, optInt, optOk, sliceA, clipC, optK_some, storeK_some, Option.map_some, toDs, C.toD, spliceD, appendA, capsOf, srcRows, allLen_nil_iff, allLen_cons_iff, allLen_append_iff, dropC, Obs.fits, eqCs, eqD, mapRow, mapPut, mapVal, mapOne, mapCells]
  refine qcall_pure (qvImpl_calls l hl h) hf rfl ?_
  cases hb : goalsB l with
  | false => simp -implicitDefEqProofs [kw, ew, sw, aw_cond, awOps_nil, awOps_cons, awOps_guardE, nx_eq, awOp, -List.set_cons_succ, -List.set_cons_zero, A.ok, A.val, setSl, wrapG, guardB, getB, pickA, binA, binC, binD, cmpD, isCmp, unA, unD, lenA, AOp.total, kills, litB, FinQ, resOks, resOk, resA, resList, resOne, A.thaw, C.thaw, A.fits, As.fits, C.fits, evs, oks, callArgs, A.pure, C.pure, A.re, C.re, fieldAddrA, loadC, cut, A.cells, C.rows?, getOb, newOb, setOb, storeC, splice, Ob.re, Cs.fits, partsA, partsOk, parts2A, parts2Ok, fillC, fillRows, optInt, optOk, sliceA, clipC, optK_some, storeK_some, Option.map_some, toDs, C.toD, spliceD, appendA, capsOf, srcRows, allLen_nil_iff, allLen_cons_iff, allLen_append_iff, dropC, Obs.fits, eqCs, eqD, mapRow, mapPut, mapVal, mapOne, mapCells]
  | true =>
    obtain ⟨g1, g2⟩ := goals_ok hb
    have hlen := varsL_len l []
    simp at hlen
    have hli : inR .i64 ((varsL l []).length : Int) := small_i64 (by omega) (by omega)
    simp -implicitDefEqProofs [kw, ew, sw, aw_cond, awOps_nil, awOps_cons, awOps_guardE, nx_eq, awOp, -List.set_cons_succ, -List.set_cons_zero, A.ok, A.val, setSl, wrapG, guardB, getB, pickA, binA, binC, binD, cmpD, isCmp, unA, unD, lenA, AOp.total, kills, litB, FinQ, resOks, resOk, resA, resList, resOne, A.thaw, C.thaw, A.fits, As.fits, C.fits, evs, oks, callArgs, A.pure, C.pure, A.re, C.re, fieldAddrA, loadC, cut, A.cells, C.rows?, getOb, newOb, setOb, storeC, splice, Ob.re, Cs.fits, partsA, partsOk, parts2A, parts2Ok, fillC, fillRows, optInt, optOk, sliceA, clipC, optK_some, storeK_some, Option.map_some, toDs, C.toD, spliceD, appendA, capsOf, srcRows, allLen_nil_iff, allLen_cons_iff, allLen_append_iff, dropC, Obs.fits, eqCs, eqD, mapRow, mapPut, mapVal, mapOne, mapCells]
    refine ⟨hvi, qcall_pure (varsOfQ_calls l hl h (by omega)) hf rfl ?_⟩
    by_cases he : (varsL l []).length = vals.length
    · have he' : ((vals.length : Int) == ((varsL l []).length : Int)) = true := by simp [he]
      simp -implicitDefEqProofs [hli, hvi, intRows_len, he, kw, ew, sw, aw_cond, awOps_nil, awOps_cons, awOps_guardE, nx_eq, awOp, -List.set_cons_succ, -List.set_cons_zero, A.ok, A.val, setSl, wrapG, guardB, getB, pickA, binA, binC, binD, cmpD, isCmp, unA, unD, lenA, AOp.total, kills, litB, FinQ, resOks, resOk, resA, resList, resOne, A.thaw, C.thaw, A.fits, As.fits, C.fits, evs, oks, callArgs, A.pure, C.pure, A.re, C.re, fieldAddrA, loadC, cut, A.cells, C.rows?, getOb, newOb, setOb, storeC, splice, Ob.re, Cs.fits, partsA, partsOk, parts2A, parts2Ok, fillC, fillRows, optInt, optOk, sliceA, clipC, optK_some, storeK_some, Option.map_some, toDs, C.toD, spliceD, appendA, capsOf, srcRows, allLen_nil_iff, allLen_cons_iff, allLen_append_iff, dropC, Obs.fits, eqCs, eqD, mapRow, mapPut, mapVal, mapOne, mapCells]
      refine qcall_pure (allValid_calls vals hvl hv) hf rfl ?_
      simp -implicitDefEqProofs [kw, ew, sw, aw_cond, awOps_nil, awOps_cons, awOps_guardE, nx_eq, awOp, -List.set_cons_succ, -List.set_cons_zero, A.ok, A.val, setSl, wrapG, guardB, getB, pickA, binA, binC, binD, cmpD, isCmp, unA, unD, lenA, AOp.total, kills, litB, FinQ, resOks, resOk, resA, resList, resOne, A.thaw, C.thaw, A.fits, As.fits, C.fits, evs, oks, callArgs, A.pure, C.pure, A.re, C.re, fieldAddrA, loadC, cut, A.cells, C.rows?, getOb, newOb, setOb, storeC, splice, Ob.re, Cs.fits, partsA, partsOk, parts2A, parts2Ok, fillC, fillRows, optInt, optOk, sliceA, clipC, optK_some, storeK_some, Option.map_some, toDs, C.toD, spliceD, appendA, capsOf, srcRows, allLen_nil_iff, allLen_cons_iff, allLen_append_iff, dropC, Obs.fits, eqCs, eqD, mapRow, mapPut, mapVal, mapOne, mapCells]
    · have he1 : ¬ vals.length = (varsL l []).length := fun h => he h.symm
      have he2 : ¬ ((vals.length : Int) = ((varsL l []).length : Int)) := by omega
      simp -implicitDefEqProofs [hli, hvi, intRows_len, he, he1, he2, kw, ew, sw, aw_cond, awOps_nil, awOps_cons, awOps_guardE, nx_eq, awOp, -List.set_cons_succ, -List.set_cons_zero, A.ok, A.val, setSl, wrapG, guardB, getB, pickA, binA, binC, binD, cmpD, isCmp, unA, unD, lenA, AOp.total, kills, litB, FinQ, resOks, resOk, resA, resList, resOne, A.thaw, C.thaw, A.fits, As.fits, C.fits, evs, oks, callArgs, A.pure, C.pure, A.re, C.re, fieldAddrA, loadC, cut, A.cells, C.rows?, getOb, newOb, setOb, storeC, splice, Ob.re, Cs.fits, partsA, partsOk, parts2A, parts2Ok, fillC, fillRows, optInt, optOk, sliceA, clipC, optK_some, storeK_some, Option.map_some, toDs, C.toD, spliceD, appendA, capsOf, srcRows, allLen_nil_iff, allLen_cons_iff, allLen_append_iff, dropC, Obs.fits, eqCs, eqD, mapRow, mapPut, mapVal, mapOne, mapCells]
theorem answerText_calls {g : Nat} {o : Obj} (hT : Tab g o) (l : List Tm) (hl : l.length ≤ 1048576) (h : ∀ t ∈ l, t.fits) (hc : Tm.cnt l ≤ 726) (hlet : lettersV (varsL l [])) (vals : List Tm) (hvl : vals.length = (varsL l []).length)
    (hv : ∀ t ∈ vals, t.ok) (H : Heap) (hH : H[0]? = some (.tab g o)) : ACalls Tryz.prog 19 [.c (.d (.sl (l.map Tm.row))), .agg [.d (.sl (vals.map Tm.row))]] H (fun r H' => H' = H ∧ r = .c (.d (.str (ansText (varsL l []) vals)))) := by
  refine acalls Tryz.func19 (by kernel_rfl) ac19_ok fun hf => ?_
  have hlen := varsL_len l []
  simp at hlen
  simp -implicitDefEqProofs [ac19, kw, ew, sw, aw_cond, awOps_nil, awOps_cons, awOps_guardE, nx_eq, awOp, -List.set_cons_succ, -List.set_cons_zero, A.ok, A.val, setSl, wrapG, guardB, getB, pickA, binA, binC, binD, cmpD, isCmp, unA, unD, lenA, AOp.total, kills, litB, FinQ, resOks, resOk, resA, resList, resOne, A.thaw, C.thaw, A.fits, As.fits, C.fits, evs, oks, callArgs, A.pure, C.pure, A.re, C.re, fieldAddrA, loadC, cut, A.cells, C.rows?, getOb, newOb, setOb, storeC, splice, Ob.re, Cs.fits, partsA, partsOk, parts2A, parts2Ok, fillC, fillRows, optInt, optOk, sliceA, clipC, optK_some, storeK_some, Option.map_some, toDs, C.toD, spliceD, appendA, capsOf, srcRows, allLen_nil_iff, allLen_cons_iff, allLen_append_iff, dropC, Obs.fits, eqCs, eqD, mapRow, mapPut, mapVal, mapOne, mapCells]
  refine qcall_pure (varsOfQ_calls l hl h (by omega)) hf rfl ?_
  generalize varsL l [] = vs at hlet hvl hlen ⊢
  have hli : inR .i64 (vs.length : Int) := small_i64 (by omega) (by omega)
  simp -implicitDefEqProofs [hli, intRows_len, kw, ew, sw, aw_cond, awOps_nil, awOps_cons, awOps_guardE, nx_eq, awOp, -List.set_cons_succ, -List.set_cons_zero, A.ok, A.val, setSl, wrapG, guardB, getB, pickA, binA, binC, binD, cmpD, isCmp, unA, unD, lenA, AOp.total, kills, litB, FinQ, resOks, resOk, resA, resList, resOne, A.thaw, C.thaw, A.fits, As.fits, C.fits, evs, oks, callArgs, A.pure, C.pure, A.re, C.re, fieldAddrA, loadC, cut, A.cells, C.rows?, getOb, newOb, setOb, storeC, splice, Ob.re, Cs.fits, partsA, partsOk, parts2A, parts2Ok, fillC, fillRows, optInt, optOk, sliceA, clipC, optK_some, storeK_some, Option.map_some, toDs, C.toD, spliceD, appendA, capsOf, srcRows, allLen_nil_iff, allLen_cons_iff, allLen_append_iff, dropC, Obs.fits, eqCs, eqD, mapRow, mapPut, mapVal, mapOne, mapCells]
  obtain ⟨P, hP⟩ : ∃ P, P = ansP vs vals := ⟨_, rfl⟩
  have hPl : P.length = vs.length := by rw [hP]; exact ansP_len hvl
  have hPg : ∀ (i : Nat) (h : i < vs.length), P[i]'(by omega) = (65 + UInt8.ofNat vs[i].toNat) :: 61 :: (vals[i]'(by omega)).wr := fun i h => by subst hP; exact ansP_get hvl h
  have hPj : (joinS 59 P).length ≤ 2000000 := by
    rw [hP]
    have h1 := joinS_len 59 (ansP vs vals)
    have h2 := sum_le _ (ansP_all hvl hv)
    have h3 : (ansP vs vals).length * (2402 + 1) ≤ 726 * 2403 := Nat.mul_le_mul_right _ (by rw [ansP_len hvl]; omega)
    omega
  unfold ansText
  rw [← hP]
  refine loop_enter (St.le_token 5 1 rfl) ?_
  refine loop_set (σ := Nat) (fun i => [(11, .c (.d (.int .i64 i))), (5, .c (.own (.l 1) i ((P.take i).map fun x => [.str x])))]) (fun _ => H) (fun i => [.cells [.d (.sl (vals.map Tm.row))], .grow i 1]) (fun i => i ≤ vs.length) (fun i => vs.length - i) 0 (by simp [setAll]) (Nat.zero_le _) ?_
  intro i hi
  simp -implicitDefEqProofs [setAll, hli, intRows_len, kw, ew, sw, aw_cond, awOps_nil, awOps_cons, awOps_guardE, nx_eq, awOp, -List.set_cons_succ, -List.set_cons_zero, A.ok, A.val, setSl, wrapG, guardB, getB, pickA, binA, binC, binD, cmpD, isCmp, unA, unD, lenA, AOp.total, kills, litB, FinQ, resOks, resOk, resA, resList, resOne, A.thaw, C.thaw, A.fits, As.fits, C.fits, evs, oks, callArgs, A.pure, C.pure, A.re, C.re, fieldAddrA, loadC, cut, A.cells, C.rows?, getOb, newOb, setOb, storeC, splice, Ob.re, Cs.fits, partsA, partsOk, parts2A, parts2Ok, fillC, fillRows, optInt, optOk, sliceA, clipC, optK_some, storeK_some, Option.map_some, toDs, C.toD, spliceD, appendA, capsOf, srcRows, allLen_nil_iff, allLen_cons_iff, allLen_append_iff, dropC, Obs.fits, eqCs, eqD, mapRow, mapPut, mapVal, mapOne, mapCells]
  refine ⟨fun hlt => ?_, fun hge => ?_⟩
  · have hadd : inR .i64 ((i : Int) + 1) := small_i64 (by omega) (by omega)
    have hrow : (intRows vs)[i]? = some [.int .i64 vs[i]] := by simp [intRows, hlt]
    have hvlt : i < vals.length := by omega
    have hPi := hPg i hlt
    obtain ⟨n0, n1⟩ := hlet vs[i] (List.getElem_mem hlt)
    obtain ⟨m, hm⟩ := Int.eq_ofNat_of_zero_le n0
    refine row_nat _ hrow rfl ?_
    simp -implicitDefEqProofs [hm, kw, ew, sw, aw_cond, awOps_nil, awOps_cons, awOps_guardE, nx_eq, awOp, -List.set_cons_succ, -List.set_cons_zero, A.ok, A.val, setSl, wrapG, guardB, getB, pickA, binA, binC, binD, cmpD, isCmp, unA, unD, lenA, AOp.total, kills, litB, FinQ, resOks, resOk, resA, resList, resOne, A.thaw, C.thaw, A.fits, As.fits, C.fits, evs, oks, callArgs, A.pure, C.pure, A.re, C.re, fieldAddrA, loadC, cut, A.cells, C.rows?, getOb, newOb, setOb, storeC, splice, Ob.re, Cs.fits, partsA, partsOk, parts2A, parts2Ok, fillC, fillRows, optInt, optOk, sliceA, clipC, optK_some, storeK_some, Option.map_some, toDs, C.toD, spliceD, appendA, capsOf, srcRows, allLen_nil_iff, allLen_cons_iff, allLen_append_iff, dropC, Obs.fits, eqCs, eqD, mapRow, mapPut, mapVal, mapOne, mapCells]
    refine qcall_pure (letterI_calls m (by omega)) hf rfl ?_
    simp -implicitDefEqProofs [kw, ew, sw, aw_cond, awOps_nil, awOps_cons, awOps_guardE, nx_eq, awOp, -List.set_cons_succ, -List.set_cons_zero, A.ok, A.val, setSl, wrapG, guardB, getB, pickA, binA, binC, binD, cmpD, isCmp, unA, unD, lenA, AOp.total, kills, litB, FinQ, resOks, resOk, resA, resList, resOne, A.thaw, C.thaw, A.fits, As.fits, C.fits, evs, oks, callArgs, A.pure, C.pure, A.re, C.re, fieldAddrA, loadC, cut, A.cells, C.rows?, getOb, newOb, setOb, storeC, splice, Ob.re, Cs.fits, partsA, partsOk, parts2A, parts2Ok, fillC, fillRows, optInt, optOk, sliceA, clipC, optK_some, storeK_some, Option.map_some, toDs, C.toD, spliceD, appendA, capsOf, srcRows, allLen_nil_iff, allLen_cons_iff, allLen_append_iff, dropC, Obs.fits, eqCs, eqD, mapRow, mapPut, mapVal, mapOne, mapCells]
    refine ⟨by unfold maxStr; omega, row_of hvlt (row_len _) ?_⟩
    simp -implicitDefEqProofs [row_len, take_row, pure_d, re_d, kw, ew, sw, aw_cond, awOps_nil, awOps_cons, awOps_guardE, nx_eq, awOp, -List.set_cons_succ, -List.set_cons_zero, A.ok, A.val, setSl, wrapG, guardB, getB, pickA, binA, binC, binD, cmpD, isCmp, unA, unD, lenA, AOp.total, kills, litB, FinQ, resOks, resOk, resA, resList, resOne, A.thaw, C.thaw, A.fits, As.fits, C.fits, evs, oks, callArgs, A.pure, C.pure, A.re, C.re, fieldAddrA, loadC, cut, A.cells, C.rows?, getOb, newOb, setOb, storeC, splice, Ob.re, Cs.fits, partsA, partsOk, parts2A, parts2Ok, fillC, fillRows, optInt, optOk, sliceA, clipC, optK_some, storeK_some, Option.map_some, toDs, C.toD, spliceD, appendA, capsOf, srcRows, allLen_nil_iff, allLen_cons_iff, allLen_append_iff, dropC, Obs.fits, eqCs, eqD, mapRow, mapPut, mapVal, mapOne, mapCells]
    have hok := hv vals[i] (List.getElem_mem hvlt)
    refine qcall_tab (writeTm_calls hT _ vals[i] (Nat.le_refl _) hok) hf hH rfl ?_
    have hwl := hok.len
    rw [hm, Int.toNat_natCast] at hPi
    simp -implicitDefEqProofs [maxStr, ← hPi, kw, ew, sw, aw_cond, awOps_nil, awOps_cons, awOps_guardE, nx_eq, awOp, -List.set_cons_succ, -List.set_cons_zero, A.ok, A.val, setSl, wrapG, guardB, getB, pickA, binA, binC, binD, cmpD, isCmp, unA, unD, lenA, AOp.total, kills, litB, FinQ, resOks, resOk, resA, resList, resOne, A.thaw, C.thaw, A.fits, As.fits, C.fits, evs, oks, callArgs, A.pure, C.pure, A.re, C.re, fieldAddrA, loadC, cut, A.cells, C.rows?, getOb, newOb, setOb, storeC, splice, Ob.re, Cs.fits, partsA, partsOk, parts2A, parts2Ok, fillC, fillRows, optInt, optOk, sliceA, clipC, optK_some, storeK_some, Option.map_some, toDs, C.toD, spliceD, appendA, capsOf, srcRows, allLen_nil_iff, allLen_cons_iff, allLen_append_iff, dropC, Obs.fits, eqCs, eqD, mapRow, mapPut, mapVal, mapOne, mapCells]
    rw [← List.map_take, take_str (by omega)]
    refine ⟨by omega, allLen_map fun _ => rfl, by unfold maxApp; omega, hadd, loop_back (i + 1) ?_ hlt (by show vs.length - (i + 1) < vs.length - i; omega)⟩
    simp [setAll]
  · obtain rfl : i = vs.length := by omega
    rw [List.take_of_length_le (by simp; omega)]
    simp -implicitDefEqProofs [hli, hPl, kw, ew, sw, aw_cond, awOps_nil, awOps_cons, awOps_guardE, nx_eq, awOp, -List.set_cons_succ, -List.set_cons_zero, A.ok, A.val, setSl, wrapG, guardB, getB, pickA, binA, binC, binD, cmpD, isCmp, unA, unD, lenA, AOp.total, kills, litB, FinQ, resOks, resOk, resA, resList, resOne, A.thaw, C.thaw, A.fits, As.fits, C.fits, evs, oks, callArgs, A.pure, C.pure, A.re, C.re, fieldAddrA, loadC, cut, A.cells, C.rows?, getOb, newOb, setOb, storeC, splice, Ob.re, Cs.fits, partsA, partsOk, parts2A, parts2Ok, fillC, fillRows, optInt, optOk, sliceA, clipC, optK_some, storeK_some, Option.map_some, toDs, C.toD, spliceD, appendA, capsOf, srcRows, allLen_nil_iff, allLen_cons_iff, allLen_append_iff, dropC, Obs.fits, eqCs, eqD, mapRow, mapPut, mapVal, mapOne, mapCells]
    have hPe : P = [] ↔ vs = [] := by rw [← List.length_eq_zero_iff, ← List.length_eq_zero_iff, hPl]
    refine ⟨fun h1 h2 => absurd (h1.elim id hPe.1) h2, fun h1 h2 => ?_⟩
    refine qcall_pure (join_calls P 59 (by omega) (by omega)) hf rfl ?_
    simp -implicitDefEqProofs [h1, kw, ew, sw, aw_cond, awOps_nil, awOps_cons, awOps_guardE, nx_eq, awOp, -List.set_cons_succ, -List.set_cons_zero, A.ok, A.val, setSl, wrapG, guardB, getB, pickA, binA, binC, binD, cmpD, isCmp, unA, unD, lenA, AOp.total, kills, litB, FinQ, resOks, resOk, resA, resList, resOne, A.thaw, C.thaw, A.fits, As.fits, C.fits, evs, oks, callArgs, A.pure, C.pure, A.re, C.re, fieldAddrA, loadC, cut, A.cells, C.rows?, getOb, newOb, setOb, storeC, splice, Ob.re, Cs.fits, partsA, partsOk, parts2A, parts2Ok, fillC, fillRows, optInt, optOk, sliceA, clipC, optK_some, storeK_some, Option.map_some, toDs, C.toD, spliceD, appendA, capsOf, srcRows, allLen_nil_iff, allLen_cons_iff, allLen_append_iff, dropC, Obs.fits, eqCs, eqD, mapRow, mapPut, mapVal, mapOne, mapCells]
theorem valid_ok {t : Tm} (ht : t.fits) (h : t.valid = true) : t.ok := by
  refine ⟨ht, valid_good h, ?_⟩
  simp only [Tm.valid, Bool.and_eq_true, decide_eq_true_eq] at h
  exact h.2
theorem goal_good {l : List Tm} (h : goalsB l = true) : ∀ t ∈ l, t.good := by
  simp only [goalsB, Bool.and_eq_true, decide_eq_true_eq, List.all_eq_true] at h
  intro t ht
  have h3 := h.2 t ht
  simp only [Tm.goal, Bool.and_eq_true] at h3
  exact valid_good h3.1
theorem faImpl_calls {g : Nat} {o : Obj} (hT : Tab g o) (l : List Tm) (hl : l.length ≤ 1048576) (h : ∀ t ∈ l, t.fits) (vals : List Tm) (hvl : vals.length ≤ 1048576) (hv : ∀ t ∈ vals, t.fits) (H : Heap) (hH : H[0]? = some (.tab g o)) :
    ACalls Tryz.prog 9 [.c (.d (.sl (l.map Tm.row))), .agg [.d (.sl (vals.map Tm.row))]] H (fun r H' => H' = H ∧ r = .c (.d (.str (ansR l vals)))) := by
  refine acalls Tryz.func9 (by kernel_rfl) ac9_ok fun hf => ?_
  simp -implicitDefEqProofs [ac9, kw, ew, sw, aw_cond, awOps_nil, awOps_cons, awOps_guardE, nx_eq, awOp, -List.set_cons_succ, -List.set_cons_zero, A.ok, A.val, setSl, wrapG, guardB, getB, pickA, binA, binC, binD, cmpD, isCmp, unA, unD, lenA, AOp.total, kills, litB, FinQ, resOks, resOk, resA, resList, resOne, A.thaw, C.thaw, A.fits, As.fits, C.fits, evs, oks, callArgs, A.pure, C.pure, A.re, C.re, fieldAddrA, loadC, cut, A.cells, C.rows?, getOb, newOb, setOb, storeC, splice, Ob.re, Cs.fits, partsA, partsOk, parts2A, parts2Ok, fillC, fillRows, optInt, optOk, sliceA, clipC, optK_some, storeK_some, Option.map_some, toDs, C.toD, spliceD, appendA, capsOf, srcRows, allLen_nil_iff, allLen_cons_iff, allLen_append_iff, dropC, Obs.fits, eqCs, eqD, mapRow, mapPut, mapVal, mapOne, mapCells]
  have cf := fits_calls l hl h vals hvl hv
  unfold ansR
  cases hb : (goalsB l && decide ((varsL l []).length = vals.length) && vals.all Tm.valid) with
  | false =>
    rw [hb] at cf
    refine qcall_pure cf hf rfl ?_
    simp -implicitDefEqProofs [kw, ew, sw, aw_cond, awOps_nil, awOps_cons, awOps_guardE, nx_eq, awOp, -List.set_cons_succ, -List.set_cons_zero, A.ok, A.val, setSl, wrapG, guardB, getB, pickA, binA, binC, binD, cmpD, isCmp, unA, unD, lenA, AOp.total, kills, litB, FinQ, resOks, resOk, resA, resList, resOne, A.thaw, C.thaw, A.fits, As.fits, C.fits, evs, oks, callArgs, A.pure, C.pure, A.re, C.re, fieldAddrA, loadC, cut, A.cells, C.rows?, getOb, newOb, setOb, storeC, splice, Ob.re, Cs.fits, partsA, partsOk, parts2A, parts2Ok, fillC, fillRows, optInt, optOk, sliceA, clipC, optK_some, storeK_some, Option.map_some, toDs, C.toD, spliceD, appendA, capsOf, srcRows, allLen_nil_iff, allLen_cons_iff, allLen_append_iff, dropC, Obs.fits, eqCs, eqD, mapRow, mapPut, mapVal, mapOne, mapCells]
  | true =>
    rw [hb] at cf
    refine qcall_pure cf hf rfl ?_
    simp only [Bool.and_eq_true, decide_eq_true_eq, List.all_eq_true] at hb
    have g1 := (goals_ok hb.1.1).1
    simp -implicitDefEqProofs [kw, ew, sw, aw_cond, awOps_nil, awOps_cons, awOps_guardE, nx_eq, awOp, -List.set_cons_succ, -List.set_cons_zero, A.ok, A.val, setSl, wrapG, guardB, getB, pickA, binA, binC, binD, cmpD, isCmp, unA, unD, lenA, AOp.total, kills, litB, FinQ, resOks, resOk, resA, resList, resOne, A.thaw, C.thaw, A.fits, As.fits, C.fits, evs, oks, callArgs, A.pure, C.pure, A.re, C.re, fieldAddrA, loadC, cut, A.cells, C.rows?, getOb, newOb, setOb, storeC, splice, Ob.re, Cs.fits, partsA, partsOk, parts2A, parts2Ok, fillC, fillRows, optInt, optOk, sliceA, clipC, optK_some, storeK_some, Option.map_some, toDs, C.toD, spliceD, appendA, capsOf, srcRows, allLen_nil_iff, allLen_cons_iff, allLen_append_iff, dropC, Obs.fits, eqCs, eqD, mapRow, mapPut, mapVal, mapOne, mapCells]
    refine qcall_tab (answerText_calls hT l hl h g1 (varsL_ok l (goal_good hb.1.1) [] (fun n hn => by simp at hn)) vals hb.1.2.symm (fun t ht => valid_ok (hv t ht) (hb.2 t ht))) hf hH rfl ?_
    simp -implicitDefEqProofs [kw, ew, sw, aw_cond, awOps_nil, awOps_cons, awOps_guardE, nx_eq, awOp, -List.set_cons_succ, -List.set_cons_zero, A.ok, A.val, setSl, wrapG, guardB, getB, pickA, binA, binC, binD, cmpD, isCmp, unA, unD, lenA, AOp.total, kills, litB, FinQ, resOks, resOk, resA, resList, resOne, A.thaw, C.thaw, A.fits, As.fits, C.fits, evs, oks, callArgs, A.pure, C.pure, A.re, C.re, fieldAddrA, loadC, cut, A.cells, C.rows?, getOb, newOb, setOb, storeC, splice, Ob.re, Cs.fits, partsA, partsOk, parts2A, parts2Ok, fillC, fillRows, optInt, optOk, sliceA, clipC, optK_some, storeK_some, Option.map_some, toDs, C.toD, spliceD, appendA, capsOf, srcRows, allLen_nil_iff, allLen_cons_iff, allLen_append_iff, dropC, Obs.fits, eqCs, eqD, mapRow, mapPut, mapVal, mapOne, mapCells]
theorem l6Text_calls (vs : List Int) (hlet : lettersV vs) (vals : List Tm) (hvl : vals.length = vs.length) (hlen : vs.length ≤ 726) (hv : ∀ t ∈ vals, t.ok) (H : Heap) : ACalls Tryz.prog 16 [.c (.d (.sl (intRows vs))), .agg [.d (.sl (vals.map Tm.row))]] H
    (fun r H' => H' = H ∧ r = .c (.d (.str (ansText vs vals)))) := by
  refine acalls Tryz.func16 (by kernel_rfl) ac16_ok fun hf => ?_
  have hli : inR .i64 (vs.length : Int) := small_i64 (by omega) (by omega)
  obtain ⟨P, hP⟩ : ∃ P, P = ansP vs vals := ⟨_, rfl⟩
  have hPl : P.length = vs.length := by rw [hP]; exact ansP_len hvl
  have hPg : ∀ (i : Nat) (h : i < vs.length), P[i]'(by omega) = (65 + UInt8.ofNat vs[i].toNat) :: 61 :: (vals[i]'(by omega)).wr := fun i h => by subst hP; exact ansP_get hvl h
  have hPa : ∀ x ∈ P, x.length ≤ 2402 := by rw [hP]; exact ansP_all hvl hv
  have hPj : ∀ i ≤ vs.length, (joinS 59 (P.take i)).length ≤ 2000000 := fun i hi => by
    have h1 := joinS_len 59 (P.take i)
    have h2 := sum_le (P.take i) fun x hx => hPa x (List.mem_of_mem_take hx)
    have h3 : (P.take i).length * (2402 + 1) ≤ 726 * 2403 := Nat.mul_le_mul_right _ (by simp; omega)
    omega
  unfold ansText
  rw [← hP]
  simp -implicitDefEqProofs [ac16, hli, intRows_len, kw, ew, sw, aw_cond, awOps_nil, awOps_cons, awOps_guardE, nx_eq, awOp, -List.set_cons_succ, -List.set_cons_zero, A.ok, A.val, setSl, wrapG, guardB, getB, pickA, binA, binC, binD, cmpD, isCmp, unA, unD, lenA, AOp.total, kills, litB, FinQ, resOks, resOk, resA, resList, resOne, A.thaw, C.thaw, A.fits, As.fits, C.fits, evs, oks, callArgs, A.pure, C.pure, A.re, C.re, fieldAddrA, loadC, cut, A.cells, C.rows?, getOb, newOb, setOb, storeC, splice, Ob.re, Cs.fits, partsA, partsOk, parts2A, parts2Ok, fillC, fillRows, optInt, optOk, sliceA, clipC, optK_some, storeK_some, Option.map_some, toDs, C.toD, spliceD, appendA, capsOf, srcRows, allLen_nil_iff, allLen_cons_iff, allLen_append_iff, dropC, Obs.fits, eqCs, eqD, mapRow, mapPut, mapVal, mapOne, mapCells]
  refine ⟨fun a b => absurd a b, fun hne => ?_⟩
  refine loop_set (σ := Nat) (fun i => [(6, .c (.d (.int .i64 i))), (5, .c (.d (.str (joinS 59 (P.take i)))))]) (fun _ => H) (fun i => [.cells [.d (.sl (vals.map Tm.row))]]) (fun i => i ≤ vs.length) (fun i => vs.length - i) 0 (by simp [setAll, joinS]) (Nat.zero_le _) ?_
  intro i hi
  simp -implicitDefEqProofs [setAll, hli, intRows_len, kw, ew, sw, aw_cond, awOps_nil, awOps_cons, awOps_guardE, nx_eq, awOp, -List.set_cons_succ, -List.set_cons_zero, A.ok, A.val, setSl, wrapG, guardB, getB, pickA, binA, binC, binD, cmpD, isCmp, unA, unD, lenA, AOp.total, kills, litB, FinQ, resOks, resOk, resA, resList, resOne, A.thaw, C.thaw, A.fits, As.fits, C.fits, evs, oks, callArgs, A.pure, C.pure, A.re, C.re, fieldAddrA, loadC, cut, A.cells, C.rows?, getOb, newOb, setOb, storeC, splice, Ob.re, Cs.fits, partsA, partsOk, parts2A, parts2Ok, fillC, fillRows, optInt, optOk, sliceA, clipC, optK_some, storeK_some, Option.map_some, toDs, C.toD, spliceD, appendA, capsOf, srcRows, allLen_nil_iff, allLen_cons_iff, allLen_append_iff, dropC, Obs.fits, eqCs, eqD, mapRow, mapPut, mapVal, mapOne, mapCells]
  refine ⟨fun hlt => ?_, fun hge => ?_⟩
  · have hadd : inR .i64 ((i : Int) + 1) := small_i64 (by omega) (by omega)
    have hrow : (intRows vs)[i]? = some [.int .i64 vs[i]] := by simp [intRows, hlt]
    have hvlt : i < vals.length := by omega
    have hPi := hPg i hlt
    have hji := hPj i hi
    have hjn := hPj (i + 1) hlt
    have hsn := joinS_snoc 59 (P.take i) (P[i]'(by omega))
    have ht1 : P.take (i + 1) = P.take i ++ [P[i]'(by omega)] := by rw [List.take_add_one, List.getElem?_eq_getElem (by omega)]; rfl
    rw [ht1, hsn] at hjn
    obtain ⟨n0, n1⟩ := hlet vs[i] (List.getElem_mem hlt)
    obtain ⟨m, hm⟩ := Int.eq_ofNat_of_zero_le n0
    rw [hm, Int.toNat_natCast] at hPi
    have hok := hv vals[i] (List.getElem_mem hvlt)
    have ctx := text_calls _ vals[i] (Nat.le_refl _) hok
    have hwl := hok.len
    by_cases h0 : i = 0
    · subst h0
      simp -implicitDefEqProofs [joinS, kw, ew, sw, aw_cond, awOps_nil, awOps_cons, awOps_guardE, nx_eq, awOp, -List.set_cons_succ, -List.set_cons_zero, A.ok, A.val, setSl, wrapG, guardB, getB, pickA, binA, binC, binD, cmpD, isCmp, unA, unD, lenA, AOp.total, kills, litB, FinQ, resOks, resOk, resA, resList, resOne, A.thaw, C.thaw, A.fits, As.fits, C.fits, evs, oks, callArgs, A.pure, C.pure, A.re, C.re, fieldAddrA, loadC, cut, A.cells, C.rows?, getOb, newOb, setOb, storeC, splice, Ob.re, Cs.fits, partsA, partsOk, parts2A, parts2Ok, fillC, fillRows, optInt, optOk, sliceA, clipC, optK_some, storeK_some, Option.map_some, toDs, C.toD, spliceD, appendA, capsOf, srcRows, allLen_nil_iff, allLen_cons_iff, allLen_append_iff, dropC, Obs.fits, eqCs, eqD, mapRow, mapPut, mapVal, mapOne, mapCells]
      refine row_nat _ hrow rfl ?_
      simp -implicitDefEqProofs [hm, kw, ew, sw, aw_cond, awOps_nil, awOps_cons, awOps_guardE, nx_eq, awOp, -List.set_cons_succ, -List.set_cons_zero, A.ok, A.val, setSl, wrapG, guardB, getB, pickA, binA, binC, binD, cmpD, isCmp, unA, unD, lenA, AOp.total, kills, litB, FinQ, resOks, resOk, resA, resList, resOne, A.thaw, C.thaw, A.fits, As.fits, C.fits, evs, oks, callArgs, A.pure, C.pure, A.re, C.re, fieldAddrA, loadC, cut, A.cells, C.rows?, getOb, newOb, setOb, storeC, splice, Ob.re, Cs.fits, partsA, partsOk, parts2A, parts2Ok, fillC, fillRows, optInt, optOk, sliceA, clipC, optK_some, storeK_some, Option.map_some, toDs, C.toD, spliceD, appendA, capsOf, srcRows, allLen_nil_iff, allLen_cons_iff, allLen_append_iff, dropC, Obs.fits, eqCs, eqD, mapRow, mapPut, mapVal, mapOne, mapCells]
      refine qcall_pure (letter_calls m (by omega)) hf rfl ?_
      simp -implicitDefEqProofs [kw, ew, sw, aw_cond, awOps_nil, awOps_cons, awOps_guardE, nx_eq, awOp, -List.set_cons_succ, -List.set_cons_zero, A.ok, A.val, setSl, wrapG, guardB, getB, pickA, binA, binC, binD, cmpD, isCmp, unA, unD, lenA, AOp.total, kills, litB, FinQ, resOks, resOk, resA, resList, resOne, A.thaw, C.thaw, A.fits, As.fits, C.fits, evs, oks, callArgs, A.pure, C.pure, A.re, C.re, fieldAddrA, loadC, cut, A.cells, C.rows?, getOb, newOb, setOb, storeC, splice, Ob.re, Cs.fits, partsA, partsOk, parts2A, parts2Ok, fillC, fillRows, optInt, optOk, sliceA, clipC, optK_some, storeK_some, Option.map_some, toDs, C.toD, spliceD, appendA, capsOf, srcRows, allLen_nil_iff, allLen_cons_iff, allLen_append_iff, dropC, Obs.fits, eqCs, eqD, mapRow, mapPut, mapVal, mapOne, mapCells]
      refine ⟨by unfold maxStr; omega, by unfold maxStr; omega, row_int (i := 0) (vals[0]).row (by omega) (by simp [hvlt]) (row_len _) ?_⟩
      simp -implicitDefEqProofs [row_len, take_row, pure_d, re_d, kw, ew, sw, aw_cond, awOps_nil, awOps_cons, awOps_guardE, nx_eq, awOp, -List.set_cons_succ, -List.set_cons_zero, A.ok, A.val, setSl, wrapG, guardB, getB, pickA, binA, binC, binD, cmpD, isCmp, unA, unD, lenA, AOp.total, kills, litB, FinQ, resOks, resOk, resA, resList, resOne, A.thaw, C.thaw, A.fits, As.fits, C.fits, evs, oks, callArgs, A.pure, C.pure, A.re, C.re, fieldAddrA, loadC, cut, A.cells, C.rows?, getOb, newOb, setOb, storeC, splice, Ob.re, Cs.fits, partsA, partsOk, parts2A, parts2Ok, fillC, fillRows, optInt, optOk, sliceA, clipC, optK_some, storeK_some, Option.map_some, toDs, C.toD, spliceD, appendA, capsOf, srcRows, allLen_nil_iff, allLen_cons_iff, allLen_append_iff, dropC, Obs.fits, eqCs, eqD, mapRow, mapPut, mapVal, mapOne, mapCells]
      refine qcall_pure ctx hf rfl ?_
      simp -implicitDefEqProofs [maxStr, hadd, kw, ew, sw, aw_cond, awOps_nil, awOps_cons, awOps_guardE, nx_eq, awOp, -List.set_cons_succ, -List.set_cons_zero, A.ok, A.val, setSl, wrapG, guardB, getB, pickA, binA, binC, binD, cmpD, isCmp, unA, unD, lenA, AOp.total, kills, litB, FinQ, resOks, resOk, resA, resList, resOne, A.thaw, C.thaw, A.fits, As.fits, C.fits, evs, oks, callArgs, A.pure, C.pure, A.re, C.re, fieldAddrA, loadC, cut, A.cells, C.rows?, getOb, newOb, setOb, storeC, splice, Ob.re, Cs.fits, partsA, partsOk, parts2A, parts2Ok, fillC, fillRows, optInt, optOk, sliceA, clipC, optK_some, storeK_some, Option.map_some, toDs, C.toD, spliceD, appendA, capsOf, srcRows, allLen_nil_iff, allLen_cons_iff, allLen_append_iff, dropC, Obs.fits, eqCs, eqD, mapRow, mapPut, mapVal, mapOne, mapCells]
      have hj1 : joinS 59 (P.take 1) = (65 + UInt8.ofNat m) :: 61 :: (vals[0]).wr := by
        have : P.take 1 = [P[0]'(by omega)] := by rw [show (1 : Nat) = 0 + 1 from rfl, ht1]; rfl
        rw [this, joinS, hPi]
      rw [← hj1]
      have h01 : inR .i64 1 := small_i64 (by omega) (by omega)
      refine ⟨by omega, h01, loop_back 1 (by simp [setAll]) (by omega) (by show vs.length - 1 < vs.length - 0; omega)⟩
    · have hi0 : ¬ (i : Int) ≤ 0 := by omega
      have hi1 : 0 < i := by omega
      have htne : P.take i ≠ [] := by
        intro h
        have := congrArg List.length h
        rw [List.length_take, List.length_nil] at this
        omega
      rw [if_neg htne] at hsn hjn
      have hw : joinS 59 (P.take (i + 1)) = joinS 59 (P.take i) ++ 59 :: (65 + UInt8.ofNat m) :: 61 :: vals[i].wr := by rw [ht1, hsn, hPi]
      have hjw := hPj (i + 1) hlt
      rw [hw] at hjw
      simp at hjw
      simp -implicitDefEqProofs [hi0, hi1, kw, ew, sw, aw_cond, awOps_nil, awOps_cons, awOps_guardE, nx_eq, awOp, -List.set_cons_succ, -List.set_cons_zero, A.ok, A.val, setSl, wrapG, guardB, getB, pickA, binA, binC, binD, cmpD, isCmp, unA, unD, lenA, AOp.total, kills, litB, FinQ, resOks, resOk, resA, resList, resOne, A.thaw, C.thaw, A.fits, As.fits, C.fits, evs, oks, callArgs, A.pure, C.pure, A.re, C.re, fieldAddrA, loadC, cut, A.cells, C.rows?, getOb, newOb, setOb, storeC, splice, Ob.re, Cs.fits, partsA, partsOk, parts2A, parts2Ok, fillC, fillRows, optInt, optOk, sliceA, clipC, optK_some, storeK_some, Option.map_some, toDs, C.toD, spliceD, appendA, capsOf, srcRows, allLen_nil_iff, allLen_cons_iff, allLen_append_iff, dropC, Obs.fits, eqCs, eqD, mapRow, mapPut, mapVal, mapOne, mapCells]
      refine ⟨⟨by unfold maxStr; omega, ?_⟩, fun h => absurd h h0⟩
      refine row_nat _ hrow rfl ?_
      simp -implicitDefEqProofs [hm, kw, ew, sw, aw_cond, awOps_nil, awOps_cons, awOps_guardE, nx_eq, awOp, -List.set_cons_succ, -List.set_cons_zero, A.ok, A.val, setSl, wrapG, guardB, getB, pickA, binA, binC, binD, cmpD, isCmp, unA, unD, lenA, AOp.total, kills, litB, FinQ, resOks, resOk, resA, resList, resOne, A.thaw, C.thaw, A.fits, As.fits, C.fits, evs, oks, callArgs, A.pure, C.pure, A.re, C.re, fieldAddrA, loadC, cut, A.cells, C.rows?, getOb, newOb, setOb, storeC, splice, Ob.re, Cs.fits, partsA, partsOk, parts2A, parts2Ok, fillC, fillRows, optInt, optOk, sliceA, clipC, optK_some, storeK_some, Option.map_some, toDs, C.toD, spliceD, appendA, capsOf, srcRows, allLen_nil_iff, allLen_cons_iff, allLen_append_iff, dropC, Obs.fits, eqCs, eqD, mapRow, mapPut, mapVal, mapOne, mapCells]
      refine qcall_pure (letter_calls m (by omega)) hf rfl ?_
      simp -implicitDefEqProofs [maxStr, kw, ew, sw, aw_cond, awOps_nil, awOps_cons, awOps_guardE, nx_eq, awOp, -List.set_cons_succ, -List.set_cons_zero, A.ok, A.val, setSl, wrapG, guardB, getB, pickA, binA, binC, binD, cmpD, isCmp, unA, unD, lenA, AOp.total, kills, litB, FinQ, resOks, resOk, resA, resList, resOne, A.thaw, C.thaw, A.fits, As.fits, C.fits, evs, oks, callArgs, A.pure, C.pure, A.re, C.re, fieldAddrA, loadC, cut, A.cells, C.rows?, getOb, newOb, setOb, storeC, splice, Ob.re, Cs.fits, partsA, partsOk, parts2A, parts2Ok, fillC, fillRows, optInt, optOk, sliceA, clipC, optK_some, storeK_some, Option.map_some, toDs, C.toD, spliceD, appendA, capsOf, srcRows, allLen_nil_iff, allLen_cons_iff, allLen_append_iff, dropC, Obs.fits, eqCs, eqD, mapRow, mapPut, mapVal, mapOne, mapCells]
      refine ⟨by omega, by omega, row_of hvlt (row_len _) ?_⟩
      simp -implicitDefEqProofs [row_len, take_row, pure_d, re_d, kw, ew, sw, aw_cond, awOps_nil, awOps_cons, awOps_guardE, nx_eq, awOp, -List.set_cons_succ, -List.set_cons_zero, A.ok, A.val, setSl, wrapG, guardB, getB, pickA, binA, binC, binD, cmpD, isCmp, unA, unD, lenA, AOp.total, kills, litB, FinQ, resOks, resOk, resA, resList, resOne, A.thaw, C.thaw, A.fits, As.fits, C.fits, evs, oks, callArgs, A.pure, C.pure, A.re, C.re, fieldAddrA, loadC, cut, A.cells, C.rows?, getOb, newOb, setOb, storeC, splice, Ob.re, Cs.fits, partsA, partsOk, parts2A, parts2Ok, fillC, fillRows, optInt, optOk, sliceA, clipC, optK_some, storeK_some, Option.map_some, toDs, C.toD, spliceD, appendA, capsOf, srcRows, allLen_nil_iff, allLen_cons_iff, allLen_append_iff, dropC, Obs.fits, eqCs, eqD, mapRow, mapPut, mapVal, mapOne, mapCells]
      refine qcall_pure ctx hf rfl ?_
      simp -implicitDefEqProofs [maxStr, hadd, kw, ew, sw, aw_cond, awOps_nil, awOps_cons, awOps_guardE, nx_eq, awOp, -List.set_cons_succ, -List.set_cons_zero, A.ok, A.val, setSl, wrapG, guardB, getB, pickA, binA, binC, binD, cmpD, isCmp, unA, unD, lenA, AOp.total, kills, litB, FinQ, resOks, resOk, resA, resList, resOne, A.thaw, C.thaw, A.fits, As.fits, C.fits, evs, oks, callArgs, A.pure, C.pure, A.re, C.re, fieldAddrA, loadC, cut, A.cells, C.rows?, getOb, newOb, setOb, storeC, splice, Ob.re, Cs.fits, partsA, partsOk, parts2A, parts2Ok, fillC, fillRows, optInt, optOk, sliceA, clipC, optK_some, storeK_some, Option.map_some, toDs, C.toD, spliceD, appendA, capsOf, srcRows, allLen_nil_iff, allLen_cons_iff, allLen_append_iff, dropC, Obs.fits, eqCs, eqD, mapRow, mapPut, mapVal, mapOne, mapCells]
      rw [← hw]
      refine ⟨by omega, loop_back (i + 1) (by simp [setAll]) hlt (by show vs.length - (i + 1) < vs.length - i; omega)⟩
  · obtain rfl : i = vs.length := by omega
    rw [List.take_of_length_le (by omega)]
    simp [hne]
theorem faSpec_calls (l : List Tm) (hl : l.length ≤ 1048576) (h : ∀ t ∈ l, t.fits) (vals : List Tm) (hvl : vals.length ≤ 1048576) (hv : ∀ t ∈ vals, t.fits) (H : Heap) :
    ACalls Tryz.prog 6 [.c (.d (.sl (l.map Tm.row))), .agg [.d (.sl (vals.map Tm.row))]] H (fun r H' => H' = H ∧ r = .c (.d (.str (ansR l vals)))) := by
  have hvi : inR .i64 (vals.length : Int) := small_i64 (by omega) (by omega)
  refine acalls Tryz.func6 (by kernel_rfl) ac6_ok fun hf => ?_
  simp -implicitDefEqProofs [ac6, hvi, kw, ew, sw, aw_cond, awOps_nil, awOps_cons, awOps_guardE, nx_eq, awOp, -List.set_cons_succ, -List.set_cons_zero, A.ok, A.val, setSl, wrapG, guardB, getB, pickA, binA, binC, binD, cmpD, isCmp, unA, unD, lenA, AOp.total, kills, litB, FinQ, resOks, resOk, resA, resList, resOne, A.thaw, C.thaw, A.fits, As.fits, C.fits, evs, oks, callArgs, A.pure, C.pure, A.re, C.re, fieldAddrA, loadC, cut, A.cells, C.rows?, getOb, newOb, setOb, storeC, splice, Ob.re, Cs.fits, partsA, partsOk, parts2A, parts2Ok, fillC, fillRows, optInt, optOk, sliceA, clipC, optK_some, storeK_some, Option.map_some, toDs, C.toD, spliceD, appendA, capsOf, srcRows, allLen_nil_iff, allLen_cons_iff, allLen_append_iff, dropC, Obs.fits, eqCs, eqD, mapRow, mapPut, mapVal, mapOne, mapCells]
  refine qcall_pure (qvsSpec_calls l hl h) hf rfl ?_
  simp -implicitDefEqProofs [kw, ew, sw, aw_cond, awOps_nil, awOps_cons, awOps_guardE, nx_eq, awOp, -List.set_cons_succ, -List.set_cons_zero, A.ok, A.val, setSl, wrapG, guardB, getB, pickA, binA, binC, binD, cmpD, isCmp, unA, unD, lenA, AOp.total, kills, litB, FinQ, resOks, resOk, resA, resList, resOne, A.thaw, C.thaw, A.fits, As.fits, C.fits, evs, oks, callArgs, A.pure, C.pure, A.re, C.re, fieldAddrA, loadC, cut, A.cells, C.rows?, getOb, newOb, setOb, storeC, splice, Ob.re, Cs.fits, partsA, partsOk, parts2A, parts2Ok, fillC, fillRows, optInt, optOk, sliceA, clipC, optK_some, storeK_some, Option.map_some, toDs, C.toD, spliceD, appendA, capsOf, srcRows, allLen_nil_iff, allLen_cons_iff, allLen_append_iff, dropC, Obs.fits, eqCs, eqD, mapRow, mapPut, mapVal, mapOne, mapCells]
  refine qcall_pure (qvSpec_calls l hl h) hf rfl ?_
  unfold ansR qvR
  cases hb : goalsB l with
  | false => simp -implicitDefEqProofs [hvi, kw, ew, sw, aw_cond, awOps_nil, awOps_cons, awOps_guardE, nx_eq, awOp, -List.set_cons_succ, -List.set_cons_zero, A.ok, A.val, setSl, wrapG, guardB, getB, pickA, binA, binC, binD, cmpD, isCmp, unA, unD, lenA, AOp.total, kills, litB, FinQ, resOks, resOk, resA, resList, resOne, A.thaw, C.thaw, A.fits, As.fits, C.fits, evs, oks, callArgs, A.pure, C.pure, A.re, C.re, fieldAddrA, loadC, cut, A.cells, C.rows?, getOb, newOb, setOb, storeC, splice, Ob.re, Cs.fits, partsA, partsOk, parts2A, parts2Ok, fillC, fillRows, optInt, optOk, sliceA, clipC, optK_some, storeK_some, Option.map_some, toDs, C.toD, spliceD, appendA, capsOf, srcRows, allLen_nil_iff, allLen_cons_iff, allLen_append_iff, dropC, Obs.fits, eqCs, eqD, mapRow, mapPut, mapVal, mapOne, mapCells]
  | true =>
    obtain ⟨g1, g2⟩ := goals_ok hb
    have hlen := varsL_len l []
    simp at hlen
    have hli : inR .i64 ((varsL l []).length : Int) := small_i64 (by omega) (by omega)
    by_cases he : (varsL l []).length = vals.length
    · simp -implicitDefEqProofs [hli, hvi, intRows_len, he, kw, ew, sw, aw_cond, awOps_nil, awOps_cons, awOps_guardE, nx_eq, awOp, -List.set_cons_succ, -List.set_cons_zero, A.ok, A.val, setSl, wrapG, guardB, getB, pickA, binA, binC, binD, cmpD, isCmp, unA, unD, lenA, AOp.total, kills, litB, FinQ, resOks, resOk, resA, resList, resOne, A.thaw, C.thaw, A.fits, As.fits, C.fits, evs, oks, callArgs, A.pure, C.pure, A.re, C.re, fieldAddrA, loadC, cut, A.cells, C.rows?, getOb, newOb, setOb, storeC, splice, Ob.re, Cs.fits, partsA, partsOk, parts2A, parts2Ok, fillC, fillRows, optInt, optOk, sliceA, clipC, optK_some, storeK_some, Option.map_some, toDs, C.toD, spliceD, appendA, capsOf, srcRows, allLen_nil_iff, allLen_cons_iff, allLen_append_iff, dropC, Obs.fits, eqCs, eqD, mapRow, mapPut, mapVal, mapOne, mapCells]
      refine qcall_pure (l1All_calls vals hvl hv) hf rfl ?_
      cases ha : vals.all Tm.valid with
      | false =>
        simp -implicitDefEqProofs [ha, kw, ew, sw, aw_cond, awOps_nil, awOps_cons, awOps_guardE, nx_eq, awOp, -List.set_cons_succ, -List.set_cons_zero, A.ok, A.val, setSl, wrapG, guardB, getB, pickA, binA, binC, binD, cmpD, isCmp, unA, unD, lenA, AOp.total, kills, litB, FinQ, resOks, resOk, resA, resList, resOne, A.thaw, C.thaw, A.fits, As.fits, C.fits, evs, oks, callArgs, A.pure, C.pure, A.re, C.re, fieldAddrA, loadC, cut, A.cells, C.rows?, getOb, newOb, setOb, storeC, splice, Ob.re, Cs.fits, partsA, partsOk, parts2A, parts2Ok, fillC, fillRows, optInt, optOk, sliceA, clipC, optK_some, storeK_some, Option.map_some, toDs, C.toD, spliceD, appendA, capsOf, srcRows, allLen_nil_iff, allLen_cons_iff, allLen_append_iff, dropC, Obs.fits, eqCs, eqD, mapRow, mapPut, mapVal, mapOne, mapCells]
        intro h
        have := List.all_eq_true.2 h
        rw [ha] at this
        cases this
      | true =>
        rw [List.all_eq_true] at ha
        have := l6Text_calls (varsL l []) (varsL_ok l (goal_good hb) [] (fun n hn => by simp at hn)) vals he.symm (by omega) (fun t ht => valid_ok (hv t ht) (ha t ht))
        simp -implicitDefEqProofs [kw, ew, sw, aw_cond, awOps_nil, awOps_cons, awOps_guardE, nx_eq, awOp, -List.set_cons_succ, -List.set_cons_zero, A.ok, A.val, setSl, wrapG, guardB, getB, pickA, binA, binC, binD, cmpD, isCmp, unA, unD, lenA, AOp.total, kills, litB, FinQ, resOks, resOk, resA, resList, resOne, A.thaw, C.thaw, A.fits, As.fits, C.fits, evs, oks, callArgs, A.pure, C.pure, A.re, C.re, fieldAddrA, loadC, cut, A.cells, C.rows?, getOb, newOb, setOb, storeC, splice, Ob.re, Cs.fits, partsA, partsOk, parts2A, parts2Ok, fillC, fillRows, optInt, optOk, sliceA, clipC, optK_some, storeK_some, Option.map_some, toDs, C.toD, spliceD, appendA, capsOf, srcRows, allLen_nil_iff, allLen_cons_iff, allLen_append_iff, dropC, Obs.fits, eqCs, eqD, mapRow, mapPut, mapVal, mapOne, mapCells]
        refine qcall_pure this hf rfl ?_
        simp -implicitDefEqProofs [kw, ew, sw, aw_cond, awOps_nil, awOps_cons, awOps_guardE, nx_eq, awOp, -List.set_cons_succ, -List.set_cons_zero, A.ok, A.val, setSl, wrapG, guardB, getB, pickA, binA, binC, binD, cmpD, isCmp, unA, unD, lenA, AOp.total, kills, litB, FinQ, resOks, resOk, resA, resList, resOne, A.thaw, C.thaw, A.fits, As.fits, C.fits, evs, oks, callArgs, A.pure, C.pure, A.re, C.re, fieldAddrA, loadC, cut, A.cells, C.rows?, getOb, newOb, setOb, storeC, splice, Ob.re, Cs.fits, partsA, partsOk, parts2A, parts2Ok, fillC, fillRows, optInt, optOk, sliceA, clipC, optK_some, storeK_some, Option.map_some, toDs, C.toD, spliceD, appendA, capsOf, srcRows, allLen_nil_iff, allLen_cons_iff, allLen_append_iff, dropC, Obs.fits, eqCs, eqD, mapRow, mapPut, mapVal, mapOne, mapCells]
        intro x hx hq
        have := ha x hx
        rw [hq] at this
        cases this
    · have he2 : ¬ ((varsL l []).length : Int) = (vals.length : Int) := by omega
      simp -implicitDefEqProofs [hli, hvi, intRows_len, he, he2, kw, ew, sw, aw_cond, awOps_nil, awOps_cons, awOps_guardE, nx_eq, awOp, -List.set_cons_succ, -List.set_cons_zero, A.ok, A.val, setSl, wrapG, guardB, getB, pickA, binA, binC, binD, cmpD, isCmp, unA, unD, lenA, AOp.total, kills, litB, FinQ, resOks, resOk, resA, resList, resOne, A.thaw, C.thaw, A.fits, As.fits, C.fits, evs, oks, callArgs, A.pure, C.pure, A.re, C.re, fieldAddrA, loadC, cut, A.cells, C.rows?, getOb, newOb, setOb, storeC, splice, Ob.re, Cs.fits, partsA, partsOk, parts2A, parts2Ok, fillC, fillRows, optInt, optOk, sliceA, clipC, optK_some, storeK_some, Option.map_some, toDs, C.toD, spliceD, appendA, capsOf, srcRows, allLen_nil_iff, allLen_cons_iff, allLen_append_iff, dropC, Obs.fits, eqCs, eqD, mapRow, mapPut, mapVal, mapOne, mapCells]
end Go.Proofs.YtikgpomnibbioaaGreatDoor
