/-
  Terms that are drawn.
  Conditions: none.
-/
import Derived.Test.YtddahocmlbnlfaaStructC
import Derived.Test.YtddahocmlbnlfaaDraw
open Go Go.AM Go.Proofs
namespace Go.Proofs.Ytddahocmlbnlfaa
open Go.ChangeShapes Go.WideShapes Go.ChangeAt Go.RowKit
set_option linter.unusedVariables false
set_option linter.unusedSimpArgs false
set_option maxRecDepth 100000
-- 50 (*loop.example/prologserver/spec.l18Rd).of params 2 ntmps 12
def ac50 : Cd := .seq (.region [⟨(some 4), .mv (.k (.c (.d (.str [])))), none⟩] [4])
  (.seq (.region [⟨(some 5), .mv (.t 1), none⟩,
      ⟨(some 6), .mv (.t 0), none⟩,
      ⟨(some 7), .mv (.t 1), none⟩,
      ⟨(some 8), .len 1 (.t 7), none⟩,
      ⟨(some 9), .call false 49 [(.t 6), (.t 8)], none⟩,
      ⟨(some 10), .indexAddr 1 (.t 5) (.t 9), none⟩,
      ⟨(some 11), .load none (.t 10), none⟩,
      ⟨(some 4), .mv (.t 11), none⟩] [0, 1, 5, 6, 7, 8, 9, 10, 11])
  (.ret))
theorem ac50_ok : cFunc Try.prog [] [(0, [4], []), (1, [0, 1, 5, 6, 7, 8, 9, 10, 11], [])] Try.f50 = some (ac50, [.tmp 4], 12) := by kernel_rfl
-- 53 loop.example/prologserver/spec.l1Var params 1 ntmps 5
def ac53 : Cd := .seq (.region [⟨(some 2), .alloc [(.d (.int .i64 0)), (.d (.int .i64 0)), (.d (.str [])), (.full [])], none⟩] [])
  (.seq (.region [⟨(some 3), .mv (.t 0), none⟩,
      ⟨(some 4), .build [(.d (.int .i64 0)), (.d (.int .i64 0)), (.d (.str [])), (.full [])] [(0, 1, (.k (.c (.d (.int .i64 1))))), (1, 1, (.t 3))], none⟩,
      ⟨none, .store 4 (.t 2) (.t 4), none⟩] [0, 3, 4])
  (.ret))
theorem ac53_ok : cFunc Try.prog [] [(0, [], []), (1, [0, 3, 4], [])] Try.f53 = some (ac53, [.cell 2 (some 4)], 5) := by kernel_rfl
-- 51 loop.example/prologserver/spec.l1Int params 1 ntmps 5
def ac51 : Cd := .seq (.region [⟨(some 2), .alloc [(.d (.int .i64 0)), (.d (.int .i64 0)), (.d (.str [])), (.full [])], none⟩] [])
  (.seq (.region [⟨(some 3), .mv (.t 0), none⟩,
      ⟨(some 4), .build [(.d (.int .i64 0)), (.d (.int .i64 0)), (.d (.str [])), (.full [])] [(0, 1, (.k (.c (.d (.int .i64 2))))), (1, 1, (.t 3))], none⟩,
      ⟨none, .store 4 (.t 2) (.t 4), none⟩] [0, 3, 4])
  (.ret))
theorem ac51_ok : cFunc Try.prog [] [(0, [], []), (1, [0, 3, 4], [])] Try.f51 = some (ac51, [.cell 2 (some 4)], 5) := by kernel_rfl
-- 24 loop.example/prologserver/spec.l1Draw params 2 ntmps 65
-- loop head live: [0, 1, 4, 5, 6]
def ac24 : Cd := .seq (.region [⟨(some 4), .alloc [(.d (.int .i64 0)), (.d (.int .i64 0)), (.d (.str [])), (.full [])], none⟩] [])
  (.seq (.seq (.region [⟨(some 7), .mv (.t 1), none⟩,
        ⟨(some 8), .bin .lss (.t 7) (.k (.c (.d (.int .i64 2)))), none⟩,
        ⟨(some 9), .mv (.t 8), none⟩,
        ⟨(some 10), .mv (.t 0), some (9, false)⟩,
        ⟨(some 11), .call false 49 [(.t 10), (.k (.c (.d (.int .i64 4))))], some (9, false)⟩,
        ⟨(some 12), .bin .eql (.t 11) (.k (.c (.d (.int .i64 0)))), some (9, false)⟩,
        ⟨(some 13), .pick (.t 9) (.k (.c (.d (.bool true)))) (.t 12), none⟩] [7, 8, 9, 10, 11, 12])
    (.cond (.t 13)
      (.seq (.seq (.region [⟨(some 14), .mv (.t 0), none⟩,
            ⟨(some 15), .call false 49 [(.t 14), (.k (.c (.d (.int .i64 4))))], none⟩] [1, 13, 14])
        (.block 0 (.seq (.region [⟨(some 17), .bin .eql (.t 15) (.k (.c (.d (.int .i64 0)))), none⟩,
              ⟨(some 16), .mv (.t 17), none⟩] [17])
          (.cond (.t 16)
            (.seq (.region [⟨(some 18), .mv (.t 0), none⟩,
                ⟨(some 19), .call false 49 [(.t 18), (.k (.c (.d (.int .i64 4))))], none⟩,
                ⟨(some 20), .qcall 53 [(.t 19)], none⟩,
                ⟨none, .store 4 (.t 4) (.t 20), none⟩] [0, 15, 16, 18, 19, 20])
            (.ret))
            (.seq (.region [⟨(some 22), .bin .eql (.t 15) (.k (.c (.d (.int .i64 1)))), none⟩,
                ⟨(some 21), .mv (.t 22), none⟩] [15, 16, 22])
            (.cond (.t 21)
              (.seq (.region [⟨(some 23), .mv (.t 0), none⟩,
                  ⟨(some 24), .buildSlice 1 6 [(.int .i64 0)] [(0, (.k (.c (.d (.int .i64 0))))), (1, (.k (.c (.d (.int .i64 1))))), (2, (.k (.c (.d (.int .i64 7))))), (3, (.k (.c (.d (.int .i64 (-3)))))), (4, (.k (.c (.d (.int .i64 999))))), (5, (.k (.c (.d (.int .i64 (-999))))))], none⟩,
                  ⟨(some 25), .call false 23 [(.t 23), (.t 24)], none⟩,
                  ⟨(some 26), .qcall 51 [(.t 25)], none⟩,
                  ⟨none, .store 4 (.t 4) (.t 26), none⟩] [0, 21, 23, 24, 25, 26])
              (.ret))
              (.skip)))))))
      (.seq (.region [⟨(some 27), .mv (.t 0), none⟩,
          ⟨(some 28), .buildSlice 1 6 [(.str [])] [(0, (.k (.c (.d (.str [97]))))), (1, (.k (.c (.d (.str [98]))))), (2, (.k (.c (.d (.str [110, 105, 108]))))), (3, (.k (.c (.d (.str [91, 93]))))), (4, (.k (.c (.d (.str [102, 111, 111]))))), (5, (.k (.c (.d (.str [43])))))], none⟩,
          ⟨(some 29), .call false 50 [(.t 27), (.t 28)], none⟩,
          ⟨(some 30), .call false 52 [(.t 29), (.k (.c (.full [])))], none⟩,
          ⟨none, .store 4 (.t 4) (.t 30), none⟩] [0, 21, 27, 28, 29, 30])
      (.ret)))
      (.skip)))
  (.seq (.seq (.region [⟨(some 31), .mv (.t 0), none⟩,
        ⟨(some 32), .call false 49 [(.t 31), (.k (.c (.d (.int .i64 3))))], none⟩,
        ⟨(some 33), .bin .eql (.t 32) (.k (.c (.d (.int .i64 0)))), none⟩] [13, 31, 32])
    (.cond (.t 33)
      (.seq (.region [⟨(some 34), .mv (.t 0), none⟩,
          ⟨(some 35), .mv (.t 1), none⟩,
          ⟨(some 36), .bin .sub (.t 35) (.k (.c (.d (.int .i64 1)))), none⟩,
          ⟨(some 37), .callL false 24 [(.t 34), (.t 36)], none⟩,
          ⟨(some 38), .mv (.t 0), none⟩,
          ⟨(some 39), .mv (.t 1), none⟩,
          ⟨(some 40), .bin .sub (.t 39) (.k (.c (.d (.int .i64 1)))), none⟩,
          ⟨(some 41), .callL false 24 [(.t 38), (.t 40)], none⟩,
          ⟨(some 42), .buildSlice 4 2 [(.int .i64 0), (.int .i64 0), (.str []), (.sl [])] [(0, (.t 37)), (1, (.t 41))], none⟩,
          ⟨(some 43), .call false 52 [(.k (.c (.d (.str [46])))), (.t 42)], none⟩,
          ⟨none, .store 4 (.t 4) (.t 43), none⟩] [0, 1, 33, 34, 35, 36, 37, 38, 39, 40, 41, 42, 43])
      (.ret))
      (.skip)))
  (.seq (.region [⟨(some 44), .mv (.t 0), none⟩,
      ⟨(some 45), .buildSlice 1 7 [(.str [])] [(0, (.k (.c (.d (.str [102]))))), (1, (.k (.c (.d (.str [103]))))), (2, (.k (.c (.d (.str [115]))))), (3, (.k (.c (.d (.str [43]))))), (4, (.k (.c (.d (.str [61]))))), (5, (.k (.c (.d (.str [105, 115]))))), (6, (.k (.c (.d (.str [102, 111, 111])))))], none⟩,
      ⟨(some 46), .call false 50 [(.t 44), (.t 45)], none⟩,
      ⟨(some 47), .call false 52 [(.t 46), (.k (.c (.full [])))], none⟩,
      ⟨(some 5), .alloc [(.d (.int .i64 0)), (.d (.int .i64 0)), (.d (.str [])), (.full [])], none⟩,
      ⟨none, .store 4 (.t 5) (.t 47), none⟩] [33, 44, 45, 46, 47])
  (.seq (.seq (.region [⟨(some 48), .mv (.t 0), none⟩,
        ⟨(some 49), .buildSlice 1 4 [(.int .i64 0)] [(0, (.k (.c (.d (.int .i64 2))))), (1, (.k (.c (.d (.int .i64 1))))), (2, (.k (.c (.d (.int .i64 3))))), (3, (.k (.c (.d (.int .i64 2)))))], none⟩,
        ⟨(some 50), .call false 23 [(.t 48), (.t 49)], none⟩,
        ⟨(some 6), .mv (.t 50), none⟩] [48, 49, 50])
    (.block 1 (.loop (.seq (.seq (.region [⟨(some 51), .mv (.t 6), none⟩,
              ⟨(some 52), .bin .gtr (.t 51) (.k (.c (.d (.int .i64 0)))), none⟩] [51])
          (.cond (.t 52)
            (.skip)
            (.exit 1)))
        (.seq (.block 2 (.region [⟨(some 55), .fieldAddr 3 (.t 5), none⟩,
              ⟨(some 57), .mv (.t 0), none⟩,
              ⟨(some 58), .mv (.t 1), none⟩,
              ⟨(some 59), .bin .sub (.t 58) (.k (.c (.d (.int .i64 1)))), none⟩,
              ⟨(some 56), .loadL none (.t 55), none⟩,
              ⟨(some 60), .callL false 24 [(.t 57), (.t 59)], none⟩,
              ⟨(some 61), .buildSlice 4 1 [(.int .i64 0), (.int .i64 0), (.str []), (.sl [])] [(0, (.t 60))], none⟩,
              ⟨(some 62), .append false 4 (.t 56) (.t 61), none⟩,
              ⟨(some 63), .fieldAddr 3 (.t 5), none⟩,
              ⟨none, .store 1 (.t 63) (.t 62), none⟩] [52, 55, 56, 57, 58, 59, 60, 61, 62, 63]))
        (.region [⟨(some 53), .mv (.t 6), none⟩,
          ⟨(some 54), .bin .sub (.t 53) (.k (.c (.d (.int .i64 1)))), none⟩,
          ⟨(some 6), .mv (.t 54), none⟩] [53, 54]))))))
  (.seq (.region [⟨(some 64), .load (some 4) (.t 5), none⟩,
      ⟨none, .store 4 (.t 4) (.t 64), none⟩] [5, 64])
  (.ret))))))
theorem ac24_ok : cFunc Try.prog [1000051, 1000053, 5000055, 6000024] [(0, [], []), (1, [7, 8, 9, 10, 11, 12], []), (2, [1, 13, 14], []), (3, [17], []), (4, [0, 15, 16, 18, 19, 20], []), (5, [15, 16, 22], []), (6, [0, 21, 23, 24, 25, 26], []), (7, [0, 21, 27, 28, 29, 30], []), (8, [13, 31, 32], []), (9, [0, 1, 33, 34, 35, 36, 37, 38, 39, 40, 41, 42, 43], []), (10, [33, 44, 45, 46, 47], []), (11, [48, 49, 50], []), (12, [51], []), (14, [52, 55, 56, 57, 58, 59, 60, 61, 62, 63], [0, 2, 3, 4, 1, 5, 6, 7, 8, 9]), (13, [53, 54], []), (15, [5, 64], [])] Try.f24 = some (ac24, [.cell 4 (some 4)], 65) := by kernel_rfl
namespace Full
-- 52 loop.example/prologserver/spec.l1Struct params 2 ntmps 10
def ac52 : Cd := .seq (.region [⟨(some 4), .alloc [(.d (.int .i64 0)), (.d (.int .i64 0)), (.d (.str [])), (.full [])], none⟩] [])
  (.seq (.region [⟨(some 5), .mv (.t 0), none⟩,
      ⟨(some 6), .buildSlice 4 0 [(.int .i64 0), (.int .i64 0), (.str []), (.sl [])] [], none⟩,
      ⟨(some 7), .mv (.t 1), none⟩,
      ⟨(some 8), .appendF 4 (.t 6) (.t 7), none⟩,
      ⟨(some 9), .build [(.d (.int .i64 0)), (.d (.int .i64 0)), (.d (.str [])), (.full [])] [(0, 1, (.k (.c (.d (.int .i64 3))))), (2, 1, (.t 5)), (3, 1, (.t 8))], none⟩,
      ⟨none, .store 4 (.t 4) (.t 9), none⟩] [0, 1, 5, 6, 7, 8, 9])
  (.ret))
theorem ac52_ok : cFunc Try.prog [3000006] [(0, [], []), (1, [0, 1, 5, 6, 7, 8, 9], [])] Try.f52 = some (ac52, [.cell 4 (some 4)], 10) := by kernel_rfl
end Full
theorem of_draws (l : List (List UInt8)) (hl : 1 ≤ l.length ∧ l.length ≤ 1000) : Draws 50 [.c (.d (.sl (l.map fun s => [.str s])))] 1 (fun r => ∃ s ∈ l, r = .c (.d (.str s))) := fun c p H i hc hp hp1 hi => by
  refine acalls Try.func50 (by kernel_rfl) ac50_ok fun hf => ?_
  simp only [List.length_set] at hf
  have hll : inR .i64 (l.length : Int) := small_i64 (by omega) (by omega)
  simp -implicitDefEqProofs [ac50, hll, aw_skip, aw_region, aw_seq, aw_block, aw_cond, aw_exit, aw_ret, kq_nil, kq_seq, kq_seq_ret, kq_seq_exit, kq_block, kq_block_ret, kq_block_exit, kq_loop, kq_loop_ret, kq_loop_exit, awOps_nil, awOps_cons, awOps_guardE, nx_eq, awOp, ev_k, ev_0, ev_1, ev_2, ev_3, ev_4, ev_5, ev_6, ev_7, ev_8, set_0, set_1, set_2, set_3, set_4, set_5, set_6, set_7, set_8, -List.set_cons_succ, -List.set_cons_zero, A.ok, A.val, setSl, wrapG, guardB, getB, pickA, binA, binC, binD, cmpD, isCmp, unA, unD, lenA, AOp.total, kills, litB, FinQ, resOks, resOk, resA, resList, resOne, A.thaw, C.thaw, A.fits, As.fits, C.fits, evs, oks, callArgs, A.pure, C.pure, A.re, C.re, fieldAddrA, loadC, cut, A.cells, C.rows?, getOb, newOb, setOb, storeC, splice, Ob.re, Cs.fits, partsA, partsOk, parts2A, parts2Ok, fillC, fillRows, optInt, optOk, sliceA, clipC, optK_some, storeK_some, Option.map_some, toDs, C.toD, spliceD, appendA, capsOf, srcRows, allLen_nil_iff, allLen_cons_iff, allLen_append_iff, dropC, Obs.fits, eqCs, eqD, mapRow, mapPut, mapVal, mapOne, mapCells]
  refine call_drawE (pick_draws l.length ⟨by omega, by omega⟩) hc hp hp1 hi (by simp) (fun r => IntIn.re) hf ?_
  rintro _ p' ⟨k, rfl, h1, h2⟩ h3 h4
  simp -implicitDefEqProofs [aw_skip, aw_region, aw_seq, aw_block, aw_cond, aw_exit, aw_ret, kq_nil, kq_seq, kq_seq_ret, kq_seq_exit, kq_block, kq_block_ret, kq_block_exit, kq_loop, kq_loop_ret, kq_loop_exit, awOps_nil, awOps_cons, awOps_guardE, nx_eq, awOp, ev_k, ev_0, ev_1, ev_2, ev_3, ev_4, ev_5, ev_6, ev_7, ev_8, set_0, set_1, set_2, set_3, set_4, set_5, set_6, set_7, set_8, -List.set_cons_succ, -List.set_cons_zero, A.ok, A.val, setSl, wrapG, guardB, getB, pickA, binA, binC, binD, cmpD, isCmp, unA, unD, lenA, AOp.total, kills, litB, FinQ, resOks, resOk, resA, resList, resOne, A.thaw, C.thaw, A.fits, As.fits, C.fits, evs, oks, callArgs, A.pure, C.pure, A.re, C.re, fieldAddrA, loadC, cut, A.cells, C.rows?, getOb, newOb, setOb, storeC, splice, Ob.re, Cs.fits, partsA, partsOk, parts2A, parts2Ok, fillC, fillRows, optInt, optOk, sliceA, clipC, optK_some, storeK_some, Option.map_some, toDs, C.toD, spliceD, appendA, capsOf, srcRows, allLen_nil_iff, allLen_cons_iff, allLen_append_iff, dropC, Obs.fits, eqCs, eqD, mapRow, mapPut, mapVal, mapOne, mapCells]
  have hk : k.toNat < l.length := by omega
  refine row_int [.str l[k.toNat]] h1 (by simp [hk]) rfl ?_
  simp -implicitDefEqProofs [aw_skip, aw_region, aw_seq, aw_block, aw_cond, aw_exit, aw_ret, kq_nil, kq_seq, kq_seq_ret, kq_seq_exit, kq_block, kq_block_ret, kq_block_exit, kq_loop, kq_loop_ret, kq_loop_exit, awOps_nil, awOps_cons, awOps_guardE, nx_eq, awOp, ev_k, ev_0, ev_1, ev_2, ev_3, ev_4, ev_5, ev_6, ev_7, ev_8, set_0, set_1, set_2, set_3, set_4, set_5, set_6, set_7, set_8, -List.set_cons_succ, -List.set_cons_zero, A.ok, A.val, setSl, wrapG, guardB, getB, pickA, binA, binC, binD, cmpD, isCmp, unA, unD, lenA, AOp.total, kills, litB, FinQ, resOks, resOk, resA, resList, resOne, A.thaw, C.thaw, A.fits, As.fits, C.fits, evs, oks, callArgs, A.pure, C.pure, A.re, C.re, fieldAddrA, loadC, cut, A.cells, C.rows?, getOb, newOb, setOb, storeC, splice, Ob.re, Cs.fits, partsA, partsOk, parts2A, parts2Ok, fillC, fillRows, optInt, optOk, sliceA, clipC, optK_some, storeK_some, Option.map_some, toDs, C.toD, spliceD, appendA, capsOf, srcRows, allLen_nil_iff, allLen_cons_iff, allLen_append_iff, dropC, Obs.fits, eqCs, eqD, mapRow, mapPut, mapVal, mapOne, mapCells]
  exact ⟨⟨_, List.getElem_mem hk, rfl⟩, p', h3, h4, rfl⟩
theorem var_calls (n : Int) (H : Heap) : ACalls Try.prog 53 [.c (.d (.int .i64 n))] H (fun r H' => H' = H ∧ r = .agg ((Tm.mk 1 n [] []).row.map .d)) := by
  refine acalls Try.func53 (by kernel_rfl) ac53_ok fun hf => ?_
  simp -implicitDefEqProofs [ac53, row_mk, hf, aw_skip, aw_region, aw_seq, aw_block, aw_cond, aw_exit, aw_ret, kq_nil, kq_seq, kq_seq_ret, kq_seq_exit, kq_block, kq_block_ret, kq_block_exit, kq_loop, kq_loop_ret, kq_loop_exit, awOps_nil, awOps_cons, awOps_guardE, nx_eq, awOp, ev_k, ev_0, ev_1, ev_2, ev_3, ev_4, ev_5, ev_6, ev_7, ev_8, set_0, set_1, set_2, set_3, set_4, set_5, set_6, set_7, set_8, -List.set_cons_succ, -List.set_cons_zero, A.ok, A.val, setSl, wrapG, guardB, getB, pickA, binA, binC, binD, cmpD, isCmp, unA, unD, lenA, AOp.total, kills, litB, FinQ, resOks, resOk, resA, resList, resOne, A.thaw, C.thaw, A.fits, As.fits, C.fits, evs, oks, callArgs, A.pure, C.pure, A.re, C.re, fieldAddrA, loadC, cut, A.cells, C.rows?, getOb, newOb, setOb, storeC, splice, Ob.re, Cs.fits, partsA, partsOk, parts2A, parts2Ok, fillC, fillRows, optInt, optOk, sliceA, clipC, optK_some, storeK_some, Option.map_some, toDs, C.toD, spliceD, appendA, capsOf, srcRows, allLen_nil_iff, allLen_cons_iff, allLen_append_iff, dropC, Obs.fits, eqCs, eqD, mapRow, mapPut, mapVal, mapOne, mapCells]
theorem int_calls (n : Int) (H : Heap) : ACalls Try.prog 51 [.c (.d (.int .i64 n))] H (fun r H' => H' = H ∧ r = .agg ((Tm.mk 2 n [] []).row.map .d)) := by
  refine acalls Try.func51 (by kernel_rfl) ac51_ok fun hf => ?_
  simp -implicitDefEqProofs [ac51, row_mk, hf, aw_skip, aw_region, aw_seq, aw_block, aw_cond, aw_exit, aw_ret, kq_nil, kq_seq, kq_seq_ret, kq_seq_exit, kq_block, kq_block_ret, kq_block_exit, kq_loop, kq_loop_ret, kq_loop_exit, awOps_nil, awOps_cons, awOps_guardE, nx_eq, awOp, ev_k, ev_0, ev_1, ev_2, ev_3, ev_4, ev_5, ev_6, ev_7, ev_8, set_0, set_1, set_2, set_3, set_4, set_5, set_6, set_7, set_8, -List.set_cons_succ, -List.set_cons_zero, A.ok, A.val, setSl, wrapG, guardB, getB, pickA, binA, binC, binD, cmpD, isCmp, unA, unD, lenA, AOp.total, kills, litB, FinQ, resOks, resOk, resA, resList, resOne, A.thaw, C.thaw, A.fits, As.fits, C.fits, evs, oks, callArgs, A.pure, C.pure, A.re, C.re, fieldAddrA, loadC, cut, A.cells, C.rows?, getOb, newOb, setOb, storeC, splice, Ob.re, Cs.fits, partsA, partsOk, parts2A, parts2Ok, fillC, fillRows, optInt, optOk, sliceA, clipC, optK_some, storeK_some, Option.map_some, toDs, C.toD, spliceD, appendA, capsOf, srcRows, allLen_nil_iff, allLen_cons_iff, allLen_append_iff, dropC, Obs.fits, eqCs, eqD, mapRow, mapPut, mapVal, mapOne, mapCells]
/-- a structure without arguments: nothing stands behind its arguments -/
theorem struct_full (name : List UInt8) (H : Heap) : ACalls Try.prog 52 [.c (.d (.str name)), .c (.d (.sl []))] H (fun r H' => H' = H ++ [.cells [.d (.int .i64 3), .d (.int .i64 0), .d (.str name), .full []]] ∧ r = .agg [.d (.int .i64 3), .d (.int .i64 0), .d (.str name), .full []]) := by
  refine acallsK Try.func52 (by kernel_rfl) Full.ac52_ok fun hf => ?_
  simp -implicitDefEqProofs [Full.ac52, hf, aw_skip, aw_region, aw_seq, aw_block, aw_cond, aw_exit, aw_ret, kq_nil, kq_seq, kq_seq_ret, kq_seq_exit, kq_block, kq_block_ret, kq_block_exit, kq_loop, kq_loop_ret, kq_loop_exit, awOps_nil, awOps_cons, awOps_guardE, nx_eq, awOp, ev_k, ev_0, ev_1, ev_2, ev_3, ev_4, ev_5, ev_6, ev_7, ev_8, set_0, set_1, set_2, set_3, set_4, set_5, set_6, set_7, set_8, -List.set_cons_succ, -List.set_cons_zero, A.ok, A.val, setSl, wrapG, guardB, getB, pickA, binA, binC, binD, cmpD, isCmp, unA, unD, lenA, AOp.total, kills, litB, FinQ, resOks, resOk, resA, resList, resOne, A.thaw, C.thaw, A.fits, As.fits, C.fits, evs, oks, callArgs, A.pure, C.pure, A.re, C.re, fieldAddrA, loadC, cut, A.cells, C.rows?, getOb, newOb, setOb, storeC, splice, Ob.re, Cs.fits, partsA, partsOk, parts2A, parts2Ok, fillC, fillRows, optInt, optOk, sliceA, clipC, optK_some, storeK_some, Option.map_some, toDs, C.toD, spliceD, appendA, capsOf, srcRows, allLen_nil_iff, allLen_cons_iff, allLen_append_iff, dropC, Obs.fits, eqCs, eqD, mapRow, mapPut, mapVal, mapOne, mapCells]
  refine finK_ret _ ⟨trivial, trivial⟩ rfl ?_
  simp [Ob.re, C.re, A.re]
/-- a call that leaves one object more, which looks at no other -/
theorem call_new {P : Program} {f : FuncId} {xs : List A} {sl : List A} {ext loc H₂ : Heap} {o : Ob} {r : A} {K : A → St → Prop} (hc : ∀ H, ACalls P f xs H (fun r' H' => H' = H ++ [o] ∧ r' = r)) (ho : Ob.re ext.length o = o) (hr : A.re ext.length r = r)
    (hf : Obs.fits ext.length 0 ext) (hH : H₂ = ext ++ loc.map (Ob.re ext.length)) (hk : K r ⟨sl, ext, loc ++ [o]⟩) : ACalls P f xs H₂ (CallK K ⟨sl, ext, loc⟩) := by
  subst hH
  exact (hc _).mono fun r' H' ⟨h1, h2⟩ => ⟨ext, loc ++ [o], r, by rw [h1, List.append_assoc, List.map_append]; simp [ho], rfl, by simp, hf, by rw [h2]; exact hr.symm, hk⟩
/-- a term that a law looks at -/
def TmR (r : A) : Prop := ∃ t : Tm, r = .agg (t.row.map .d) ∧ t.fits
theorem TmR.re {n : Nat} {r : A} (h : TmR r) : A.re n r = r := by
  obtain ⟨t, rfl, _⟩ := h
  simp [A.re, re_d]
theorem draw_of (d : Nat) (hd : d ≤ 6) (M N : Int) (hM : 0 ≤ M) (hN : 4 + 3 * M ≤ N) (ih : 2 ≤ d → Draws 24 [.c (.d (.int .i64 ((d : Int) - 1)))] M TmR) : Draws 24 [.c (.d (.int .i64 d))] N TmR := fun c p H i hc hp hp1 hi => by
  refine acalls Try.func24 (by kernel_rfl) ac24_ok fun hf => ?_
  simp only [List.length_set] at hf
  simp -implicitDefEqProofs [ac24, aw_skip, aw_region, aw_seq, aw_block, aw_cond, aw_exit, aw_ret, kq_nil, kq_seq, kq_seq_ret, kq_seq_exit, kq_block, kq_block_ret, kq_block_exit, kq_loop, kq_loop_ret, kq_loop_exit, awOps_nil, awOps_cons, awOps_guardE, nx_eq, awOp, ev_k, ev_0, ev_1, ev_2, ev_3, ev_4, ev_5, ev_6, ev_7, ev_8, set_0, set_1, set_2, set_3, set_4, set_5, set_6, set_7, set_8, -List.set_cons_succ, -List.set_cons_zero, A.ok, A.val, setSl, wrapG, guardB, getB, pickA, binA, binC, binD, cmpD, isCmp, unA, unD, lenA, AOp.total, kills, litB, FinQ, resOks, resOk, resA, resList, resOne, A.thaw, C.thaw, A.fits, As.fits, C.fits, evs, oks, callArgs, A.pure, C.pure, A.re, C.re, fieldAddrA, loadC, cut, A.cells, C.rows?, getOb, newOb, setOb, storeC, splice, Ob.re, Cs.fits, partsA, partsOk, parts2A, parts2Ok, fillC, fillRows, optInt, optOk, sliceA, clipC, optK_some, storeK_some, Option.map_some, toDs, C.toD, spliceD, appendA, capsOf, srcRows, allLen_nil_iff, allLen_cons_iff, allLen_append_iff, dropC, Obs.fits, eqCs, eqD, mapRow, mapPut, mapVal, mapOne, mapCells]
  have hf0 : ∀ q, Obs.fits H.length 0 (H.set i (Rd c q)) := fun q => fits_reset (b := Rd c q) hf ⟨trivial, trivial, trivial⟩
  have hf1 : ∀ q, Obs.fits (H.set i (Rd c q)).length 0 (H.set i (Rd c q)) := fun q => by simpa using hf0 q
  have done : ∀ (t : Tm) (q : Int), p ≤ q → q ≤ p + N → t.fits → ∀ r, r = .agg (t.row.map .d) → Drew TmR N c p H i r (H.set i (Rd c q)) := fun t q a1 a2 a3 r hr => ⟨⟨t, hr, a3⟩, q, a1, a2, rfl⟩
  refine ⟨fun h2 => ⟨h2, ?_⟩, fun h2 => ?_⟩
  · refine call_drawE (pick_draws 4 (by omega)) hc hp (by omega) hi (by simp [Ob.re, C.re]) (fun r => IntIn.re) (hf0 _) ?_
    rintro _ p0 ⟨k, rfl, k0, k1⟩ h3 h4
    have hd0 : ¬ ((d : Int) < 2) := by omega
    simp -implicitDefEqProofs [hf0, hd0, aw_skip, aw_region, aw_seq, aw_block, aw_cond, aw_exit, aw_ret, kq_nil, kq_seq, kq_seq_ret, kq_seq_exit, kq_block, kq_block_ret, kq_block_exit, kq_loop, kq_loop_ret, kq_loop_exit, awOps_nil, awOps_cons, awOps_guardE, nx_eq, awOp, ev_k, ev_0, ev_1, ev_2, ev_3, ev_4, ev_5, ev_6, ev_7, ev_8, set_0, set_1, set_2, set_3, set_4, set_5, set_6, set_7, set_8, -List.set_cons_succ, -List.set_cons_zero, A.ok, A.val, setSl, wrapG, guardB, getB, pickA, binA, binC, binD, cmpD, isCmp, unA, unD, lenA, AOp.total, kills, litB, FinQ, resOks, resOk, resA, resList, resOne, A.thaw, C.thaw, A.fits, As.fits, C.fits, evs, oks, callArgs, A.pure, C.pure, A.re, C.re, fieldAddrA, loadC, cut, A.cells, C.rows?, getOb, newOb, setOb, storeC, splice, Ob.re, Cs.fits, partsA, partsOk, parts2A, parts2Ok, fillC, fillRows, optInt, optOk, sliceA, clipC, optK_some, storeK_some, Option.map_some, toDs, C.toD, spliceD, appendA, capsOf, srcRows, allLen_nil_iff, allLen_cons_iff, allLen_append_iff, dropC, Obs.fits, eqCs, eqD, mapRow, mapPut, mapVal, mapOne, mapCells]
    refine ⟨fun _ => ?_, fun _ => ?_⟩
    · skip
      refine call_drawE (pick_draws 4 (by omega)) hc (by omega) (by omega) hi (by simp [Ob.re, C.re]) (fun r => IntIn.re) (hf0 _) ?_
      rintro _ p1 ⟨k, rfl, k0, k1⟩ h3 h4
      simp -implicitDefEqProofs [hf0, aw_skip, aw_region, aw_seq, aw_block, aw_cond, aw_exit, aw_ret, kq_nil, kq_seq, kq_seq_ret, kq_seq_exit, kq_block, kq_block_ret, kq_block_exit, kq_loop, kq_loop_ret, kq_loop_exit, awOps_nil, awOps_cons, awOps_guardE, nx_eq, awOp, ev_k, ev_0, ev_1, ev_2, ev_3, ev_4, ev_5, ev_6, ev_7, ev_8, set_0, set_1, set_2, set_3, set_4, set_5, set_6, set_7, set_8, -List.set_cons_succ, -List.set_cons_zero, A.ok, A.val, setSl, wrapG, guardB, getB, pickA, binA, binC, binD, cmpD, isCmp, unA, unD, lenA, AOp.total, kills, litB, FinQ, resOks, resOk, resA, resList, resOne, A.thaw, C.thaw, A.fits, As.fits, C.fits, evs, oks, callArgs, A.pure, C.pure, A.re, C.re, fieldAddrA, loadC, cut, A.cells, C.rows?, getOb, newOb, setOb, storeC, splice, Ob.re, Cs.fits, partsA, partsOk, parts2A, parts2Ok, fillC, fillRows, optInt, optOk, sliceA, clipC, optK_some, storeK_some, Option.map_some, toDs, C.toD, spliceD, appendA, capsOf, srcRows, allLen_nil_iff, allLen_cons_iff, allLen_append_iff, dropC, Obs.fits, eqCs, eqD, mapRow, mapPut, mapVal, mapOne, mapCells]
      refine ⟨fun _ => ?_, fun _ => ⟨fun _ => ?_, fun _ => ?_⟩⟩
      · refine call_drawE (pick_draws 4 (by omega)) hc (by omega) (by omega) hi (by simp [Ob.re, C.re]) (fun r => IntIn.re) (hf0 _) ?_
        rintro _ p2 ⟨n, rfl, n0, n1⟩ h5 h6
        simp -implicitDefEqProofs [hf0, aw_skip, aw_region, aw_seq, aw_block, aw_cond, aw_exit, aw_ret, kq_nil, kq_seq, kq_seq_ret, kq_seq_exit, kq_block, kq_block_ret, kq_block_exit, kq_loop, kq_loop_ret, kq_loop_exit, awOps_nil, awOps_cons, awOps_guardE, nx_eq, awOp, ev_k, ev_0, ev_1, ev_2, ev_3, ev_4, ev_5, ev_6, ev_7, ev_8, set_0, set_1, set_2, set_3, set_4, set_5, set_6, set_7, set_8, -List.set_cons_succ, -List.set_cons_zero, A.ok, A.val, setSl, wrapG, guardB, getB, pickA, binA, binC, binD, cmpD, isCmp, unA, unD, lenA, AOp.total, kills, litB, FinQ, resOks, resOk, resA, resList, resOne, A.thaw, C.thaw, A.fits, As.fits, C.fits, evs, oks, callArgs, A.pure, C.pure, A.re, C.re, fieldAddrA, loadC, cut, A.cells, C.rows?, getOb, newOb, setOb, storeC, splice, Ob.re, Cs.fits, partsA, partsOk, parts2A, parts2Ok, fillC, fillRows, optInt, optOk, sliceA, clipC, optK_some, storeK_some, Option.map_some, toDs, C.toD, spliceD, appendA, capsOf, srcRows, allLen_nil_iff, allLen_cons_iff, allLen_append_iff, dropC, Obs.fits, eqCs, eqD, mapRow, mapPut, mapVal, mapOne, mapCells]
        refine qcall_pure (var_calls n) (hf1 _) (by simp [A.re, re_d]) ?_
        simp -implicitDefEqProofs [hf0, row_mk, aw_skip, aw_region, aw_seq, aw_block, aw_cond, aw_exit, aw_ret, kq_nil, kq_seq, kq_seq_ret, kq_seq_exit, kq_block, kq_block_ret, kq_block_exit, kq_loop, kq_loop_ret, kq_loop_exit, awOps_nil, awOps_cons, awOps_guardE, nx_eq, awOp, ev_k, ev_0, ev_1, ev_2, ev_3, ev_4, ev_5, ev_6, ev_7, ev_8, set_0, set_1, set_2, set_3, set_4, set_5, set_6, set_7, set_8, -List.set_cons_succ, -List.set_cons_zero, A.ok, A.val, setSl, wrapG, guardB, getB, pickA, binA, binC, binD, cmpD, isCmp, unA, unD, lenA, AOp.total, kills, litB, FinQ, resOks, resOk, resA, resList, resOne, A.thaw, C.thaw, A.fits, As.fits, C.fits, evs, oks, callArgs, A.pure, C.pure, A.re, C.re, fieldAddrA, loadC, cut, A.cells, C.rows?, getOb, newOb, setOb, storeC, splice, Ob.re, Cs.fits, partsA, partsOk, parts2A, parts2Ok, fillC, fillRows, optInt, optOk, sliceA, clipC, optK_some, storeK_some, Option.map_some, toDs, C.toD, spliceD, appendA, capsOf, srcRows, allLen_nil_iff, allLen_cons_iff, allLen_append_iff, dropC, Obs.fits, eqCs, eqD, mapRow, mapPut, mapVal, mapOne, mapCells]
        exact done (.mk 1 n [] []) p2 (by omega) (by omega) (.mk (small_i64 (by omega) (by omega)) (small_i64 (by omega) (by omega)) (by simp) (by simp) (by simp)) _ (by simp [row_mk])
      · refine call_drawE (num_draws [0, 1, 7, -3, 999, -999] (by decide)) hc (by omega) (by omega) hi (by simp [Ob.re, C.re]) (fun r ⟨n, _, hn⟩ => by subst hn; rfl) (hf0 _) ?_
        rintro _ p2 ⟨n, hn, rfl⟩ h5 h6
        have hn : -999 ≤ n ∧ n ≤ 999 := by simp at hn; omega
        simp -implicitDefEqProofs [hf0, aw_skip, aw_region, aw_seq, aw_block, aw_cond, aw_exit, aw_ret, kq_nil, kq_seq, kq_seq_ret, kq_seq_exit, kq_block, kq_block_ret, kq_block_exit, kq_loop, kq_loop_ret, kq_loop_exit, awOps_nil, awOps_cons, awOps_guardE, nx_eq, awOp, ev_k, ev_0, ev_1, ev_2, ev_3, ev_4, ev_5, ev_6, ev_7, ev_8, set_0, set_1, set_2, set_3, set_4, set_5, set_6, set_7, set_8, -List.set_cons_succ, -List.set_cons_zero, A.ok, A.val, setSl, wrapG, guardB, getB, pickA, binA, binC, binD, cmpD, isCmp, unA, unD, lenA, AOp.total, kills, litB, FinQ, resOks, resOk, resA, resList, resOne, A.thaw, C.thaw, A.fits, As.fits, C.fits, evs, oks, callArgs, A.pure, C.pure, A.re, C.re, fieldAddrA, loadC, cut, A.cells, C.rows?, getOb, newOb, setOb, storeC, splice, Ob.re, Cs.fits, partsA, partsOk, parts2A, parts2Ok, fillC, fillRows, optInt, optOk, sliceA, clipC, optK_some, storeK_some, Option.map_some, toDs, C.toD, spliceD, appendA, capsOf, srcRows, allLen_nil_iff, allLen_cons_iff, allLen_append_iff, dropC, Obs.fits, eqCs, eqD, mapRow, mapPut, mapVal, mapOne, mapCells]
        refine qcall_pure (int_calls n) (hf1 _) (by simp [A.re, re_d]) ?_
        simp -implicitDefEqProofs [hf0, row_mk, aw_skip, aw_region, aw_seq, aw_block, aw_cond, aw_exit, aw_ret, kq_nil, kq_seq, kq_seq_ret, kq_seq_exit, kq_block, kq_block_ret, kq_block_exit, kq_loop, kq_loop_ret, kq_loop_exit, awOps_nil, awOps_cons, awOps_guardE, nx_eq, awOp, ev_k, ev_0, ev_1, ev_2, ev_3, ev_4, ev_5, ev_6, ev_7, ev_8, set_0, set_1, set_2, set_3, set_4, set_5, set_6, set_7, set_8, -List.set_cons_succ, -List.set_cons_zero, A.ok, A.val, setSl, wrapG, guardB, getB, pickA, binA, binC, binD, cmpD, isCmp, unA, unD, lenA, AOp.total, kills, litB, FinQ, resOks, resOk, resA, resList, resOne, A.thaw, C.thaw, A.fits, As.fits, C.fits, evs, oks, callArgs, A.pure, C.pure, A.re, C.re, fieldAddrA, loadC, cut, A.cells, C.rows?, getOb, newOb, setOb, storeC, splice, Ob.re, Cs.fits, partsA, partsOk, parts2A, parts2Ok, fillC, fillRows, optInt, optOk, sliceA, clipC, optK_some, storeK_some, Option.map_some, toDs, C.toD, spliceD, appendA, capsOf, srcRows, allLen_nil_iff, allLen_cons_iff, allLen_append_iff, dropC, Obs.fits, eqCs, eqD, mapRow, mapPut, mapVal, mapOne, mapCells]
        exact done (.mk 2 n [] []) p2 (by omega) (by omega) (.mk (small_i64 (by omega) (by omega)) (small_i64 (by omega) (by omega)) (by simp) (by simp) (by simp)) _ (by simp [row_mk])
      · refine call_drawE (of_draws [[97], [98], [110, 105, 108], [91, 93], [102, 111, 111], [43]] (by decide)) hc (by omega) (by omega) hi (by simp [Ob.re, C.re]) (fun r ⟨n, _, hn⟩ => by subst hn; rfl) (hf0 _) ?_
        rintro _ p2 ⟨s, hs, rfl⟩ h5 h6
        have hs : s.length ≤ 3 := by simp at hs; rcases hs with rfl | rfl | rfl | rfl | rfl | rfl <;> decide
        simp -implicitDefEqProofs [hf0, aw_skip, aw_region, aw_seq, aw_block, aw_cond, aw_exit, aw_ret, kq_nil, kq_seq, kq_seq_ret, kq_seq_exit, kq_block, kq_block_ret, kq_block_exit, kq_loop, kq_loop_ret, kq_loop_exit, awOps_nil, awOps_cons, awOps_guardE, nx_eq, awOp, ev_k, ev_0, ev_1, ev_2, ev_3, ev_4, ev_5, ev_6, ev_7, ev_8, set_0, set_1, set_2, set_3, set_4, set_5, set_6, set_7, set_8, -List.set_cons_succ, -List.set_cons_zero, A.ok, A.val, setSl, wrapG, guardB, getB, pickA, binA, binC, binD, cmpD, isCmp, unA, unD, lenA, AOp.total, kills, litB, FinQ, resOks, resOk, resA, resList, resOne, A.thaw, C.thaw, A.fits, As.fits, C.fits, evs, oks, callArgs, A.pure, C.pure, A.re, C.re, fieldAddrA, loadC, cut, A.cells, C.rows?, getOb, newOb, setOb, storeC, splice, Ob.re, Cs.fits, partsA, partsOk, parts2A, parts2Ok, fillC, fillRows, optInt, optOk, sliceA, clipC, optK_some, storeK_some, Option.map_some, toDs, C.toD, spliceD, appendA, capsOf, srcRows, allLen_nil_iff, allLen_cons_iff, allLen_append_iff, dropC, Obs.fits, eqCs, eqD, mapRow, mapPut, mapVal, mapOne, mapCells]
        refine call_new (struct_full s) (by simp [Ob.re, C.re]) (by simp [A.re, C.re]) (hf1 _) (by simp [Ob.re, C.re]) ?_
        simp -implicitDefEqProofs [hf0, aw_skip, aw_region, aw_seq, aw_block, aw_cond, aw_exit, aw_ret, kq_nil, kq_seq, kq_seq_ret, kq_seq_exit, kq_block, kq_block_ret, kq_block_exit, kq_loop, kq_loop_ret, kq_loop_exit, awOps_nil, awOps_cons, awOps_guardE, nx_eq, awOp, ev_k, ev_0, ev_1, ev_2, ev_3, ev_4, ev_5, ev_6, ev_7, ev_8, set_0, set_1, set_2, set_3, set_4, set_5, set_6, set_7, set_8, -List.set_cons_succ, -List.set_cons_zero, A.ok, A.val, setSl, wrapG, guardB, getB, pickA, binA, binC, binD, cmpD, isCmp, unA, unD, lenA, AOp.total, kills, litB, FinQ, resOks, resOk, resA, resList, resOne, A.thaw, C.thaw, A.fits, As.fits, C.fits, evs, oks, callArgs, A.pure, C.pure, A.re, C.re, fieldAddrA, loadC, cut, A.cells, C.rows?, getOb, newOb, setOb, storeC, splice, Ob.re, Cs.fits, partsA, partsOk, parts2A, parts2Ok, fillC, fillRows, optInt, optOk, sliceA, clipC, optK_some, storeK_some, Option.map_some, toDs, C.toD, spliceD, appendA, capsOf, srcRows, allLen_nil_iff, allLen_cons_iff, allLen_append_iff, dropC, Obs.fits, eqCs, eqD, mapRow, mapPut, mapVal, mapOne, mapCells]
        exact done (.mk 3 0 s []) p2 (by omega) (by omega) (.mk (small_i64 (by omega) (by omega)) (small_i64 (by omega) (by omega)) (by omega) (by simp) (by simp)) _ (by simp [row_mk])
    · refine call_drawE (pick_draws 3 (by omega)) hc (by omega) (by omega) hi (by simp [Ob.re, C.re]) (fun r => IntIn.re) (hf0 _) ?_
      rintro _ p1 ⟨k2, rfl, k3, k4⟩ h5 h6
      have hsub : inR .i64 ((d : Int) - 1) := small_i64 (by omega) (by omega)
      simp -implicitDefEqProofs [hf0, hsub, aw_skip, aw_region, aw_seq, aw_block, aw_cond, aw_exit, aw_ret, kq_nil, kq_seq, kq_seq_ret, kq_seq_exit, kq_block, kq_block_ret, kq_block_exit, kq_loop, kq_loop_ret, kq_loop_exit, awOps_nil, awOps_cons, awOps_guardE, nx_eq, awOp, ev_k, ev_0, ev_1, ev_2, ev_3, ev_4, ev_5, ev_6, ev_7, ev_8, set_0, set_1, set_2, set_3, set_4, set_5, set_6, set_7, set_8, -List.set_cons_succ, -List.set_cons_zero, A.ok, A.val, setSl, wrapG, guardB, getB, pickA, binA, binC, binD, cmpD, isCmp, unA, unD, lenA, AOp.total, kills, litB, FinQ, resOks, resOk, resA, resList, resOne, A.thaw, C.thaw, A.fits, As.fits, C.fits, evs, oks, callArgs, A.pure, C.pure, A.re, C.re, fieldAddrA, loadC, cut, A.cells, C.rows?, getOb, newOb, setOb, storeC, splice, Ob.re, Cs.fits, partsA, partsOk, parts2A, parts2Ok, fillC, fillRows, optInt, optOk, sliceA, clipC, optK_some, storeK_some, Option.map_some, toDs, C.toD, spliceD, appendA, capsOf, srcRows, allLen_nil_iff, allLen_cons_iff, allLen_append_iff, dropC, Obs.fits, eqCs, eqD, mapRow, mapPut, mapVal, mapOne, mapCells]
      refine ⟨fun _ => ?_, fun _ => ?_⟩
      · refine call_drawE (ih (by omega)) hc (by omega) (by omega) hi (by simp [Ob.re, C.re]) (fun r => TmR.re) (hf0 _) ?_
        rintro _ p2 ⟨a, rfl, ha⟩ h7 h8
        refine ⟨LocSame.refl _, ?_⟩
        simp -implicitDefEqProofs [hf0, hsub, row_len, take_row, aw_skip, aw_region, aw_seq, aw_block, aw_cond, aw_exit, aw_ret, kq_nil, kq_seq, kq_seq_ret, kq_seq_exit, kq_block, kq_block_ret, kq_block_exit, kq_loop, kq_loop_ret, kq_loop_exit, awOps_nil, awOps_cons, awOps_guardE, nx_eq, awOp, ev_k, ev_0, ev_1, ev_2, ev_3, ev_4, ev_5, ev_6, ev_7, ev_8, set_0, set_1, set_2, set_3, set_4, set_5, set_6, set_7, set_8, -List.set_cons_succ, -List.set_cons_zero, A.ok, A.val, setSl, wrapG, guardB, getB, pickA, binA, binC, binD, cmpD, isCmp, unA, unD, lenA, AOp.total, kills, litB, FinQ, resOks, resOk, resA, resList, resOne, A.thaw, C.thaw, A.fits, As.fits, C.fits, evs, oks, callArgs, A.pure, C.pure, A.re, C.re, fieldAddrA, loadC, cut, A.cells, C.rows?, getOb, newOb, setOb, storeC, splice, Ob.re, Cs.fits, partsA, partsOk, parts2A, parts2Ok, fillC, fillRows, optInt, optOk, sliceA, clipC, optK_some, storeK_some, Option.map_some, toDs, C.toD, spliceD, appendA, capsOf, srcRows, allLen_nil_iff, allLen_cons_iff, allLen_append_iff, dropC, Obs.fits, eqCs, eqD, mapRow, mapPut, mapVal, mapOne, mapCells]
        refine call_drawE (ih (by omega)) hc (by omega) (by omega) hi (by simp [Ob.re, C.re]) (fun r => TmR.re) (hf0 _) ?_
        rintro _ p3 ⟨b, rfl, hb⟩ h9 h10
        refine ⟨LocSame.refl _, ?_⟩
        simp -implicitDefEqProofs [hf0, hsub, row_len, take_row, toDs_map, aw_skip, aw_region, aw_seq, aw_block, aw_cond, aw_exit, aw_ret, kq_nil, kq_seq, kq_seq_ret, kq_seq_exit, kq_block, kq_block_ret, kq_block_exit, kq_loop, kq_loop_ret, kq_loop_exit, awOps_nil, awOps_cons, awOps_guardE, nx_eq, awOp, ev_k, ev_0, ev_1, ev_2, ev_3, ev_4, ev_5, ev_6, ev_7, ev_8, set_0, set_1, set_2, set_3, set_4, set_5, set_6, set_7, set_8, -List.set_cons_succ, -List.set_cons_zero, A.ok, A.val, setSl, wrapG, guardB, getB, pickA, binA, binC, binD, cmpD, isCmp, unA, unD, lenA, AOp.total, kills, litB, FinQ, resOks, resOk, resA, resList, resOne, A.thaw, C.thaw, A.fits, As.fits, C.fits, evs, oks, callArgs, A.pure, C.pure, A.re, C.re, fieldAddrA, loadC, cut, A.cells, C.rows?, getOb, newOb, setOb, storeC, splice, Ob.re, Cs.fits, partsA, partsOk, parts2A, parts2Ok, fillC, fillRows, optInt, optOk, sliceA, clipC, optK_some, storeK_some, Option.map_some, toDs, C.toD, spliceD, appendA, capsOf, srcRows, allLen_nil_iff, allLen_cons_iff, allLen_append_iff, dropC, Obs.fits, eqCs, eqD, mapRow, mapPut, mapVal, mapOne, mapCells]
        have hs := struct_calls [46] [a, b] (by simp)
        simp only [List.map_cons, List.map_nil] at hs
        refine call_same (r := .agg ((Tm.mk 3 0 [46] [a, b]).row.map .d)) (hs _) (by simp [Ob.re, C.re]) (by simp [A.re, re_d]) (hf1 _) ?_
        simp -implicitDefEqProofs [hf0, row_mk, aw_skip, aw_region, aw_seq, aw_block, aw_cond, aw_exit, aw_ret, kq_nil, kq_seq, kq_seq_ret, kq_seq_exit, kq_block, kq_block_ret, kq_block_exit, kq_loop, kq_loop_ret, kq_loop_exit, awOps_nil, awOps_cons, awOps_guardE, nx_eq, awOp, ev_k, ev_0, ev_1, ev_2, ev_3, ev_4, ev_5, ev_6, ev_7, ev_8, set_0, set_1, set_2, set_3, set_4, set_5, set_6, set_7, set_8, -List.set_cons_succ, -List.set_cons_zero, A.ok, A.val, setSl, wrapG, guardB, getB, pickA, binA, binC, binD, cmpD, isCmp, unA, unD, lenA, AOp.total, kills, litB, FinQ, resOks, resOk, resA, resList, resOne, A.thaw, C.thaw, A.fits, As.fits, C.fits, evs, oks, callArgs, A.pure, C.pure, A.re, C.re, fieldAddrA, loadC, cut, A.cells, C.rows?, getOb, newOb, setOb, storeC, splice, Ob.re, Cs.fits, partsA, partsOk, parts2A, parts2Ok, fillC, fillRows, optInt, optOk, sliceA, clipC, optK_some, storeK_some, Option.map_some, toDs, C.toD, spliceD, appendA, capsOf, srcRows, allLen_nil_iff, allLen_cons_iff, allLen_append_iff, dropC, Obs.fits, eqCs, eqD, mapRow, mapPut, mapVal, mapOne, mapCells]
        exact done (.mk 3 0 [46] [a, b]) p3 (by omega) (by omega) (.mk (small_i64 (by omega) (by omega)) (small_i64 (by omega) (by omega)) (by simp) (by simp) (by simp [ha, hb])) _ (by simp [row_mk])
      · refine call_drawE (of_draws [[102], [103], [115], [43], [61], [105, 115], [102, 111, 111]] (by decide)) hc (by omega) (by omega) hi (by simp [Ob.re, C.re]) (fun r ⟨n, _, hn⟩ => by subst hn; rfl) (hf0 _) ?_
        rintro _ p2 ⟨s, hs, rfl⟩ h7 h8
        have hs : s.length ≤ 3 := by simp at hs; rcases hs with rfl | rfl | rfl | rfl | rfl | rfl | rfl <;> decide
        simp -implicitDefEqProofs [hf0, aw_skip, aw_region, aw_seq, aw_block, aw_cond, aw_exit, aw_ret, kq_nil, kq_seq, kq_seq_ret, kq_seq_exit, kq_block, kq_block_ret, kq_block_exit, kq_loop, kq_loop_ret, kq_loop_exit, awOps_nil, awOps_cons, awOps_guardE, nx_eq, awOp, ev_k, ev_0, ev_1, ev_2, ev_3, ev_4, ev_5, ev_6, ev_7, ev_8, set_0, set_1, set_2, set_3, set_4, set_5, set_6, set_7, set_8, -List.set_cons_succ, -List.set_cons_zero, A.ok, A.val, setSl, wrapG, guardB, getB, pickA, binA, binC, binD, cmpD, isCmp, unA, unD, lenA, AOp.total, kills, litB, FinQ, resOks, resOk, resA, resList, resOne, A.thaw, C.thaw, A.fits, As.fits, C.fits, evs, oks, callArgs, A.pure, C.pure, A.re, C.re, fieldAddrA, loadC, cut, A.cells, C.rows?, getOb, newOb, setOb, storeC, splice, Ob.re, Cs.fits, partsA, partsOk, parts2A, parts2Ok, fillC, fillRows, optInt, optOk, sliceA, clipC, optK_some, storeK_some, Option.map_some, toDs, C.toD, spliceD, appendA, capsOf, srcRows, allLen_nil_iff, allLen_cons_iff, allLen_append_iff, dropC, Obs.fits, eqCs, eqD, mapRow, mapPut, mapVal, mapOne, mapCells]
        refine call_new (struct_full s) (by simp [Ob.re, C.re]) (by simp [A.re, C.re]) (hf1 _) (by simp [Ob.re, C.re]) ?_
        simp -implicitDefEqProofs [hf0, aw_skip, aw_region, aw_seq, aw_block, aw_cond, aw_exit, aw_ret, kq_nil, kq_seq, kq_seq_ret, kq_seq_exit, kq_block, kq_block_ret, kq_block_exit, kq_loop, kq_loop_ret, kq_loop_exit, awOps_nil, awOps_cons, awOps_guardE, nx_eq, awOp, ev_k, ev_0, ev_1, ev_2, ev_3, ev_4, ev_5, ev_6, ev_7, ev_8, set_0, set_1, set_2, set_3, set_4, set_5, set_6, set_7, set_8, -List.set_cons_succ, -List.set_cons_zero, A.ok, A.val, setSl, wrapG, guardB, getB, pickA, binA, binC, binD, cmpD, isCmp, unA, unD, lenA, AOp.total, kills, litB, FinQ, resOks, resOk, resA, resList, resOne, A.thaw, C.thaw, A.fits, As.fits, C.fits, evs, oks, callArgs, A.pure, C.pure, A.re, C.re, fieldAddrA, loadC, cut, A.cells, C.rows?, getOb, newOb, setOb, storeC, splice, Ob.re, Cs.fits, partsA, partsOk, parts2A, parts2Ok, fillC, fillRows, optInt, optOk, sliceA, clipC, optK_some, storeK_some, Option.map_some, toDs, C.toD, spliceD, appendA, capsOf, srcRows, allLen_nil_iff, allLen_cons_iff, allLen_append_iff, dropC, Obs.fits, eqCs, eqD, mapRow, mapPut, mapVal, mapOne, mapCells]
        refine call_drawE (num_draws [2, 1, 3, 2] (by decide)) hc (by omega) (by omega) hi (by simp [Ob.re, C.re]) (fun r ⟨n, _, hn⟩ => by subst hn; rfl) (hf0 _) ?_
        rintro _ p3 ⟨n, hn, rfl⟩ h9 h10
        have hn : 0 ≤ n ∧ n ≤ 3 := by simp at hn; omega
        have hnM : n * M ≤ 3 * M := Int.mul_le_mul_of_nonneg_right hn.2 hM
        simp -implicitDefEqProofs [hf0, aw_skip, aw_region, aw_seq, aw_block, aw_cond, aw_exit, aw_ret, kq_nil, kq_seq, kq_seq_ret, kq_seq_exit, kq_block, kq_block_ret, kq_block_exit, kq_loop, kq_loop_ret, kq_loop_exit, awOps_nil, awOps_cons, awOps_guardE, nx_eq, awOp, ev_k, ev_0, ev_1, ev_2, ev_3, ev_4, ev_5, ev_6, ev_7, ev_8, set_0, set_1, set_2, set_3, set_4, set_5, set_6, set_7, set_8, -List.set_cons_succ, -List.set_cons_zero, A.ok, A.val, setSl, wrapG, guardB, getB, pickA, binA, binC, binD, cmpD, isCmp, unA, unD, lenA, AOp.total, kills, litB, FinQ, resOks, resOk, resA, resList, resOne, A.thaw, C.thaw, A.fits, As.fits, C.fits, evs, oks, callArgs, A.pure, C.pure, A.re, C.re, fieldAddrA, loadC, cut, A.cells, C.rows?, getOb, newOb, setOb, storeC, splice, Ob.re, Cs.fits, partsA, partsOk, parts2A, parts2Ok, fillC, fillRows, optInt, optOk, sliceA, clipC, optK_some, storeK_some, Option.map_some, toDs, C.toD, spliceD, appendA, capsOf, srcRows, allLen_nil_iff, allLen_cons_iff, allLen_append_iff, dropC, Obs.fits, eqCs, eqD, mapRow, mapPut, mapVal, mapOne, mapCells]
        refine loop_enter (St.le_tokenC 2 3 4 rfl rfl) ?_
        refine loop_set (σ := Int × List Tm × Int) (fun x => [(6, .c (.d (.int .i64 x.1)))]) (fun x => H.set i (Rd c x.2.2)) (fun x => [.cells [.d (.int .i64 0), .d (.int .i64 0), .d (.str []), .full []], .cells [.d (.int .i64 3), .d (.int .i64 0), .d (.str s), .full []], .cells [.d (.int .i64 3), .d (.int .i64 0), .d (.str s), .own (.l 3) x.2.1.length (x.2.1.map Tm.row)], .grow x.2.1.length 4])
          (fun x => 0 ≤ x.1 ∧ x.1 + x.2.1.length ≤ 3 ∧ p ≤ x.2.2 ∧ x.2.2 + x.1 * M ≤ p + N ∧ ∀ t ∈ x.2.1, t.fits) (fun x => x.1.toNat) (n, [], p3) rfl ⟨hn.1, by simp; omega, by simp; omega, by simp; omega, by simp⟩ ?_
        rintro ⟨m, l, q⟩ ⟨i0, i1, i2, i3, i4⟩
        simp only at i0 i1 i2 i3 i4
        have hmM : 0 ≤ m * M := Int.mul_nonneg i0 hM
        simp -implicitDefEqProofs [setAll, hf0, hsub, aw_skip, aw_region, aw_seq, aw_block, aw_cond, aw_exit, aw_ret, kq_nil, kq_seq, kq_seq_ret, kq_seq_exit, kq_block, kq_block_ret, kq_block_exit, kq_loop, kq_loop_ret, kq_loop_exit, awOps_nil, awOps_cons, awOps_guardE, nx_eq, awOp, ev_k, ev_0, ev_1, ev_2, ev_3, ev_4, ev_5, ev_6, ev_7, ev_8, set_0, set_1, set_2, set_3, set_4, set_5, set_6, set_7, set_8, -List.set_cons_succ, -List.set_cons_zero, A.ok, A.val, setSl, wrapG, guardB, getB, pickA, binA, binC, binD, cmpD, isCmp, unA, unD, lenA, AOp.total, kills, litB, FinQ, resOks, resOk, resA, resList, resOne, A.thaw, C.thaw, A.fits, As.fits, C.fits, evs, oks, callArgs, A.pure, C.pure, A.re, C.re, fieldAddrA, loadC, cut, A.cells, C.rows?, getOb, newOb, setOb, storeC, splice, Ob.re, Cs.fits, partsA, partsOk, parts2A, parts2Ok, fillC, fillRows, optInt, optOk, sliceA, clipC, optK_some, storeK_some, Option.map_some, toDs, C.toD, spliceD, appendA, capsOf, srcRows, allLen_nil_iff, allLen_cons_iff, allLen_append_iff, dropC, Obs.fits, eqCs, eqD, mapRow, mapPut, mapVal, mapOne, mapCells]
        refine ⟨fun hlt => ?_, fun hge => ?_⟩
        · have hm1 : (m - 1) * M = m * M - M := by rw [Int.sub_mul, Int.one_mul]
          have hm2 : 0 ≤ (m - 1) * M := Int.mul_nonneg (by omega) hM
          have hsubm : inR .i64 (m - 1) := small_i64 (by omega) (by omega)
          refine call_drawE (ih (by omega)) hc (by omega) (by omega) hi (by simp [Ob.re, C.re]) (fun r => TmR.re) (hf0 _) ?_
          rintro _ q2 ⟨a, rfl, ha⟩ h11 h12
          refine ⟨LocSame.refl _, ?_⟩
          simp -implicitDefEqProofs [hf0, hsubm, row_len, take_row, toDs_map, aw_skip, aw_region, aw_seq, aw_block, aw_cond, aw_exit, aw_ret, kq_nil, kq_seq, kq_seq_ret, kq_seq_exit, kq_block, kq_block_ret, kq_block_exit, kq_loop, kq_loop_ret, kq_loop_exit, awOps_nil, awOps_cons, awOps_guardE, nx_eq, awOp, ev_k, ev_0, ev_1, ev_2, ev_3, ev_4, ev_5, ev_6, ev_7, ev_8, set_0, set_1, set_2, set_3, set_4, set_5, set_6, set_7, set_8, -List.set_cons_succ, -List.set_cons_zero, A.ok, A.val, setSl, wrapG, guardB, getB, pickA, binA, binC, binD, cmpD, isCmp, unA, unD, lenA, AOp.total, kills, litB, FinQ, resOks, resOk, resA, resList, resOne, A.thaw, C.thaw, A.fits, As.fits, C.fits, evs, oks, callArgs, A.pure, C.pure, A.re, C.re, fieldAddrA, loadC, cut, A.cells, C.rows?, getOb, newOb, setOb, storeC, splice, Ob.re, Cs.fits, partsA, partsOk, parts2A, parts2Ok, fillC, fillRows, optInt, optOk, sliceA, clipC, optK_some, storeK_some, Option.map_some, toDs, C.toD, spliceD, appendA, capsOf, srcRows, allLen_nil_iff, allLen_cons_iff, allLen_append_iff, dropC, Obs.fits, eqCs, eqD, mapRow, mapPut, mapVal, mapOne, mapCells]
          refine ⟨allLen_map row_len, by unfold maxApp; omega, ?_⟩
          refine loop_back (m - 1, l ++ [a], q2) (by simp [setAll]) ⟨by simp; omega, by simp; omega, by simp; omega, by simp; omega, fun t ht => ?_⟩ (by show (m - 1).toNat < m.toNat; omega)
          rcases List.mem_append.1 ht with ht | ht
          · exact i4 t ht
          · simp at ht; subst ht; exact ha
        · exact done (.mk 3 0 s l) q i2 (by omega) (.mk (small_i64 (by omega) (by omega)) (small_i64 (by omega) (by omega)) (by omega) (by omega) i4) _ (by simp [row_mk])
  · skip
    refine call_drawE (pick_draws 4 (by omega)) hc (by omega) (by omega) hi (by simp [Ob.re, C.re]) (fun r => IntIn.re) (hf0 _) ?_
    rintro _ p1 ⟨k, rfl, k0, k1⟩ h3 h4
    simp -implicitDefEqProofs [hf0, aw_skip, aw_region, aw_seq, aw_block, aw_cond, aw_exit, aw_ret, kq_nil, kq_seq, kq_seq_ret, kq_seq_exit, kq_block, kq_block_ret, kq_block_exit, kq_loop, kq_loop_ret, kq_loop_exit, awOps_nil, awOps_cons, awOps_guardE, nx_eq, awOp, ev_k, ev_0, ev_1, ev_2, ev_3, ev_4, ev_5, ev_6, ev_7, ev_8, set_0, set_1, set_2, set_3, set_4, set_5, set_6, set_7, set_8, -List.set_cons_succ, -List.set_cons_zero, A.ok, A.val, setSl, wrapG, guardB, getB, pickA, binA, binC, binD, cmpD, isCmp, unA, unD, lenA, AOp.total, kills, litB, FinQ, resOks, resOk, resA, resList, resOne, A.thaw, C.thaw, A.fits, As.fits, C.fits, evs, oks, callArgs, A.pure, C.pure, A.re, C.re, fieldAddrA, loadC, cut, A.cells, C.rows?, getOb, newOb, setOb, storeC, splice, Ob.re, Cs.fits, partsA, partsOk, parts2A, parts2Ok, fillC, fillRows, optInt, optOk, sliceA, clipC, optK_some, storeK_some, Option.map_some, toDs, C.toD, spliceD, appendA, capsOf, srcRows, allLen_nil_iff, allLen_cons_iff, allLen_append_iff, dropC, Obs.fits, eqCs, eqD, mapRow, mapPut, mapVal, mapOne, mapCells]
    refine ⟨fun _ => ?_, fun _ => ⟨fun _ => ?_, fun _ => ?_⟩⟩
    · refine call_drawE (pick_draws 4 (by omega)) hc (by omega) (by omega) hi (by simp [Ob.re, C.re]) (fun r => IntIn.re) (hf0 _) ?_
      rintro _ p2 ⟨n, rfl, n0, n1⟩ h5 h6
      simp -implicitDefEqProofs [hf0, aw_skip, aw_region, aw_seq, aw_block, aw_cond, aw_exit, aw_ret, kq_nil, kq_seq, kq_seq_ret, kq_seq_exit, kq_block, kq_block_ret, kq_block_exit, kq_loop, kq_loop_ret, kq_loop_exit, awOps_nil, awOps_cons, awOps_guardE, nx_eq, awOp, ev_k, ev_0, ev_1, ev_2, ev_3, ev_4, ev_5, ev_6, ev_7, ev_8, set_0, set_1, set_2, set_3, set_4, set_5, set_6, set_7, set_8, -List.set_cons_succ, -List.set_cons_zero, A.ok, A.val, setSl, wrapG, guardB, getB, pickA, binA, binC, binD, cmpD, isCmp, unA, unD, lenA, AOp.total, kills, litB, FinQ, resOks, resOk, resA, resList, resOne, A.thaw, C.thaw, A.fits, As.fits, C.fits, evs, oks, callArgs, A.pure, C.pure, A.re, C.re, fieldAddrA, loadC, cut, A.cells, C.rows?, getOb, newOb, setOb, storeC, splice, Ob.re, Cs.fits, partsA, partsOk, parts2A, parts2Ok, fillC, fillRows, optInt, optOk, sliceA, clipC, optK_some, storeK_some, Option.map_some, toDs, C.toD, spliceD, appendA, capsOf, srcRows, allLen_nil_iff, allLen_cons_iff, allLen_append_iff, dropC, Obs.fits, eqCs, eqD, mapRow, mapPut, mapVal, mapOne, mapCells]
      refine qcall_pure (var_calls n) (hf1 _) (by simp [A.re, re_d]) ?_
      simp -implicitDefEqProofs [hf0, row_mk, aw_skip, aw_region, aw_seq, aw_block, aw_cond, aw_exit, aw_ret, kq_nil, kq_seq, kq_seq_ret, kq_seq_exit, kq_block, kq_block_ret, kq_block_exit, kq_loop, kq_loop_ret, kq_loop_exit, awOps_nil, awOps_cons, awOps_guardE, nx_eq, awOp, ev_k, ev_0, ev_1, ev_2, ev_3, ev_4, ev_5, ev_6, ev_7, ev_8, set_0, set_1, set_2, set_3, set_4, set_5, set_6, set_7, set_8, -List.set_cons_succ, -List.set_cons_zero, A.ok, A.val, setSl, wrapG, guardB, getB, pickA, binA, binC, binD, cmpD, isCmp, unA, unD, lenA, AOp.total, kills, litB, FinQ, resOks, resOk, resA, resList, resOne, A.thaw, C.thaw, A.fits, As.fits, C.fits, evs, oks, callArgs, A.pure, C.pure, A.re, C.re, fieldAddrA, loadC, cut, A.cells, C.rows?, getOb, newOb, setOb, storeC, splice, Ob.re, Cs.fits, partsA, partsOk, parts2A, parts2Ok, fillC, fillRows, optInt, optOk, sliceA, clipC, optK_some, storeK_some, Option.map_some, toDs, C.toD, spliceD, appendA, capsOf, srcRows, allLen_nil_iff, allLen_cons_iff, allLen_append_iff, dropC, Obs.fits, eqCs, eqD, mapRow, mapPut, mapVal, mapOne, mapCells]
      exact done (.mk 1 n [] []) p2 (by omega) (by omega) (.mk (small_i64 (by omega) (by omega)) (small_i64 (by omega) (by omega)) (by simp) (by simp) (by simp)) _ (by simp [row_mk])
    · refine call_drawE (num_draws [0, 1, 7, -3, 999, -999] (by decide)) hc (by omega) (by omega) hi (by simp [Ob.re, C.re]) (fun r ⟨n, _, hn⟩ => by subst hn; rfl) (hf0 _) ?_
      rintro _ p2 ⟨n, hn, rfl⟩ h5 h6
      have hn : -999 ≤ n ∧ n ≤ 999 := by simp at hn; omega
      simp -implicitDefEqProofs [hf0, aw_skip, aw_region, aw_seq, aw_block, aw_cond, aw_exit, aw_ret, kq_nil, kq_seq, kq_seq_ret, kq_seq_exit, kq_block, kq_block_ret, kq_block_exit, kq_loop, kq_loop_ret, kq_loop_exit, awOps_nil, awOps_cons, awOps_guardE, nx_eq, awOp, ev_k, ev_0, ev_1, ev_2, ev_3, ev_4, ev_5, ev_6, ev_7, ev_8, set_0, set_1, set_2, set_3, set_4, set_5, set_6, set_7, set_8, -List.set_cons_succ, -List.set_cons_zero, A.ok, A.val, setSl, wrapG, guardB, getB, pickA, binA, binC, binD, cmpD, isCmp, unA, unD, lenA, AOp.total, kills, litB, FinQ, resOks, resOk, resA, resList, resOne, A.thaw, C.thaw, A.fits, As.fits, C.fits, evs, oks, callArgs, A.pure, C.pure, A.re, C.re, fieldAddrA, loadC, cut, A.cells, C.rows?, getOb, newOb, setOb, storeC, splice, Ob.re, Cs.fits, partsA, partsOk, parts2A, parts2Ok, fillC, fillRows, optInt, optOk, sliceA, clipC, optK_some, storeK_some, Option.map_some, toDs, C.toD, spliceD, appendA, capsOf, srcRows, allLen_nil_iff, allLen_cons_iff, allLen_append_iff, dropC, Obs.fits, eqCs, eqD, mapRow, mapPut, mapVal, mapOne, mapCells]
      refine qcall_pure (int_calls n) (hf1 _) (by simp [A.re, re_d]) ?_
      simp -implicitDefEqProofs [hf0, row_mk, aw_skip, aw_region, aw_seq, aw_block, aw_cond, aw_exit, aw_ret, kq_nil, kq_seq, kq_seq_ret, kq_seq_exit, kq_block, kq_block_ret, kq_block_exit, kq_loop, kq_loop_ret, kq_loop_exit, awOps_nil, awOps_cons, awOps_guardE, nx_eq, awOp, ev_k, ev_0, ev_1, ev_2, ev_3, ev_4, ev_5, ev_6, ev_7, ev_8, set_0, set_1, set_2, set_3, set_4, set_5, set_6, set_7, set_8, -List.set_cons_succ, -List.set_cons_zero, A.ok, A.val, setSl, wrapG, guardB, getB, pickA, binA, binC, binD, cmpD, isCmp, unA, unD, lenA, AOp.total, kills, litB, FinQ, resOks, resOk, resA, resList, resOne, A.thaw, C.thaw, A.fits, As.fits, C.fits, evs, oks, callArgs, A.pure, C.pure, A.re, C.re, fieldAddrA, loadC, cut, A.cells, C.rows?, getOb, newOb, setOb, storeC, splice, Ob.re, Cs.fits, partsA, partsOk, parts2A, parts2Ok, fillC, fillRows, optInt, optOk, sliceA, clipC, optK_some, storeK_some, Option.map_some, toDs, C.toD, spliceD, appendA, capsOf, srcRows, allLen_nil_iff, allLen_cons_iff, allLen_append_iff, dropC, Obs.fits, eqCs, eqD, mapRow, mapPut, mapVal, mapOne, mapCells]
      exact done (.mk 2 n [] []) p2 (by omega) (by omega) (.mk (small_i64 (by omega) (by omega)) (small_i64 (by omega) (by omega)) (by simp) (by simp) (by simp)) _ (by simp [row_mk])
    · refine call_drawE (of_draws [[97], [98], [110, 105, 108], [91, 93], [102, 111, 111], [43]] (by decide)) hc (by omega) (by omega) hi (by simp [Ob.re, C.re]) (fun r ⟨n, _, hn⟩ => by subst hn; rfl) (hf0 _) ?_
      rintro _ p2 ⟨s, hs, rfl⟩ h5 h6
      have hs : s.length ≤ 3 := by simp at hs; rcases hs with rfl | rfl | rfl | rfl | rfl | rfl <;> decide
      simp -implicitDefEqProofs [hf0, aw_skip, aw_region, aw_seq, aw_block, aw_cond, aw_exit, aw_ret, kq_nil, kq_seq, kq_seq_ret, kq_seq_exit, kq_block, kq_block_ret, kq_block_exit, kq_loop, kq_loop_ret, kq_loop_exit, awOps_nil, awOps_cons, awOps_guardE, nx_eq, awOp, ev_k, ev_0, ev_1, ev_2, ev_3, ev_4, ev_5, ev_6, ev_7, ev_8, set_0, set_1, set_2, set_3, set_4, set_5, set_6, set_7, set_8, -List.set_cons_succ, -List.set_cons_zero, A.ok, A.val, setSl, wrapG, guardB, getB, pickA, binA, binC, binD, cmpD, isCmp, unA, unD, lenA, AOp.total, kills, litB, FinQ, resOks, resOk, resA, resList, resOne, A.thaw, C.thaw, A.fits, As.fits, C.fits, evs, oks, callArgs, A.pure, C.pure, A.re, C.re, fieldAddrA, loadC, cut, A.cells, C.rows?, getOb, newOb, setOb, storeC, splice, Ob.re, Cs.fits, partsA, partsOk, parts2A, parts2Ok, fillC, fillRows, optInt, optOk, sliceA, clipC, optK_some, storeK_some, Option.map_some, toDs, C.toD, spliceD, appendA, capsOf, srcRows, allLen_nil_iff, allLen_cons_iff, allLen_append_iff, dropC, Obs.fits, eqCs, eqD, mapRow, mapPut, mapVal, mapOne, mapCells]
      refine call_new (struct_full s) (by simp [Ob.re, C.re]) (by simp [A.re, C.re]) (hf1 _) (by simp [Ob.re, C.re]) ?_
      simp -implicitDefEqProofs [hf0, aw_skip, aw_region, aw_seq, aw_block, aw_cond, aw_exit, aw_ret, kq_nil, kq_seq, kq_seq_ret, kq_seq_exit, kq_block, kq_block_ret, kq_block_exit, kq_loop, kq_loop_ret, kq_loop_exit, awOps_nil, awOps_cons, awOps_guardE, nx_eq, awOp, ev_k, ev_0, ev_1, ev_2, ev_3, ev_4, ev_5, ev_6, ev_7, ev_8, set_0, set_1, set_2, set_3, set_4, set_5, set_6, set_7, set_8, -List.set_cons_succ, -List.set_cons_zero, A.ok, A.val, setSl, wrapG, guardB, getB, pickA, binA, binC, binD, cmpD, isCmp, unA, unD, lenA, AOp.total, kills, litB, FinQ, resOks, resOk, resA, resList, resOne, A.thaw, C.thaw, A.fits, As.fits, C.fits, evs, oks, callArgs, A.pure, C.pure, A.re, C.re, fieldAddrA, loadC, cut, A.cells, C.rows?, getOb, newOb, setOb, storeC, splice, Ob.re, Cs.fits, partsA, partsOk, parts2A, parts2Ok, fillC, fillRows, optInt, optOk, sliceA, clipC, optK_some, storeK_some, Option.map_some, toDs, C.toD, spliceD, appendA, capsOf, srcRows, allLen_nil_iff, allLen_cons_iff, allLen_append_iff, dropC, Obs.fits, eqCs, eqD, mapRow, mapPut, mapVal, mapOne, mapCells]
      exact done (.mk 3 0 s []) p2 (by omega) (by omega) (.mk (small_i64 (by omega) (by omega)) (small_i64 (by omega) (by omega)) (by omega) (by simp) (by simp)) _ (by simp [row_mk])
theorem l1Draw_draws : ∀ d : Nat, d ≤ 6 → Draws 24 [.c (.d (.int .i64 d))] ((5 * 4 ^ d : Nat) : Int) TmR
  | 0, h => draw_of 0 h 0 _ (by omega) (by decide) (fun h => absurd h (by omega))
  | d + 1, h => by
    refine draw_of (d + 1) h ((5 * 4 ^ d : Nat) : Int) _ (by omega) ?_ fun _ => ?_
    · have : 0 < 4 ^ d := Nat.pos_of_ne_zero (by simp)
      rw [Nat.pow_succ]; omega
    · have := l1Draw_draws d (by omega)
      rw [show (((d + 1 : Nat) : Int) - 1) = (d : Int) by omega]
      exact this
end Go.Proofs.Ytddahocmlbnlfaa
