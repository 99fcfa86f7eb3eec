/-
  The law FnExactQueryValid holds: spec.QueryValid and impl.QueryValid answer alike at all queries.
  Conditions: none.
-/
import Derived.Test.YtnobdfcjnnnfmaaGoals
import Derived.Test.YtnobdfcjnnnfmaaTermTy
open Go Go.AM Go.Proofs
namespace Go.Proofs.Ytnobdfcjnnnfmaa
open Go.ChangeShapes Go.WideShapes Go.ChangeAt Go.RowKit
set_option linter.unusedVariables false
set_option linter.unusedSimpArgs false
set_option maxRecDepth 100000
-- 45 loop.example/prologserver/impl.QueryValid params 1 ntmps 5
def ac45 : Cd := .seq (.region [⟨(some 2), .mv (.k (.c (.d (.bool false)))), none⟩] [2])
  (.seq (.region [⟨(some 3), .mv (.t 0), none⟩,
      ⟨(some 4), .qcall 89 [(.t 3)], none⟩,
      ⟨(some 2), .mv (.t 4), none⟩] [0, 3, 4])
  (.ret))
theorem ac45_ok : cFunc Try.prog [1000089] [(0, [2], []), (1, [0, 3, 4], [])] Try.f45 = some (ac45, [.tmp 2], 5) := by kernel_rfl
-- 43 loop.example/prologserver/spec.QueryValid params 1 ntmps 23
-- loop head live: [0, 3]
def ac43 : Cd := .seq (.region [⟨(some 2), .mv (.k (.c (.d (.bool false)))), none⟩] [2])
  (.seq (.seq (.region [⟨(some 3), .mv (.k (.c (.d (.int .i64 0)))), none⟩] [])
    (.block 0 (.loop (.seq (.seq (.region [⟨(some 4), .mv (.t 3), none⟩,
              ⟨(some 5), .mv (.t 0), none⟩,
              ⟨(some 6), .len 1 (.t 5), none⟩,
              ⟨(some 7), .bin .lss (.t 4) (.t 6), none⟩,
              ⟨(some 8), .mv (.t 7), none⟩,
              ⟨(some 9), .mv (.t 3), some (8, true)⟩,
              ⟨(some 10), .bin .leq (.t 9) (.k (.c (.d (.int .i64 6)))), some (8, true)⟩,
              ⟨(some 11), .pick (.t 8) (.t 10) (.k (.c (.d (.bool false)))), none⟩] [4, 5, 6, 7, 8, 9, 10])
          (.cond (.t 11)
            (.skip)
            (.exit 0)))
        (.seq (.block 1 (.seq (.region [⟨(some 14), .mv (.t 0), none⟩,
                ⟨(some 15), .mv (.t 3), none⟩,
                ⟨(some 16), .indexAddr 4 (.t 14) (.t 15), none⟩,
                ⟨(some 17), .load (some 4) (.t 16), none⟩,
                ⟨(some 18), .qcall 87 [(.t 17)], none⟩,
                ⟨(some 19), .un .not (.t 18), none⟩] [11, 14, 15, 16, 17, 18])
            (.cond (.t 19)
              (.seq (.region [⟨(some 2), .mv (.k (.c (.d (.bool false)))), none⟩] [0, 3, 19])
              (.ret))
              (.skip))))
        (.region [⟨(some 12), .mv (.t 3), none⟩,
          ⟨(some 13), .bin .add (.t 12) (.k (.c (.d (.int .i64 1)))), none⟩,
          ⟨(some 3), .mv (.t 13), none⟩] [2, 12, 13, 19]))))))
  (.seq (.region [⟨(some 20), .mv (.t 0), none⟩,
      ⟨(some 21), .len 1 (.t 20), none⟩,
      ⟨(some 22), .bin .leq (.t 21) (.k (.c (.d (.int .i64 6)))), none⟩,
      ⟨(some 2), .mv (.t 22), none⟩] [0, 20, 21, 22])
  (.ret)))
theorem ac43_ok : cFunc Try.prog [1000087] [(0, [2], []), (1, [], []), (2, [4, 5, 6, 7, 8, 9, 10], []), (4, [11, 14, 15, 16, 17, 18], []), (5, [0, 3, 19], []), (3, [2, 12, 13, 19], []), (6, [0, 20, 21, 22], [])] Try.f43 = some (ac43, [.tmp 2], 23) := by kernel_rfl
-- 10 loop.example/prologserver/laws.FnExactQueryValid params 1 ntmps 27
def ac10 : Cd := .seq (.region [⟨(some 2), .mv (.k (.c (.d (.bool false)))), none⟩] [2])
  (.seq (.region [⟨(some 3), .mv (.k (.c (.d (.int .i64 1048576)))), none⟩] [])
  (.seq (.region [⟨(some 7), .mv (.t 0), none⟩,
      ⟨(some 8), .mv (.t 3), none⟩,
      ⟨(some 9), .call false 42 [(.t 7), (.t 8)], none⟩,
      ⟨(some 3), .mv (.t 9), none⟩] [7, 8, 9])
  (.seq (.seq (.region [⟨(some 10), .mv (.t 3), none⟩,
        ⟨(some 11), .bin .lss (.t 10) (.k (.c (.d (.int .i64 0)))), none⟩] [3, 10])
    (.cond (.t 11)
      (.seq (.region [⟨(some 2), .mv (.k (.c (.d (.bool true)))), none⟩] [0, 11])
      (.ret))
      (.skip)))
  (.seq (.region [⟨(some 12), .mv (.t 0), none⟩,
      ⟨(some 13), .qcall 44 [(.t 12)], none⟩,
      ⟨(some 14), .qcall 43 [(.t 13)], none⟩,
      ⟨(some 4), .mv (.t 14), none⟩] [2, 11, 12, 13, 14])
  (.seq (.region [⟨(some 15), .mv (.t 0), none⟩,
      ⟨(some 16), .qcall 44 [(.t 15)], none⟩,
      ⟨(some 5), .mv (.t 16), none⟩] [15, 16])
  (.seq (.region [⟨(some 17), .mv (.t 5), none⟩,
      ⟨(some 18), .qcall 45 [(.t 17)], none⟩,
      ⟨(some 6), .mv (.t 18), none⟩] [17, 18])
  (.seq (.seq (.region [⟨(some 19), .mv (.t 6), none⟩,
        ⟨(some 20), .mv (.t 4), none⟩,
        ⟨(some 21), .binB true (.t 19) (.t 20), none⟩] [4, 6, 19, 20])
    (.cond (.t 21)
      (.seq (.region [⟨(some 2), .mv (.k (.c (.d (.bool false)))), none⟩] [0, 5, 21])
      (.ret))
      (.skip)))
  (.seq (.seq (.region [⟨(some 22), .mv (.t 5), none⟩,
        ⟨(some 23), .mv (.t 0), none⟩,
        ⟨(some 24), .qcall 44 [(.t 23)], none⟩,
        ⟨(some 25), .qcall 46 [(.t 22), (.t 24)], none⟩,
        ⟨(some 26), .un .not (.t 25), none⟩] [0, 2, 5, 21, 22, 23, 24, 25])
    (.cond (.t 26)
      (.seq (.region [⟨(some 2), .mv (.k (.c (.d (.bool false)))), none⟩] [26])
      (.ret))
      (.skip)))
  (.seq (.region [⟨(some 2), .mv (.k (.c (.d (.bool true)))), none⟩] [26])
  (.ret))))))))))
theorem ac10_ok : cFunc Try.prog [1000043, 1000044, 1000045, 1000046] [(0, [2], []), (1, [], []), (2, [7, 8, 9], []), (3, [3, 10], []), (4, [0, 11], []), (5, [2, 11, 12, 13, 14], []), (6, [15, 16], []), (7, [17, 18], []), (8, [4, 6, 19, 20], []), (9, [0, 5, 21], []), (10, [0, 2, 5, 21, 22, 23, 24, 25], []), (11, [26], []), (12, [26], [])] Try.f10 = some (ac10, [.tmp 2], 27) := by kernel_rfl
theorem qvImpl_calls (l : List Tm) (hl : l.length ≤ 1048576) (h : ∀ t ∈ l, t.fits) (H : Heap) : ACalls Try.prog 45 [.c (.d (.sl (l.map Tm.row)))] H (fun r H' => H' = H ∧ r = .c (.d (.bool (goalsB l)))) := by
  refine acalls Try.func45 (by kernel_rfl) ac45_ok fun hf => ?_
  simp -implicitDefEqProofs [ac45, aw_skip, aw_region, aw_seq, aw_block, aw_cond, aw_exit, aw_ret, kq_nil, kq_seq, kq_seq_ret, kq_seq_exit, kq_block, kq_block_ret, kq_block_exit, kq_loop, kq_loop_ret, kq_loop_exit, awOps_nil, awOps_cons, awOps_guardE, nx_eq, awOp, ev_k, ev_0, ev_1, ev_2, ev_3, ev_4, ev_5, ev_6, ev_7, ev_8, set_0, set_1, set_2, set_3, set_4, set_5, set_6, set_7, set_8, -List.set_cons_succ, -List.set_cons_zero, A.ok, A.val, setSl, wrapG, guardB, getB, pickA, binA, binC, binD, cmpD, isCmp, unA, unD, lenA, AOp.total, kills, litB, FinQ, resOks, resOk, resA, resList, resOne, A.thaw, C.thaw, A.fits, As.fits, C.fits, evs, oks, callArgs, A.pure, C.pure, A.re, C.re, fieldAddrA, loadC, cut, A.cells, C.rows?, getOb, newOb, setOb, storeC, splice, Ob.re, Cs.fits, partsA, partsOk, parts2A, parts2Ok, fillC, fillRows, optInt, optOk, sliceA, optK_some, storeK_some, Option.map_some, toDs, C.toD, spliceD, appendA, capsOf, srcRows, allLen_nil_iff, allLen_cons_iff, allLen_append_iff, dropC, Obs.fits, eqCs, eqD]
  refine qcall_pure (goalsImpl_calls l hl h) hf rfl ?_
  simp -implicitDefEqProofs [aw_skip, aw_region, aw_seq, aw_block, aw_cond, aw_exit, aw_ret, kq_nil, kq_seq, kq_seq_ret, kq_seq_exit, kq_block, kq_block_ret, kq_block_exit, kq_loop, kq_loop_ret, kq_loop_exit, awOps_nil, awOps_cons, awOps_guardE, nx_eq, awOp, ev_k, ev_0, ev_1, ev_2, ev_3, ev_4, ev_5, ev_6, ev_7, ev_8, set_0, set_1, set_2, set_3, set_4, set_5, set_6, set_7, set_8, -List.set_cons_succ, -List.set_cons_zero, A.ok, A.val, setSl, wrapG, guardB, getB, pickA, binA, binC, binD, cmpD, isCmp, unA, unD, lenA, AOp.total, kills, litB, FinQ, resOks, resOk, resA, resList, resOne, A.thaw, C.thaw, A.fits, As.fits, C.fits, evs, oks, callArgs, A.pure, C.pure, A.re, C.re, fieldAddrA, loadC, cut, A.cells, C.rows?, getOb, newOb, setOb, storeC, splice, Ob.re, Cs.fits, partsA, partsOk, parts2A, parts2Ok, fillC, fillRows, optInt, optOk, sliceA, optK_some, storeK_some, Option.map_some, toDs, C.toD, spliceD, appendA, capsOf, srcRows, allLen_nil_iff, allLen_cons_iff, allLen_append_iff, dropC, Obs.fits, eqCs, eqD]
theorem qvSpec_calls (l : List Tm) (hl : l.length ≤ 1048576) (h : ∀ t ∈ l, t.fits) (H : Heap) : ACalls Try.prog 43 [.c (.d (.sl (l.map Tm.row)))] H (fun r H' => H' = H ∧ r = .c (.d (.bool (goalsB l)))) := by
  refine acalls Try.func43 (by kernel_rfl) ac43_ok fun hf => ?_
  have hli : inR .i64 (l.length : Int) := small_i64 (by omega) (by omega)
  simp -implicitDefEqProofs [ac43, hli, aw_skip, aw_region, aw_seq, aw_block, aw_cond, aw_exit, aw_ret, kq_nil, kq_seq, kq_seq_ret, kq_seq_exit, kq_block, kq_block_ret, kq_block_exit, kq_loop, kq_loop_ret, kq_loop_exit, awOps_nil, awOps_cons, awOps_guardE, nx_eq, awOp, ev_k, ev_0, ev_1, ev_2, ev_3, ev_4, ev_5, ev_6, ev_7, ev_8, set_0, set_1, set_2, set_3, set_4, set_5, set_6, set_7, set_8, -List.set_cons_succ, -List.set_cons_zero, A.ok, A.val, setSl, wrapG, guardB, getB, pickA, binA, binC, binD, cmpD, isCmp, unA, unD, lenA, AOp.total, kills, litB, FinQ, resOks, resOk, resA, resList, resOne, A.thaw, C.thaw, A.fits, As.fits, C.fits, evs, oks, callArgs, A.pure, C.pure, A.re, C.re, fieldAddrA, loadC, cut, A.cells, C.rows?, getOb, newOb, setOb, storeC, splice, Ob.re, Cs.fits, partsA, partsOk, parts2A, parts2Ok, fillC, fillRows, optInt, optOk, sliceA, optK_some, storeK_some, Option.map_some, toDs, C.toD, spliceD, appendA, capsOf, srcRows, allLen_nil_iff, allLen_cons_iff, allLen_append_iff, dropC, Obs.fits, eqCs, eqD]
  refine loop_set (σ := Nat) (fun i => [(3, .c (.d (.int .i64 i)))]) (fun _ => H) (fun _ => []) (fun i => i ≤ l.length ∧ ∀ t ∈ l.take i, t.goal = true) (fun i => l.length - i) 0 rfl ⟨Nat.zero_le _, by simp⟩ ?_
  rintro i ⟨hi, hall⟩
  by_cases hlt : i < l.length
  · by_cases hi6 : i ≤ 6
    · have hi6' : (i : Int) ≤ 6 := by omega
      simp -implicitDefEqProofs [setAll, hli, hlt, hi6, hi6', aw_skip, aw_region, aw_seq, aw_block, aw_cond, aw_exit, aw_ret, kq_nil, kq_seq, kq_seq_ret, kq_seq_exit, kq_block, kq_block_ret, kq_block_exit, kq_loop, kq_loop_ret, kq_loop_exit, awOps_nil, awOps_cons, awOps_guardE, nx_eq, awOp, ev_k, ev_0, ev_1, ev_2, ev_3, ev_4, ev_5, ev_6, ev_7, ev_8, set_0, set_1, set_2, set_3, set_4, set_5, set_6, set_7, set_8, -List.set_cons_succ, -List.set_cons_zero, A.ok, A.val, setSl, wrapG, guardB, getB, pickA, binA, binC, binD, cmpD, isCmp, unA, unD, lenA, AOp.total, kills, litB, FinQ, resOks, resOk, resA, resList, resOne, A.thaw, C.thaw, A.fits, As.fits, C.fits, evs, oks, callArgs, A.pure, C.pure, A.re, C.re, fieldAddrA, loadC, cut, A.cells, C.rows?, getOb, newOb, setOb, storeC, splice, Ob.re, Cs.fits, partsA, partsOk, parts2A, parts2Ok, fillC, fillRows, optInt, optOk, sliceA, optK_some, storeK_some, Option.map_some, toDs, C.toD, spliceD, appendA, capsOf, srcRows, allLen_nil_iff, allLen_cons_iff, allLen_append_iff, dropC, Obs.fits, eqCs, eqD]
      refine row_of hlt (row_len _) ?_
      simp -implicitDefEqProofs [row_len, take_row, pure_d, re_d, aw_skip, aw_region, aw_seq, aw_block, aw_cond, aw_exit, aw_ret, kq_nil, kq_seq, kq_seq_ret, kq_seq_exit, kq_block, kq_block_ret, kq_block_exit, kq_loop, kq_loop_ret, kq_loop_exit, awOps_nil, awOps_cons, awOps_guardE, nx_eq, awOp, ev_k, ev_0, ev_1, ev_2, ev_3, ev_4, ev_5, ev_6, ev_7, ev_8, set_0, set_1, set_2, set_3, set_4, set_5, set_6, set_7, set_8, -List.set_cons_succ, -List.set_cons_zero, A.ok, A.val, setSl, wrapG, guardB, getB, pickA, binA, binC, binD, cmpD, isCmp, unA, unD, lenA, AOp.total, kills, litB, FinQ, resOks, resOk, resA, resList, resOne, A.thaw, C.thaw, A.fits, As.fits, C.fits, evs, oks, callArgs, A.pure, C.pure, A.re, C.re, fieldAddrA, loadC, cut, A.cells, C.rows?, getOb, newOb, setOb, storeC, splice, Ob.re, Cs.fits, partsA, partsOk, parts2A, parts2Ok, fillC, fillRows, optInt, optOk, sliceA, optK_some, storeK_some, Option.map_some, toDs, C.toD, spliceD, appendA, capsOf, srcRows, allLen_nil_iff, allLen_cons_iff, allLen_append_iff, dropC, Obs.fits, eqCs, eqD]
      refine qcall_pure (goalSpec_calls l[i] (h _ (List.getElem_mem hlt))) hf rfl ?_
      have hadd : inR .i64 ((i : Int) + 1) := small_i64 (by omega) (by omega)
      simp -implicitDefEqProofs [hadd, aw_skip, aw_region, aw_seq, aw_block, aw_cond, aw_exit, aw_ret, kq_nil, kq_seq, kq_seq_ret, kq_seq_exit, kq_block, kq_block_ret, kq_block_exit, kq_loop, kq_loop_ret, kq_loop_exit, awOps_nil, awOps_cons, awOps_guardE, nx_eq, awOp, ev_k, ev_0, ev_1, ev_2, ev_3, ev_4, ev_5, ev_6, ev_7, ev_8, set_0, set_1, set_2, set_3, set_4, set_5, set_6, set_7, set_8, -List.set_cons_succ, -List.set_cons_zero, A.ok, A.val, setSl, wrapG, guardB, getB, pickA, binA, binC, binD, cmpD, isCmp, unA, unD, lenA, AOp.total, kills, litB, FinQ, resOks, resOk, resA, resList, resOne, A.thaw, C.thaw, A.fits, As.fits, C.fits, evs, oks, callArgs, A.pure, C.pure, A.re, C.re, fieldAddrA, loadC, cut, A.cells, C.rows?, getOb, newOb, setOb, storeC, splice, Ob.re, Cs.fits, partsA, partsOk, parts2A, parts2Ok, fillC, fillRows, optInt, optOk, sliceA, optK_some, storeK_some, Option.map_some, toDs, C.toD, spliceD, appendA, capsOf, srcRows, allLen_nil_iff, allLen_cons_iff, allLen_append_iff, dropC, Obs.fits, eqCs, eqD]
      refine ⟨fun hg => ?_, fun hg => loop_back (i + 1) (by simp [setAll]) ⟨hlt, goal_take hlt hall hg⟩ (by show l.length - (i + 1) < l.length - i; omega)⟩
      have : l.all Tm.goal = false := by
        rw [List.all_eq_false]
        exact ⟨l[i], List.getElem_mem hlt, by simp [hg]⟩
      simp [goalsB, this]
    · have hl6 : ¬ l.length ≤ 6 := by omega
      have hl6' : ¬ (l.length : Int) ≤ 6 := by omega
      have hi6' : ¬ (i : Int) ≤ 6 := by omega
      simp -implicitDefEqProofs [setAll, hli, hlt, hi6, hi6', hl6, hl6', goalsB, aw_skip, aw_region, aw_seq, aw_block, aw_cond, aw_exit, aw_ret, kq_nil, kq_seq, kq_seq_ret, kq_seq_exit, kq_block, kq_block_ret, kq_block_exit, kq_loop, kq_loop_ret, kq_loop_exit, awOps_nil, awOps_cons, awOps_guardE, nx_eq, awOp, ev_k, ev_0, ev_1, ev_2, ev_3, ev_4, ev_5, ev_6, ev_7, ev_8, set_0, set_1, set_2, set_3, set_4, set_5, set_6, set_7, set_8, -List.set_cons_succ, -List.set_cons_zero, A.ok, A.val, setSl, wrapG, guardB, getB, pickA, binA, binC, binD, cmpD, isCmp, unA, unD, lenA, AOp.total, kills, litB, FinQ, resOks, resOk, resA, resList, resOne, A.thaw, C.thaw, A.fits, As.fits, C.fits, evs, oks, callArgs, A.pure, C.pure, A.re, C.re, fieldAddrA, loadC, cut, A.cells, C.rows?, getOb, newOb, setOb, storeC, splice, Ob.re, Cs.fits, partsA, partsOk, parts2A, parts2Ok, fillC, fillRows, optInt, optOk, sliceA, optK_some, storeK_some, Option.map_some, toDs, C.toD, spliceD, appendA, capsOf, srcRows, allLen_nil_iff, allLen_cons_iff, allLen_append_iff, dropC, Obs.fits, eqCs, eqD]
  · have hil : i = l.length := by omega
    subst hil
    rw [List.take_length] at hall
    have hal : l.all Tm.goal = true := List.all_eq_true.2 hall
    simp -implicitDefEqProofs [setAll, hli, goalsB, hal, aw_skip, aw_region, aw_seq, aw_block, aw_cond, aw_exit, aw_ret, kq_nil, kq_seq, kq_seq_ret, kq_seq_exit, kq_block, kq_block_ret, kq_block_exit, kq_loop, kq_loop_ret, kq_loop_exit, awOps_nil, awOps_cons, awOps_guardE, nx_eq, awOp, ev_k, ev_0, ev_1, ev_2, ev_3, ev_4, ev_5, ev_6, ev_7, ev_8, set_0, set_1, set_2, set_3, set_4, set_5, set_6, set_7, set_8, -List.set_cons_succ, -List.set_cons_zero, A.ok, A.val, setSl, wrapG, guardB, getB, pickA, binA, binC, binD, cmpD, isCmp, unA, unD, lenA, AOp.total, kills, litB, FinQ, resOks, resOk, resA, resList, resOne, A.thaw, C.thaw, A.fits, As.fits, C.fits, evs, oks, callArgs, A.pure, C.pure, A.re, C.re, fieldAddrA, loadC, cut, A.cells, C.rows?, getOb, newOb, setOb, storeC, splice, Ob.re, Cs.fits, partsA, partsOk, parts2A, parts2Ok, fillC, fillRows, optInt, optOk, sliceA, optK_some, storeK_some, Option.map_some, toDs, C.toD, spliceD, appendA, capsOf, srcRows, allLen_nil_iff, allLen_cons_iff, allLen_append_iff, dropC, Obs.fits, eqCs, eqD]
    all_goals omega
theorem qvLaw_calls (l : List Tm) (hl : l.length ≤ reachBytes) (h : ∀ t ∈ l, t.fine) :
    ACalls Try.prog 10 [.c (.d (.sl (l.map Tm.row)))] [] (fun r _ => r = .c (.d (.bool true))) := by
  refine acalls Try.func10 (by kernel_rfl) ac10_ok fun hf => ?_
  simp -implicitDefEqProofs [ac10, aw_skip, aw_region, aw_seq, aw_block, aw_cond, aw_exit, aw_ret, kq_nil, kq_seq, kq_seq_ret, kq_seq_exit, kq_block, kq_block_ret, kq_block_exit, kq_loop, kq_loop_ret, kq_loop_exit, awOps_nil, awOps_cons, awOps_guardE, nx_eq, awOp, ev_k, ev_0, ev_1, ev_2, ev_3, ev_4, ev_5, ev_6, ev_7, ev_8, set_0, set_1, set_2, set_3, set_4, set_5, set_6, set_7, set_8, -List.set_cons_succ, -List.set_cons_zero, A.ok, A.val, setSl, wrapG, guardB, getB, pickA, binA, binC, binD, cmpD, isCmp, unA, unD, lenA, AOp.total, kills, litB, FinQ, resOks, resOk, resA, resList, resOne, A.thaw, C.thaw, A.fits, As.fits, C.fits, evs, oks, callArgs, A.pure, C.pure, A.re, C.re, fieldAddrA, loadC, cut, A.cells, C.rows?, getOb, newOb, setOb, storeC, splice, Ob.re, Cs.fits, partsA, partsOk, parts2A, parts2Ok, fillC, fillRows, optInt, optOk, sliceA, optK_some, storeK_some, Option.map_some, toDs, C.toD, spliceD, appendA, capsOf, srcRows, allLen_nil_iff, allLen_cons_iff, allLen_append_iff, dropC, Obs.fits, eqCs, eqD]
  refine call_some (szTermS_calls l hl h 1048576 (by omega) (by omega) _) (by simp [Ob.re, C.re]) (fun r => Left.re) hf ?_
  rintro _ ⟨q, rfl, hq0, hq1, hq2⟩
  simp -implicitDefEqProofs [aw_skip, aw_region, aw_seq, aw_block, aw_cond, aw_exit, aw_ret, kq_nil, kq_seq, kq_seq_ret, kq_seq_exit, kq_block, kq_block_ret, kq_block_exit, kq_loop, kq_loop_ret, kq_loop_exit, awOps_nil, awOps_cons, awOps_guardE, nx_eq, awOp, ev_k, ev_0, ev_1, ev_2, ev_3, ev_4, ev_5, ev_6, ev_7, ev_8, set_0, set_1, set_2, set_3, set_4, set_5, set_6, set_7, set_8, -List.set_cons_succ, -List.set_cons_zero, A.ok, A.val, setSl, wrapG, guardB, getB, pickA, binA, binC, binD, cmpD, isCmp, unA, unD, lenA, AOp.total, kills, litB, FinQ, resOks, resOk, resA, resList, resOne, A.thaw, C.thaw, A.fits, As.fits, C.fits, evs, oks, callArgs, A.pure, C.pure, A.re, C.re, fieldAddrA, loadC, cut, A.cells, C.rows?, getOb, newOb, setOb, storeC, splice, Ob.re, Cs.fits, partsA, partsOk, parts2A, parts2Ok, fillC, fillRows, optInt, optOk, sliceA, optK_some, storeK_some, Option.map_some, toDs, C.toD, spliceD, appendA, capsOf, srcRows, allLen_nil_iff, allLen_cons_iff, allLen_append_iff, dropC, Obs.fits, eqCs, eqD]
  intro hq
  obtain ⟨h1, h2⟩ := hq2 hq
  refine qcall_pure (toTermS_calls l h1 h2) hf rfl ?_
  simp -implicitDefEqProofs [aw_skip, aw_region, aw_seq, aw_block, aw_cond, aw_exit, aw_ret, kq_nil, kq_seq, kq_seq_ret, kq_seq_exit, kq_block, kq_block_ret, kq_block_exit, kq_loop, kq_loop_ret, kq_loop_exit, awOps_nil, awOps_cons, awOps_guardE, nx_eq, awOp, ev_k, ev_0, ev_1, ev_2, ev_3, ev_4, ev_5, ev_6, ev_7, ev_8, set_0, set_1, set_2, set_3, set_4, set_5, set_6, set_7, set_8, -List.set_cons_succ, -List.set_cons_zero, A.ok, A.val, setSl, wrapG, guardB, getB, pickA, binA, binC, binD, cmpD, isCmp, unA, unD, lenA, AOp.total, kills, litB, FinQ, resOks, resOk, resA, resList, resOne, A.thaw, C.thaw, A.fits, As.fits, C.fits, evs, oks, callArgs, A.pure, C.pure, A.re, C.re, fieldAddrA, loadC, cut, A.cells, C.rows?, getOb, newOb, setOb, storeC, splice, Ob.re, Cs.fits, partsA, partsOk, parts2A, parts2Ok, fillC, fillRows, optInt, optOk, sliceA, optK_some, storeK_some, Option.map_some, toDs, C.toD, spliceD, appendA, capsOf, srcRows, allLen_nil_iff, allLen_cons_iff, allLen_append_iff, dropC, Obs.fits, eqCs, eqD]
  refine qcall_pure (qvSpec_calls l h1 h2) hf rfl ?_
  simp -implicitDefEqProofs [aw_skip, aw_region, aw_seq, aw_block, aw_cond, aw_exit, aw_ret, kq_nil, kq_seq, kq_seq_ret, kq_seq_exit, kq_block, kq_block_ret, kq_block_exit, kq_loop, kq_loop_ret, kq_loop_exit, awOps_nil, awOps_cons, awOps_guardE, nx_eq, awOp, ev_k, ev_0, ev_1, ev_2, ev_3, ev_4, ev_5, ev_6, ev_7, ev_8, set_0, set_1, set_2, set_3, set_4, set_5, set_6, set_7, set_8, -List.set_cons_succ, -List.set_cons_zero, A.ok, A.val, setSl, wrapG, guardB, getB, pickA, binA, binC, binD, cmpD, isCmp, unA, unD, lenA, AOp.total, kills, litB, FinQ, resOks, resOk, resA, resList, resOne, A.thaw, C.thaw, A.fits, As.fits, C.fits, evs, oks, callArgs, A.pure, C.pure, A.re, C.re, fieldAddrA, loadC, cut, A.cells, C.rows?, getOb, newOb, setOb, storeC, splice, Ob.re, Cs.fits, partsA, partsOk, parts2A, parts2Ok, fillC, fillRows, optInt, optOk, sliceA, optK_some, storeK_some, Option.map_some, toDs, C.toD, spliceD, appendA, capsOf, srcRows, allLen_nil_iff, allLen_cons_iff, allLen_append_iff, dropC, Obs.fits, eqCs, eqD]
  refine qcall_pure (toTermS_calls l h1 h2) hf rfl ?_
  simp -implicitDefEqProofs [aw_skip, aw_region, aw_seq, aw_block, aw_cond, aw_exit, aw_ret, kq_nil, kq_seq, kq_seq_ret, kq_seq_exit, kq_block, kq_block_ret, kq_block_exit, kq_loop, kq_loop_ret, kq_loop_exit, awOps_nil, awOps_cons, awOps_guardE, nx_eq, awOp, ev_k, ev_0, ev_1, ev_2, ev_3, ev_4, ev_5, ev_6, ev_7, ev_8, set_0, set_1, set_2, set_3, set_4, set_5, set_6, set_7, set_8, -List.set_cons_succ, -List.set_cons_zero, A.ok, A.val, setSl, wrapG, guardB, getB, pickA, binA, binC, binD, cmpD, isCmp, unA, unD, lenA, AOp.total, kills, litB, FinQ, resOks, resOk, resA, resList, resOne, A.thaw, C.thaw, A.fits, As.fits, C.fits, evs, oks, callArgs, A.pure, C.pure, A.re, C.re, fieldAddrA, loadC, cut, A.cells, C.rows?, getOb, newOb, setOb, storeC, splice, Ob.re, Cs.fits, partsA, partsOk, parts2A, parts2Ok, fillC, fillRows, optInt, optOk, sliceA, optK_some, storeK_some, Option.map_some, toDs, C.toD, spliceD, appendA, capsOf, srcRows, allLen_nil_iff, allLen_cons_iff, allLen_append_iff, dropC, Obs.fits, eqCs, eqD]
  refine qcall_pure (qvImpl_calls l h1 h2) hf rfl ?_
  simp -implicitDefEqProofs [aw_skip, aw_region, aw_seq, aw_block, aw_cond, aw_exit, aw_ret, kq_nil, kq_seq, kq_seq_ret, kq_seq_exit, kq_block, kq_block_ret, kq_block_exit, kq_loop, kq_loop_ret, kq_loop_exit, awOps_nil, awOps_cons, awOps_guardE, nx_eq, awOp, ev_k, ev_0, ev_1, ev_2, ev_3, ev_4, ev_5, ev_6, ev_7, ev_8, set_0, set_1, set_2, set_3, set_4, set_5, set_6, set_7, set_8, -List.set_cons_succ, -List.set_cons_zero, A.ok, A.val, setSl, wrapG, guardB, getB, pickA, binA, binC, binD, cmpD, isCmp, unA, unD, lenA, AOp.total, kills, litB, FinQ, resOks, resOk, resA, resList, resOne, A.thaw, C.thaw, A.fits, As.fits, C.fits, evs, oks, callArgs, A.pure, C.pure, A.re, C.re, fieldAddrA, loadC, cut, A.cells, C.rows?, getOb, newOb, setOb, storeC, splice, Ob.re, Cs.fits, partsA, partsOk, parts2A, parts2Ok, fillC, fillRows, optInt, optOk, sliceA, optK_some, storeK_some, Option.map_some, toDs, C.toD, spliceD, appendA, capsOf, srcRows, allLen_nil_iff, allLen_cons_iff, allLen_append_iff, dropC, Obs.fits, eqCs, eqD]
  refine qcall_pure (toTermS_calls l h1 h2) hf rfl ?_
  simp -implicitDefEqProofs [aw_skip, aw_region, aw_seq, aw_block, aw_cond, aw_exit, aw_ret, kq_nil, kq_seq, kq_seq_ret, kq_seq_exit, kq_block, kq_block_ret, kq_block_exit, kq_loop, kq_loop_ret, kq_loop_exit, awOps_nil, awOps_cons, awOps_guardE, nx_eq, awOp, ev_k, ev_0, ev_1, ev_2, ev_3, ev_4, ev_5, ev_6, ev_7, ev_8, set_0, set_1, set_2, set_3, set_4, set_5, set_6, set_7, set_8, -List.set_cons_succ, -List.set_cons_zero, A.ok, A.val, setSl, wrapG, guardB, getB, pickA, binA, binC, binD, cmpD, isCmp, unA, unD, lenA, AOp.total, kills, litB, FinQ, resOks, resOk, resA, resList, resOne, A.thaw, C.thaw, A.fits, As.fits, C.fits, evs, oks, callArgs, A.pure, C.pure, A.re, C.re, fieldAddrA, loadC, cut, A.cells, C.rows?, getOb, newOb, setOb, storeC, splice, Ob.re, Cs.fits, partsA, partsOk, parts2A, parts2Ok, fillC, fillRows, optInt, optOk, sliceA, optK_some, storeK_some, Option.map_some, toDs, C.toD, spliceD, appendA, capsOf, srcRows, allLen_nil_iff, allLen_cons_iff, allLen_append_iff, dropC, Obs.fits, eqCs, eqD]
  refine qcall_pure (eqTermS_calls l h1 h2) hf rfl ?_
  simp -implicitDefEqProofs [aw_skip, aw_region, aw_seq, aw_block, aw_cond, aw_exit, aw_ret, kq_nil, kq_seq, kq_seq_ret, kq_seq_exit, kq_block, kq_block_ret, kq_block_exit, kq_loop, kq_loop_ret, kq_loop_exit, awOps_nil, awOps_cons, awOps_guardE, nx_eq, awOp, ev_k, ev_0, ev_1, ev_2, ev_3, ev_4, ev_5, ev_6, ev_7, ev_8, set_0, set_1, set_2, set_3, set_4, set_5, set_6, set_7, set_8, -List.set_cons_succ, -List.set_cons_zero, A.ok, A.val, setSl, wrapG, guardB, getB, pickA, binA, binC, binD, cmpD, isCmp, unA, unD, lenA, AOp.total, kills, litB, FinQ, resOks, resOk, resA, resList, resOne, A.thaw, C.thaw, A.fits, As.fits, C.fits, evs, oks, callArgs, A.pure, C.pure, A.re, C.re, fieldAddrA, loadC, cut, A.cells, C.rows?, getOb, newOb, setOb, storeC, splice, Ob.re, Cs.fits, partsA, partsOk, parts2A, parts2Ok, fillC, fillRows, optInt, optOk, sliceA, optK_some, storeK_some, Option.map_some, toDs, C.toD, spliceD, appendA, capsOf, srcRows, allLen_nil_iff, allLen_cons_iff, allLen_append_iff, dropC, Obs.fits, eqCs, eqD]
theorem law_run10 (rows : List (List D)) (hr : HasTys Try.prog (#[33] : Array TypeId).toList rows) : ACalls Try.prog 10 (argsA Try.prog (#[33] : Array TypeId).toList rows) [] (fun r _ => r = .c (.d (.bool true))) := by
  obtain ⟨r, rs, rfl, h1, h2⟩ := hr.cons
  obtain rfl := h2.nil
  obtain ⟨l, rfl, hl, hfine⟩ := tms_ty h1
  simp only [argsA, argA, Try.underlying33, List.headD_cons]
  exact qvLaw_calls l hl hfine
namespace fnExactQueryValid
theorem own : ownKnob Try.prog.godebug = none := by kernel_rfl
theorem contract (H : Type) (enc : TypeId × Value → H) (W : World) (base : Nat) (args : Array Value) (ds gs : List (DataW H)) (before : List MemPlace)
    (hval : ∀ (j : Nat) t v, Try.f10.params[j]? = some t → args[j]? = some v → Value.okWide Try.prog W .any base t v)
    (hW : DataW.Whole enc Try.prog Try.f10.params.toList Rows.fnExactQueryValidSpec.vars false W args.toList ds gs before)
    (hw : (DataW.weightsEach Try.prog (Try.f10.params.toList ++ Rows.fnExactQueryValidSpec.plain.varTypes Try.prog) (ds ++ gs)).all (· ≤ reachBytes) = true) :
    Calls Try.prog 10 args W fun e W' => ∃ v, e = .returned v ∧ Rows.fnExactQueryValidSpec.post enc Try.prog Try.f10 false true false false W args v W' := by
  refine law_contract (L := [3, 9, 105, 33]) (tb := 4) (by kernel_rfl) (by kernel_rfl) (by kernel_rfl) rfl ?_ (by kernel_rfl) Try.underlying4 ?_ W base args ds gs before hval hW hw
  · intro ds hl
    match ds, hl with
    | [d0], _ => rfl
  · intro rows hr
    rw [Try.params10] at hr ⊢
    exact law_run10 rows hr

theorem lifted (os : Os) (started : os.Started) (H : Type) (enc : TypeId × Value → H) :
    ReturnsInHanded {} Try.checked os 10 .any (Rows.fnExactQueryValidSpec.pre6 enc Try.prog Try.f10 Rows.fnExactQueryValidRow.domain false) (Rows.fnExactQueryValidSpec.post enc Try.prog Try.f10 false true false false) := by
  refine returnsInHanded_of_change_sized (C := Try.checked) own started (by kernel_rfl) Try.func10
    (ChangeSpec.witness6 (enc := enc) (C := Try.checked) false ⟨#[], #[.slice none 0 0], []⟩ 8 (by kernel_rfl) (by kernel_rfl) (by kernel_rfl) (by kernel_rfl)) ?_
  intro W base args ds gs before hval hW _ hw _
  exact contract H enc W base args ds gs before hval hW hw

theorem proved : Rows.FnExactQueryValidSaid :=
  OpenClaim.holds_of_wide 10 Try.f10 rfl rfl rfl rfl rfl rfl rfl ⟨rfl, rfl, rfl, rfl, rfl⟩ rfl rfl rfl rfl rfl (by kernel_rfl) Try.func10 (by kernel_rfl)
    (of_decide_eq_true (by kernel_rfl)) (by unfold Func.isWrapper; first | (rw [if_pos (by decide +kernel)]; kernel_rfl) | (rw [if_neg (by decide +kernel)]; exact ⟨rfl, rfl⟩))
    (fun os started H enc _ => lifted os started H enc)
end fnExactQueryValid

end Go.Proofs.Ytnobdfcjnnnfmaa
