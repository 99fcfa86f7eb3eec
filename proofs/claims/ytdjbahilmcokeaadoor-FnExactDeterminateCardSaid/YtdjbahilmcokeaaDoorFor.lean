/-
  The clauses for a goal.
  Conditions: none.
-/
import Derived.Test.YtdjbahilmcokeaaDoorProgs
open Go Go.AM Go.Proofs
namespace Go.Proofs.YtdjbahilmcokeaaDoor
open Go.ChangeShapes Go.WideShapes Go.ChangeAt Go.RowKit
set_option linter.unusedVariables false
set_option linter.unusedSimpArgs false
set_option maxRecDepth 100000
-- 81 loop.example/prologserver/impl.pred params 1 ntmps 9
def ac81 : Cd := .seq (.region [⟨(some 1), .box (.t 0), none⟩,
      ⟨(some 2), .alloc [(.d (.str [])), (.d (.int .i64 0))], none⟩] [0])
  (.seq (.region [⟨(some 3), .fieldAddr 2 (.t 1), none⟩,
      ⟨(some 4), .load none (.t 3), none⟩,
      ⟨(some 5), .fieldAddr 3 (.t 1), none⟩,
      ⟨(some 6), .load none (.t 5), none⟩,
      ⟨(some 7), .len 1 (.t 6), none⟩,
      ⟨(some 8), .build [(.d (.str [])), (.d (.int .i64 0))] [(0, 1, (.t 4)), (1, 1, (.t 7))], none⟩,
      ⟨none, .store 2 (.t 2) (.t 8), none⟩] [1, 3, 4, 5, 6, 7, 8])
  (.ret))
theorem ac81_ok : cFunc Tryd.prog [] [(0, [0], []), (1, [1, 3, 4, 5, 6, 7, 8], [])] Tryd.f81 = some (ac81, [.cell 2 (some 2)], 9) := by kernel_rfl
-- 58 loop.example/prologserver/impl.clausesFor params 2 ntmps 26
-- loop head live: [3, 5, 8, 9, 10]
def ac58 : Cd := .seq (.region [⟨(some 3), .box (.t 1), none⟩,
      ⟨(some 4), .mv (.k (.c (.full []))), none⟩] [1, 4])
  (.seq (.region [⟨(some 5), .mv (.k (.c (.full []))), none⟩] [])
  (.seq (.seq (.region [⟨(some 8), .mv (.t 0), none⟩,
        ⟨(some 9), .len 1 (.t 8), none⟩,
        ⟨(some 10), .mv (.k (.c (.d (.int .i64 0)))), none⟩] [0])
    (.block 0 (.loop (.seq (.region [⟨(some 11), .bin .lss (.t 10) (.t 9), none⟩] [])
        (.seq (.cond (.t 11)
            (.skip)
            (.exit 0))
        (.seq (.block 1 (.seq (.region [⟨(some 12), .mv (.t 10), none⟩,
                ⟨(some 13), .indexAddr 5 (.t 8) (.t 10), none⟩,
                ⟨(some 14), .load (some 5) (.t 13), none⟩,
                ⟨(some 7), .alloc [(.d (.int .i64 0)), (.d (.int .i64 0)), (.d (.str [])), (.full []), (.full [])], none⟩,
                ⟨(some 6), .mv (.t 12), none⟩,
                ⟨none, .store 5 (.t 7) (.t 14), none⟩] [11, 12, 13, 14])
            (.seq (.region [⟨(some 15), .fieldAddr 0 (.t 7), none⟩,
                ⟨(some 16), .load (some 4) (.t 15), none⟩,
                ⟨(some 17), .qcall 81 [(.t 16)], none⟩,
                ⟨(some 18), .load (some 2) (.t 3), none⟩,
                ⟨(some 19), .eqAgg false [.str, .int] (.t 17) (.t 18), none⟩] [7, 15, 16, 17, 18])
            (.cond (.t 19)
              (.region [⟨(some 20), .mv (.t 5), none⟩,
                ⟨(some 21), .mv (.t 6), none⟩,
                ⟨(some 22), .buildSlice 1 1 [(.int .i64 0)] [(0, (.t 21))], none⟩,
                ⟨(some 23), .append false 1 (.t 20) (.t 22), none⟩,
                ⟨(some 5), .mv (.t 23), none⟩] [6, 19, 20, 21, 22, 23])
              (.skip)))))
        (.region [⟨(some 24), .bin .add (.t 10) (.k (.c (.d (.int .i64 1)))), none⟩,
          ⟨(some 10), .mv (.t 24), none⟩] [6, 19, 24])))))))
  (.seq (.region [⟨(some 25), .mv (.t 5), none⟩,
      ⟨(some 4), .mv (.t 25), none⟩] [5, 25])
  (.ret))))
theorem ac58_ok : cFunc Tryd.prog [1000081] [(0, [1, 4], []), (1, [], []), (2, [0], []), (3, [], []), (4, [11, 12, 13, 14], []), (5, [7, 15, 16, 17, 18], [0, 1, 2, 3, 4]), (6, [6, 19, 20, 21, 22, 23], []), (7, [6, 19, 24], []), (8, [5, 25], [])] Tryd.f58 = some (ac58, [.tmp 4], 26) := by kernel_rfl
-- 54 loop.example/prologserver/spec.l4For params 2 ntmps 41
-- loop head live: [0, 3, 5, 6]
def ac54 : Cd := .seq (.region [⟨(some 3), .box (.t 1), none⟩,
      ⟨(some 4), .mv (.k (.c (.full []))), none⟩] [1, 4])
  (.seq (.region [⟨(some 7), .buildSlice 1 0 [(.int .i64 0)] [], none⟩,
      ⟨(some 5), .mv (.t 7), none⟩] [7])
  (.seq (.seq (.region [⟨(some 6), .mv (.k (.c (.d (.int .i64 0)))), none⟩] [])
    (.block 0 (.loop (.seq (.seq (.region [⟨(some 8), .mv (.t 6), none⟩,
              ⟨(some 9), .mv (.t 0), none⟩,
              ⟨(some 10), .len 1 (.t 9), none⟩,
              ⟨(some 11), .bin .lss (.t 8) (.t 10), none⟩] [8, 9, 10])
          (.cond (.t 11)
            (.skip)
            (.exit 0)))
        (.seq (.block 1 (.seq (.region [⟨(some 14), .mv (.t 0), none⟩,
                ⟨(some 15), .mv (.t 6), none⟩,
                ⟨(some 16), .indexAddr 5 (.t 14) (.t 15), none⟩,
                ⟨(some 17), .fieldAddr 0 (.t 16), none⟩,
                ⟨(some 18), .fieldAddr 2 (.t 17), none⟩,
                ⟨(some 20), .fieldAddr 2 (.t 3), none⟩,
                ⟨(some 19), .load none (.t 18), none⟩,
                ⟨(some 21), .load none (.t 20), none⟩,
                ⟨(some 22), .bin .eql (.t 19) (.t 21), none⟩,
                ⟨(some 23), .mv (.t 22), none⟩,
                ⟨(some 24), .mv (.t 0), some (23, true)⟩,
                ⟨(some 25), .mv (.t 6), some (23, true)⟩,
                ⟨(some 26), .indexAddr 5 (.t 24) (.t 25), some (23, true)⟩,
                ⟨(some 27), .fieldAddr 0 (.t 26), some (23, true)⟩,
                ⟨(some 28), .fieldAddr 3 (.t 27), some (23, true)⟩,
                ⟨(some 31), .fieldAddr 3 (.t 3), some (23, true)⟩,
                ⟨(some 29), .load none (.t 28), some (23, true)⟩,
                ⟨(some 30), .len 1 (.t 29), some (23, true)⟩,
                ⟨(some 32), .load none (.t 31), some (23, true)⟩,
                ⟨(some 33), .len 1 (.t 32), some (23, true)⟩,
                ⟨(some 34), .bin .eql (.t 30) (.t 33), some (23, true)⟩,
                ⟨(some 35), .pick (.t 23) (.t 34) (.k (.c (.d (.bool false)))), none⟩] [11, 14, 15, 16, 17, 18, 19, 20, 21, 22, 23, 24, 25, 26, 27, 28, 29, 30, 31, 32, 33, 34])
            (.cond (.t 35)
              (.region [⟨(some 36), .mv (.t 5), none⟩,
                ⟨(some 37), .mv (.t 6), none⟩,
                ⟨(some 38), .buildSlice 1 1 [(.int .i64 0)] [(0, (.t 37))], none⟩,
                ⟨(some 39), .append false 1 (.t 36) (.t 38), none⟩,
                ⟨(some 5), .mv (.t 39), none⟩] [35, 36, 37, 38, 39])
              (.skip))))
        (.region [⟨(some 12), .mv (.t 6), none⟩,
          ⟨(some 13), .bin .add (.t 12) (.k (.c (.d (.int .i64 1)))), none⟩,
          ⟨(some 6), .mv (.t 13), none⟩] [12, 13, 35]))))))
  (.seq (.region [⟨(some 40), .mv (.t 5), none⟩,
      ⟨(some 4), .mv (.t 40), none⟩] [5, 40])
  (.ret))))
theorem ac54_ok : cFunc Tryd.prog [] [(0, [1, 4], []), (1, [7], []), (2, [], []), (3, [8, 9, 10], []), (5, [11, 14, 15, 16, 17, 18, 19, 20, 21, 22, 23, 24, 25, 26, 27, 28, 29, 30, 31, 32, 33, 34], [0, 1, 2, 3, 4, 6, 5, 7, 8, 9, 10, 11, 12, 13, 14, 17, 15, 16, 18, 19, 20, 21]), (6, [35, 36, 37, 38, 39], []), (4, [12, 13, 35], []), (7, [5, 40], [])] Tryd.f54 = some (ac54, [.tmp 4], 41) := by kernel_rfl
def intRows (l : List Int) : List (List D) := l.map fun n => [.int .i64 n]
theorem intRows_len (l : List Int) : (intRows l).length = l.length := by simp [intRows]
theorem allLen_ints (l : List Int) : allLen 1 (intRows l) := allLen_map fun _ => rfl
def hits (c : Cl) (g : Tm) : Bool := decide (c.head.s = g.s) && decide ((c.head.kids.length : Int) = g.kids.length)
/-- the places of the clauses for a goal -/
def forI (p : List Cl) (g : Tm) : Nat → List Int
  | 0 => []
  | i + 1 => forI p g i ++ (match p[i]? with | some c => if hits c g then [(i : Int)] else [] | none => [])
theorem forI_len (p : List Cl) (g : Tm) : ∀ i, (forI p g i).length ≤ i
  | 0 => by simp [forI]
  | i + 1 => by
    have := forI_len p g i
    rw [forI, List.length_append]
    split
    · split <;> simp <;> omega
    · simp; omega
theorem forI_hit {p : List Cl} {g : Tm} {i : Nat} (hi : i < p.length) (h : hits p[i] g = true) : forI p g (i + 1) = forI p g i ++ [(i : Int)] := by
  rw [forI, List.getElem?_eq_getElem hi]; simp [h]
theorem forI_miss {p : List Cl} {g : Tm} {i : Nat} (hi : i < p.length) (h : hits p[i] g = false) : forI p g (i + 1) = forI p g i := by
  rw [forI, List.getElem?_eq_getElem hi]; simp [h]
theorem pred_calls (t : Tm) (ht : t.fits) (H : Heap) : ACalls Tryd.prog 81 [.agg (t.row.map .d)] H (fun r H' => H' = H ∧ r = .agg [.d (.str t.s), .d (.int .i64 t.kids.length)]) := by
  obtain ⟨k, n, s, l⟩ := t
  obtain ⟨_, _, _, hl, _⟩ := ht
  have hli : inR .i64 (l.length : Int) := small_i64 (by omega) (by omega)
  refine acalls Tryd.func81 (by kernel_rfl) ac81_ok fun hf => ?_
  simp -implicitDefEqProofs [ac81, row_mk, hf, hli, Tm.s, Tm.kids, aw_skip, aw_region, aw_seq, aw_block, aw_cond, aw_exit, aw_ret, kq_nil, kq_seq, kq_seq_ret, kq_seq_exit, kq_block, kq_block_ret, kq_block_exit, kq_loop, kq_loop_ret, kq_loop_exit, awOps_nil, awOps_cons, awOps_guardE, nx_eq, awOp, ev_k, ev_0, ev_1, ev_2, ev_3, ev_4, ev_5, ev_6, ev_7, ev_8, set_0, set_1, set_2, set_3, set_4, set_5, set_6, set_7, set_8, -List.set_cons_succ, -List.set_cons_zero, A.ok, A.val, setSl, wrapG, guardB, getB, pickA, binA, binC, binD, cmpD, isCmp, unA, unD, lenA, AOp.total, kills, litB, FinQ, resOks, resOk, resA, resList, resOne, A.thaw, C.thaw, A.fits, As.fits, C.fits, evs, oks, callArgs, A.pure, C.pure, A.re, C.re, fieldAddrA, loadC, cut, A.cells, C.rows?, getOb, newOb, setOb, storeC, splice, Ob.re, Cs.fits, partsA, partsOk, parts2A, parts2Ok, fillC, fillRows, optInt, optOk, sliceA, clipC, optK_some, storeK_some, Option.map_some, toDs, C.toD, spliceD, appendA, capsOf, srcRows, allLen_nil_iff, allLen_cons_iff, allLen_append_iff, dropC, Obs.fits, eqCs, eqD]
theorem cfor_calls (p : List Cl) (hp : FitsC p) (g : Tm) (hg : g.fits) (H : Heap) : ACalls Tryd.prog 58 [.c (.d (.sl (p.map Cl.row))), .agg [.d (.str g.s), .d (.int .i64 g.kids.length)]] H (fun r H' => H' = H ∧ r = .c (.d (.sl (intRows (forI p g p.length))))) := by
  have hl := hp.1
  have hli : inR .i64 (p.length : Int) := small_i64 (by omega) (by omega)
  refine acalls Tryd.func58 (by kernel_rfl) ac58_ok fun hf => ?_
  simp -implicitDefEqProofs [ac58, hli, aw_skip, aw_region, aw_seq, aw_block, aw_cond, aw_exit, aw_ret, kq_nil, kq_seq, kq_seq_ret, kq_seq_exit, kq_block, kq_block_ret, kq_block_exit, kq_loop, kq_loop_ret, kq_loop_exit, awOps_nil, awOps_cons, awOps_guardE, nx_eq, awOp, ev_k, ev_0, ev_1, ev_2, ev_3, ev_4, ev_5, ev_6, ev_7, ev_8, set_0, set_1, set_2, set_3, set_4, set_5, set_6, set_7, set_8, -List.set_cons_succ, -List.set_cons_zero, A.ok, A.val, setSl, wrapG, guardB, getB, pickA, binA, binC, binD, cmpD, isCmp, unA, unD, lenA, AOp.total, kills, litB, FinQ, resOks, resOk, resA, resList, resOne, A.thaw, C.thaw, A.fits, As.fits, C.fits, evs, oks, callArgs, A.pure, C.pure, A.re, C.re, fieldAddrA, loadC, cut, A.cells, C.rows?, getOb, newOb, setOb, storeC, splice, Ob.re, Cs.fits, partsA, partsOk, parts2A, parts2Ok, fillC, fillRows, optInt, optOk, sliceA, clipC, optK_some, storeK_some, Option.map_some, toDs, C.toD, spliceD, appendA, capsOf, srcRows, allLen_nil_iff, allLen_cons_iff, allLen_append_iff, dropC, Obs.fits, eqCs, eqD]
  refine loop_enter (St.le_token 5 1 rfl) ?_
  refine loop_set (σ := Nat) (fun i => [(10, .c (.d (.int .i64 i))), (5, .c (.own (.l 1) (forI p g i).length (intRows (forI p g i))))]) (fun _ => H) (fun i => [.cells [.d (.str g.s), .d (.int .i64 g.kids.length)], .grow (forI p g i).length 1]) (fun i => i ≤ p.length) (fun i => p.length - i) 0 rfl (Nat.zero_le _) ?_
  intro i hi
  have hfl := forI_len p g i
  simp -implicitDefEqProofs [setAll, hli, aw_skip, aw_region, aw_seq, aw_block, aw_cond, aw_exit, aw_ret, kq_nil, kq_seq, kq_seq_ret, kq_seq_exit, kq_block, kq_block_ret, kq_block_exit, kq_loop, kq_loop_ret, kq_loop_exit, awOps_nil, awOps_cons, awOps_guardE, nx_eq, awOp, ev_k, ev_0, ev_1, ev_2, ev_3, ev_4, ev_5, ev_6, ev_7, ev_8, set_0, set_1, set_2, set_3, set_4, set_5, set_6, set_7, set_8, -List.set_cons_succ, -List.set_cons_zero, A.ok, A.val, setSl, wrapG, guardB, getB, pickA, binA, binC, binD, cmpD, isCmp, unA, unD, lenA, AOp.total, kills, litB, FinQ, resOks, resOk, resA, resList, resOne, A.thaw, C.thaw, A.fits, As.fits, C.fits, evs, oks, callArgs, A.pure, C.pure, A.re, C.re, fieldAddrA, loadC, cut, A.cells, C.rows?, getOb, newOb, setOb, storeC, splice, Ob.re, Cs.fits, partsA, partsOk, parts2A, parts2Ok, fillC, fillRows, optInt, optOk, sliceA, clipC, optK_some, storeK_some, Option.map_some, toDs, C.toD, spliceD, appendA, capsOf, srcRows, allLen_nil_iff, allLen_cons_iff, allLen_append_iff, dropC, Obs.fits, eqCs, eqD]
  refine ⟨fun hlt => ?_, fun hge => ?_⟩
  · have hc := hp.2 p[i] (List.getElem_mem hlt)
    have hadd : inR .i64 ((i : Int) + 1) := small_i64 (by omega) (by omega)
    refine row_of hlt rfl ?_
    simp -implicitDefEqProofs [Cl.row, hf, aw_skip, aw_region, aw_seq, aw_block, aw_cond, aw_exit, aw_ret, kq_nil, kq_seq, kq_seq_ret, kq_seq_exit, kq_block, kq_block_ret, kq_block_exit, kq_loop, kq_loop_ret, kq_loop_exit, awOps_nil, awOps_cons, awOps_guardE, nx_eq, awOp, ev_k, ev_0, ev_1, ev_2, ev_3, ev_4, ev_5, ev_6, ev_7, ev_8, set_0, set_1, set_2, set_3, set_4, set_5, set_6, set_7, set_8, -List.set_cons_succ, -List.set_cons_zero, A.ok, A.val, setSl, wrapG, guardB, getB, pickA, binA, binC, binD, cmpD, isCmp, unA, unD, lenA, AOp.total, kills, litB, FinQ, resOks, resOk, resA, resList, resOne, A.thaw, C.thaw, A.fits, As.fits, C.fits, evs, oks, callArgs, A.pure, C.pure, A.re, C.re, fieldAddrA, loadC, cut, A.cells, C.rows?, getOb, newOb, setOb, storeC, splice, Ob.re, Cs.fits, partsA, partsOk, parts2A, parts2Ok, fillC, fillRows, optInt, optOk, sliceA, clipC, optK_some, storeK_some, Option.map_some, toDs, C.toD, spliceD, appendA, capsOf, srcRows, allLen_nil_iff, allLen_cons_iff, allLen_append_iff, dropC, Obs.fits, eqCs, eqD]
    have hpc := pred_calls p[i].head hc.head
    rw [row_eq] at hpc
    simp only [List.map_cons, List.map_nil] at hpc
    refine qcall_pure hpc hf rfl ?_
    simp -implicitDefEqProofs [hf, hadd, aw_skip, aw_region, aw_seq, aw_block, aw_cond, aw_exit, aw_ret, kq_nil, kq_seq, kq_seq_ret, kq_seq_exit, kq_block, kq_block_ret, kq_block_exit, kq_loop, kq_loop_ret, kq_loop_exit, awOps_nil, awOps_cons, awOps_guardE, nx_eq, awOp, ev_k, ev_0, ev_1, ev_2, ev_3, ev_4, ev_5, ev_6, ev_7, ev_8, set_0, set_1, set_2, set_3, set_4, set_5, set_6, set_7, set_8, -List.set_cons_succ, -List.set_cons_zero, A.ok, A.val, setSl, wrapG, guardB, getB, pickA, binA, binC, binD, cmpD, isCmp, unA, unD, lenA, AOp.total, kills, litB, FinQ, resOks, resOk, resA, resList, resOne, A.thaw, C.thaw, A.fits, As.fits, C.fits, evs, oks, callArgs, A.pure, C.pure, A.re, C.re, fieldAddrA, loadC, cut, A.cells, C.rows?, getOb, newOb, setOb, storeC, splice, Ob.re, Cs.fits, partsA, partsOk, parts2A, parts2Ok, fillC, fillRows, optInt, optOk, sliceA, clipC, optK_some, storeK_some, Option.map_some, toDs, C.toD, spliceD, appendA, capsOf, srcRows, allLen_nil_iff, allLen_cons_iff, allLen_append_iff, dropC, Obs.fits, eqCs, eqD]
    refine ⟨fun e1 e2 => ?_, fun h => ?_⟩
    · have hh : hits p[i] g = true := by simp [hits, e1]; omega
      have hnx := forI_hit hlt hh
      simp -implicitDefEqProofs [hadd, allLen_ints, aw_skip, aw_region, aw_seq, aw_block, aw_cond, aw_exit, aw_ret, kq_nil, kq_seq, kq_seq_ret, kq_seq_exit, kq_block, kq_block_ret, kq_block_exit, kq_loop, kq_loop_ret, kq_loop_exit, awOps_nil, awOps_cons, awOps_guardE, nx_eq, awOp, ev_k, ev_0, ev_1, ev_2, ev_3, ev_4, ev_5, ev_6, ev_7, ev_8, set_0, set_1, set_2, set_3, set_4, set_5, set_6, set_7, set_8, -List.set_cons_succ, -List.set_cons_zero, A.ok, A.val, setSl, wrapG, guardB, getB, pickA, binA, binC, binD, cmpD, isCmp, unA, unD, lenA, AOp.total, kills, litB, FinQ, resOks, resOk, resA, resList, resOne, A.thaw, C.thaw, A.fits, As.fits, C.fits, evs, oks, callArgs, A.pure, C.pure, A.re, C.re, fieldAddrA, loadC, cut, A.cells, C.rows?, getOb, newOb, setOb, storeC, splice, Ob.re, Cs.fits, partsA, partsOk, parts2A, parts2Ok, fillC, fillRows, optInt, optOk, sliceA, clipC, optK_some, storeK_some, Option.map_some, toDs, C.toD, spliceD, appendA, capsOf, srcRows, allLen_nil_iff, allLen_cons_iff, allLen_append_iff, dropC, Obs.fits, eqCs, eqD]
      refine ⟨by rw [intRows_len]; unfold maxApp; omega, ?_⟩
      have hr : intRows (forI p g i) ++ [[D.int IntKind.i64 (i : Int)]] = intRows (forI p g (i + 1)) := by rw [hnx]; simp [intRows]
      have hn : (forI p g i).length + 1 = (forI p g (i + 1)).length := by rw [hnx]; simp
      rw [hr, hn]
      refine loop_less (i + 1) (St.le_cut [_] ?_ (by simp [Sl.le, A.le_refl_iff, A.le_u_iff, As.lo, A.lo, C.lo, Ref.lo, Cs.lo, Obs.lo, Ob.lo, setAll, and_true, true_and, List.length_nil, List.length_cons]) rfl ⟨⟨trivial, trivial, trivial⟩, trivial, trivial⟩) hlt (by show p.length - (i + 1) < p.length - i; omega)
      simp [Sl.le, A.le_refl_iff, A.le_u_iff, As.lo, A.lo, C.lo, Ref.lo, Cs.lo, Obs.lo, Ob.lo, setAll, and_true, true_and, List.length_nil, List.length_cons]
    · have hh : hits p[i] g = false := by
        simp only [hits, Bool.and_eq_false_iff, decide_eq_false_iff_not]
        by_cases e : p[i].head.s = g.s
        · exact .inr (h e)
        · exact .inl e
      have hnx := forI_miss hlt hh
      refine loop_less (i + 1) (St.le_cut [_] ?_ (by simp [Sl.le, A.le_refl_iff, A.le_u_iff, As.lo, A.lo, C.lo, Ref.lo, Cs.lo, Obs.lo, Ob.lo, setAll, and_true, true_and, List.length_nil, List.length_cons]) (by simp only [hnx]; rfl) ⟨⟨trivial, trivial, trivial⟩, trivial, trivial⟩) hlt (by show p.length - (i + 1) < p.length - i; omega)
      simp [hnx, Sl.le, A.le_refl_iff, A.le_u_iff, As.lo, A.lo, C.lo, Ref.lo, Cs.lo, Obs.lo, Ob.lo, setAll, and_true, true_and, List.length_nil, List.length_cons]
  · obtain rfl : i = p.length := by omega
    simp
theorem l4For_calls (p : List Cl) (hp : FitsC p) (g : Tm) (hg : g.fits) (H : Heap) : ACalls Tryd.prog 54 [.c (.d (.sl (p.map Cl.row))), .agg (g.row.map .d)] H (fun r H' => H' = H ∧ r = .c (.d (.sl (intRows (forI p g p.length))))) := by
  have hl := hp.1
  have hli : inR .i64 (p.length : Int) := small_i64 (by omega) (by omega)
  obtain ⟨gk, gn, gs, gl⟩ := g
  obtain ⟨_, _, _, hgl, _⟩ := hg
  have hgi : inR .i64 (gl.length : Int) := small_i64 (by omega) (by omega)
  generalize hG : Tm.mk gk gn gs gl = G
  have es : G.s = gs := by rw [← hG]; rfl
  have el : G.kids = gl := by rw [← hG]; rfl
  have er : G.row = [.int .i64 gk, .int .i64 gn, .str gs, .sl (gl.map Tm.row)] := by rw [← hG]; exact row_mk _ _ _ _
  refine acalls Tryd.func54 (by kernel_rfl) ac54_ok fun hf => ?_
  rw [er]
  simp -implicitDefEqProofs [ac54, hli, aw_skip, aw_region, aw_seq, aw_block, aw_cond, aw_exit, aw_ret, kq_nil, kq_seq, kq_seq_ret, kq_seq_exit, kq_block, kq_block_ret, kq_block_exit, kq_loop, kq_loop_ret, kq_loop_exit, awOps_nil, awOps_cons, awOps_guardE, nx_eq, awOp, ev_k, ev_0, ev_1, ev_2, ev_3, ev_4, ev_5, ev_6, ev_7, ev_8, set_0, set_1, set_2, set_3, set_4, set_5, set_6, set_7, set_8, -List.set_cons_succ, -List.set_cons_zero, A.ok, A.val, setSl, wrapG, guardB, getB, pickA, binA, binC, binD, cmpD, isCmp, unA, unD, lenA, AOp.total, kills, litB, FinQ, resOks, resOk, resA, resList, resOne, A.thaw, C.thaw, A.fits, As.fits, C.fits, evs, oks, callArgs, A.pure, C.pure, A.re, C.re, fieldAddrA, loadC, cut, A.cells, C.rows?, getOb, newOb, setOb, storeC, splice, Ob.re, Cs.fits, partsA, partsOk, parts2A, parts2Ok, fillC, fillRows, optInt, optOk, sliceA, clipC, optK_some, storeK_some, Option.map_some, toDs, C.toD, spliceD, appendA, capsOf, srcRows, allLen_nil_iff, allLen_cons_iff, allLen_append_iff, dropC, Obs.fits, eqCs, eqD]
  refine loop_enter (St.le_token 5 1 rfl) ?_
  refine loop_set (σ := Nat) (fun i => [(6, .c (.d (.int .i64 i))), (5, .c (.own (.l 1) (forI p G i).length (intRows (forI p G i))))]) (fun _ => H) (fun i => [.cells [.d (.int .i64 gk), .d (.int .i64 gn), .d (.str gs), .d (.sl (gl.map Tm.row))], .grow (forI p G i).length 1]) (fun i => i ≤ p.length) (fun i => p.length - i) 0 rfl (Nat.zero_le _) ?_
  intro i hi
  have hfl := forI_len p G i
  simp -implicitDefEqProofs [setAll, hli, aw_skip, aw_region, aw_seq, aw_block, aw_cond, aw_exit, aw_ret, kq_nil, kq_seq, kq_seq_ret, kq_seq_exit, kq_block, kq_block_ret, kq_block_exit, kq_loop, kq_loop_ret, kq_loop_exit, awOps_nil, awOps_cons, awOps_guardE, nx_eq, awOp, ev_k, ev_0, ev_1, ev_2, ev_3, ev_4, ev_5, ev_6, ev_7, ev_8, set_0, set_1, set_2, set_3, set_4, set_5, set_6, set_7, set_8, -List.set_cons_succ, -List.set_cons_zero, A.ok, A.val, setSl, wrapG, guardB, getB, pickA, binA, binC, binD, cmpD, isCmp, unA, unD, lenA, AOp.total, kills, litB, FinQ, resOks, resOk, resA, resList, resOne, A.thaw, C.thaw, A.fits, As.fits, C.fits, evs, oks, callArgs, A.pure, C.pure, A.re, C.re, fieldAddrA, loadC, cut, A.cells, C.rows?, getOb, newOb, setOb, storeC, splice, Ob.re, Cs.fits, partsA, partsOk, parts2A, parts2Ok, fillC, fillRows, optInt, optOk, sliceA, clipC, optK_some, storeK_some, Option.map_some, toDs, C.toD, spliceD, appendA, capsOf, srcRows, allLen_nil_iff, allLen_cons_iff, allLen_append_iff, dropC, Obs.fits, eqCs, eqD]
  refine ⟨fun hlt => ?_, fun hge => ?_⟩
  · have hc := hp.2 p[i] (List.getElem_mem hlt)
    have hkl : p[i].head.kids.length ≤ 1048576 := by
      have := hc.head
      cases hh : p[i].head with
      | mk a b c d => rw [hh] at this; obtain ⟨_, _, _, h4, _⟩ := this; exact h4
    have hki : inR .i64 (p[i].head.kids.length : Int) := small_i64 (by omega) (by omega)
    have hadd : inR .i64 ((i : Int) + 1) := small_i64 (by omega) (by omega)
    refine row_of hlt rfl ?_
    simp -implicitDefEqProofs [Cl.row, hf, hki, hgi, hadd, aw_skip, aw_region, aw_seq, aw_block, aw_cond, aw_exit, aw_ret, kq_nil, kq_seq, kq_seq_ret, kq_seq_exit, kq_block, kq_block_ret, kq_block_exit, kq_loop, kq_loop_ret, kq_loop_exit, awOps_nil, awOps_cons, awOps_guardE, nx_eq, awOp, ev_k, ev_0, ev_1, ev_2, ev_3, ev_4, ev_5, ev_6, ev_7, ev_8, set_0, set_1, set_2, set_3, set_4, set_5, set_6, set_7, set_8, -List.set_cons_succ, -List.set_cons_zero, A.ok, A.val, setSl, wrapG, guardB, getB, pickA, binA, binC, binD, cmpD, isCmp, unA, unD, lenA, AOp.total, kills, litB, FinQ, resOks, resOk, resA, resList, resOne, A.thaw, C.thaw, A.fits, As.fits, C.fits, evs, oks, callArgs, A.pure, C.pure, A.re, C.re, fieldAddrA, loadC, cut, A.cells, C.rows?, getOb, newOb, setOb, storeC, splice, Ob.re, Cs.fits, partsA, partsOk, parts2A, parts2Ok, fillC, fillRows, optInt, optOk, sliceA, clipC, optK_some, storeK_some, Option.map_some, toDs, C.toD, spliceD, appendA, capsOf, srcRows, allLen_nil_iff, allLen_cons_iff, allLen_append_iff, dropC, Obs.fits, eqCs, eqD]
    refine ⟨fun _ => by omega, p[i].row, fun _ => ⟨by simp [hlt], rfl⟩, ?_⟩
    simp -implicitDefEqProofs [Cl.row, hf, hki, hgi, hadd, aw_skip, aw_region, aw_seq, aw_block, aw_cond, aw_exit, aw_ret, kq_nil, kq_seq, kq_seq_ret, kq_seq_exit, kq_block, kq_block_ret, kq_block_exit, kq_loop, kq_loop_ret, kq_loop_exit, awOps_nil, awOps_cons, awOps_guardE, nx_eq, awOp, ev_k, ev_0, ev_1, ev_2, ev_3, ev_4, ev_5, ev_6, ev_7, ev_8, set_0, set_1, set_2, set_3, set_4, set_5, set_6, set_7, set_8, -List.set_cons_succ, -List.set_cons_zero, A.ok, A.val, setSl, wrapG, guardB, getB, pickA, binA, binC, binD, cmpD, isCmp, unA, unD, lenA, AOp.total, kills, litB, FinQ, resOks, resOk, resA, resList, resOne, A.thaw, C.thaw, A.fits, As.fits, C.fits, evs, oks, callArgs, A.pure, C.pure, A.re, C.re, fieldAddrA, loadC, cut, A.cells, C.rows?, getOb, newOb, setOb, storeC, splice, Ob.re, Cs.fits, partsA, partsOk, parts2A, parts2Ok, fillC, fillRows, optInt, optOk, sliceA, clipC, optK_some, storeK_some, Option.map_some, toDs, C.toD, spliceD, appendA, capsOf, srcRows, allLen_nil_iff, allLen_cons_iff, allLen_append_iff, dropC, Obs.fits, eqCs, eqD]
    refine ⟨fun e1 e2 => ?_, fun h => ?_⟩
    · have hh : hits p[i] G = true := by simp [hits, es, el, e1]; omega
      have hnx := forI_hit hlt hh
      have hr : intRows (forI p G i) ++ [[D.int IntKind.i64 (i : Int)]] = intRows (forI p G (i + 1)) := by rw [hnx]; simp [intRows]
      have hn : (forI p G i).length + 1 = (forI p G (i + 1)).length := by rw [hnx]; simp
      simp -implicitDefEqProofs [allLen_ints, aw_skip, aw_region, aw_seq, aw_block, aw_cond, aw_exit, aw_ret, kq_nil, kq_seq, kq_seq_ret, kq_seq_exit, kq_block, kq_block_ret, kq_block_exit, kq_loop, kq_loop_ret, kq_loop_exit, awOps_nil, awOps_cons, awOps_guardE, nx_eq, awOp, ev_k, ev_0, ev_1, ev_2, ev_3, ev_4, ev_5, ev_6, ev_7, ev_8, set_0, set_1, set_2, set_3, set_4, set_5, set_6, set_7, set_8, -List.set_cons_succ, -List.set_cons_zero, A.ok, A.val, setSl, wrapG, guardB, getB, pickA, binA, binC, binD, cmpD, isCmp, unA, unD, lenA, AOp.total, kills, litB, FinQ, resOks, resOk, resA, resList, resOne, A.thaw, C.thaw, A.fits, As.fits, C.fits, evs, oks, callArgs, A.pure, C.pure, A.re, C.re, fieldAddrA, loadC, cut, A.cells, C.rows?, getOb, newOb, setOb, storeC, splice, Ob.re, Cs.fits, partsA, partsOk, parts2A, parts2Ok, fillC, fillRows, optInt, optOk, sliceA, clipC, optK_some, storeK_some, Option.map_some, toDs, C.toD, spliceD, appendA, capsOf, srcRows, allLen_nil_iff, allLen_cons_iff, allLen_append_iff, dropC, Obs.fits, eqCs, eqD]
      refine ⟨by rw [intRows_len]; unfold maxApp; omega, ?_⟩
      rw [hr, hn]
      exact loop_back (i + 1) (by simp [setAll]) hlt (by show p.length - (i + 1) < p.length - i; omega)
    · have hh : hits p[i] G = false := by
        simp only [hits, es, el, Bool.and_eq_false_iff, decide_eq_false_iff_not]
        by_cases e : p[i].head.s = gs
        · exact .inr (h e)
        · exact .inl e
      have hnx := forI_miss hlt hh
      exact loop_back (i + 1) (by simp [setAll, hnx]) hlt (by show p.length - (i + 1) < p.length - i; omega)
  · obtain rfl : i = p.length := by omega
    simp
end Go.Proofs.YtdjbahilmcokeaaDoor
