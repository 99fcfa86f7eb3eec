/-
  The law FnExactServerIdle holds: spec.ServerIdle and impl.ServerIdle answer alike at all servers.
  Conditions: none.
-/
import Derived.Test.YtkbbeoaoonoacaaServer
open Go Go.AM Go.Proofs
namespace Go.Proofs.Ytkbbeoaoonoacaa
open Go.ChangeShapes Go.WideShapes Go.ChangeAt Go.RowKit
set_option linter.unusedVariables false
set_option linter.unusedSimpArgs false
set_option maxRecDepth 100000
-- 12 (*loop.example/prologserver/impl.Client).idle params 1 ntmps 30
def ac12 : Cd := .seq (.region [⟨(some 2), .mv (.k (.c (.d (.bool false)))), none⟩] [2])
  (.seq (.region [⟨(some 3), .mv (.t 0), none⟩,
      ⟨(some 4), .nilCheck (.t 3), none⟩,
      ⟨(some 5), .fieldAddr 4 (.t 4), none⟩,
      ⟨(some 6), .load none (.t 5), none⟩,
      ⟨(some 7), .un .not (.t 6), none⟩,
      ⟨(some 8), .mv (.t 7), none⟩,
      ⟨(some 9), .mv (.t 0), some (8, true)⟩,
      ⟨(some 10), .nilCheck (.t 9), some (8, true)⟩,
      ⟨(some 11), .fieldAddr 2 (.t 10), some (8, true)⟩,
      ⟨(some 12), .load none (.t 11), some (8, true)⟩,
      ⟨(some 13), .len 1 (.t 12), some (8, true)⟩,
      ⟨(some 14), .bin .eql (.t 13) (.k (.c (.d (.int .i64 0)))), some (8, true)⟩,
      ⟨(some 15), .pick (.t 8) (.t 14) (.k (.c (.d (.bool false)))), none⟩,
      ⟨(some 16), .mv (.t 15), none⟩,
      ⟨(some 17), .mv (.t 0), some (16, true)⟩,
      ⟨(some 18), .nilCheck (.t 17), some (16, true)⟩,
      ⟨(some 19), .fieldAddr 0 (.t 18), some (16, true)⟩,
      ⟨(some 20), .fieldAddr 1 (.t 19), some (16, true)⟩,
      ⟨(some 21), .load none (.t 20), some (16, true)⟩,
      ⟨(some 22), .un .not (.t 21), some (16, true)⟩,
      ⟨(some 23), .mv (.t 22), some (16, true)⟩,
      ⟨(some 24), .mv (.t 0), some (23, false)⟩,
      ⟨(some 25), .nilCheck (.t 24), some (23, false)⟩,
      ⟨(some 26), .fieldAddr 11 (.t 25), some (23, false)⟩,
      ⟨(some 27), .load none (.t 26), some (23, false)⟩,
      ⟨(some 28), .pick (.t 23) (.k (.c (.d (.bool true)))) (.t 27), some (16, true)⟩,
      ⟨(some 29), .pick (.t 16) (.t 28) (.k (.c (.d (.bool false)))), none⟩,
      ⟨(some 2), .mv (.t 29), none⟩] [0, 3, 4, 5, 6, 7, 8, 9, 10, 11, 12, 13, 14, 15, 16, 17, 18, 19, 20, 21, 22, 23, 24, 25, 26, 27, 28, 29])
  (.ret))
theorem ac12_ok : cFunc Try.prog [] [(0, [2], []), (1, [0, 3, 4, 5, 6, 7, 8, 9, 10, 11, 12, 13, 14, 15, 16, 17, 18, 19, 20, 21, 22, 23, 24, 25, 26, 27, 28, 29], [])] Try.f12 = some (ac12, [.tmp 2], 30) := by kernel_rfl
-- 7 loop.example/prologserver/impl.ServerIdle params 1 ntmps 17
-- loop head live: [1, 6, 7]
def ac7 : Cd := .seq (.region [⟨(some 1), .box (.t 0), none⟩,
      ⟨(some 2), .mv (.k (.c (.d (.bool false)))), none⟩] [0, 2])
  (.seq (.seq (.region [⟨(some 4), .fieldAddr 0 (.t 1), none⟩,
        ⟨(some 5), .load none (.t 4), none⟩,
        ⟨(some 6), .len 1 (.t 5), none⟩,
        ⟨(some 7), .mv (.k (.c (.d (.int .i64 0)))), none⟩] [4, 5])
    (.block 0 (.loop (.seq (.region [⟨(some 8), .bin .lss (.t 7) (.t 6), none⟩] [])
        (.seq (.cond (.t 8)
            (.skip)
            (.exit 0))
        (.seq (.block 1 (.seq (.region [⟨(some 9), .mv (.t 7), none⟩,
                ⟨(some 3), .mv (.t 9), none⟩] [8, 9])
            (.seq (.region [⟨(some 10), .fieldAddr 0 (.t 1), none⟩,
                ⟨(some 11), .load none (.t 10), none⟩,
                ⟨(some 12), .mv (.t 3), none⟩,
                ⟨(some 13), .indexAddr 13 (.t 11) (.t 12), none⟩,
                ⟨(some 14), .qcall 12 [(.t 13)], none⟩,
                ⟨(some 15), .un .not (.t 14), none⟩] [3, 10, 11, 12, 13, 14])
            (.cond (.t 15)
              (.seq (.region [⟨(some 2), .mv (.k (.c (.d (.bool false)))), none⟩] [1, 6, 7, 15])
              (.ret))
              (.skip)))))
        (.region [⟨(some 16), .bin .add (.t 7) (.k (.c (.d (.int .i64 1)))), none⟩,
          ⟨(some 7), .mv (.t 16), none⟩] [2, 15, 16])))))))
  (.seq (.region [⟨(some 2), .mv (.k (.c (.d (.bool true)))), none⟩] [])
  (.ret)))
theorem ac7_ok : cFunc Try.prog [1000012] [(0, [0, 2], []), (1, [4, 5], []), (2, [], []), (3, [8, 9], []), (4, [3, 10, 11, 12, 13, 14], []), (5, [1, 6, 7, 15], []), (6, [2, 15, 16], []), (7, [], [])] Try.f7 = some (ac7, [.tmp 2], 17) := by kernel_rfl
-- 10 loop.example/prologserver/spec.l12Busy params 1 ntmps 21
def ac10 : Cd := .seq (.region [⟨(some 1), .box (.t 0), none⟩,
      ⟨(some 2), .mv (.k (.c (.d (.bool false)))), none⟩] [0, 2])
  (.seq (.region [⟨(some 3), .fieldAddr 4 (.t 1), none⟩,
      ⟨(some 4), .load none (.t 3), none⟩,
      ⟨(some 5), .mv (.t 4), none⟩,
      ⟨(some 6), .fieldAddr 2 (.t 1), some (5, false)⟩,
      ⟨(some 7), .load none (.t 6), some (5, false)⟩,
      ⟨(some 8), .len 1 (.t 7), some (5, false)⟩,
      ⟨(some 9), .bin .gtr (.t 8) (.k (.c (.d (.int .i64 0)))), some (5, false)⟩,
      ⟨(some 10), .pick (.t 5) (.k (.c (.d (.bool true)))) (.t 9), none⟩,
      ⟨(some 11), .mv (.t 10), none⟩,
      ⟨(some 12), .fieldAddr 0 (.t 1), some (11, false)⟩,
      ⟨(some 13), .fieldAddr 1 (.t 12), some (11, false)⟩,
      ⟨(some 14), .load none (.t 13), some (11, false)⟩,
      ⟨(some 15), .mv (.t 14), some (11, false)⟩,
      ⟨(some 16), .fieldAddr 11 (.t 1), some (15, true)⟩,
      ⟨(some 17), .load none (.t 16), some (15, true)⟩,
      ⟨(some 18), .un .not (.t 17), some (15, true)⟩,
      ⟨(some 19), .pick (.t 15) (.t 18) (.k (.c (.d (.bool false)))), some (11, false)⟩,
      ⟨(some 20), .pick (.t 11) (.k (.c (.d (.bool true)))) (.t 19), none⟩,
      ⟨(some 2), .mv (.t 20), none⟩] [1, 3, 4, 5, 6, 7, 8, 9, 10, 11, 12, 13, 14, 15, 16, 17, 18, 19, 20])
  (.ret))
theorem ac10_ok : cFunc Try.prog [] [(0, [0, 2], []), (1, [1, 3, 4, 5, 6, 7, 8, 9, 10, 11, 12, 13, 14, 15, 16, 17, 18, 19, 20], [])] Try.f10 = some (ac10, [.tmp 2], 21) := by kernel_rfl
-- 5 loop.example/prologserver/spec.ServerIdle params 1 ntmps 17
-- loop head live: [1, 3]
def ac5 : Cd := .seq (.region [⟨(some 1), .box (.t 0), none⟩,
      ⟨(some 2), .mv (.k (.c (.d (.bool false)))), none⟩] [0, 2])
  (.seq (.seq (.region [⟨(some 3), .mv (.k (.c (.d (.int .i64 0)))), none⟩] [])
    (.block 0 (.loop (.seq (.seq (.region [⟨(some 4), .mv (.t 3), none⟩,
              ⟨(some 5), .fieldAddr 0 (.t 1), none⟩,
              ⟨(some 6), .load none (.t 5), none⟩,
              ⟨(some 7), .len 1 (.t 6), none⟩,
              ⟨(some 8), .bin .lss (.t 4) (.t 7), none⟩] [4, 5, 6, 7])
          (.cond (.t 8)
            (.skip)
            (.exit 0)))
        (.seq (.block 1 (.seq (.region [⟨(some 11), .fieldAddr 0 (.t 1), none⟩,
                ⟨(some 12), .load none (.t 11), none⟩,
                ⟨(some 13), .mv (.t 3), none⟩,
                ⟨(some 14), .indexAddr 13 (.t 12) (.t 13), none⟩,
                ⟨(some 15), .load (some 13) (.t 14), none⟩,
                ⟨(some 16), .qcall 10 [(.t 15)], none⟩] [8, 11, 12, 13, 14, 15])
            (.cond (.t 16)
              (.seq (.region [⟨(some 2), .mv (.k (.c (.d (.bool false)))), none⟩] [1, 3, 16])
              (.ret))
              (.skip))))
        (.region [⟨(some 9), .mv (.t 3), none⟩,
          ⟨(some 10), .bin .add (.t 9) (.k (.c (.d (.int .i64 1)))), none⟩,
          ⟨(some 3), .mv (.t 10), none⟩] [2, 9, 10, 16]))))))
  (.seq (.region [⟨(some 2), .mv (.k (.c (.d (.bool true)))), none⟩] [])
  (.ret)))
theorem ac5_ok : cFunc Try.prog [1000010] [(0, [0, 2], []), (1, [], []), (2, [4, 5, 6, 7], []), (4, [8, 11, 12, 13, 14, 15], []), (5, [1, 3, 16], []), (3, [2, 9, 10, 16], []), (6, [], [])] Try.f5 = some (ac5, [.tmp 2], 17) := by kernel_rfl
-- 3 loop.example/prologserver/laws.FnExactServerIdle params 1 ntmps 27
def ac3 : Cd := .seq (.region [⟨(some 1), .box (.t 0), none⟩,
      ⟨(some 2), .mv (.k (.c (.d (.bool false)))), none⟩] [0, 2])
  (.seq (.region [⟨(some 3), .mv (.k (.c (.d (.int .i64 1048576)))), none⟩] [])
  (.seq (.region [⟨(some 7), .load (some 2) (.t 1), none⟩,
      ⟨(some 8), .mv (.t 3), none⟩,
      ⟨(some 9), .call false 4 [(.t 7), (.t 8)], none⟩,
      ⟨(some 3), .mv (.t 9), none⟩] [7, 8, 9])
  (.seq (.seq (.region [⟨(some 10), .mv (.t 3), none⟩,
        ⟨(some 11), .bin .lss (.t 10) (.k (.c (.d (.int .i64 0)))), none⟩] [3, 10])
    (.cond (.t 11)
      (.seq (.region [⟨(some 2), .mv (.k (.c (.d (.bool true)))), none⟩] [1, 11])
      (.ret))
      (.skip)))
  (.seq (.region [⟨(some 12), .load (some 2) (.t 1), none⟩,
      ⟨(some 13), .qcall 6 [(.t 12)], none⟩,
      ⟨(some 14), .qcall 5 [(.t 13)], none⟩,
      ⟨(some 4), .mv (.t 14), none⟩] [2, 11, 12, 13, 14])
  (.seq (.region [⟨(some 15), .load (some 2) (.t 1), none⟩,
      ⟨(some 16), .qcall 6 [(.t 15)], none⟩,
      ⟨(some 5), .alloc [(.full []), (.d (.int .i64 0))], none⟩,
      ⟨none, .store 2 (.t 5) (.t 16), none⟩] [15, 16])
  (.seq (.region [⟨(some 17), .load (some 2) (.t 5), none⟩,
      ⟨(some 18), .qcall 7 [(.t 17)], none⟩,
      ⟨(some 6), .mv (.t 18), none⟩] [17, 18])
  (.seq (.seq (.region [⟨(some 19), .mv (.t 6), none⟩,
        ⟨(some 20), .mv (.t 4), none⟩,
        ⟨(some 21), .binB true (.t 19) (.t 20), none⟩] [4, 6, 19, 20])
    (.cond (.t 21)
      (.seq (.region [⟨(some 2), .mv (.k (.c (.d (.bool false)))), none⟩] [1, 5, 21])
      (.ret))
      (.skip)))
  (.seq (.seq (.region [⟨(some 22), .load (some 2) (.t 5), none⟩,
        ⟨(some 23), .load (some 2) (.t 1), none⟩,
        ⟨(some 24), .qcall 6 [(.t 23)], none⟩,
        ⟨(some 25), .qcall 8 [(.t 22), (.t 24)], none⟩,
        ⟨(some 26), .un .not (.t 25), none⟩] [1, 2, 5, 21, 22, 23, 24, 25])
    (.cond (.t 26)
      (.seq (.region [⟨(some 2), .mv (.k (.c (.d (.bool false)))), none⟩] [26])
      (.ret))
      (.skip)))
  (.seq (.region [⟨(some 2), .mv (.k (.c (.d (.bool true)))), none⟩] [26])
  (.ret))))))))))
theorem ac3_ok : cFunc Try.prog [1000005, 1000006, 1000007, 1000008] [(0, [0, 2], []), (1, [], []), (2, [7, 8, 9], []), (3, [3, 10], []), (4, [1, 11], []), (5, [2, 11, 12, 13, 14], []), (6, [15, 16], []), (7, [17, 18], []), (8, [4, 6, 19, 20], []), (9, [1, 5, 21], []), (10, [1, 2, 5, 21, 22, 23, 24, 25], [0, 1, 2, 3, 4]), (11, [26], []), (12, [26], [])] Try.f3 = some (ac3, [.tmp 2], 27) := by kernel_rfl
/-- is there something to do for a client? -/
def Cli.busy (c : Cli) : Bool := c.active || (!c.wait.isEmpty || (c.inp.broken && !c.told))
def idleB (l : List Cli) : Bool := l.all fun c => !c.busy
theorem isEmpty_len {α : Type} (l : List α) : ((l.length : Int) == 0) = l.isEmpty := by cases l <;> simp; omega
theorem pos_len {α : Type} (l : List α) : decide (0 < l.length) = !l.isEmpty := by cases l <;> simp
theorem idle_calls (c : Cli) (hc : c.wait.length ≤ 1048576) (H : Heap) : ACalls Try.prog 12 [.c (.el c.row 0)] H (fun r H' => H' = H ∧ r = .c (.d (.bool (!c.busy)))) := by
  obtain ⟨i, w, p, a, s, t, o⟩ := c
  simp only at hc
  have hli : inR .i64 (w.length : Int) := small_i64 (by omega) (by omega)
  refine acalls Try.func12 (by kernel_rfl) ac12_ok fun hf => ?_
  simp -implicitDefEqProofs [ac12, Cli.row, hli, isEmpty_len, Cli.busy, Bool.and_assoc, aw_skip, aw_region, aw_seq, aw_block, aw_cond, aw_exit, aw_ret, kq_nil, kq_seq, kq_seq_ret, kq_seq_exit, kq_block, kq_block_ret, kq_block_exit, kq_loop, kq_loop_ret, kq_loop_exit, awOps_nil, awOps_cons, awOps_guardE, nx_eq, awOp, ev_k, ev_0, ev_1, ev_2, ev_3, ev_4, ev_5, ev_6, ev_7, ev_8, set_0, set_1, set_2, set_3, set_4, set_5, set_6, set_7, set_8, -List.set_cons_succ, -List.set_cons_zero, A.ok, A.val, setSl, wrapG, guardB, getB, pickA, binA, binC, binD, cmpD, isCmp, unA, unD, lenA, AOp.total, kills, litB, FinQ, resOks, resOk, resA, resList, resOne, A.thaw, C.thaw, A.fits, As.fits, C.fits, evs, oks, callArgs, A.pure, C.pure, A.re, C.re, fieldAddrA, loadC, cut, A.cells, C.rows?, getOb, newOb, setOb, storeC, splice, Ob.re, Cs.fits, partsA, partsOk, parts2A, parts2Ok, fillC, fillRows, optInt, optOk, sliceA, optK_some, storeK_some, Option.map_some, toDs, C.toD, spliceD, appendA, capsOf, srcRows, allLen_nil_iff, allLen_cons_iff, allLen_append_iff, dropC, Obs.fits, eqCs, eqD]
theorem busy_calls (c : Cli) (hc : c.wait.length ≤ 1048576) (H : Heap) : ACalls Try.prog 10 [.agg (c.row.map .d)] H (fun r H' => H' = H ∧ r = .c (.d (.bool c.busy))) := by
  obtain ⟨i, w, p, a, s, t, o⟩ := c
  simp only at hc
  have hli : inR .i64 (w.length : Int) := small_i64 (by omega) (by omega)
  refine acalls Try.func10 (by kernel_rfl) ac10_ok fun hf => ?_
  simp -implicitDefEqProofs [ac10, Cli.row, hli, isEmpty_len, Cli.busy, aw_skip, aw_region, aw_seq, aw_block, aw_cond, aw_exit, aw_ret, kq_nil, kq_seq, kq_seq_ret, kq_seq_exit, kq_block, kq_block_ret, kq_block_exit, kq_loop, kq_loop_ret, kq_loop_exit, awOps_nil, awOps_cons, awOps_guardE, nx_eq, awOp, ev_k, ev_0, ev_1, ev_2, ev_3, ev_4, ev_5, ev_6, ev_7, ev_8, set_0, set_1, set_2, set_3, set_4, set_5, set_6, set_7, set_8, -List.set_cons_succ, -List.set_cons_zero, A.ok, A.val, setSl, wrapG, guardB, getB, pickA, binA, binC, binD, cmpD, isCmp, unA, unD, lenA, AOp.total, kills, litB, FinQ, resOks, resOk, resA, resList, resOne, A.thaw, C.thaw, A.fits, As.fits, C.fits, evs, oks, callArgs, A.pure, C.pure, A.re, C.re, fieldAddrA, loadC, cut, A.cells, C.rows?, getOb, newOb, setOb, storeC, splice, Ob.re, Cs.fits, partsA, partsOk, parts2A, parts2Ok, fillC, fillRows, optInt, optOk, sliceA, optK_some, storeK_some, Option.map_some, toDs, C.toD, spliceD, appendA, capsOf, srcRows, allLen_nil_iff, allLen_cons_iff, allLen_append_iff, dropC, Obs.fits, eqCs, eqD]
  rw [pos_len, Bool.or_assoc]
theorem idle_take {l : List Cli} {i : Nat} (h : i < l.length) (ha : ∀ t ∈ l.take i, t.busy = false) (hb : l[i].busy = false) : ∀ t ∈ l.take (i + 1), t.busy = false := by
  intro t h'
  rw [List.take_succ_eq_append_getElem h, List.mem_append] at h'
  rcases h' with h' | h'
  · exact ha t h'
  · simp only [List.mem_singleton] at h'; subst h'; exact hb
theorem siImpl_calls (s : Srv) (hs : s.fits) (H : Heap) : ACalls Try.prog 7 [.agg (s.row.map .d)] H (fun r H' => H' = H ∧ r = .c (.d (.bool (idleB s.clients)))) := by
  obtain ⟨l, q⟩ := s
  obtain ⟨hl, h⟩ := hs
  simp only at hl h
  have hli : inR .i64 (l.length : Int) := small_i64 (by omega) (by omega)
  refine acalls Try.func7 (by kernel_rfl) ac7_ok fun hf => ?_
  simp -implicitDefEqProofs [ac7, Srv.row, hli, aw_skip, aw_region, aw_seq, aw_block, aw_cond, aw_exit, aw_ret, kq_nil, kq_seq, kq_seq_ret, kq_seq_exit, kq_block, kq_block_ret, kq_block_exit, kq_loop, kq_loop_ret, kq_loop_exit, awOps_nil, awOps_cons, awOps_guardE, nx_eq, awOp, ev_k, ev_0, ev_1, ev_2, ev_3, ev_4, ev_5, ev_6, ev_7, ev_8, set_0, set_1, set_2, set_3, set_4, set_5, set_6, set_7, set_8, -List.set_cons_succ, -List.set_cons_zero, A.ok, A.val, setSl, wrapG, guardB, getB, pickA, binA, binC, binD, cmpD, isCmp, unA, unD, lenA, AOp.total, kills, litB, FinQ, resOks, resOk, resA, resList, resOne, A.thaw, C.thaw, A.fits, As.fits, C.fits, evs, oks, callArgs, A.pure, C.pure, A.re, C.re, fieldAddrA, loadC, cut, A.cells, C.rows?, getOb, newOb, setOb, storeC, splice, Ob.re, Cs.fits, partsA, partsOk, parts2A, parts2Ok, fillC, fillRows, optInt, optOk, sliceA, optK_some, storeK_some, Option.map_some, toDs, C.toD, spliceD, appendA, capsOf, srcRows, allLen_nil_iff, allLen_cons_iff, allLen_append_iff, dropC, Obs.fits, eqCs, eqD]
  refine loop_set (σ := Nat) (fun i => [(7, .c (.d (.int .i64 i)))]) (fun _ => H) (fun _ => [_]) (fun i => i ≤ l.length ∧ ∀ t ∈ l.take i, t.busy = false) (fun i => l.length - i) 0 rfl ⟨Nat.zero_le _, by simp⟩ ?_
  rintro i ⟨hi, hall⟩
  simp -implicitDefEqProofs [setAll, hli, aw_skip, aw_region, aw_seq, aw_block, aw_cond, aw_exit, aw_ret, kq_nil, kq_seq, kq_seq_ret, kq_seq_exit, kq_block, kq_block_ret, kq_block_exit, kq_loop, kq_loop_ret, kq_loop_exit, awOps_nil, awOps_cons, awOps_guardE, nx_eq, awOp, ev_k, ev_0, ev_1, ev_2, ev_3, ev_4, ev_5, ev_6, ev_7, ev_8, set_0, set_1, set_2, set_3, set_4, set_5, set_6, set_7, set_8, -List.set_cons_succ, -List.set_cons_zero, A.ok, A.val, setSl, wrapG, guardB, getB, pickA, binA, binC, binD, cmpD, isCmp, unA, unD, lenA, AOp.total, kills, litB, FinQ, resOks, resOk, resA, resList, resOne, A.thaw, C.thaw, A.fits, As.fits, C.fits, evs, oks, callArgs, A.pure, C.pure, A.re, C.re, fieldAddrA, loadC, cut, A.cells, C.rows?, getOb, newOb, setOb, storeC, splice, Ob.re, Cs.fits, partsA, partsOk, parts2A, parts2Ok, fillC, fillRows, optInt, optOk, sliceA, optK_some, storeK_some, Option.map_some, toDs, C.toD, spliceD, appendA, capsOf, srcRows, allLen_nil_iff, allLen_cons_iff, allLen_append_iff, dropC, Obs.fits, eqCs, eqD]
  refine ⟨fun hlt => ?_, fun hge => ?_⟩
  · have hadd : inR .i64 ((i : Int) + 1) := small_i64 (by omega) (by omega)
    refine row_of hlt (clirow_len _) ?_
    simp -implicitDefEqProofs [aw_skip, aw_region, aw_seq, aw_block, aw_cond, aw_exit, aw_ret, kq_nil, kq_seq, kq_seq_ret, kq_seq_exit, kq_block, kq_block_ret, kq_block_exit, kq_loop, kq_loop_ret, kq_loop_exit, awOps_nil, awOps_cons, awOps_guardE, nx_eq, awOp, ev_k, ev_0, ev_1, ev_2, ev_3, ev_4, ev_5, ev_6, ev_7, ev_8, set_0, set_1, set_2, set_3, set_4, set_5, set_6, set_7, set_8, -List.set_cons_succ, -List.set_cons_zero, A.ok, A.val, setSl, wrapG, guardB, getB, pickA, binA, binC, binD, cmpD, isCmp, unA, unD, lenA, AOp.total, kills, litB, FinQ, resOks, resOk, resA, resList, resOne, A.thaw, C.thaw, A.fits, As.fits, C.fits, evs, oks, callArgs, A.pure, C.pure, A.re, C.re, fieldAddrA, loadC, cut, A.cells, C.rows?, getOb, newOb, setOb, storeC, splice, Ob.re, Cs.fits, partsA, partsOk, parts2A, parts2Ok, fillC, fillRows, optInt, optOk, sliceA, optK_some, storeK_some, Option.map_some, toDs, C.toD, spliceD, appendA, capsOf, srcRows, allLen_nil_iff, allLen_cons_iff, allLen_append_iff, dropC, Obs.fits, eqCs, eqD]
    refine qcall_pure (idle_calls l[i] (h _ (List.getElem_mem hlt)).wait.1) hf rfl ?_
    cases hb : l[i].busy with
    | true =>
      have : idleB l = false := by
        unfold idleB
        rw [List.all_eq_false]
        exact ⟨_, List.getElem_mem hlt, by simp [hb]⟩
      simp -implicitDefEqProofs [hadd, this, aw_skip, aw_region, aw_seq, aw_block, aw_cond, aw_exit, aw_ret, kq_nil, kq_seq, kq_seq_ret, kq_seq_exit, kq_block, kq_block_ret, kq_block_exit, kq_loop, kq_loop_ret, kq_loop_exit, awOps_nil, awOps_cons, awOps_guardE, nx_eq, awOp, ev_k, ev_0, ev_1, ev_2, ev_3, ev_4, ev_5, ev_6, ev_7, ev_8, set_0, set_1, set_2, set_3, set_4, set_5, set_6, set_7, set_8, -List.set_cons_succ, -List.set_cons_zero, A.ok, A.val, setSl, wrapG, guardB, getB, pickA, binA, binC, binD, cmpD, isCmp, unA, unD, lenA, AOp.total, kills, litB, FinQ, resOks, resOk, resA, resList, resOne, A.thaw, C.thaw, A.fits, As.fits, C.fits, evs, oks, callArgs, A.pure, C.pure, A.re, C.re, fieldAddrA, loadC, cut, A.cells, C.rows?, getOb, newOb, setOb, storeC, splice, Ob.re, Cs.fits, partsA, partsOk, parts2A, parts2Ok, fillC, fillRows, optInt, optOk, sliceA, optK_some, storeK_some, Option.map_some, toDs, C.toD, spliceD, appendA, capsOf, srcRows, allLen_nil_iff, allLen_cons_iff, allLen_append_iff, dropC, Obs.fits, eqCs, eqD]
    | false =>
      simp -implicitDefEqProofs [hadd, aw_skip, aw_region, aw_seq, aw_block, aw_cond, aw_exit, aw_ret, kq_nil, kq_seq, kq_seq_ret, kq_seq_exit, kq_block, kq_block_ret, kq_block_exit, kq_loop, kq_loop_ret, kq_loop_exit, awOps_nil, awOps_cons, awOps_guardE, nx_eq, awOp, ev_k, ev_0, ev_1, ev_2, ev_3, ev_4, ev_5, ev_6, ev_7, ev_8, set_0, set_1, set_2, set_3, set_4, set_5, set_6, set_7, set_8, -List.set_cons_succ, -List.set_cons_zero, A.ok, A.val, setSl, wrapG, guardB, getB, pickA, binA, binC, binD, cmpD, isCmp, unA, unD, lenA, AOp.total, kills, litB, FinQ, resOks, resOk, resA, resList, resOne, A.thaw, C.thaw, A.fits, As.fits, C.fits, evs, oks, callArgs, A.pure, C.pure, A.re, C.re, fieldAddrA, loadC, cut, A.cells, C.rows?, getOb, newOb, setOb, storeC, splice, Ob.re, Cs.fits, partsA, partsOk, parts2A, parts2Ok, fillC, fillRows, optInt, optOk, sliceA, optK_some, storeK_some, Option.map_some, toDs, C.toD, spliceD, appendA, capsOf, srcRows, allLen_nil_iff, allLen_cons_iff, allLen_append_iff, dropC, Obs.fits, eqCs, eqD]
      exact loop_back (i + 1) (by simp [setAll]) ⟨hlt, idle_take hlt hall hb⟩ (by show l.length - (i + 1) < l.length - i; omega)
  · rw [List.take_of_length_le hge] at hall
    have : idleB l = true := List.all_eq_true.2 (fun c hc => by simp [hall c hc])
    simp [this]
theorem siSpec_calls (s : Srv) (hs : s.fits) (H : Heap) : ACalls Try.prog 5 [.agg (s.row.map .d)] H (fun r H' => H' = H ∧ r = .c (.d (.bool (idleB s.clients)))) := by
  obtain ⟨l, q⟩ := s
  obtain ⟨hl, h⟩ := hs
  simp only at hl h
  have hli : inR .i64 (l.length : Int) := small_i64 (by omega) (by omega)
  refine acalls Try.func5 (by kernel_rfl) ac5_ok fun hf => ?_
  simp -implicitDefEqProofs [ac5, Srv.row, hli, aw_skip, aw_region, aw_seq, aw_block, aw_cond, aw_exit, aw_ret, kq_nil, kq_seq, kq_seq_ret, kq_seq_exit, kq_block, kq_block_ret, kq_block_exit, kq_loop, kq_loop_ret, kq_loop_exit, awOps_nil, awOps_cons, awOps_guardE, nx_eq, awOp, ev_k, ev_0, ev_1, ev_2, ev_3, ev_4, ev_5, ev_6, ev_7, ev_8, set_0, set_1, set_2, set_3, set_4, set_5, set_6, set_7, set_8, -List.set_cons_succ, -List.set_cons_zero, A.ok, A.val, setSl, wrapG, guardB, getB, pickA, binA, binC, binD, cmpD, isCmp, unA, unD, lenA, AOp.total, kills, litB, FinQ, resOks, resOk, resA, resList, resOne, A.thaw, C.thaw, A.fits, As.fits, C.fits, evs, oks, callArgs, A.pure, C.pure, A.re, C.re, fieldAddrA, loadC, cut, A.cells, C.rows?, getOb, newOb, setOb, storeC, splice, Ob.re, Cs.fits, partsA, partsOk, parts2A, parts2Ok, fillC, fillRows, optInt, optOk, sliceA, optK_some, storeK_some, Option.map_some, toDs, C.toD, spliceD, appendA, capsOf, srcRows, allLen_nil_iff, allLen_cons_iff, allLen_append_iff, dropC, Obs.fits, eqCs, eqD]
  refine loop_set (σ := Nat) (fun i => [(3, .c (.d (.int .i64 i)))]) (fun _ => H) (fun _ => [_]) (fun i => i ≤ l.length ∧ ∀ t ∈ l.take i, t.busy = false) (fun i => l.length - i) 0 rfl ⟨Nat.zero_le _, by simp⟩ ?_
  rintro i ⟨hi, hall⟩
  simp -implicitDefEqProofs [setAll, hli, aw_skip, aw_region, aw_seq, aw_block, aw_cond, aw_exit, aw_ret, kq_nil, kq_seq, kq_seq_ret, kq_seq_exit, kq_block, kq_block_ret, kq_block_exit, kq_loop, kq_loop_ret, kq_loop_exit, awOps_nil, awOps_cons, awOps_guardE, nx_eq, awOp, ev_k, ev_0, ev_1, ev_2, ev_3, ev_4, ev_5, ev_6, ev_7, ev_8, set_0, set_1, set_2, set_3, set_4, set_5, set_6, set_7, set_8, -List.set_cons_succ, -List.set_cons_zero, A.ok, A.val, setSl, wrapG, guardB, getB, pickA, binA, binC, binD, cmpD, isCmp, unA, unD, lenA, AOp.total, kills, litB, FinQ, resOks, resOk, resA, resList, resOne, A.thaw, C.thaw, A.fits, As.fits, C.fits, evs, oks, callArgs, A.pure, C.pure, A.re, C.re, fieldAddrA, loadC, cut, A.cells, C.rows?, getOb, newOb, setOb, storeC, splice, Ob.re, Cs.fits, partsA, partsOk, parts2A, parts2Ok, fillC, fillRows, optInt, optOk, sliceA, optK_some, storeK_some, Option.map_some, toDs, C.toD, spliceD, appendA, capsOf, srcRows, allLen_nil_iff, allLen_cons_iff, allLen_append_iff, dropC, Obs.fits, eqCs, eqD]
  refine ⟨fun hlt => ?_, fun hge => ?_⟩
  · have hadd : inR .i64 ((i : Int) + 1) := small_i64 (by omega) (by omega)
    refine row_of hlt (clirow_len _) ?_
    simp -implicitDefEqProofs [clirow_len, take_clirow, pure_d, re_d, aw_skip, aw_region, aw_seq, aw_block, aw_cond, aw_exit, aw_ret, kq_nil, kq_seq, kq_seq_ret, kq_seq_exit, kq_block, kq_block_ret, kq_block_exit, kq_loop, kq_loop_ret, kq_loop_exit, awOps_nil, awOps_cons, awOps_guardE, nx_eq, awOp, ev_k, ev_0, ev_1, ev_2, ev_3, ev_4, ev_5, ev_6, ev_7, ev_8, set_0, set_1, set_2, set_3, set_4, set_5, set_6, set_7, set_8, -List.set_cons_succ, -List.set_cons_zero, A.ok, A.val, setSl, wrapG, guardB, getB, pickA, binA, binC, binD, cmpD, isCmp, unA, unD, lenA, AOp.total, kills, litB, FinQ, resOks, resOk, resA, resList, resOne, A.thaw, C.thaw, A.fits, As.fits, C.fits, evs, oks, callArgs, A.pure, C.pure, A.re, C.re, fieldAddrA, loadC, cut, A.cells, C.rows?, getOb, newOb, setOb, storeC, splice, Ob.re, Cs.fits, partsA, partsOk, parts2A, parts2Ok, fillC, fillRows, optInt, optOk, sliceA, optK_some, storeK_some, Option.map_some, toDs, C.toD, spliceD, appendA, capsOf, srcRows, allLen_nil_iff, allLen_cons_iff, allLen_append_iff, dropC, Obs.fits, eqCs, eqD]
    refine qcall_pure (busy_calls l[i] (h _ (List.getElem_mem hlt)).wait.1) hf rfl ?_
    cases hb : l[i].busy with
    | true =>
      have : idleB l = false := by
        unfold idleB
        rw [List.all_eq_false]
        exact ⟨_, List.getElem_mem hlt, by simp [hb]⟩
      simp -implicitDefEqProofs [hadd, this, aw_skip, aw_region, aw_seq, aw_block, aw_cond, aw_exit, aw_ret, kq_nil, kq_seq, kq_seq_ret, kq_seq_exit, kq_block, kq_block_ret, kq_block_exit, kq_loop, kq_loop_ret, kq_loop_exit, awOps_nil, awOps_cons, awOps_guardE, nx_eq, awOp, ev_k, ev_0, ev_1, ev_2, ev_3, ev_4, ev_5, ev_6, ev_7, ev_8, set_0, set_1, set_2, set_3, set_4, set_5, set_6, set_7, set_8, -List.set_cons_succ, -List.set_cons_zero, A.ok, A.val, setSl, wrapG, guardB, getB, pickA, binA, binC, binD, cmpD, isCmp, unA, unD, lenA, AOp.total, kills, litB, FinQ, resOks, resOk, resA, resList, resOne, A.thaw, C.thaw, A.fits, As.fits, C.fits, evs, oks, callArgs, A.pure, C.pure, A.re, C.re, fieldAddrA, loadC, cut, A.cells, C.rows?, getOb, newOb, setOb, storeC, splice, Ob.re, Cs.fits, partsA, partsOk, parts2A, parts2Ok, fillC, fillRows, optInt, optOk, sliceA, optK_some, storeK_some, Option.map_some, toDs, C.toD, spliceD, appendA, capsOf, srcRows, allLen_nil_iff, allLen_cons_iff, allLen_append_iff, dropC, Obs.fits, eqCs, eqD]
    | false =>
      simp -implicitDefEqProofs [hadd, aw_skip, aw_region, aw_seq, aw_block, aw_cond, aw_exit, aw_ret, kq_nil, kq_seq, kq_seq_ret, kq_seq_exit, kq_block, kq_block_ret, kq_block_exit, kq_loop, kq_loop_ret, kq_loop_exit, awOps_nil, awOps_cons, awOps_guardE, nx_eq, awOp, ev_k, ev_0, ev_1, ev_2, ev_3, ev_4, ev_5, ev_6, ev_7, ev_8, set_0, set_1, set_2, set_3, set_4, set_5, set_6, set_7, set_8, -List.set_cons_succ, -List.set_cons_zero, A.ok, A.val, setSl, wrapG, guardB, getB, pickA, binA, binC, binD, cmpD, isCmp, unA, unD, lenA, AOp.total, kills, litB, FinQ, resOks, resOk, resA, resList, resOne, A.thaw, C.thaw, A.fits, As.fits, C.fits, evs, oks, callArgs, A.pure, C.pure, A.re, C.re, fieldAddrA, loadC, cut, A.cells, C.rows?, getOb, newOb, setOb, storeC, splice, Ob.re, Cs.fits, partsA, partsOk, parts2A, parts2Ok, fillC, fillRows, optInt, optOk, sliceA, optK_some, storeK_some, Option.map_some, toDs, C.toD, spliceD, appendA, capsOf, srcRows, allLen_nil_iff, allLen_cons_iff, allLen_append_iff, dropC, Obs.fits, eqCs, eqD]
      exact loop_back (i + 1) (by simp [setAll]) ⟨hlt, idle_take hlt hall hb⟩ (by show l.length - (i + 1) < l.length - i; omega)
  · rw [List.take_of_length_le hge] at hall
    have : idleB l = true := List.all_eq_true.2 (fun c hc => by simp [hall c hc])
    simp [this]
theorem siLaw_calls (s : Srv) (hs : s.fine) : ACalls Try.prog 3 [.agg (s.row.map .d)] [] (fun r _ => r = .c (.d (.bool true))) := by
  refine acalls Try.func3 (by kernel_rfl) ac3_ok fun hf => ?_
  have sz1 := szServer_calls s hs
  have to1 := toServer_calls s
  have eq1 := eqServer_calls s
  have sp := siSpec_calls s
  have im := siImpl_calls s
  simp only [Srv.row, List.map_cons, List.map_nil] at sz1 to1 eq1 sp im
  simp -implicitDefEqProofs [ac3, Srv.row, aw_skip, aw_region, aw_seq, aw_block, aw_cond, aw_exit, aw_ret, kq_nil, kq_seq, kq_seq_ret, kq_seq_exit, kq_block, kq_block_ret, kq_block_exit, kq_loop, kq_loop_ret, kq_loop_exit, awOps_nil, awOps_cons, awOps_guardE, nx_eq, awOp, ev_k, ev_0, ev_1, ev_2, ev_3, ev_4, ev_5, ev_6, ev_7, ev_8, set_0, set_1, set_2, set_3, set_4, set_5, set_6, set_7, set_8, -List.set_cons_succ, -List.set_cons_zero, A.ok, A.val, setSl, wrapG, guardB, getB, pickA, binA, binC, binD, cmpD, isCmp, unA, unD, lenA, AOp.total, kills, litB, FinQ, resOks, resOk, resA, resList, resOne, A.thaw, C.thaw, A.fits, As.fits, C.fits, evs, oks, callArgs, A.pure, C.pure, A.re, C.re, fieldAddrA, loadC, cut, A.cells, C.rows?, getOb, newOb, setOb, storeC, splice, Ob.re, Cs.fits, partsA, partsOk, parts2A, parts2Ok, fillC, fillRows, optInt, optOk, sliceA, optK_some, storeK_some, Option.map_some, toDs, C.toD, spliceD, appendA, capsOf, srcRows, allLen_nil_iff, allLen_cons_iff, allLen_append_iff, dropC, Obs.fits, eqCs, eqD]
  refine call_some (sz1 1048576 (by omega) (by omega) _) (by simp [Ob.re, C.re]) (fun r => Left.re) hf ?_
  rintro _ ⟨q, rfl, hq0, hq1, hq2⟩
  simp -implicitDefEqProofs [aw_skip, aw_region, aw_seq, aw_block, aw_cond, aw_exit, aw_ret, kq_nil, kq_seq, kq_seq_ret, kq_seq_exit, kq_block, kq_block_ret, kq_block_exit, kq_loop, kq_loop_ret, kq_loop_exit, awOps_nil, awOps_cons, awOps_guardE, nx_eq, awOp, ev_k, ev_0, ev_1, ev_2, ev_3, ev_4, ev_5, ev_6, ev_7, ev_8, set_0, set_1, set_2, set_3, set_4, set_5, set_6, set_7, set_8, -List.set_cons_succ, -List.set_cons_zero, A.ok, A.val, setSl, wrapG, guardB, getB, pickA, binA, binC, binD, cmpD, isCmp, unA, unD, lenA, AOp.total, kills, litB, FinQ, resOks, resOk, resA, resList, resOne, A.thaw, C.thaw, A.fits, As.fits, C.fits, evs, oks, callArgs, A.pure, C.pure, A.re, C.re, fieldAddrA, loadC, cut, A.cells, C.rows?, getOb, newOb, setOb, storeC, splice, Ob.re, Cs.fits, partsA, partsOk, parts2A, parts2Ok, fillC, fillRows, optInt, optOk, sliceA, optK_some, storeK_some, Option.map_some, toDs, C.toD, spliceD, appendA, capsOf, srcRows, allLen_nil_iff, allLen_cons_iff, allLen_append_iff, dropC, Obs.fits, eqCs, eqD]
  intro hq
  have hL := hq2 hq
  refine qcall_pure (to1 hL) hf rfl ?_
  simp -implicitDefEqProofs [aw_skip, aw_region, aw_seq, aw_block, aw_cond, aw_exit, aw_ret, kq_nil, kq_seq, kq_seq_ret, kq_seq_exit, kq_block, kq_block_ret, kq_block_exit, kq_loop, kq_loop_ret, kq_loop_exit, awOps_nil, awOps_cons, awOps_guardE, nx_eq, awOp, ev_k, ev_0, ev_1, ev_2, ev_3, ev_4, ev_5, ev_6, ev_7, ev_8, set_0, set_1, set_2, set_3, set_4, set_5, set_6, set_7, set_8, -List.set_cons_succ, -List.set_cons_zero, A.ok, A.val, setSl, wrapG, guardB, getB, pickA, binA, binC, binD, cmpD, isCmp, unA, unD, lenA, AOp.total, kills, litB, FinQ, resOks, resOk, resA, resList, resOne, A.thaw, C.thaw, A.fits, As.fits, C.fits, evs, oks, callArgs, A.pure, C.pure, A.re, C.re, fieldAddrA, loadC, cut, A.cells, C.rows?, getOb, newOb, setOb, storeC, splice, Ob.re, Cs.fits, partsA, partsOk, parts2A, parts2Ok, fillC, fillRows, optInt, optOk, sliceA, optK_some, storeK_some, Option.map_some, toDs, C.toD, spliceD, appendA, capsOf, srcRows, allLen_nil_iff, allLen_cons_iff, allLen_append_iff, dropC, Obs.fits, eqCs, eqD]
  refine qcall_pure (sp hL) hf rfl ?_
  simp -implicitDefEqProofs [aw_skip, aw_region, aw_seq, aw_block, aw_cond, aw_exit, aw_ret, kq_nil, kq_seq, kq_seq_ret, kq_seq_exit, kq_block, kq_block_ret, kq_block_exit, kq_loop, kq_loop_ret, kq_loop_exit, awOps_nil, awOps_cons, awOps_guardE, nx_eq, awOp, ev_k, ev_0, ev_1, ev_2, ev_3, ev_4, ev_5, ev_6, ev_7, ev_8, set_0, set_1, set_2, set_3, set_4, set_5, set_6, set_7, set_8, -List.set_cons_succ, -List.set_cons_zero, A.ok, A.val, setSl, wrapG, guardB, getB, pickA, binA, binC, binD, cmpD, isCmp, unA, unD, lenA, AOp.total, kills, litB, FinQ, resOks, resOk, resA, resList, resOne, A.thaw, C.thaw, A.fits, As.fits, C.fits, evs, oks, callArgs, A.pure, C.pure, A.re, C.re, fieldAddrA, loadC, cut, A.cells, C.rows?, getOb, newOb, setOb, storeC, splice, Ob.re, Cs.fits, partsA, partsOk, parts2A, parts2Ok, fillC, fillRows, optInt, optOk, sliceA, optK_some, storeK_some, Option.map_some, toDs, C.toD, spliceD, appendA, capsOf, srcRows, allLen_nil_iff, allLen_cons_iff, allLen_append_iff, dropC, Obs.fits, eqCs, eqD]
  refine qcall_pure (to1 hL) hf rfl ?_
  simp -implicitDefEqProofs [hf, aw_skip, aw_region, aw_seq, aw_block, aw_cond, aw_exit, aw_ret, kq_nil, kq_seq, kq_seq_ret, kq_seq_exit, kq_block, kq_block_ret, kq_block_exit, kq_loop, kq_loop_ret, kq_loop_exit, awOps_nil, awOps_cons, awOps_guardE, nx_eq, awOp, ev_k, ev_0, ev_1, ev_2, ev_3, ev_4, ev_5, ev_6, ev_7, ev_8, set_0, set_1, set_2, set_3, set_4, set_5, set_6, set_7, set_8, -List.set_cons_succ, -List.set_cons_zero, A.ok, A.val, setSl, wrapG, guardB, getB, pickA, binA, binC, binD, cmpD, isCmp, unA, unD, lenA, AOp.total, kills, litB, FinQ, resOks, resOk, resA, resList, resOne, A.thaw, C.thaw, A.fits, As.fits, C.fits, evs, oks, callArgs, A.pure, C.pure, A.re, C.re, fieldAddrA, loadC, cut, A.cells, C.rows?, getOb, newOb, setOb, storeC, splice, Ob.re, Cs.fits, partsA, partsOk, parts2A, parts2Ok, fillC, fillRows, optInt, optOk, sliceA, optK_some, storeK_some, Option.map_some, toDs, C.toD, spliceD, appendA, capsOf, srcRows, allLen_nil_iff, allLen_cons_iff, allLen_append_iff, dropC, Obs.fits, eqCs, eqD]
  refine qcall_pure (im hL) hf rfl ?_
  simp -implicitDefEqProofs [aw_skip, aw_region, aw_seq, aw_block, aw_cond, aw_exit, aw_ret, kq_nil, kq_seq, kq_seq_ret, kq_seq_exit, kq_block, kq_block_ret, kq_block_exit, kq_loop, kq_loop_ret, kq_loop_exit, awOps_nil, awOps_cons, awOps_guardE, nx_eq, awOp, ev_k, ev_0, ev_1, ev_2, ev_3, ev_4, ev_5, ev_6, ev_7, ev_8, set_0, set_1, set_2, set_3, set_4, set_5, set_6, set_7, set_8, -List.set_cons_succ, -List.set_cons_zero, A.ok, A.val, setSl, wrapG, guardB, getB, pickA, binA, binC, binD, cmpD, isCmp, unA, unD, lenA, AOp.total, kills, litB, FinQ, resOks, resOk, resA, resList, resOne, A.thaw, C.thaw, A.fits, As.fits, C.fits, evs, oks, callArgs, A.pure, C.pure, A.re, C.re, fieldAddrA, loadC, cut, A.cells, C.rows?, getOb, newOb, setOb, storeC, splice, Ob.re, Cs.fits, partsA, partsOk, parts2A, parts2Ok, fillC, fillRows, optInt, optOk, sliceA, optK_some, storeK_some, Option.map_some, toDs, C.toD, spliceD, appendA, capsOf, srcRows, allLen_nil_iff, allLen_cons_iff, allLen_append_iff, dropC, Obs.fits, eqCs, eqD]
  refine qcall_pure (to1 hL) hf rfl ?_
  simp -implicitDefEqProofs [aw_skip, aw_region, aw_seq, aw_block, aw_cond, aw_exit, aw_ret, kq_nil, kq_seq, kq_seq_ret, kq_seq_exit, kq_block, kq_block_ret, kq_block_exit, kq_loop, kq_loop_ret, kq_loop_exit, awOps_nil, awOps_cons, awOps_guardE, nx_eq, awOp, ev_k, ev_0, ev_1, ev_2, ev_3, ev_4, ev_5, ev_6, ev_7, ev_8, set_0, set_1, set_2, set_3, set_4, set_5, set_6, set_7, set_8, -List.set_cons_succ, -List.set_cons_zero, A.ok, A.val, setSl, wrapG, guardB, getB, pickA, binA, binC, binD, cmpD, isCmp, unA, unD, lenA, AOp.total, kills, litB, FinQ, resOks, resOk, resA, resList, resOne, A.thaw, C.thaw, A.fits, As.fits, C.fits, evs, oks, callArgs, A.pure, C.pure, A.re, C.re, fieldAddrA, loadC, cut, A.cells, C.rows?, getOb, newOb, setOb, storeC, splice, Ob.re, Cs.fits, partsA, partsOk, parts2A, parts2Ok, fillC, fillRows, optInt, optOk, sliceA, optK_some, storeK_some, Option.map_some, toDs, C.toD, spliceD, appendA, capsOf, srcRows, allLen_nil_iff, allLen_cons_iff, allLen_append_iff, dropC, Obs.fits, eqCs, eqD]
  refine qcall_pure (eq1 hL) hf rfl ?_
  simp -implicitDefEqProofs [aw_skip, aw_region, aw_seq, aw_block, aw_cond, aw_exit, aw_ret, kq_nil, kq_seq, kq_seq_ret, kq_seq_exit, kq_block, kq_block_ret, kq_block_exit, kq_loop, kq_loop_ret, kq_loop_exit, awOps_nil, awOps_cons, awOps_guardE, nx_eq, awOp, ev_k, ev_0, ev_1, ev_2, ev_3, ev_4, ev_5, ev_6, ev_7, ev_8, set_0, set_1, set_2, set_3, set_4, set_5, set_6, set_7, set_8, -List.set_cons_succ, -List.set_cons_zero, A.ok, A.val, setSl, wrapG, guardB, getB, pickA, binA, binC, binD, cmpD, isCmp, unA, unD, lenA, AOp.total, kills, litB, FinQ, resOks, resOk, resA, resList, resOne, A.thaw, C.thaw, A.fits, As.fits, C.fits, evs, oks, callArgs, A.pure, C.pure, A.re, C.re, fieldAddrA, loadC, cut, A.cells, C.rows?, getOb, newOb, setOb, storeC, splice, Ob.re, Cs.fits, partsA, partsOk, parts2A, parts2Ok, fillC, fillRows, optInt, optOk, sliceA, optK_some, storeK_some, Option.map_some, toDs, C.toD, spliceD, appendA, capsOf, srcRows, allLen_nil_iff, allLen_cons_iff, allLen_append_iff, dropC, Obs.fits, eqCs, eqD]
theorem law_run3 (rows : List (List D)) (hr : HasTys Try.prog (#[24] : Array TypeId).toList rows) : ACalls Try.prog 3 (argsA Try.prog (#[24] : Array TypeId).toList rows) [] (fun r _ => r = .c (.d (.bool true))) := by
  obtain ⟨r, rs, rfl, h1, h2⟩ := hr.cons
  obtain rfl := h2.nil
  obtain ⟨s, rfl, hs⟩ := server_ty h1
  simp only [argsA, argA, Try.underlying24]
  exact siLaw_calls s hs
namespace fnExactServerIdle
theorem own : ownKnob Try.prog.godebug = none := by kernel_rfl
theorem contract (H : Type) (enc : TypeId × Value → H) (W : World) (base : Nat) (args : Array Value) (ds gs : List (DataW H)) (before : List MemPlace)
    (hval : ∀ (j : Nat) t v, Try.f3.params[j]? = some t → args[j]? = some v → Value.okWide Try.prog W .any base t v)
    (hW : DataW.Whole enc Try.prog Try.f3.params.toList Rows.fnExactServerIdleSpec.vars false W args.toList ds gs before)
    (hw : (DataW.weightsEach Try.prog (Try.f3.params.toList ++ Rows.fnExactServerIdleSpec.plain.varTypes Try.prog) (ds ++ gs)).all (· ≤ reachBytes) = true) :
    Calls Try.prog 3 args W fun e W' => ∃ v, e = .returned v ∧ Rows.fnExactServerIdleSpec.post enc Try.prog Try.f3 false true false false W args v W' := by
  refine law_contract (L := [4, 3, 5, 9, 35, 49, 75, 50, 78, 52, 80, 51, 54, 56, 22, 24]) (tb := 4) (by kernel_rfl) (by kernel_rfl) (by kernel_rfl) rfl ?_ (by kernel_rfl) Try.underlying4 ?_ W base args ds gs before hval hW hw
  · intro ds hl
    match ds, hl with
    | [d0], _ => rfl
  · intro rows hr
    rw [Try.params3] at hr ⊢
    exact law_run3 rows hr

theorem lifted (os : Os) (started : os.Started) (H : Type) (enc : TypeId × Value → H) :
    ReturnsInHanded {} Try.checked os 3 .any (Rows.fnExactServerIdleSpec.pre6 enc Try.prog Try.f3 Rows.fnExactServerIdleRow.domain false) (Rows.fnExactServerIdleSpec.post enc Try.prog Try.f3 false true false false) := by
  refine returnsInHanded_of_change_sized (C := Try.checked) own started (by kernel_rfl) Try.func3
    (ChangeSpec.witness6 (enc := enc) (C := Try.checked) false ⟨#[], #[.agg #[.slice none 0 0, .int .i64 0]], []⟩ 8 (by kernel_rfl) (by kernel_rfl) (by kernel_rfl) (by kernel_rfl)) ?_
  intro W base args ds gs before hval hW _ hw _
  exact contract H enc W base args ds gs before hval hW hw

theorem proved : Rows.FnExactServerIdleSaid :=
  OpenClaim.holds_of_wide 3 Try.f3 rfl rfl rfl rfl rfl rfl rfl ⟨rfl, rfl, rfl, rfl, rfl⟩ rfl rfl rfl rfl rfl (by kernel_rfl) Try.func3 (by kernel_rfl)
    (of_decide_eq_true (by kernel_rfl)) (by unfold Func.isWrapper; first | (rw [if_pos (by decide +kernel)]; kernel_rfl) | (rw [if_neg (by decide +kernel)]; exact ⟨rfl, rfl⟩))
    (fun os started H enc _ => lifted os started H enc)
end fnExactServerIdle

end Go.Proofs.Ytkbbeoaoonoacaa
