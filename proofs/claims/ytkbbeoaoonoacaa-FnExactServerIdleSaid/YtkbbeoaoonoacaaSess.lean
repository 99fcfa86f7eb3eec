/-
  Sessions: the laws' sizes, copies and comparisons.
  Conditions: none.
-/
import Derived.Test.YtkbbeoaoonoacaaClause
open Go Go.AM Go.Proofs
namespace Go.Proofs.Ytkbbeoaoonoacaa
open Go.ChangeShapes Go.WideShapes Go.ChangeAt Go.RowKit
set_option linter.unusedVariables false
set_option linter.unusedSimpArgs false
set_option maxRecDepth 100000
-- 20 loop.example/prologserver/laws.szSession params 2 ntmps 18
def ac20 : Cd := .seq (.region [⟨(some 2), .box (.t 0), none⟩,
      ⟨(some 4), .mv (.k (.c (.d (.int .i64 0)))), none⟩] [0, 4])
  (.seq (.region [⟨(some 5), .fieldAddr 0 (.t 2), none⟩,
      ⟨(some 6), .load none (.t 5), none⟩,
      ⟨(some 7), .mv (.t 1), none⟩,
      ⟨(some 8), .call false 19 [(.t 6), (.t 7)], none⟩,
      ⟨(some 1), .mv (.t 8), none⟩] [5, 6, 7, 8])
  (.seq (.seq (.region [⟨(some 9), .mv (.t 1), none⟩,
        ⟨(some 10), .bin .lss (.t 9) (.k (.c (.d (.int .i64 0)))), none⟩] [9])
    (.cond (.t 10)
      (.seq (.region [⟨(some 4), .mv (.k (.c (.d (.int .i64 (-1))))), none⟩] [1, 2, 10])
      (.ret))
      (.skip)))
  (.seq (.region [⟨(some 11), .fieldAddr 1 (.t 2), none⟩,
      ⟨(some 12), .load none (.t 11), none⟩,
      ⟨(some 13), .mv (.t 1), none⟩,
      ⟨(some 14), .call false 32 [(.t 12), (.t 13)], none⟩,
      ⟨(some 1), .mv (.t 14), none⟩] [2, 4, 10, 11, 12, 13, 14])
  (.seq (.seq (.region [⟨(some 15), .mv (.t 1), none⟩,
        ⟨(some 16), .bin .lss (.t 15) (.k (.c (.d (.int .i64 0)))), none⟩] [15])
    (.cond (.t 16)
      (.seq (.region [⟨(some 4), .mv (.k (.c (.d (.int .i64 (-1))))), none⟩] [1, 16])
      (.ret))
      (.skip)))
  (.seq (.region [⟨(some 17), .mv (.t 1), none⟩,
      ⟨(some 4), .mv (.t 17), none⟩] [1, 16, 17])
  (.ret))))))
theorem ac20_ok : cFunc Try.prog [] [(0, [0, 4], []), (1, [5, 6, 7, 8], []), (2, [9], []), (3, [1, 2, 10], []), (4, [2, 4, 10, 11, 12, 13, 14], []), (5, [15], []), (6, [1, 16], []), (7, [1, 16, 17], [])] Try.f20 = some (ac20, [.tmp 4], 18) := by kernel_rfl
-- 24 loop.example/prologserver/laws.toSession params 1 ntmps 25
def ac24 : Cd := .seq (.region [⟨(some 1), .box (.t 0), none⟩,
      ⟨(some 2), .alloc [(.full []), (.full []), (.d (.int .i64 0)), (.d (.int .i64 0)), (.d (.int .i64 0)), (.d (.int .i64 0))], none⟩] [0])
  (.seq (.region [⟨(some 3), .alloc [(.full []), (.full []), (.d (.int .i64 0)), (.d (.int .i64 0)), (.d (.int .i64 0)), (.d (.int .i64 0))], none⟩] [])
  (.seq (.region [⟨(some 4), .fieldAddr 0 (.t 1), none⟩,
      ⟨(some 5), .load none (.t 4), none⟩,
      ⟨(some 6), .qcall 23 [(.t 5)], none⟩,
      ⟨(some 7), .fieldAddr 0 (.t 3), none⟩,
      ⟨none, .store 1 (.t 7) (.t 6), none⟩] [4, 5, 6, 7])
  (.seq (.region [⟨(some 8), .fieldAddr 1 (.t 1), none⟩,
      ⟨(some 9), .load none (.t 8), none⟩,
      ⟨(some 10), .qcall 36 [(.t 9)], none⟩,
      ⟨(some 11), .fieldAddr 1 (.t 3), none⟩,
      ⟨none, .store 1 (.t 11) (.t 10), none⟩] [8, 9, 10, 11])
  (.seq (.region [⟨(some 12), .fieldAddr 2 (.t 1), none⟩,
      ⟨(some 13), .load none (.t 12), none⟩,
      ⟨(some 14), .fieldAddr 2 (.t 3), none⟩,
      ⟨none, .store 1 (.t 14) (.t 13), none⟩] [12, 13, 14])
  (.seq (.region [⟨(some 15), .fieldAddr 3 (.t 1), none⟩,
      ⟨(some 16), .load none (.t 15), none⟩,
      ⟨(some 17), .fieldAddr 3 (.t 3), none⟩,
      ⟨none, .store 1 (.t 17) (.t 16), none⟩] [15, 16, 17])
  (.seq (.region [⟨(some 18), .fieldAddr 4 (.t 1), none⟩,
      ⟨(some 19), .load none (.t 18), none⟩,
      ⟨(some 20), .fieldAddr 4 (.t 3), none⟩,
      ⟨none, .store 1 (.t 20) (.t 19), none⟩] [18, 19, 20])
  (.seq (.region [⟨(some 21), .fieldAddr 5 (.t 1), none⟩,
      ⟨(some 22), .load none (.t 21), none⟩,
      ⟨(some 23), .fieldAddr 5 (.t 3), none⟩,
      ⟨none, .store 1 (.t 23) (.t 22), none⟩] [1, 21, 22, 23])
  (.seq (.region [⟨(some 24), .load (some 6) (.t 3), none⟩,
      ⟨none, .store 6 (.t 2) (.t 24), none⟩] [3, 24])
  (.ret)))))))))
theorem ac24_ok : cFunc Try.prog [1000023, 1000036] [(0, [0], []), (1, [], []), (2, [4, 5, 6, 7], []), (3, [8, 9, 10, 11], []), (4, [12, 13, 14], []), (5, [15, 16, 17], []), (6, [18, 19, 20], []), (7, [1, 21, 22, 23], []), (8, [3, 24], [])] Try.f24 = some (ac24, [.cell 2 (some 6)], 25) := by kernel_rfl
-- 28 loop.example/prologserver/laws.eqSession params 2 ntmps 37
def ac28 : Cd := .seq (.region [⟨(some 2), .box (.t 0), none⟩,
      ⟨(some 3), .box (.t 1), none⟩,
      ⟨(some 4), .mv (.k (.c (.d (.bool false)))), none⟩] [0, 1, 4])
  (.seq (.seq (.region [⟨(some 5), .fieldAddr 0 (.t 2), none⟩,
        ⟨(some 6), .load none (.t 5), none⟩,
        ⟨(some 7), .fieldAddr 0 (.t 3), none⟩,
        ⟨(some 8), .load none (.t 7), none⟩,
        ⟨(some 9), .qcall 27 [(.t 6), (.t 8)], none⟩,
        ⟨(some 10), .un .not (.t 9), none⟩] [5, 6, 7, 8, 9])
    (.cond (.t 10)
      (.seq (.region [⟨(some 4), .mv (.k (.c (.d (.bool false)))), none⟩] [2, 3, 10])
      (.ret))
      (.skip)))
  (.seq (.seq (.region [⟨(some 11), .fieldAddr 1 (.t 2), none⟩,
        ⟨(some 12), .load none (.t 11), none⟩,
        ⟨(some 13), .fieldAddr 1 (.t 3), none⟩,
        ⟨(some 14), .load none (.t 13), none⟩,
        ⟨(some 15), .qcall 40 [(.t 12), (.t 14)], none⟩,
        ⟨(some 16), .un .not (.t 15), none⟩] [4, 10, 11, 12, 13, 14, 15])
    (.cond (.t 16)
      (.seq (.region [⟨(some 4), .mv (.k (.c (.d (.bool false)))), none⟩] [2, 3, 16])
      (.ret))
      (.skip)))
  (.seq (.seq (.region [⟨(some 17), .fieldAddr 2 (.t 2), none⟩,
        ⟨(some 18), .load none (.t 17), none⟩,
        ⟨(some 19), .fieldAddr 2 (.t 3), none⟩,
        ⟨(some 20), .load none (.t 19), none⟩,
        ⟨(some 21), .bin .neq (.t 18) (.t 20), none⟩] [4, 16, 17, 18, 19, 20])
    (.cond (.t 21)
      (.seq (.region [⟨(some 4), .mv (.k (.c (.d (.bool false)))), none⟩] [2, 3, 21])
      (.ret))
      (.skip)))
  (.seq (.seq (.region [⟨(some 22), .fieldAddr 3 (.t 2), none⟩,
        ⟨(some 23), .load none (.t 22), none⟩,
        ⟨(some 24), .fieldAddr 3 (.t 3), none⟩,
        ⟨(some 25), .load none (.t 24), none⟩,
        ⟨(some 26), .bin .neq (.t 23) (.t 25), none⟩] [4, 21, 22, 23, 24, 25])
    (.cond (.t 26)
      (.seq (.region [⟨(some 4), .mv (.k (.c (.d (.bool false)))), none⟩] [2, 3, 26])
      (.ret))
      (.skip)))
  (.seq (.seq (.region [⟨(some 27), .fieldAddr 4 (.t 2), none⟩,
        ⟨(some 28), .load none (.t 27), none⟩,
        ⟨(some 29), .fieldAddr 4 (.t 3), none⟩,
        ⟨(some 30), .load none (.t 29), none⟩,
        ⟨(some 31), .bin .neq (.t 28) (.t 30), none⟩] [4, 26, 27, 28, 29, 30])
    (.cond (.t 31)
      (.seq (.region [⟨(some 4), .mv (.k (.c (.d (.bool false)))), none⟩] [2, 3, 31])
      (.ret))
      (.skip)))
  (.seq (.seq (.region [⟨(some 32), .fieldAddr 5 (.t 2), none⟩,
        ⟨(some 33), .load none (.t 32), none⟩,
        ⟨(some 34), .fieldAddr 5 (.t 3), none⟩,
        ⟨(some 35), .load none (.t 34), none⟩,
        ⟨(some 36), .bin .neq (.t 33) (.t 35), none⟩] [2, 3, 4, 31, 32, 33, 34, 35])
    (.cond (.t 36)
      (.seq (.region [⟨(some 4), .mv (.k (.c (.d (.bool false)))), none⟩] [36])
      (.ret))
      (.skip)))
  (.seq (.region [⟨(some 4), .mv (.k (.c (.d (.bool true)))), none⟩] [36])
  (.ret))))))))
theorem ac28_ok : cFunc Try.prog [1000027, 1000040] [(0, [0, 1, 4], []), (1, [5, 6, 7, 8, 9], []), (2, [2, 3, 10], []), (3, [4, 10, 11, 12, 13, 14, 15], []), (4, [2, 3, 16], []), (5, [4, 16, 17, 18, 19, 20], []), (6, [2, 3, 21], []), (7, [4, 21, 22, 23, 24, 25], []), (8, [2, 3, 26], []), (9, [4, 26, 27, 28, 29, 30], []), (10, [2, 3, 31], []), (11, [2, 3, 4, 31, 32, 33, 34, 35], []), (12, [36], []), (13, [36], [])] Try.f28 = some (ac28, [.tmp 4], 37) := by kernel_rfl
/-- a session -/
structure Ss where
  prog : List Cl
  query : List Tm
  quota : Int
  used : Int
  sent : Int
  fin : Int
noncomputable instance : DecidableEq Ss := fun a b => Classical.propDecidable (a = b)
def Ss.row (s : Ss) : List D := [.sl (s.prog.map Cl.row), .sl (s.query.map Tm.row), .int .i64 s.quota, .int .i64 s.used, .int .i64 s.sent, .int .i64 s.fin]
def FitsT (l : List Tm) : Prop := l.length ≤ 1048576 ∧ ∀ t ∈ l, t.fits
structure Ss.fine (s : Ss) : Prop where
  plen : s.prog.length ≤ reachBytes
  prog : ∀ c ∈ s.prog, c.fine
  qlen : s.query.length ≤ reachBytes
  query : ∀ t ∈ s.query, t.fine
structure Ss.fits (s : Ss) : Prop where
  prog : FitsC s.prog
  query : FitsT s.query
theorem szSession_calls (s : Ss) (hs : s.fine) (m : Int) (h0 : 0 ≤ m) (h1 : m ≤ 1048576) (H : Heap) :
    ACalls Try.prog 20 [.agg (s.row.map .d), .c (.d (.int .i64 m))] H (fun r H' => H' = H ∧ Left m s.fits r) := by
  obtain ⟨p, q, a, b, c, d⟩ := s
  obtain ⟨hp, hpf, hq, hqf⟩ := hs
  refine acalls Try.func20 (by kernel_rfl) ac20_ok fun hf => ?_
  simp -implicitDefEqProofs [ac20, Ss.row, aw_skip, aw_region, aw_seq, aw_block, aw_cond, aw_exit, aw_ret, kq_nil, kq_seq, kq_seq_ret, kq_seq_exit, kq_block, kq_block_ret, kq_block_exit, kq_loop, kq_loop_ret, kq_loop_exit, awOps_nil, awOps_cons, awOps_guardE, nx_eq, awOp, ev_k, ev_0, ev_1, ev_2, ev_3, ev_4, ev_5, ev_6, ev_7, ev_8, set_0, set_1, set_2, set_3, set_4, set_5, set_6, set_7, set_8, -List.set_cons_succ, -List.set_cons_zero, A.ok, A.val, setSl, wrapG, guardB, getB, pickA, binA, binC, binD, cmpD, isCmp, unA, unD, lenA, AOp.total, kills, litB, FinQ, resOks, resOk, resA, resList, resOne, A.thaw, C.thaw, A.fits, As.fits, C.fits, evs, oks, callArgs, A.pure, C.pure, A.re, C.re, fieldAddrA, loadC, cut, A.cells, C.rows?, getOb, newOb, setOb, storeC, splice, Ob.re, Cs.fits, partsA, partsOk, parts2A, parts2Ok, fillC, fillRows, optInt, optOk, sliceA, optK_some, storeK_some, Option.map_some, toDs, C.toD, spliceD, appendA, capsOf, srcRows, allLen_nil_iff, allLen_cons_iff, allLen_append_iff, dropC, Obs.fits, eqCs, eqD]
  refine call_some (szClauseS_calls p hp hpf m h0 h1 _) (by simp [Ob.re, C.re]) (fun r => Left.re) hf ?_
  rintro _ ⟨x, rfl, hx0, hx1, hx2⟩
  simp -implicitDefEqProofs [aw_skip, aw_region, aw_seq, aw_block, aw_cond, aw_exit, aw_ret, kq_nil, kq_seq, kq_seq_ret, kq_seq_exit, kq_block, kq_block_ret, kq_block_exit, kq_loop, kq_loop_ret, kq_loop_exit, awOps_nil, awOps_cons, awOps_guardE, nx_eq, awOp, ev_k, ev_0, ev_1, ev_2, ev_3, ev_4, ev_5, ev_6, ev_7, ev_8, set_0, set_1, set_2, set_3, set_4, set_5, set_6, set_7, set_8, -List.set_cons_succ, -List.set_cons_zero, A.ok, A.val, setSl, wrapG, guardB, getB, pickA, binA, binC, binD, cmpD, isCmp, unA, unD, lenA, AOp.total, kills, litB, FinQ, resOks, resOk, resA, resList, resOne, A.thaw, C.thaw, A.fits, As.fits, C.fits, evs, oks, callArgs, A.pure, C.pure, A.re, C.re, fieldAddrA, loadC, cut, A.cells, C.rows?, getOb, newOb, setOb, storeC, splice, Ob.re, Cs.fits, partsA, partsOk, parts2A, parts2Ok, fillC, fillRows, optInt, optOk, sliceA, optK_some, storeK_some, Option.map_some, toDs, C.toD, spliceD, appendA, capsOf, srcRows, allLen_nil_iff, allLen_cons_iff, allLen_append_iff, dropC, Obs.fits, eqCs, eqD]
  refine ⟨fun _ => ⟨-1, rfl, by omega, by omega, fun h => by omega⟩, fun hx => ?_⟩
  refine call_some (szTermS_calls q hq hqf x hx (by omega) _) (by simp [Ob.re, C.re]) (fun r => Left.re) hf ?_
  rintro _ ⟨y, rfl, hy0, hy1, hy2⟩
  simp -implicitDefEqProofs [aw_skip, aw_region, aw_seq, aw_block, aw_cond, aw_exit, aw_ret, kq_nil, kq_seq, kq_seq_ret, kq_seq_exit, kq_block, kq_block_ret, kq_block_exit, kq_loop, kq_loop_ret, kq_loop_exit, awOps_nil, awOps_cons, awOps_guardE, nx_eq, awOp, ev_k, ev_0, ev_1, ev_2, ev_3, ev_4, ev_5, ev_6, ev_7, ev_8, set_0, set_1, set_2, set_3, set_4, set_5, set_6, set_7, set_8, -List.set_cons_succ, -List.set_cons_zero, A.ok, A.val, setSl, wrapG, guardB, getB, pickA, binA, binC, binD, cmpD, isCmp, unA, unD, lenA, AOp.total, kills, litB, FinQ, resOks, resOk, resA, resList, resOne, A.thaw, C.thaw, A.fits, As.fits, C.fits, evs, oks, callArgs, A.pure, C.pure, A.re, C.re, fieldAddrA, loadC, cut, A.cells, C.rows?, getOb, newOb, setOb, storeC, splice, Ob.re, Cs.fits, partsA, partsOk, parts2A, parts2Ok, fillC, fillRows, optInt, optOk, sliceA, optK_some, storeK_some, Option.map_some, toDs, C.toD, spliceD, appendA, capsOf, srcRows, allLen_nil_iff, allLen_cons_iff, allLen_append_iff, dropC, Obs.fits, eqCs, eqD]
  exact ⟨fun _ => ⟨-1, rfl, by omega, by omega, fun h => by omega⟩, fun hy => ⟨y, rfl, by omega, by omega, fun _ => ⟨hx2 hx, hy2 hy⟩⟩⟩
theorem toSession_calls (s : Ss) (hs : s.fits) (H : Heap) : ACalls Try.prog 24 [.agg (s.row.map .d)] H (fun r H' => H' = H ∧ r = .agg (s.row.map .d)) := by
  obtain ⟨p, q, a, b, c, d⟩ := s
  obtain ⟨hp, hq⟩ := hs
  refine acalls Try.func24 (by kernel_rfl) ac24_ok fun hf => ?_
  simp -implicitDefEqProofs [ac24, Ss.row, hf, aw_skip, aw_region, aw_seq, aw_block, aw_cond, aw_exit, aw_ret, kq_nil, kq_seq, kq_seq_ret, kq_seq_exit, kq_block, kq_block_ret, kq_block_exit, kq_loop, kq_loop_ret, kq_loop_exit, awOps_nil, awOps_cons, awOps_guardE, nx_eq, awOp, ev_k, ev_0, ev_1, ev_2, ev_3, ev_4, ev_5, ev_6, ev_7, ev_8, set_0, set_1, set_2, set_3, set_4, set_5, set_6, set_7, set_8, -List.set_cons_succ, -List.set_cons_zero, A.ok, A.val, setSl, wrapG, guardB, getB, pickA, binA, binC, binD, cmpD, isCmp, unA, unD, lenA, AOp.total, kills, litB, FinQ, resOks, resOk, resA, resList, resOne, A.thaw, C.thaw, A.fits, As.fits, C.fits, evs, oks, callArgs, A.pure, C.pure, A.re, C.re, fieldAddrA, loadC, cut, A.cells, C.rows?, getOb, newOb, setOb, storeC, splice, Ob.re, Cs.fits, partsA, partsOk, parts2A, parts2Ok, fillC, fillRows, optInt, optOk, sliceA, optK_some, storeK_some, Option.map_some, toDs, C.toD, spliceD, appendA, capsOf, srcRows, allLen_nil_iff, allLen_cons_iff, allLen_append_iff, dropC, Obs.fits, eqCs, eqD]
  refine qcall_pure (toClauseS_calls p hp) hf rfl ?_
  simp -implicitDefEqProofs [hf, aw_skip, aw_region, aw_seq, aw_block, aw_cond, aw_exit, aw_ret, kq_nil, kq_seq, kq_seq_ret, kq_seq_exit, kq_block, kq_block_ret, kq_block_exit, kq_loop, kq_loop_ret, kq_loop_exit, awOps_nil, awOps_cons, awOps_guardE, nx_eq, awOp, ev_k, ev_0, ev_1, ev_2, ev_3, ev_4, ev_5, ev_6, ev_7, ev_8, set_0, set_1, set_2, set_3, set_4, set_5, set_6, set_7, set_8, -List.set_cons_succ, -List.set_cons_zero, A.ok, A.val, setSl, wrapG, guardB, getB, pickA, binA, binC, binD, cmpD, isCmp, unA, unD, lenA, AOp.total, kills, litB, FinQ, resOks, resOk, resA, resList, resOne, A.thaw, C.thaw, A.fits, As.fits, C.fits, evs, oks, callArgs, A.pure, C.pure, A.re, C.re, fieldAddrA, loadC, cut, A.cells, C.rows?, getOb, newOb, setOb, storeC, splice, Ob.re, Cs.fits, partsA, partsOk, parts2A, parts2Ok, fillC, fillRows, optInt, optOk, sliceA, optK_some, storeK_some, Option.map_some, toDs, C.toD, spliceD, appendA, capsOf, srcRows, allLen_nil_iff, allLen_cons_iff, allLen_append_iff, dropC, Obs.fits, eqCs, eqD]
  refine qcall_pure (toTermS_calls q hq.1 hq.2) hf rfl ?_
  simp -implicitDefEqProofs [hf, aw_skip, aw_region, aw_seq, aw_block, aw_cond, aw_exit, aw_ret, kq_nil, kq_seq, kq_seq_ret, kq_seq_exit, kq_block, kq_block_ret, kq_block_exit, kq_loop, kq_loop_ret, kq_loop_exit, awOps_nil, awOps_cons, awOps_guardE, nx_eq, awOp, ev_k, ev_0, ev_1, ev_2, ev_3, ev_4, ev_5, ev_6, ev_7, ev_8, set_0, set_1, set_2, set_3, set_4, set_5, set_6, set_7, set_8, -List.set_cons_succ, -List.set_cons_zero, A.ok, A.val, setSl, wrapG, guardB, getB, pickA, binA, binC, binD, cmpD, isCmp, unA, unD, lenA, AOp.total, kills, litB, FinQ, resOks, resOk, resA, resList, resOne, A.thaw, C.thaw, A.fits, As.fits, C.fits, evs, oks, callArgs, A.pure, C.pure, A.re, C.re, fieldAddrA, loadC, cut, A.cells, C.rows?, getOb, newOb, setOb, storeC, splice, Ob.re, Cs.fits, partsA, partsOk, parts2A, parts2Ok, fillC, fillRows, optInt, optOk, sliceA, optK_some, storeK_some, Option.map_some, toDs, C.toD, spliceD, appendA, capsOf, srcRows, allLen_nil_iff, allLen_cons_iff, allLen_append_iff, dropC, Obs.fits, eqCs, eqD]
theorem eqSession_calls (s : Ss) (hs : s.fits) (H : Heap) : ACalls Try.prog 28 [.agg (s.row.map .d), .agg (s.row.map .d)] H (fun r H' => H' = H ∧ r = .c (.d (.bool true))) := by
  obtain ⟨p, q, a, b, c, d⟩ := s
  obtain ⟨hp, hq⟩ := hs
  refine acalls Try.func28 (by kernel_rfl) ac28_ok fun hf => ?_
  simp -implicitDefEqProofs [ac28, Ss.row, hf, aw_skip, aw_region, aw_seq, aw_block, aw_cond, aw_exit, aw_ret, kq_nil, kq_seq, kq_seq_ret, kq_seq_exit, kq_block, kq_block_ret, kq_block_exit, kq_loop, kq_loop_ret, kq_loop_exit, awOps_nil, awOps_cons, awOps_guardE, nx_eq, awOp, ev_k, ev_0, ev_1, ev_2, ev_3, ev_4, ev_5, ev_6, ev_7, ev_8, set_0, set_1, set_2, set_3, set_4, set_5, set_6, set_7, set_8, -List.set_cons_succ, -List.set_cons_zero, A.ok, A.val, setSl, wrapG, guardB, getB, pickA, binA, binC, binD, cmpD, isCmp, unA, unD, lenA, AOp.total, kills, litB, FinQ, resOks, resOk, resA, resList, resOne, A.thaw, C.thaw, A.fits, As.fits, C.fits, evs, oks, callArgs, A.pure, C.pure, A.re, C.re, fieldAddrA, loadC, cut, A.cells, C.rows?, getOb, newOb, setOb, storeC, splice, Ob.re, Cs.fits, partsA, partsOk, parts2A, parts2Ok, fillC, fillRows, optInt, optOk, sliceA, optK_some, storeK_some, Option.map_some, toDs, C.toD, spliceD, appendA, capsOf, srcRows, allLen_nil_iff, allLen_cons_iff, allLen_append_iff, dropC, Obs.fits, eqCs, eqD]
  refine qcall_pure (eqClauseS_calls p hp) hf rfl ?_
  simp -implicitDefEqProofs [hf, aw_skip, aw_region, aw_seq, aw_block, aw_cond, aw_exit, aw_ret, kq_nil, kq_seq, kq_seq_ret, kq_seq_exit, kq_block, kq_block_ret, kq_block_exit, kq_loop, kq_loop_ret, kq_loop_exit, awOps_nil, awOps_cons, awOps_guardE, nx_eq, awOp, ev_k, ev_0, ev_1, ev_2, ev_3, ev_4, ev_5, ev_6, ev_7, ev_8, set_0, set_1, set_2, set_3, set_4, set_5, set_6, set_7, set_8, -List.set_cons_succ, -List.set_cons_zero, A.ok, A.val, setSl, wrapG, guardB, getB, pickA, binA, binC, binD, cmpD, isCmp, unA, unD, lenA, AOp.total, kills, litB, FinQ, resOks, resOk, resA, resList, resOne, A.thaw, C.thaw, A.fits, As.fits, C.fits, evs, oks, callArgs, A.pure, C.pure, A.re, C.re, fieldAddrA, loadC, cut, A.cells, C.rows?, getOb, newOb, setOb, storeC, splice, Ob.re, Cs.fits, partsA, partsOk, parts2A, parts2Ok, fillC, fillRows, optInt, optOk, sliceA, optK_some, storeK_some, Option.map_some, toDs, C.toD, spliceD, appendA, capsOf, srcRows, allLen_nil_iff, allLen_cons_iff, allLen_append_iff, dropC, Obs.fits, eqCs, eqD]
  refine qcall_pure (eqTermS_calls q hq.1 hq.2) hf rfl ?_
  simp -implicitDefEqProofs [hf, aw_skip, aw_region, aw_seq, aw_block, aw_cond, aw_exit, aw_ret, kq_nil, kq_seq, kq_seq_ret, kq_seq_exit, kq_block, kq_block_ret, kq_block_exit, kq_loop, kq_loop_ret, kq_loop_exit, awOps_nil, awOps_cons, awOps_guardE, nx_eq, awOp, ev_k, ev_0, ev_1, ev_2, ev_3, ev_4, ev_5, ev_6, ev_7, ev_8, set_0, set_1, set_2, set_3, set_4, set_5, set_6, set_7, set_8, -List.set_cons_succ, -List.set_cons_zero, A.ok, A.val, setSl, wrapG, guardB, getB, pickA, binA, binC, binD, cmpD, isCmp, unA, unD, lenA, AOp.total, kills, litB, FinQ, resOks, resOk, resA, resList, resOne, A.thaw, C.thaw, A.fits, As.fits, C.fits, evs, oks, callArgs, A.pure, C.pure, A.re, C.re, fieldAddrA, loadC, cut, A.cells, C.rows?, getOb, newOb, setOb, storeC, splice, Ob.re, Cs.fits, partsA, partsOk, parts2A, parts2Ok, fillC, fillRows, optInt, optOk, sliceA, optK_some, storeK_some, Option.map_some, toDs, C.toD, spliceD, appendA, capsOf, srcRows, allLen_nil_iff, allLen_cons_iff, allLen_append_iff, dropC, Obs.fits, eqCs, eqD]
theorem session_ty {row : List D} (h : HasTy Try.prog 54 row) : ∃ s : Ss, row = s.row ∧ s.fine := by
  obtain ⟨hl, hf⟩ := h.st_inv Try.underlying54
  rw [show Try.prog.cellsOf 54 = 6 from by kernel_rfl] at hl
  match row, hl with
  | [a, b, c, d, e, f], _ =>
    simp [show Try.prog.cellsOf 51 = 1 from by kernel_rfl, show Try.prog.cellsOf 52 = 1 from by kernel_rfl, show Try.prog.cellsOf 3 = 1 from by kernel_rfl] at hf
    obtain ⟨h1, h2, h3, h4, h5, h6⟩ := hf
    obtain ⟨l, e1, hl, hb⟩ := clauses_ty h1
    obtain ⟨r, e2, hr, hrb⟩ := tms_ty h2
    obtain ⟨x1, e3, _⟩ := h3.int_inv Try.underlying3
    obtain ⟨x2, e4, _⟩ := h4.int_inv Try.underlying3
    obtain ⟨x3, e5, _⟩ := h5.int_inv Try.underlying3
    obtain ⟨x4, e6, _⟩ := h6.int_inv Try.underlying3
    cases e1; cases e2; cases e3; cases e4; cases e5; cases e6
    exact ⟨⟨l, r, x1, x2, x3, x4⟩, rfl, hl, hb, hr, hrb⟩
end Go.Proofs.Ytkbbeoaoonoacaa
