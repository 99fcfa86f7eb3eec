/-
  New servers: what the program and the reference answer.
  Conditions: none.
-/
import Derived.Test.YtamaaiabbganjaaWithin
open Go Go.AM Go.Proofs
namespace Go.Proofs.Ytamaaiabbganjaa
open Go.ChangeShapes Go.WideShapes Go.ChangeAt Go.RowKit
set_option linter.unusedVariables false
set_option linter.unusedSimpArgs false
set_option maxRecDepth 100000
-- 33 loop.example/prologserver/impl.NewServer params 2 ntmps 19
def ac33 : Cd := .seq (.region [⟨(some 4), .alloc [(.full []), (.d (.int .i64 0))], none⟩,
      ⟨(some 5), .mv (.k (.c (.d (.bool false)))), none⟩] [5])
  (.seq (.seq (.region [⟨(some 6), .mv (.t 0), none⟩,
        ⟨(some 7), .qcall 51 [(.t 6), (.k (.c (.d (.int .i64 0)))), (.k (.c (.d (.int .i64 4))))], none⟩,
        ⟨(some 8), .un .not (.t 7), none⟩,
        ⟨(some 9), .mv (.t 8), none⟩,
        ⟨(some 10), .mv (.t 1), some (9, false)⟩,
        ⟨(some 11), .qcall 51 [(.t 10), (.k (.c (.d (.int .i64 0)))), (.k (.c (.d (.int .i64 300))))], some (9, false)⟩,
        ⟨(some 12), .un .not (.t 11), some (9, false)⟩,
        ⟨(some 13), .pick (.t 9) (.k (.c (.d (.bool true)))) (.t 12), none⟩] [6, 7, 8, 9, 10, 11, 12])
    (.cond (.t 13)
      (.seq (.region [⟨(some 14), .build [(.full []), (.d (.int .i64 0))] [], none⟩,
          ⟨none, .store 2 (.t 4) (.t 14), none⟩,
          ⟨(some 5), .mv (.k (.c (.d (.bool false)))), none⟩] [0, 1, 13, 14])
      (.ret))
      (.skip)))
  (.seq (.region [⟨(some 15), .mv (.t 0), none⟩,
      ⟨(some 16), .mkSlice [(.sl []), (.bool false), (.sl []), (.sl []), (.bool false), (.sl []), (.sl []), (.int .i64 0), (.int .i64 0), (.int .i64 0), (.int .i64 0), (.bool false), (.sl [])] (.t 15), none⟩,
      ⟨(some 17), .mv (.t 1), none⟩,
      ⟨(some 18), .build [(.full []), (.d (.int .i64 0))] [(0, 1, (.t 16)), (1, 1, (.t 17))], none⟩,
      ⟨none, .store 2 (.t 4) (.t 18), none⟩,
      ⟨(some 5), .mv (.k (.c (.d (.bool true)))), none⟩] [0, 1, 13, 15, 16, 17, 18])
  (.ret)))
theorem ac33_ok : cFunc Try.prog [1000051] [(0, [5], []), (1, [6, 7, 8, 9, 10, 11, 12], []), (2, [0, 1, 13, 14], []), (3, [0, 1, 13, 15, 16, 17, 18], [])] Try.f33 = some (ac33, [.cell 4 (some 2), .tmp 5], 19) := by kernel_rfl
-- 32 loop.example/prologserver/spec.NewServer params 2 ntmps 25
def ac32 : Cd := .seq (.region [⟨(some 4), .alloc [(.full []), (.d (.int .i64 0))], none⟩,
      ⟨(some 5), .mv (.k (.c (.d (.bool false)))), none⟩] [5])
  (.seq (.seq (.region [⟨(some 6), .mv (.t 0), none⟩,
        ⟨(some 7), .bin .lss (.t 6) (.k (.c (.d (.int .i64 0)))), none⟩,
        ⟨(some 8), .mv (.t 7), none⟩,
        ⟨(some 9), .mv (.t 0), some (8, false)⟩,
        ⟨(some 10), .bin .gtr (.t 9) (.k (.c (.d (.int .i64 4)))), some (8, false)⟩,
        ⟨(some 11), .pick (.t 8) (.k (.c (.d (.bool true)))) (.t 10), none⟩,
        ⟨(some 12), .mv (.t 11), none⟩,
        ⟨(some 13), .mv (.t 1), some (12, false)⟩,
        ⟨(some 14), .bin .lss (.t 13) (.k (.c (.d (.int .i64 0)))), some (12, false)⟩,
        ⟨(some 15), .pick (.t 12) (.k (.c (.d (.bool true)))) (.t 14), none⟩,
        ⟨(some 16), .mv (.t 15), none⟩,
        ⟨(some 17), .mv (.t 1), some (16, false)⟩,
        ⟨(some 18), .bin .gtr (.t 17) (.k (.c (.d (.int .i64 300)))), some (16, false)⟩,
        ⟨(some 19), .pick (.t 16) (.k (.c (.d (.bool true)))) (.t 18), none⟩] [6, 7, 8, 9, 10, 11, 12, 13, 14, 15, 16, 17, 18])
    (.cond (.t 19)
      (.seq (.region [⟨(some 20), .build [(.full []), (.d (.int .i64 0))] [], none⟩,
          ⟨none, .store 2 (.t 4) (.t 20), none⟩,
          ⟨(some 5), .mv (.k (.c (.d (.bool false)))), none⟩] [0, 1, 19, 20])
      (.ret))
      (.skip)))
  (.seq (.region [⟨(some 21), .mv (.t 0), none⟩,
      ⟨(some 22), .mkSlice [(.sl []), (.bool false), (.sl []), (.sl []), (.bool false), (.sl []), (.sl []), (.int .i64 0), (.int .i64 0), (.int .i64 0), (.int .i64 0), (.bool false), (.sl [])] (.t 21), none⟩,
      ⟨(some 23), .mv (.t 1), none⟩,
      ⟨(some 24), .build [(.full []), (.d (.int .i64 0))] [(0, 1, (.t 22)), (1, 1, (.t 23))], none⟩,
      ⟨none, .store 2 (.t 4) (.t 24), none⟩,
      ⟨(some 5), .mv (.k (.c (.d (.bool true)))), none⟩] [0, 1, 19, 21, 22, 23, 24])
  (.ret)))
theorem ac32_ok : cFunc Try.prog [] [(0, [5], []), (1, [6, 7, 8, 9, 10, 11, 12, 13, 14, 15, 16, 17, 18], []), (2, [0, 1, 19, 20], []), (3, [0, 1, 19, 21, 22, 23, 24], [])] Try.f32 = some (ac32, [.cell 4 (some 2), .tmp 5], 25) := by kernel_rfl
/-- a client that has done nothing -/
def zc : List D := [.sl [], .bool false, .sl [], .sl [], .bool false, .sl [], .sl [], .int .i64 0, .int .i64 0, .int .i64 0, .int .i64 0, .bool false, .sl []]
def svr (n : Nat) (q : Int) : List C := [.d (.sl (List.replicate n zc)), .d (.int .i64 q)]
def nsOk (c q : Int) : Bool := (decide (0 ≤ c) && decide (c ≤ 4)) && (decide (0 ≤ q) && decide (q ≤ 300))
def nsR (c q : Int) : A := if nsOk c q then .tup [.agg (svr c.toNat q), .c (.d (.bool true))] else .tup [.agg (svr 0 0), .c (.d (.bool false))]
theorem nsImpl_calls (c q : Int) (H : Heap) : ACalls Try.prog 33 [.c (.d (.int .i64 c)), .c (.d (.int .i64 q))] H (fun r H' => H' = H ∧ r = nsR c q) := by
  refine acalls Try.func33 (by kernel_rfl) ac33_ok fun hf => ?_
  simp -implicitDefEqProofs [ac33, aw_skip, aw_region, aw_seq, aw_block, aw_cond, aw_exit, aw_ret, kq_nil, kq_seq, kq_seq_ret, kq_seq_exit, kq_block, kq_block_ret, kq_block_exit, kq_loop, kq_loop_ret, kq_loop_exit, awOps_nil, awOps_cons, awOps_guardE, nx_eq, awOp, ev_k, ev_0, ev_1, ev_2, ev_3, ev_4, ev_5, ev_6, ev_7, ev_8, set_0, set_1, set_2, set_3, set_4, set_5, set_6, set_7, set_8, -List.set_cons_succ, -List.set_cons_zero, A.ok, A.val, setSl, wrapG, guardB, getB, pickA, binA, binC, binD, cmpD, isCmp, unA, unD, lenA, AOp.total, kills, litB, FinQ, resOks, resOk, resA, resList, resOne, A.thaw, C.thaw, A.fits, As.fits, C.fits, evs, oks, callArgs, A.pure, C.pure, A.re, C.re, fieldAddrA, loadC, cut, A.cells, C.rows?, getOb, newOb, setOb, storeC, splice, Ob.re, Cs.fits, partsA, partsOk, parts2A, parts2Ok, fillC, fillRows, optInt, optOk, sliceA, clipC, optK_some, storeK_some, Option.map_some, toDs, C.toD, spliceD, appendA, capsOf, srcRows, allLen_nil_iff, allLen_cons_iff, allLen_append_iff, dropC, Obs.fits, eqCs, eqD]
  refine qcall_pure (within_calls c 0 4) hf rfl ?_
  simp -implicitDefEqProofs [aw_skip, aw_region, aw_seq, aw_block, aw_cond, aw_exit, aw_ret, kq_nil, kq_seq, kq_seq_ret, kq_seq_exit, kq_block, kq_block_ret, kq_block_exit, kq_loop, kq_loop_ret, kq_loop_exit, awOps_nil, awOps_cons, awOps_guardE, nx_eq, awOp, ev_k, ev_0, ev_1, ev_2, ev_3, ev_4, ev_5, ev_6, ev_7, ev_8, set_0, set_1, set_2, set_3, set_4, set_5, set_6, set_7, set_8, -List.set_cons_succ, -List.set_cons_zero, A.ok, A.val, setSl, wrapG, guardB, getB, pickA, binA, binC, binD, cmpD, isCmp, unA, unD, lenA, AOp.total, kills, litB, FinQ, resOks, resOk, resA, resList, resOne, A.thaw, C.thaw, A.fits, As.fits, C.fits, evs, oks, callArgs, A.pure, C.pure, A.re, C.re, fieldAddrA, loadC, cut, A.cells, C.rows?, getOb, newOb, setOb, storeC, splice, Ob.re, Cs.fits, partsA, partsOk, parts2A, parts2Ok, fillC, fillRows, optInt, optOk, sliceA, clipC, optK_some, storeK_some, Option.map_some, toDs, C.toD, spliceD, appendA, capsOf, srcRows, allLen_nil_iff, allLen_cons_iff, allLen_append_iff, dropC, Obs.fits, eqCs, eqD]
  have bad : nsOk c q = false → nsR c q = A.tup [A.agg [C.d (D.sl []), C.d (D.int IntKind.i64 0)], A.c (C.d (D.bool false))] := fun h => by rw [nsR, h]; rfl
  refine ⟨fun h1 h2 => ⟨⟨h1, h2⟩, ?_⟩, fun h => ⟨hf, by rw [bad]; simp [nsOk]; omega⟩⟩
  refine qcall_pure (within_calls q 0 300) hf rfl ?_
  simp -implicitDefEqProofs [h1, h2, hf, aw_skip, aw_region, aw_seq, aw_block, aw_cond, aw_exit, aw_ret, kq_nil, kq_seq, kq_seq_ret, kq_seq_exit, kq_block, kq_block_ret, kq_block_exit, kq_loop, kq_loop_ret, kq_loop_exit, awOps_nil, awOps_cons, awOps_guardE, nx_eq, awOp, ev_k, ev_0, ev_1, ev_2, ev_3, ev_4, ev_5, ev_6, ev_7, ev_8, set_0, set_1, set_2, set_3, set_4, set_5, set_6, set_7, set_8, -List.set_cons_succ, -List.set_cons_zero, A.ok, A.val, setSl, wrapG, guardB, getB, pickA, binA, binC, binD, cmpD, isCmp, unA, unD, lenA, AOp.total, kills, litB, FinQ, resOks, resOk, resA, resList, resOne, A.thaw, C.thaw, A.fits, As.fits, C.fits, evs, oks, callArgs, A.pure, C.pure, A.re, C.re, fieldAddrA, loadC, cut, A.cells, C.rows?, getOb, newOb, setOb, storeC, splice, Ob.re, Cs.fits, partsA, partsOk, parts2A, parts2Ok, fillC, fillRows, optInt, optOk, sliceA, clipC, optK_some, storeK_some, Option.map_some, toDs, C.toD, spliceD, appendA, capsOf, srcRows, allLen_nil_iff, allLen_cons_iff, allLen_append_iff, dropC, Obs.fits, eqCs, eqD]
  refine ⟨fun h => by rw [bad]; simp [nsOk]; omega, fun h3 h4 => ⟨by unfold maxApp; omega, ?_⟩⟩
  rw [nsR, show nsOk c q = true by simp [nsOk]; omega]
  rfl
theorem nsSpec_calls (c q : Int) (H : Heap) : ACalls Try.prog 32 [.c (.d (.int .i64 c)), .c (.d (.int .i64 q))] H (fun r H' => H' = H ∧ r = nsR c q) := by
  refine acalls Try.func32 (by kernel_rfl) ac32_ok fun hf => ?_
  simp -implicitDefEqProofs [ac32, aw_skip, aw_region, aw_seq, aw_block, aw_cond, aw_exit, aw_ret, kq_nil, kq_seq, kq_seq_ret, kq_seq_exit, kq_block, kq_block_ret, kq_block_exit, kq_loop, kq_loop_ret, kq_loop_exit, awOps_nil, awOps_cons, awOps_guardE, nx_eq, awOp, ev_k, ev_0, ev_1, ev_2, ev_3, ev_4, ev_5, ev_6, ev_7, ev_8, set_0, set_1, set_2, set_3, set_4, set_5, set_6, set_7, set_8, -List.set_cons_succ, -List.set_cons_zero, A.ok, A.val, setSl, wrapG, guardB, getB, pickA, binA, binC, binD, cmpD, isCmp, unA, unD, lenA, AOp.total, kills, litB, FinQ, resOks, resOk, resA, resList, resOne, A.thaw, C.thaw, A.fits, As.fits, C.fits, evs, oks, callArgs, A.pure, C.pure, A.re, C.re, fieldAddrA, loadC, cut, A.cells, C.rows?, getOb, newOb, setOb, storeC, splice, Ob.re, Cs.fits, partsA, partsOk, parts2A, parts2Ok, fillC, fillRows, optInt, optOk, sliceA, clipC, optK_some, storeK_some, Option.map_some, toDs, C.toD, spliceD, appendA, capsOf, srcRows, allLen_nil_iff, allLen_cons_iff, allLen_append_iff, dropC, Obs.fits, eqCs, eqD]
  have bad : nsOk c q = false → nsR c q = A.tup [A.agg [C.d (D.sl []), C.d (D.int IntKind.i64 0)], A.c (C.d (D.bool false))] := fun h => by rw [nsR, h]; rfl
  refine ⟨fun h => ⟨hf, by rw [bad]; simp [nsOk]; omega⟩, fun h1 h2 h3 h4 => ⟨h1, by unfold maxApp; omega, hf, ?_⟩⟩
  rw [nsR, show nsOk c q = true by simp [nsOk]; omega]
  rfl
end Go.Proofs.Ytamaaiabbganjaa
