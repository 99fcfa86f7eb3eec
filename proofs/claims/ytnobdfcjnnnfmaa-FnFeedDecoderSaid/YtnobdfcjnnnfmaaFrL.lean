/-
  Decoders that are drawn.
  Conditions: none.
-/
import Derived.Test.YtnobdfcjnnnfmaaFrJ
import Derived.Test.YtnobdfcjnnnfmaaFrK
open Go Go.AM Go.Proofs
namespace Go.Proofs.Ytnobdfcjnnnfmaa
open Go.ChangeShapes Go.WideShapes Go.ChangeAt Go.RowKit
set_option linter.unusedVariables false
set_option linter.unusedSimpArgs false
set_option maxRecDepth 100000
-- 40 loop.example/prologserver/spec.DrawFeedDecoder params 1 ntmps 52
def ac40 : Cd := .seq (.region [⟨(some 2), .alloc [(.full []), (.d (.bool false))], none⟩,
      ⟨(some 3), .mv (.k (.c (.full []))), none⟩] [3])
  (.seq (.region [⟨(some 10), .mv (.t 0), none⟩,
      ⟨(some 11), .call false 69 [(.t 10)], none⟩,
      ⟨(some 4), .mv (.t 11), none⟩] [0, 10, 11])
  (.seq (.region [⟨(some 13), .build [(.full []), (.d (.bool false))] [], none⟩,
      ⟨(some 14), .mv (.t 4), none⟩,
      ⟨(some 15), .call false 68 [(.t 14)], none⟩,
      ⟨(some 16), .qcall 33 [(.t 13), (.t 15)], none⟩,
      ⟨(some 12), .mv (.t 16), none⟩,
      ⟨(some 17), .extract 0 (.t 12), none⟩,
      ⟨(some 18), .extract 1 (.t 12), none⟩,
      ⟨(some 5), .alloc [(.full []), (.d (.bool false))], none⟩,
      ⟨none, .store 2 (.t 5) (.t 17), none⟩,
      ⟨(some 6), .mv (.t 18), none⟩] [6, 12, 13, 14, 15, 16, 17, 18])
  (.seq (.region [⟨(some 19), .mv (.t 4), none⟩,
      ⟨(some 20), .call false 68 [(.t 19)], none⟩,
      ⟨(some 7), .mv (.t 20), none⟩] [19, 20])
  (.seq (.seq (.region [⟨(some 21), .mv (.t 4), none⟩,
        ⟨(some 22), .call false 84 [(.t 21), (.k (.c (.d (.int .i64 2))))], none⟩,
        ⟨(some 23), .bin .eql (.t 22) (.k (.c (.d (.int .i64 0)))), none⟩] [21, 22])
    (.cond (.t 23)
      (.seq (.region [⟨(some 24), .mv (.t 4), none⟩,
          ⟨(some 25), .call false 75 [(.t 24)], none⟩,
          ⟨(some 26), .qcall 35 [(.t 25)], none⟩,
          ⟨(some 8), .mv (.t 26), none⟩] [7, 23, 24, 25, 26])
      (.seq (.region [⟨(some 27), .mv (.t 4), none⟩,
          ⟨(some 28), .mv (.t 8), none⟩,
          ⟨(some 29), .len 1 (.t 28), none⟩,
          ⟨(some 30), .bin .add (.t 29) (.k (.c (.d (.int .i64 1)))), none⟩,
          ⟨(some 31), .call false 84 [(.t 27), (.t 30)], none⟩,
          ⟨(some 9), .mv (.t 31), none⟩] [27, 28, 29, 30, 31])
      (.seq (.region [⟨(some 33), .build [(.full []), (.d (.bool false))] [], none⟩,
          ⟨(some 34), .mv (.t 8), none⟩,
          ⟨(some 35), .mv (.t 9), none⟩,
          ⟨(some 36), .slice 1 (.t 34) none (some (.t 35)) none, none⟩,
          ⟨(some 37), .qcall 33 [(.t 33), (.t 36)], none⟩,
          ⟨(some 32), .mv (.t 37), none⟩,
          ⟨(some 38), .extract 0 (.t 32), none⟩,
          ⟨(some 39), .extract 1 (.t 32), none⟩,
          ⟨none, .store 2 (.t 5) (.t 38), none⟩] [32, 33, 34, 35, 36, 37, 38, 39])
      (.region [⟨(some 40), .mv (.t 8), none⟩,
        ⟨(some 41), .mv (.t 9), none⟩,
        ⟨(some 42), .slice 1 (.t 40) (some (.t 41)) none none, none⟩,
        ⟨(some 7), .mv (.t 42), none⟩] [8, 9, 40, 41, 42]))))
      (.skip)))
  (.seq (.seq (.weak (.region [⟨(some 43), .mv (.t 4), none⟩,
          ⟨(some 44), .call false 84 [(.t 43), (.k (.c (.d (.int .i64 16))))], none⟩,
          ⟨(some 45), .bin .eql (.t 44) (.k (.c (.d (.int .i64 0)))), none⟩] [4, 23, 43, 44]))
    (.cond (.t 45)
      (.region [⟨(some 46), .fieldAddr 1 (.t 5), none⟩,
        ⟨(some 47), .load none (.t 46), none⟩,
        ⟨(some 48), .un .not (.t 47), none⟩,
        ⟨(some 49), .fieldAddr 1 (.t 5), none⟩,
        ⟨none, .store 1 (.t 49) (.t 48), none⟩] [45, 46, 47, 48, 49])
      (.skip)))
  (.seq (.region [⟨(some 50), .load (some 2) (.t 5), none⟩,
      ⟨(some 51), .mv (.t 7), none⟩,
      ⟨none, .store 2 (.t 2) (.t 50), none⟩,
      ⟨(some 3), .mv (.t 51), none⟩] [5, 7, 45, 50, 51])
  (.ret)))))))
theorem ac40_ok : cFunc Try.prog [1000033, 1000035, 4000009] [(0, [3], []), (1, [0, 10, 11], []), (2, [6, 12, 13, 14, 15, 16, 17, 18], []), (3, [19, 20], []), (4, [21, 22], []), (5, [7, 23, 24, 25, 26], []), (6, [27, 28, 29, 30, 31], []), (7, [32, 33, 34, 35, 36, 37, 38, 39], []), (8, [8, 9, 40, 41, 42], []), (9, [4, 23, 43, 44], []), (10, [45, 46, 47, 48, 49], []), (11, [5, 7, 45, 50, 51], [])] Try.f40 = some (ac40, [.cell 2 (some 2), .tmp 3], 52) := by kernel_rfl
-- 38 loop.example/prologserver/spec.DrawDecoderValid params 1 ntmps 20
def ac38 : Cd := .seq (.region [⟨(some 2), .alloc [(.full []), (.d (.bool false))], none⟩] [])
  (.seq (.region [⟨(some 6), .mv (.t 0), none⟩,
      ⟨(some 7), .call false 69 [(.t 6)], none⟩,
      ⟨(some 3), .mv (.t 7), none⟩] [6, 7])
  (.seq (.region [⟨(some 9), .mv (.t 0), none⟩,
      ⟨(some 10), .call false 40 [(.t 9)], none⟩,
      ⟨(some 8), .mv (.t 10), none⟩,
      ⟨(some 11), .extract 0 (.t 8), none⟩,
      ⟨(some 12), .extract 1 (.t 8), none⟩,
      ⟨(some 4), .alloc [(.full []), (.d (.bool false))], none⟩,
      ⟨none, .store 2 (.t 4) (.t 11), none⟩,
      ⟨(some 5), .mv (.t 12), none⟩] [0, 5, 8, 9, 10, 11, 12])
  (.seq (.seq (.region [⟨(some 13), .mv (.t 3), none⟩,
        ⟨(some 14), .call false 84 [(.t 13), (.k (.c (.d (.int .i64 6))))], none⟩,
        ⟨(some 15), .bin .eql (.t 14) (.k (.c (.d (.int .i64 0)))), none⟩] [13, 14])
    (.cond (.t 15)
      (.region [⟨(some 16), .mv (.t 3), none⟩,
        ⟨(some 17), .call false 68 [(.t 16)], none⟩,
        ⟨(some 18), .fieldAddr 0 (.t 4), none⟩,
        ⟨none, .store 1 (.t 18) (.t 17), none⟩] [3, 15, 16, 17, 18])
      (.skip)))
  (.seq (.weak (.region [⟨(some 19), .load (some 2) (.t 4), none⟩,
        ⟨none, .store 2 (.t 2) (.t 19), none⟩] [3, 4, 15, 19]))
  (.ret)))))
theorem ac38_ok : cFunc Try.prog [4000005] [(0, [], []), (1, [6, 7], []), (2, [0, 5, 8, 9, 10, 11, 12], []), (3, [13, 14], []), (4, [3, 15, 16, 17, 18], []), (5, [3, 4, 15, 19], [])] Try.f38 = some (ac38, [.cell 2 (some 2)], 20) := by kernel_rfl
/-- a decoder and bytes that can be drawn -/
def DrawnFeed (r : A) : Prop := ∃ (d : Dec) (b : List UInt8), r = .tup [.agg (d.row.map .d), .c (.d (.sl (bytesRows b)))] ∧ d.rest.length ≤ 6009 ∧ b.length ≤ 6009
theorem DrawnFeed.re {n : Nat} {r : A} (h : DrawnFeed r) : A.re n r = r := by
  obtain ⟨d, b, rfl, _⟩ := h
  rfl
def DrawnDec (r : A) : Prop := ∃ (d : Dec), r = .agg (d.row.map .d) ∧ d.rest.length ≤ 6009
theorem DrawnDec.re {n : Nat} {r : A} (h : DrawnDec r) : A.re n r = r := by
  obtain ⟨d, rfl, _⟩ := h
  rfl
def feedTail : Cd := match ac40 with
  | .seq _ (.seq _ (.seq _ (.seq _ (.seq _ (.seq (.seq (.weak r) c) d))))) => .seq (.seq r c) d
  | d => d
def decCells (d : Dec) : Ob := .cells [.d (.sl (bytesRows d.rest)), .d (.bool d.broken)]
theorem feed_tail (c : List UInt8) (H : Heap) (hc : c.length ≤ 2000) (hf : Obs.fits H.length 0 H) (d : Dec) (hd : d.rest.length ≤ 6009) (b : List UInt8) (hb : b.length ≤ 6009) (q : Int) (hq : 0 ≤ q) (hq1 : q ≤ 1000) (v : A) :
    aw Try.prog feedTail (kq Try.prog (FinQ [Rv.cell 2 (some 2), Rv.tmp 3] (fun r H' => H' = H ∧ DrawnFeed r)) [])
      ⟨[.u, .u, .c (.ptr (.l 0) 0), .u, .c (.ptr (.l 1) 0), .c (.ptr (.l 2) 0), .u, .c (.d (.sl (bytesRows b)))] ++ List.replicate 15 .u ++ [v] ++ List.replicate 28 .u, H, [.cells [.full [], .d (.bool false)], Rd c q, decCells d]⟩ := by
  obtain ⟨rest, br⟩ := d
  simp -implicitDefEqProofs [feedTail, ac40, aw_skip, aw_region, aw_seq, aw_block, aw_cond, aw_exit, aw_ret, kq_nil, kq_seq, kq_seq_ret, kq_seq_exit, kq_block, kq_block_ret, kq_block_exit, kq_loop, kq_loop_ret, kq_loop_exit, awOps_nil, awOps_cons, awOps_guardE, nx_eq, awOp, ev_k, ev_0, ev_1, ev_2, ev_3, ev_4, ev_5, ev_6, ev_7, ev_8, set_0, set_1, set_2, set_3, set_4, set_5, set_6, set_7, set_8, -List.set_cons_succ, -List.set_cons_zero, A.ok, A.val, setSl, wrapG, guardB, getB, pickA, binA, binC, binD, cmpD, isCmp, unA, unD, lenA, AOp.total, kills, litB, FinQ, resOks, resOk, resA, resList, resOne, A.thaw, C.thaw, A.fits, As.fits, C.fits, evs, oks, callArgs, A.pure, C.pure, A.re, C.re, fieldAddrA, loadC, cut, A.cells, C.rows?, getOb, newOb, setOb, storeC, splice, Ob.re, Cs.fits, partsA, partsOk, parts2A, parts2Ok, fillC, fillRows, optInt, optOk, sliceA, optK_some, storeK_some, Option.map_some, toDs, C.toD, spliceD, appendA, srcRows, allLen_nil_iff, allLen_cons_iff, allLen_append_iff, dropC, Obs.fits, eqCs, eqD]
  refine call_drawL (j := 1) (pick_draws 16 (by omega)) hc (by omega) (by omega) rfl (by simp [Rd, decCells, Ob.re, C.re]) (fun r => IntIn.re) hf ?_
  rintro _ q1 ⟨k, rfl, k1, k2⟩ h3 h4
  simp -implicitDefEqProofs [decCells, hf, aw_skip, aw_region, aw_seq, aw_block, aw_cond, aw_exit, aw_ret, kq_nil, kq_seq, kq_seq_ret, kq_seq_exit, kq_block, kq_block_ret, kq_block_exit, kq_loop, kq_loop_ret, kq_loop_exit, awOps_nil, awOps_cons, awOps_guardE, nx_eq, awOp, ev_k, ev_0, ev_1, ev_2, ev_3, ev_4, ev_5, ev_6, ev_7, ev_8, set_0, set_1, set_2, set_3, set_4, set_5, set_6, set_7, set_8, -List.set_cons_succ, -List.set_cons_zero, A.ok, A.val, setSl, wrapG, guardB, getB, pickA, binA, binC, binD, cmpD, isCmp, unA, unD, lenA, AOp.total, kills, litB, FinQ, resOks, resOk, resA, resList, resOne, A.thaw, C.thaw, A.fits, As.fits, C.fits, evs, oks, callArgs, A.pure, C.pure, A.re, C.re, fieldAddrA, loadC, cut, A.cells, C.rows?, getOb, newOb, setOb, storeC, splice, Ob.re, Cs.fits, partsA, partsOk, parts2A, parts2Ok, fillC, fillRows, optInt, optOk, sliceA, optK_some, storeK_some, Option.map_some, toDs, C.toD, spliceD, appendA, srcRows, allLen_nil_iff, allLen_cons_iff, allLen_append_iff, dropC, Obs.fits, eqCs, eqD]
  exact ⟨fun _ => ⟨⟨rest, !br⟩, b, rfl, hd, hb⟩, fun _ => ⟨⟨rest, br⟩, b, rfl, hd, hb⟩⟩
theorem drawFd_calls (c : List UInt8) (hc : c.length ≤ 1048576) (H : Heap) : ACalls Try.prog 40 [.c (.d (.sl (bytesRows c)))] H (fun r H' => H' = H ∧ DrawnFeed r) := by
  refine acalls Try.func40 (by kernel_rfl) ac40_ok fun hf => ?_
  simp -implicitDefEqProofs [ac40, aw_skip, aw_region, aw_seq, aw_block, aw_cond, aw_exit, aw_ret, kq_nil, kq_seq, kq_seq_ret, kq_seq_exit, kq_block, kq_block_ret, kq_block_exit, kq_loop, kq_loop_ret, kq_loop_exit, awOps_nil, awOps_cons, awOps_guardE, nx_eq, awOp, ev_k, ev_0, ev_1, ev_2, ev_3, ev_4, ev_5, ev_6, ev_7, ev_8, set_0, set_1, set_2, set_3, set_4, set_5, set_6, set_7, set_8, -List.set_cons_succ, -List.set_cons_zero, A.ok, A.val, setSl, wrapG, guardB, getB, pickA, binA, binC, binD, cmpD, isCmp, unA, unD, lenA, AOp.total, kills, litB, FinQ, resOks, resOk, resA, resList, resOne, A.thaw, C.thaw, A.fits, As.fits, C.fits, evs, oks, callArgs, A.pure, C.pure, A.re, C.re, fieldAddrA, loadC, cut, A.cells, C.rows?, getOb, newOb, setOb, storeC, splice, Ob.re, Cs.fits, partsA, partsOk, parts2A, parts2Ok, fillC, fillRows, optInt, optOk, sliceA, optK_some, storeK_some, Option.map_some, toDs, C.toD, spliceD, appendA, srcRows, allLen_nil_iff, allLen_cons_iff, allLen_append_iff, dropC, Obs.fits, eqCs, eqD]
  refine (open_calls c hc _).mono fun r H' ⟨h1, c', hc', h2⟩ => ⟨H, [.cells [.full [], .d (.bool false)], Rd c' 0], .c (.ptr (.l 1) 0), by rw [h2]; simp [Rd, Ob.re, C.re], rfl, by simp, hf, by rw [h1]; simp [A.re, C.re, Ref.re], ?_⟩
  simp -implicitDefEqProofs [aw_skip, aw_region, aw_seq, aw_block, aw_cond, aw_exit, aw_ret, kq_nil, kq_seq, kq_seq_ret, kq_seq_exit, kq_block, kq_block_ret, kq_block_exit, kq_loop, kq_loop_ret, kq_loop_exit, awOps_nil, awOps_cons, awOps_guardE, nx_eq, awOp, ev_k, ev_0, ev_1, ev_2, ev_3, ev_4, ev_5, ev_6, ev_7, ev_8, set_0, set_1, set_2, set_3, set_4, set_5, set_6, set_7, set_8, -List.set_cons_succ, -List.set_cons_zero, A.ok, A.val, setSl, wrapG, guardB, getB, pickA, binA, binC, binD, cmpD, isCmp, unA, unD, lenA, AOp.total, kills, litB, FinQ, resOks, resOk, resA, resList, resOne, A.thaw, C.thaw, A.fits, As.fits, C.fits, evs, oks, callArgs, A.pure, C.pure, A.re, C.re, fieldAddrA, loadC, cut, A.cells, C.rows?, getOb, newOb, setOb, storeC, splice, Ob.re, Cs.fits, partsA, partsOk, parts2A, parts2Ok, fillC, fillRows, optInt, optOk, sliceA, optK_some, storeK_some, Option.map_some, toDs, C.toD, spliceD, appendA, srcRows, allLen_nil_iff, allLen_cons_iff, allLen_append_iff, dropC, Obs.fits, eqCs, eqD]
  refine call_drawL (j := 1) l11Bytes_draws hc' (by omega) (by omega) rfl (by simp [Rd, Ob.re, C.re]) (fun r => DrawnBytes.re) hf ?_
  rintro _ p1 ⟨x, rfl, hx⟩ h3 h4
  simp -implicitDefEqProofs [aw_skip, aw_region, aw_seq, aw_block, aw_cond, aw_exit, aw_ret, kq_nil, kq_seq, kq_seq_ret, kq_seq_exit, kq_block, kq_block_ret, kq_block_exit, kq_loop, kq_loop_ret, kq_loop_exit, awOps_nil, awOps_cons, awOps_guardE, nx_eq, awOp, ev_k, ev_0, ev_1, ev_2, ev_3, ev_4, ev_5, ev_6, ev_7, ev_8, set_0, set_1, set_2, set_3, set_4, set_5, set_6, set_7, set_8, -List.set_cons_succ, -List.set_cons_zero, A.ok, A.val, setSl, wrapG, guardB, getB, pickA, binA, binC, binD, cmpD, isCmp, unA, unD, lenA, AOp.total, kills, litB, FinQ, resOks, resOk, resA, resList, resOne, A.thaw, C.thaw, A.fits, As.fits, C.fits, evs, oks, callArgs, A.pure, C.pure, A.re, C.re, fieldAddrA, loadC, cut, A.cells, C.rows?, getOb, newOb, setOb, storeC, splice, Ob.re, Cs.fits, partsA, partsOk, parts2A, parts2Ok, fillC, fillRows, optInt, optOk, sliceA, optK_some, storeK_some, Option.map_some, toDs, C.toD, spliceD, appendA, srcRows, allLen_nil_iff, allLen_cons_iff, allLen_append_iff, dropC, Obs.fits, eqCs, eqD]
  have hr := feed_rest_len x
  have c1 := feedSpec_calls ⟨[], false⟩ x (by simp) (by omega)
  rw [feedD_new] at c1
  refine qcall_pure c1 hf rfl ?_
  simp -implicitDefEqProofs [hf, Dec.row, aw_skip, aw_region, aw_seq, aw_block, aw_cond, aw_exit, aw_ret, kq_nil, kq_seq, kq_seq_ret, kq_seq_exit, kq_block, kq_block_ret, kq_block_exit, kq_loop, kq_loop_ret, kq_loop_exit, awOps_nil, awOps_cons, awOps_guardE, nx_eq, awOp, ev_k, ev_0, ev_1, ev_2, ev_3, ev_4, ev_5, ev_6, ev_7, ev_8, set_0, set_1, set_2, set_3, set_4, set_5, set_6, set_7, set_8, -List.set_cons_succ, -List.set_cons_zero, A.ok, A.val, setSl, wrapG, guardB, getB, pickA, binA, binC, binD, cmpD, isCmp, unA, unD, lenA, AOp.total, kills, litB, FinQ, resOks, resOk, resA, resList, resOne, A.thaw, C.thaw, A.fits, As.fits, C.fits, evs, oks, callArgs, A.pure, C.pure, A.re, C.re, fieldAddrA, loadC, cut, A.cells, C.rows?, getOb, newOb, setOb, storeC, splice, Ob.re, Cs.fits, partsA, partsOk, parts2A, parts2Ok, fillC, fillRows, optInt, optOk, sliceA, optK_some, storeK_some, Option.map_some, toDs, C.toD, spliceD, appendA, srcRows, allLen_nil_iff, allLen_cons_iff, allLen_append_iff, dropC, Obs.fits, eqCs, eqD]
  refine call_drawL (j := 1) l11Bytes_draws hc' (by omega) (by omega) rfl (by simp [Rd, Ob.re, C.re]) (fun r => DrawnBytes.re) hf ?_
  rintro _ p2 ⟨b, rfl, hb⟩ h5 h6
  simp -implicitDefEqProofs [aw_skip, aw_region, aw_seq, aw_block, aw_cond, aw_exit, aw_ret, kq_nil, kq_seq, kq_seq_ret, kq_seq_exit, kq_block, kq_block_ret, kq_block_exit, kq_loop, kq_loop_ret, kq_loop_exit, awOps_nil, awOps_cons, awOps_guardE, nx_eq, awOp, ev_k, ev_0, ev_1, ev_2, ev_3, ev_4, ev_5, ev_6, ev_7, ev_8, set_0, set_1, set_2, set_3, set_4, set_5, set_6, set_7, set_8, -List.set_cons_succ, -List.set_cons_zero, A.ok, A.val, setSl, wrapG, guardB, getB, pickA, binA, binC, binD, cmpD, isCmp, unA, unD, lenA, AOp.total, kills, litB, FinQ, resOks, resOk, resA, resList, resOne, A.thaw, C.thaw, A.fits, As.fits, C.fits, evs, oks, callArgs, A.pure, C.pure, A.re, C.re, fieldAddrA, loadC, cut, A.cells, C.rows?, getOb, newOb, setOb, storeC, splice, Ob.re, Cs.fits, partsA, partsOk, parts2A, parts2Ok, fillC, fillRows, optInt, optOk, sliceA, optK_some, storeK_some, Option.map_some, toDs, C.toD, spliceD, appendA, srcRows, allLen_nil_iff, allLen_cons_iff, allLen_append_iff, dropC, Obs.fits, eqCs, eqD]
  refine call_drawL (j := 1) (pick_draws 2 (by omega)) hc' (by omega) (by omega) rfl (by simp [Rd, Ob.re, C.re]) (fun r => IntIn.re) hf ?_
  rintro _ p3 ⟨k, rfl, k1, k2⟩ h7 h8
  simp -implicitDefEqProofs [aw_skip, aw_region, aw_seq, aw_block, aw_cond, aw_exit, aw_ret, kq_nil, kq_seq, kq_seq_ret, kq_seq_exit, kq_block, kq_block_ret, kq_block_exit, kq_loop, kq_loop_ret, kq_loop_exit, awOps_nil, awOps_cons, awOps_guardE, nx_eq, awOp, ev_k, ev_0, ev_1, ev_2, ev_3, ev_4, ev_5, ev_6, ev_7, ev_8, set_0, set_1, set_2, set_3, set_4, set_5, set_6, set_7, set_8, -List.set_cons_succ, -List.set_cons_zero, A.ok, A.val, setSl, wrapG, guardB, getB, pickA, binA, binC, binD, cmpD, isCmp, unA, unD, lenA, AOp.total, kills, litB, FinQ, resOks, resOk, resA, resList, resOne, A.thaw, C.thaw, A.fits, As.fits, C.fits, evs, oks, callArgs, A.pure, C.pure, A.re, C.re, fieldAddrA, loadC, cut, A.cells, C.rows?, getOb, newOb, setOb, storeC, splice, Ob.re, Cs.fits, partsA, partsOk, parts2A, parts2Ok, fillC, fillRows, optInt, optOk, sliceA, optK_some, storeK_some, Option.map_some, toDs, C.toD, spliceD, appendA, srcRows, allLen_nil_iff, allLen_cons_iff, allLen_append_iff, dropC, Obs.fits, eqCs, eqD]
  refine ⟨fun hk => ?_, fun hk => weak_le (St.le_refl _) (feed_tail c' H hc' hf ⟨(feed x).2.1, (feed x).2.2⟩ (by simp only; omega) b hb p3 (by omega) (by omega) _)⟩
  refine call_drawL (j := 1) l11List_draws hc' (by omega) (by omega) rfl (by simp [Rd, Ob.re, C.re]) (fun r => DrawnFrames.re) hf ?_
  rintro _ p4 ⟨l, rfl, g1, g2⟩ h9 h10
  have hs : ∀ f ∈ l, f.s.length ≤ reachBytes := fun f hf => by have := g2 f hf; simp only [reachBytes]; omega
  simp -implicitDefEqProofs [aw_skip, aw_region, aw_seq, aw_block, aw_cond, aw_exit, aw_ret, kq_nil, kq_seq, kq_seq_ret, kq_seq_exit, kq_block, kq_block_ret, kq_block_exit, kq_loop, kq_loop_ret, kq_loop_exit, awOps_nil, awOps_cons, awOps_guardE, nx_eq, awOp, ev_k, ev_0, ev_1, ev_2, ev_3, ev_4, ev_5, ev_6, ev_7, ev_8, set_0, set_1, set_2, set_3, set_4, set_5, set_6, set_7, set_8, -List.set_cons_succ, -List.set_cons_zero, A.ok, A.val, setSl, wrapG, guardB, getB, pickA, binA, binC, binD, cmpD, isCmp, unA, unD, lenA, AOp.total, kills, litB, FinQ, resOks, resOk, resA, resList, resOne, A.thaw, C.thaw, A.fits, As.fits, C.fits, evs, oks, callArgs, A.pure, C.pure, A.re, C.re, fieldAddrA, loadC, cut, A.cells, C.rows?, getOb, newOb, setOb, storeC, splice, Ob.re, Cs.fits, partsA, partsOk, parts2A, parts2Ok, fillC, fillRows, optInt, optOk, sliceA, optK_some, storeK_some, Option.map_some, toDs, C.toD, spliceD, appendA, srcRows, allLen_nil_iff, allLen_cons_iff, allLen_append_iff, dropC, Obs.fits, eqCs, eqD]
  refine qcall_pure (encAllSpec_calls l (by omega) hs) hf rfl ?_
  have hel := encAll_len l
  generalize encAll l = w at hel
  have hli : inR .i64 (w.length : Int) := small_i64 (by omega) (by omega)
  have hli1 : inR .i64 ((w.length : Int) + 1) := small_i64 (by omega) (by omega)
  simp -implicitDefEqProofs [hli, hli1, bytesRows_len, aw_skip, aw_region, aw_seq, aw_block, aw_cond, aw_exit, aw_ret, kq_nil, kq_seq, kq_seq_ret, kq_seq_exit, kq_block, kq_block_ret, kq_block_exit, kq_loop, kq_loop_ret, kq_loop_exit, awOps_nil, awOps_cons, awOps_guardE, nx_eq, awOp, ev_k, ev_0, ev_1, ev_2, ev_3, ev_4, ev_5, ev_6, ev_7, ev_8, set_0, set_1, set_2, set_3, set_4, set_5, set_6, set_7, set_8, -List.set_cons_succ, -List.set_cons_zero, A.ok, A.val, setSl, wrapG, guardB, getB, pickA, binA, binC, binD, cmpD, isCmp, unA, unD, lenA, AOp.total, kills, litB, FinQ, resOks, resOk, resA, resList, resOne, A.thaw, C.thaw, A.fits, As.fits, C.fits, evs, oks, callArgs, A.pure, C.pure, A.re, C.re, fieldAddrA, loadC, cut, A.cells, C.rows?, getOb, newOb, setOb, storeC, splice, Ob.re, Cs.fits, partsA, partsOk, parts2A, parts2Ok, fillC, fillRows, optInt, optOk, sliceA, optK_some, storeK_some, Option.map_some, toDs, C.toD, spliceD, appendA, srcRows, allLen_nil_iff, allLen_cons_iff, allLen_append_iff, dropC, Obs.fits, eqCs, eqD]
  refine call_drawL (j := 1) (pick_draws ((w.length : Int) + 1) (by omega)) hc' (by omega) (by omega) rfl (by simp [Rd, Ob.re, C.re]) (fun r => IntIn.re) hf ?_
  rintro _ p5 ⟨k', rfl, k3, k4⟩ h11 h12
  simp -implicitDefEqProofs [hf, bytesRows_len, allLen_bytes, take_bytes, drop_bytes, aw_skip, aw_region, aw_seq, aw_block, aw_cond, aw_exit, aw_ret, kq_nil, kq_seq, kq_seq_ret, kq_seq_exit, kq_block, kq_block_ret, kq_block_exit, kq_loop, kq_loop_ret, kq_loop_exit, awOps_nil, awOps_cons, awOps_guardE, nx_eq, awOp, ev_k, ev_0, ev_1, ev_2, ev_3, ev_4, ev_5, ev_6, ev_7, ev_8, set_0, set_1, set_2, set_3, set_4, set_5, set_6, set_7, set_8, -List.set_cons_succ, -List.set_cons_zero, A.ok, A.val, setSl, wrapG, guardB, getB, pickA, binA, binC, binD, cmpD, isCmp, unA, unD, lenA, AOp.total, kills, litB, FinQ, resOks, resOk, resA, resList, resOne, A.thaw, C.thaw, A.fits, As.fits, C.fits, evs, oks, callArgs, A.pure, C.pure, A.re, C.re, fieldAddrA, loadC, cut, A.cells, C.rows?, getOb, newOb, setOb, storeC, splice, Ob.re, Cs.fits, partsA, partsOk, parts2A, parts2Ok, fillC, fillRows, optInt, optOk, sliceA, optK_some, storeK_some, Option.map_some, toDs, C.toD, spliceD, appendA, srcRows, allLen_nil_iff, allLen_cons_iff, allLen_append_iff, dropC, Obs.fits, eqCs, eqD]
  have hr2 := feed_rest_len (w.take k'.toNat)
  simp at hr2
  have c2 := feedSpec_calls ⟨[], false⟩ (w.take k'.toNat) (by simp) (by simp; omega)
  rw [feedD_new] at c2
  refine ⟨⟨k3, by omega⟩, qcall_pure c2 hf rfl ?_⟩
  simp -implicitDefEqProofs [hf, Dec.row, bytesRows_len, allLen_bytes, take_bytes, drop_bytes, aw_skip, aw_region, aw_seq, aw_block, aw_cond, aw_exit, aw_ret, kq_nil, kq_seq, kq_seq_ret, kq_seq_exit, kq_block, kq_block_ret, kq_block_exit, kq_loop, kq_loop_ret, kq_loop_exit, awOps_nil, awOps_cons, awOps_guardE, nx_eq, awOp, ev_k, ev_0, ev_1, ev_2, ev_3, ev_4, ev_5, ev_6, ev_7, ev_8, set_0, set_1, set_2, set_3, set_4, set_5, set_6, set_7, set_8, -List.set_cons_succ, -List.set_cons_zero, A.ok, A.val, setSl, wrapG, guardB, getB, pickA, binA, binC, binD, cmpD, isCmp, unA, unD, lenA, AOp.total, kills, litB, FinQ, resOks, resOk, resA, resList, resOne, A.thaw, C.thaw, A.fits, As.fits, C.fits, evs, oks, callArgs, A.pure, C.pure, A.re, C.re, fieldAddrA, loadC, cut, A.cells, C.rows?, getOb, newOb, setOb, storeC, splice, Ob.re, Cs.fits, partsA, partsOk, parts2A, parts2Ok, fillC, fillRows, optInt, optOk, sliceA, optK_some, storeK_some, Option.map_some, toDs, C.toD, spliceD, appendA, srcRows, allLen_nil_iff, allLen_cons_iff, allLen_append_iff, dropC, Obs.fits, eqCs, eqD]
  refine ⟨⟨k3, by omega⟩, weak_le (St.le_refl _) (feed_tail c' H hc' hf ⟨(feed (w.take k'.toNat)).2.1, (feed (w.take k'.toNat)).2.2⟩ (by simp only; omega) (w.drop k'.toNat) (by simp; omega) p5 (by omega) (by omega) _)⟩
def decTail : Cd := match ac38 with
  | .seq _ (.seq _ (.seq _ (.seq _ (.seq (.weak r) d)))) => .seq r d
  | d => d
theorem drawDv_calls (c : List UInt8) (hc : c.length ≤ 1048576) (H : Heap) : ACalls Try.prog 38 [.c (.d (.sl (bytesRows c)))] H (fun r H' => H' = H ∧ DrawnDec r) := by
  refine acalls Try.func38 (by kernel_rfl) ac38_ok fun hf => ?_
  simp -implicitDefEqProofs [ac38, aw_skip, aw_region, aw_seq, aw_block, aw_cond, aw_exit, aw_ret, kq_nil, kq_seq, kq_seq_ret, kq_seq_exit, kq_block, kq_block_ret, kq_block_exit, kq_loop, kq_loop_ret, kq_loop_exit, awOps_nil, awOps_cons, awOps_guardE, nx_eq, awOp, ev_k, ev_0, ev_1, ev_2, ev_3, ev_4, ev_5, ev_6, ev_7, ev_8, set_0, set_1, set_2, set_3, set_4, set_5, set_6, set_7, set_8, -List.set_cons_succ, -List.set_cons_zero, A.ok, A.val, setSl, wrapG, guardB, getB, pickA, binA, binC, binD, cmpD, isCmp, unA, unD, lenA, AOp.total, kills, litB, FinQ, resOks, resOk, resA, resList, resOne, A.thaw, C.thaw, A.fits, As.fits, C.fits, evs, oks, callArgs, A.pure, C.pure, A.re, C.re, fieldAddrA, loadC, cut, A.cells, C.rows?, getOb, newOb, setOb, storeC, splice, Ob.re, Cs.fits, partsA, partsOk, parts2A, parts2Ok, fillC, fillRows, optInt, optOk, sliceA, optK_some, storeK_some, Option.map_some, toDs, C.toD, spliceD, appendA, srcRows, allLen_nil_iff, allLen_cons_iff, allLen_append_iff, dropC, Obs.fits, eqCs, eqD]
  refine (open_calls c hc _).mono fun r H' ⟨h1, c', hc', h2⟩ => ⟨H, [.cells [.full [], .d (.bool false)], Rd c' 0], .c (.ptr (.l 1) 0), by rw [h2]; simp [Rd, Ob.re, C.re], rfl, by simp, hf, by rw [h1]; simp [A.re, C.re, Ref.re], ?_⟩
  simp -implicitDefEqProofs [aw_skip, aw_region, aw_seq, aw_block, aw_cond, aw_exit, aw_ret, kq_nil, kq_seq, kq_seq_ret, kq_seq_exit, kq_block, kq_block_ret, kq_block_exit, kq_loop, kq_loop_ret, kq_loop_exit, awOps_nil, awOps_cons, awOps_guardE, nx_eq, awOp, ev_k, ev_0, ev_1, ev_2, ev_3, ev_4, ev_5, ev_6, ev_7, ev_8, set_0, set_1, set_2, set_3, set_4, set_5, set_6, set_7, set_8, -List.set_cons_succ, -List.set_cons_zero, A.ok, A.val, setSl, wrapG, guardB, getB, pickA, binA, binC, binD, cmpD, isCmp, unA, unD, lenA, AOp.total, kills, litB, FinQ, resOks, resOk, resA, resList, resOne, A.thaw, C.thaw, A.fits, As.fits, C.fits, evs, oks, callArgs, A.pure, C.pure, A.re, C.re, fieldAddrA, loadC, cut, A.cells, C.rows?, getOb, newOb, setOb, storeC, splice, Ob.re, Cs.fits, partsA, partsOk, parts2A, parts2Ok, fillC, fillRows, optInt, optOk, sliceA, optK_some, storeK_some, Option.map_some, toDs, C.toD, spliceD, appendA, srcRows, allLen_nil_iff, allLen_cons_iff, allLen_append_iff, dropC, Obs.fits, eqCs, eqD]
  refine call_some (drawFd_calls c (by omega) _) (by simp [Rd, Ob.re, C.re]) (fun r => DrawnFeed.re) hf ?_
  rintro _ ⟨d, b, rfl, hd, hb⟩
  obtain ⟨rest, br⟩ := d
  simp only at hd
  simp -implicitDefEqProofs [Dec.row, hf, aw_skip, aw_region, aw_seq, aw_block, aw_cond, aw_exit, aw_ret, kq_nil, kq_seq, kq_seq_ret, kq_seq_exit, kq_block, kq_block_ret, kq_block_exit, kq_loop, kq_loop_ret, kq_loop_exit, awOps_nil, awOps_cons, awOps_guardE, nx_eq, awOp, ev_k, ev_0, ev_1, ev_2, ev_3, ev_4, ev_5, ev_6, ev_7, ev_8, set_0, set_1, set_2, set_3, set_4, set_5, set_6, set_7, set_8, -List.set_cons_succ, -List.set_cons_zero, A.ok, A.val, setSl, wrapG, guardB, getB, pickA, binA, binC, binD, cmpD, isCmp, unA, unD, lenA, AOp.total, kills, litB, FinQ, resOks, resOk, resA, resList, resOne, A.thaw, C.thaw, A.fits, As.fits, C.fits, evs, oks, callArgs, A.pure, C.pure, A.re, C.re, fieldAddrA, loadC, cut, A.cells, C.rows?, getOb, newOb, setOb, storeC, splice, Ob.re, Cs.fits, partsA, partsOk, parts2A, parts2Ok, fillC, fillRows, optInt, optOk, sliceA, optK_some, storeK_some, Option.map_some, toDs, C.toD, spliceD, appendA, srcRows, allLen_nil_iff, allLen_cons_iff, allLen_append_iff, dropC, Obs.fits, eqCs, eqD]
  refine call_drawL (j := 1) (pick_draws 6 (by omega)) hc' (by omega) (by omega) rfl (by simp [Rd, Ob.re, C.re]) (fun r => IntIn.re) hf ?_
  rintro _ p3 ⟨k, rfl, k1, k2⟩ h7 h8
  simp -implicitDefEqProofs [aw_skip, aw_region, aw_seq, aw_block, aw_cond, aw_exit, aw_ret, kq_nil, kq_seq, kq_seq_ret, kq_seq_exit, kq_block, kq_block_ret, kq_block_exit, kq_loop, kq_loop_ret, kq_loop_exit, awOps_nil, awOps_cons, awOps_guardE, nx_eq, awOp, ev_k, ev_0, ev_1, ev_2, ev_3, ev_4, ev_5, ev_6, ev_7, ev_8, set_0, set_1, set_2, set_3, set_4, set_5, set_6, set_7, set_8, -List.set_cons_succ, -List.set_cons_zero, A.ok, A.val, setSl, wrapG, guardB, getB, pickA, binA, binC, binD, cmpD, isCmp, unA, unD, lenA, AOp.total, kills, litB, FinQ, resOks, resOk, resA, resList, resOne, A.thaw, C.thaw, A.fits, As.fits, C.fits, evs, oks, callArgs, A.pure, C.pure, A.re, C.re, fieldAddrA, loadC, cut, A.cells, C.rows?, getOb, newOb, setOb, storeC, splice, Ob.re, Cs.fits, partsA, partsOk, parts2A, parts2Ok, fillC, fillRows, optInt, optOk, sliceA, optK_some, storeK_some, Option.map_some, toDs, C.toD, spliceD, appendA, srcRows, allLen_nil_iff, allLen_cons_iff, allLen_append_iff, dropC, Obs.fits, eqCs, eqD]
  refine ⟨fun hk => ?_, fun hk => ?_⟩
  · refine call_drawL (j := 1) l11Bytes_draws hc' (by omega) (by omega) rfl (by simp [Rd, Ob.re, C.re]) (fun r => DrawnBytes.re) hf ?_
    rintro _ p2 ⟨x, rfl, hx⟩ h5 h6
    simp -implicitDefEqProofs [hf, aw_skip, aw_region, aw_seq, aw_block, aw_cond, aw_exit, aw_ret, kq_nil, kq_seq, kq_seq_ret, kq_seq_exit, kq_block, kq_block_ret, kq_block_exit, kq_loop, kq_loop_ret, kq_loop_exit, awOps_nil, awOps_cons, awOps_guardE, nx_eq, awOp, ev_k, ev_0, ev_1, ev_2, ev_3, ev_4, ev_5, ev_6, ev_7, ev_8, set_0, set_1, set_2, set_3, set_4, set_5, set_6, set_7, set_8, -List.set_cons_succ, -List.set_cons_zero, A.ok, A.val, setSl, wrapG, guardB, getB, pickA, binA, binC, binD, cmpD, isCmp, unA, unD, lenA, AOp.total, kills, litB, FinQ, resOks, resOk, resA, resList, resOne, A.thaw, C.thaw, A.fits, As.fits, C.fits, evs, oks, callArgs, A.pure, C.pure, A.re, C.re, fieldAddrA, loadC, cut, A.cells, C.rows?, getOb, newOb, setOb, storeC, splice, Ob.re, Cs.fits, partsA, partsOk, parts2A, parts2Ok, fillC, fillRows, optInt, optOk, sliceA, optK_some, storeK_some, Option.map_some, toDs, C.toD, spliceD, appendA, srcRows, allLen_nil_iff, allLen_cons_iff, allLen_append_iff, dropC, Obs.fits, eqCs, eqD]
    refine weak_le (St.le_refl _) ?_
    simp -implicitDefEqProofs [hf, aw_skip, aw_region, aw_seq, aw_block, aw_cond, aw_exit, aw_ret, kq_nil, kq_seq, kq_seq_ret, kq_seq_exit, kq_block, kq_block_ret, kq_block_exit, kq_loop, kq_loop_ret, kq_loop_exit, awOps_nil, awOps_cons, awOps_guardE, nx_eq, awOp, ev_k, ev_0, ev_1, ev_2, ev_3, ev_4, ev_5, ev_6, ev_7, ev_8, set_0, set_1, set_2, set_3, set_4, set_5, set_6, set_7, set_8, -List.set_cons_succ, -List.set_cons_zero, A.ok, A.val, setSl, wrapG, guardB, getB, pickA, binA, binC, binD, cmpD, isCmp, unA, unD, lenA, AOp.total, kills, litB, FinQ, resOks, resOk, resA, resList, resOne, A.thaw, C.thaw, A.fits, As.fits, C.fits, evs, oks, callArgs, A.pure, C.pure, A.re, C.re, fieldAddrA, loadC, cut, A.cells, C.rows?, getOb, newOb, setOb, storeC, splice, Ob.re, Cs.fits, partsA, partsOk, parts2A, parts2Ok, fillC, fillRows, optInt, optOk, sliceA, optK_some, storeK_some, Option.map_some, toDs, C.toD, spliceD, appendA, srcRows, allLen_nil_iff, allLen_cons_iff, allLen_append_iff, dropC, Obs.fits, eqCs, eqD]
    exact ⟨⟨x, br⟩, rfl, hx⟩
  · refine weak_le (St.le_refl _) ?_
    simp -implicitDefEqProofs [hf, aw_skip, aw_region, aw_seq, aw_block, aw_cond, aw_exit, aw_ret, kq_nil, kq_seq, kq_seq_ret, kq_seq_exit, kq_block, kq_block_ret, kq_block_exit, kq_loop, kq_loop_ret, kq_loop_exit, awOps_nil, awOps_cons, awOps_guardE, nx_eq, awOp, ev_k, ev_0, ev_1, ev_2, ev_3, ev_4, ev_5, ev_6, ev_7, ev_8, set_0, set_1, set_2, set_3, set_4, set_5, set_6, set_7, set_8, -List.set_cons_succ, -List.set_cons_zero, A.ok, A.val, setSl, wrapG, guardB, getB, pickA, binA, binC, binD, cmpD, isCmp, unA, unD, lenA, AOp.total, kills, litB, FinQ, resOks, resOk, resA, resList, resOne, A.thaw, C.thaw, A.fits, As.fits, C.fits, evs, oks, callArgs, A.pure, C.pure, A.re, C.re, fieldAddrA, loadC, cut, A.cells, C.rows?, getOb, newOb, setOb, storeC, splice, Ob.re, Cs.fits, partsA, partsOk, parts2A, parts2Ok, fillC, fillRows, optInt, optOk, sliceA, optK_some, storeK_some, Option.map_some, toDs, C.toD, spliceD, appendA, srcRows, allLen_nil_iff, allLen_cons_iff, allLen_append_iff, dropC, Obs.fits, eqCs, eqD]
    exact ⟨⟨rest, br⟩, rfl, hd⟩
end Go.Proofs.Ytnobdfcjnnnfmaa
