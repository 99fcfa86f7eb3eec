/-
  The law FnDecodeShort holds: a frame needs all of its bytes.
  Conditions: none.
-/
import Derived.Test.YtokgioccfeebkaaFrE
import Derived.Test.YtokgioccfeebkaaFrG
open Go Go.AM Go.Proofs
namespace Go.Proofs.Ytokgioccfeebkaa
open Go.ChangeShapes Go.WideShapes Go.ChangeAt Go.RowKit
set_option linter.unusedVariables false
set_option linter.unusedSimpArgs false
set_option maxRecDepth 100000
-- 12 loop.example/prologserver/laws.FnDecodeShort params 1 ntmps 85
def ac12 : Cd := .seq (.region [⟨(some 2), .mv (.k (.c (.d (.bool false)))), none⟩] [2])
  (.seq (.seq (.region [⟨(some 9), .mv (.t 0), none⟩,
        ⟨(some 10), .len 1 (.t 9), none⟩,
        ⟨(some 11), .bin .gtr (.t 10) (.k (.c (.d (.int .i64 1048576)))), none⟩] [9, 10])
    (.cond (.t 11)
      (.seq (.region [⟨(some 2), .mv (.k (.c (.d (.bool true)))), none⟩] [0, 11])
      (.ret))
      (.skip)))
  (.seq (.region [⟨(some 12), .mv (.t 0), none⟩,
      ⟨(some 13), .call false 52 [(.t 12)], none⟩,
      ⟨(some 3), .alloc [(.d (.int .i64 0)), (.d (.str []))], none⟩,
      ⟨none, .store 2 (.t 3) (.t 13), none⟩] [0, 2, 11, 12, 13])
  (.seq (.region [⟨(some 14), .load (some 2) (.t 3), none⟩,
      ⟨(some 15), .qcall 27 [(.t 14)], none⟩,
      ⟨(some 4), .mv (.t 15), none⟩] [14, 15])
  (.seq (.seq (.region [⟨(some 16), .mv (.t 4), none⟩,
        ⟨(some 17), .load (some 2) (.t 3), none⟩,
        ⟨(some 18), .qcall 26 [(.t 17)], none⟩,
        ⟨(some 19), .qcall 53 [(.t 16), (.t 18)], none⟩,
        ⟨(some 20), .un .not (.t 19), none⟩,
        ⟨(some 21), .mv (.t 20), none⟩,
        ⟨(some 22), .mv (.t 4), some (21, false)⟩,
        ⟨(some 23), .len 1 (.t 22), some (21, false)⟩,
        ⟨(some 24), .bin .eql (.t 23) (.k (.c (.d (.int .i64 0)))), some (21, false)⟩,
        ⟨(some 25), .pick (.t 21) (.k (.c (.d (.bool true)))) (.t 24), none⟩] [16, 17, 18, 19, 20, 21, 22, 23, 24])
    (.cond (.t 25)
      (.seq (.region [⟨(some 26), .mv (.t 4), none⟩,
          ⟨(some 27), .load (some 2) (.t 3), none⟩,
          ⟨(some 28), .qcall 26 [(.t 27)], none⟩,
          ⟨(some 29), .qcall 53 [(.t 26), (.t 28)], none⟩,
          ⟨(some 2), .mv (.t 29), none⟩] [3, 4, 25, 26, 27, 28, 29])
      (.ret))
      (.skip)))
  (.seq (.region [⟨(some 31), .build [(.full []), (.d (.bool false))] [], none⟩,
      ⟨(some 32), .mv (.t 4), none⟩,
      ⟨(some 33), .mv (.t 4), none⟩,
      ⟨(some 34), .len 1 (.t 33), none⟩,
      ⟨(some 35), .bin .sub (.t 34) (.k (.c (.d (.int .i64 1)))), none⟩,
      ⟨(some 36), .slice 1 (.t 32) none (some (.t 35)) none, none⟩,
      ⟨(some 37), .qcall 54 [(.t 31), (.t 36)], none⟩,
      ⟨(some 30), .mv (.t 37), none⟩,
      ⟨(some 38), .extract 0 (.t 30), none⟩,
      ⟨(some 39), .extract 1 (.t 30), none⟩,
      ⟨(some 5), .alloc [(.full []), (.d (.bool false))], none⟩,
      ⟨none, .store 2 (.t 5) (.t 38), none⟩,
      ⟨(some 6), .mv (.t 39), none⟩] [2, 25, 30, 31, 32, 33, 34, 35, 36, 37, 38, 39])
  (.seq (.region [⟨(some 42), .mv (.t 4), none⟩,
      ⟨(some 43), .mv (.t 4), none⟩,
      ⟨(some 44), .len 1 (.t 43), none⟩,
      ⟨(some 45), .bin .sub (.t 44) (.k (.c (.d (.int .i64 1)))), none⟩,
      ⟨(some 46), .slice 1 (.t 42) (some (.t 45)) none none, none⟩,
      ⟨(some 41), .load (some 2) (.t 5), none⟩,
      ⟨(some 47), .qcall 54 [(.t 41), (.t 46)], none⟩,
      ⟨(some 40), .mv (.t 47), none⟩,
      ⟨(some 48), .extract 0 (.t 40), none⟩,
      ⟨(some 49), .extract 1 (.t 40), none⟩,
      ⟨(some 7), .alloc [(.full []), (.d (.bool false))], none⟩,
      ⟨none, .store 2 (.t 7) (.t 48), none⟩,
      ⟨(some 8), .mv (.t 49), none⟩] [40, 41, 42, 43, 44, 45, 46, 47, 48, 49])
  (.seq (.region [⟨(some 50), .mv (.t 6), none⟩,
      ⟨(some 51), .len 1 (.t 50), none⟩,
      ⟨(some 52), .bin .eql (.t 51) (.k (.c (.d (.int .i64 0)))), none⟩,
      ⟨(some 53), .mv (.t 52), none⟩,
      ⟨(some 54), .fieldAddr 1 (.t 5), some (53, true)⟩,
      ⟨(some 55), .load none (.t 54), some (53, true)⟩,
      ⟨(some 56), .un .not (.t 55), some (53, true)⟩,
      ⟨(some 57), .pick (.t 53) (.t 56) (.k (.c (.d (.bool false)))), none⟩,
      ⟨(some 58), .mv (.t 57), none⟩,
      ⟨(some 59), .fieldAddr 0 (.t 5), some (58, true)⟩,
      ⟨(some 62), .mv (.t 4), some (58, true)⟩,
      ⟨(some 63), .len 1 (.t 62), some (58, true)⟩,
      ⟨(some 64), .bin .sub (.t 63) (.k (.c (.d (.int .i64 1)))), some (58, true)⟩,
      ⟨(some 60), .load none (.t 59), some (58, true)⟩,
      ⟨(some 61), .len 1 (.t 60), some (58, true)⟩,
      ⟨(some 65), .bin .eql (.t 61) (.t 64), some (58, true)⟩,
      ⟨(some 66), .pick (.t 58) (.t 65) (.k (.c (.d (.bool false)))), none⟩,
      ⟨(some 67), .mv (.t 66), none⟩,
      ⟨(some 68), .mv (.t 8), some (67, true)⟩,
      ⟨(some 69), .len 1 (.t 68), some (67, true)⟩,
      ⟨(some 70), .bin .eql (.t 69) (.k (.c (.d (.int .i64 1)))), some (67, true)⟩,
      ⟨(some 71), .pick (.t 67) (.t 70) (.k (.c (.d (.bool false)))), none⟩,
      ⟨(some 72), .mv (.t 71), none⟩,
      ⟨(some 73), .mv (.t 8), some (72, true)⟩,
      ⟨(some 74), .indexAddr 2 (.t 73) (.k (.c (.d (.int .i64 0)))), some (72, true)⟩,
      ⟨(some 75), .load (some 2) (.t 74), some (72, true)⟩,
      ⟨(some 76), .load (some 2) (.t 3), some (72, true)⟩,
      ⟨(some 77), .eqAgg false [.int, .str] (.t 75) (.t 76), some (72, true)⟩,
      ⟨(some 78), .pick (.t 72) (.t 77) (.k (.c (.d (.bool false)))), none⟩,
      ⟨(some 79), .mv (.t 78), none⟩,
      ⟨(some 80), .fieldAddr 0 (.t 7), some (79, true)⟩,
      ⟨(some 81), .load none (.t 80), some (79, true)⟩,
      ⟨(some 82), .len 1 (.t 81), some (79, true)⟩,
      ⟨(some 83), .bin .eql (.t 82) (.k (.c (.d (.int .i64 0)))), some (79, true)⟩,
      ⟨(some 84), .pick (.t 79) (.t 83) (.k (.c (.d (.bool false)))), none⟩,
      ⟨(some 2), .mv (.t 84), none⟩] [3, 4, 5, 6, 7, 8, 50, 51, 52, 53, 54, 55, 56, 57, 58, 59, 60, 61, 62, 63, 64, 65, 66, 67, 68, 69, 70, 71, 72, 73, 74, 75, 76, 77, 78, 79, 80, 81, 82, 83, 84])
  (.ret))))))))
theorem ac12_ok : cFunc Try.prog [1000026, 1000027, 1000053, 1000054] [(0, [2], []), (1, [9, 10], []), (2, [0, 11], []), (3, [0, 2, 11, 12, 13], []), (4, [14, 15], []), (5, [16, 17, 18, 19, 20, 21, 22, 23, 24], []), (6, [3, 4, 25, 26, 27, 28, 29], []), (7, [2, 25, 30, 31, 32, 33, 34, 35, 36, 37, 38, 39], []), (8, [40, 41, 42, 43, 44, 45, 46, 47, 48, 49], [1, 2, 3, 4, 5, 0, 6, 7, 8, 9, 10, 11, 12]), (9, [3, 4, 5, 6, 7, 8, 50, 51, 52, 53, 54, 55, 56, 57, 58, 59, 60, 61, 62, 63, 64, 65, 66, 67, 68, 69, 70, 71, 72, 73, 74, 75, 76, 77, 78, 79, 80, 81, 82, 83, 84], [0, 1, 2, 3, 4, 5, 6, 7, 8, 9, 12, 13, 14, 10, 11, 15, 16, 17, 18, 19, 20, 21, 22, 23, 24, 25, 26, 27, 28, 29, 30, 31, 32, 33, 34, 35])] Try.f12 = some (ac12, [.tmp 2], 85) := by kernel_rfl
theorem shortLaw_calls (c : List UInt8) (hc : c.length ≤ reachBytes) : ACalls Try.prog 12 [.c (.d (.sl (bytesRows c)))] [] (fun r _ => r = .c (.d (.bool true))) := by
  refine acalls Try.func12 (by kernel_rfl) ac12_ok fun hf => ?_
  have hl := reach_i64 hc
  simp [ac12, hl, bytesRows_len, aw_skip, aw_region, aw_seq, aw_block, aw_cond, aw_exit, aw_ret, kq_nil, kq_seq, kq_seq_ret, kq_seq_exit, kq_block, kq_block_ret, kq_block_exit, kq_loop, kq_loop_ret, kq_loop_exit, awOps_nil, awOps_cons, awOps_guard, nx_eq, awOp, Opd.ev, A.ok, A.val, setSl, wrapG, guardB, getB, pickA, binA, binC, binD, cmpD, isCmp, unA, unD, lenA, AOp.total, kills, litB, FinQ, resOks, resOk, resA, resList, resOne, A.thaw, C.thaw, A.fits, As.fits, C.fits, evs, oks, callArgs, A.pure, C.pure, A.re, C.re, fieldAddrA, loadC, cut, A.cells, C.rows?, getOb, newOb, setOb, storeC, splice, Ob.re, Cs.fits, partsA, partsOk, parts2A, parts2Ok, fillC, fillRows, optInt, optOk, sliceA, optK_some, storeK_some, Option.map_some, toDs, C.toD, spliceD, appendA, srcRows, allLen_nil_iff, allLen_cons_iff, allLen_append_iff, dropC, Obs.fits, eqCs, eqD]
  intro hle
  refine call_some (drawEf_calls c (by omega) _) (by simp [Ob.re, C.re]) (fun r => DrawnFrame.re) hf ?_
  rintro _ ⟨f, rfl, g1, g2, g3⟩
  have hs : f.s.length ≤ reachBytes := by simp only [reachBytes]; omega
  simp [Frame.row, aw_skip, aw_region, aw_seq, aw_block, aw_cond, aw_exit, aw_ret, kq_nil, kq_seq, kq_seq_ret, kq_seq_exit, kq_block, kq_block_ret, kq_block_exit, kq_loop, kq_loop_ret, kq_loop_exit, awOps_nil, awOps_cons, awOps_guard, nx_eq, awOp, Opd.ev, A.ok, A.val, setSl, wrapG, guardB, getB, pickA, binA, binC, binD, cmpD, isCmp, unA, unD, lenA, AOp.total, kills, litB, FinQ, resOks, resOk, resA, resList, resOne, A.thaw, C.thaw, A.fits, As.fits, C.fits, evs, oks, callArgs, A.pure, C.pure, A.re, C.re, fieldAddrA, loadC, cut, A.cells, C.rows?, getOb, newOb, setOb, storeC, splice, Ob.re, Cs.fits, partsA, partsOk, parts2A, parts2Ok, fillC, fillRows, optInt, optOk, sliceA, optK_some, storeK_some, Option.map_some, toDs, C.toD, spliceD, appendA, srcRows, allLen_nil_iff, allLen_cons_iff, allLen_append_iff, dropC, Obs.fits, eqCs, eqD]
  refine qcall_pure (encFImpl_calls f hs) hf rfl ?_
  simp [aw_skip, aw_region, aw_seq, aw_block, aw_cond, aw_exit, aw_ret, kq_nil, kq_seq, kq_seq_ret, kq_seq_exit, kq_block, kq_block_ret, kq_block_exit, kq_loop, kq_loop_ret, kq_loop_exit, awOps_nil, awOps_cons, awOps_guard, nx_eq, awOp, Opd.ev, A.ok, A.val, setSl, wrapG, guardB, getB, pickA, binA, binC, binD, cmpD, isCmp, unA, unD, lenA, AOp.total, kills, litB, FinQ, resOks, resOk, resA, resList, resOne, A.thaw, C.thaw, A.fits, As.fits, C.fits, evs, oks, callArgs, A.pure, C.pure, A.re, C.re, fieldAddrA, loadC, cut, A.cells, C.rows?, getOb, newOb, setOb, storeC, splice, Ob.re, Cs.fits, partsA, partsOk, parts2A, parts2Ok, fillC, fillRows, optInt, optOk, sliceA, optK_some, storeK_some, Option.map_some, toDs, C.toD, spliceD, appendA, srcRows, allLen_nil_iff, allLen_cons_iff, allLen_append_iff, dropC, Obs.fits, eqCs, eqD]
  refine qcall_pure (encFSpec_calls f hs) hf rfl ?_
  simp [aw_skip, aw_region, aw_seq, aw_block, aw_cond, aw_exit, aw_ret, kq_nil, kq_seq, kq_seq_ret, kq_seq_exit, kq_block, kq_block_ret, kq_block_exit, kq_loop, kq_loop_ret, kq_loop_exit, awOps_nil, awOps_cons, awOps_guard, nx_eq, awOp, Opd.ev, A.ok, A.val, setSl, wrapG, guardB, getB, pickA, binA, binC, binD, cmpD, isCmp, unA, unD, lenA, AOp.total, kills, litB, FinQ, resOks, resOk, resA, resList, resOne, A.thaw, C.thaw, A.fits, As.fits, C.fits, evs, oks, callArgs, A.pure, C.pure, A.re, C.re, fieldAddrA, loadC, cut, A.cells, C.rows?, getOb, newOb, setOb, storeC, splice, Ob.re, Cs.fits, partsA, partsOk, parts2A, parts2Ok, fillC, fillRows, optInt, optOk, sliceA, optK_some, storeK_some, Option.map_some, toDs, C.toD, spliceD, appendA, srcRows, allLen_nil_iff, allLen_cons_iff, allLen_append_iff, dropC, Obs.fits, eqCs, eqD]
  refine qcall_pure (pgBytes_calls (encF f) (encF f)) hf rfl ?_
  have hlen : (encF f).length ≤ 10000 := by
    unfold encF
    split
    · rw [bytes_len]; omega
    · simp
  have hl2 : inR .i64 ((encF f).length : Int) := small_i64 (by omega) (by omega)
  have hl3 : inR .i64 (((encF f).length : Int) - 1) := small_i64 (by omega) (by omega)
  simp [hl2, hl3, bytesRows_len, allLen_bytes, take_bytes, drop_bytes, aw_skip, aw_region, aw_seq, aw_block, aw_cond, aw_exit, aw_ret, kq_nil, kq_seq, kq_seq_ret, kq_seq_exit, kq_block, kq_block_ret, kq_block_exit, kq_loop, kq_loop_ret, kq_loop_exit, awOps_nil, awOps_cons, awOps_guard, nx_eq, awOp, Opd.ev, A.ok, A.val, setSl, wrapG, guardB, getB, pickA, binA, binC, binD, cmpD, isCmp, unA, unD, lenA, AOp.total, kills, litB, FinQ, resOks, resOk, resA, resList, resOne, A.thaw, C.thaw, A.fits, As.fits, C.fits, evs, oks, callArgs, A.pure, C.pure, A.re, C.re, fieldAddrA, loadC, cut, A.cells, C.rows?, getOb, newOb, setOb, storeC, splice, Ob.re, Cs.fits, partsA, partsOk, parts2A, parts2Ok, fillC, fillRows, optInt, optOk, sliceA, optK_some, storeK_some, Option.map_some, toDs, C.toD, spliceD, appendA, srcRows, allLen_nil_iff, allLen_cons_iff, allLen_append_iff, dropC, Obs.fits, eqCs, eqD]
  refine ⟨fun h => ?_, fun h => ?_⟩
  · refine qcall_pure (encFSpec_calls f hs) hf rfl ?_
    simp [aw_skip, aw_region, aw_seq, aw_block, aw_cond, aw_exit, aw_ret, kq_nil, kq_seq, kq_seq_ret, kq_seq_exit, kq_block, kq_block_ret, kq_block_exit, kq_loop, kq_loop_ret, kq_loop_exit, awOps_nil, awOps_cons, awOps_guard, nx_eq, awOp, Opd.ev, A.ok, A.val, setSl, wrapG, guardB, getB, pickA, binA, binC, binD, cmpD, isCmp, unA, unD, lenA, AOp.total, kills, litB, FinQ, resOks, resOk, resA, resList, resOne, A.thaw, C.thaw, A.fits, As.fits, C.fits, evs, oks, callArgs, A.pure, C.pure, A.re, C.re, fieldAddrA, loadC, cut, A.cells, C.rows?, getOb, newOb, setOb, storeC, splice, Ob.re, Cs.fits, partsA, partsOk, parts2A, parts2Ok, fillC, fillRows, optInt, optOk, sliceA, optK_some, storeK_some, Option.map_some, toDs, C.toD, spliceD, appendA, srcRows, allLen_nil_iff, allLen_cons_iff, allLen_append_iff, dropC, Obs.fits, eqCs, eqD]
    refine qcall_pure (pgBytes_calls (encF f) (encF f)) hf rfl ?_
    simp [aw_skip, aw_region, aw_seq, aw_block, aw_cond, aw_exit, aw_ret, kq_nil, kq_seq, kq_seq_ret, kq_seq_exit, kq_block, kq_block_ret, kq_block_exit, kq_loop, kq_loop_ret, kq_loop_exit, awOps_nil, awOps_cons, awOps_guard, nx_eq, awOp, Opd.ev, A.ok, A.val, setSl, wrapG, guardB, getB, pickA, binA, binC, binD, cmpD, isCmp, unA, unD, lenA, AOp.total, kills, litB, FinQ, resOks, resOk, resA, resList, resOne, A.thaw, C.thaw, A.fits, As.fits, C.fits, evs, oks, callArgs, A.pure, C.pure, A.re, C.re, fieldAddrA, loadC, cut, A.cells, C.rows?, getOb, newOb, setOb, storeC, splice, Ob.re, Cs.fits, partsA, partsOk, parts2A, parts2Ok, fillC, fillRows, optInt, optOk, sliceA, optK_some, storeK_some, Option.map_some, toDs, C.toD, spliceD, appendA, srcRows, allLen_nil_iff, allLen_cons_iff, allLen_append_iff, dropC, Obs.fits, eqCs, eqD]
  · have hok : f.ok = true := by
      cases h' : f.ok with
      | true => rfl
      | false => simp [encF, h'] at h
    have he : encF f = f.bytes := by simp [encF, hok]
    rw [he] at h hlen hl2 hl3 ⊢
    have hbl := bytes_len f
    have hnat : (((f.bytes.length : Int) - 1)).toNat = f.bytes.length - 1 := by omega
    refine ⟨by omega, ?_⟩
    refine qcall_pure (feedImpl_calls ⟨[], false⟩ (f.bytes.take (f.bytes.length - 1)) (by simp) (by simp; omega)) hf rfl ?_
    have e1 : feed (f.bytes.take (f.bytes.length - 1)) = ([], f.bytes.take (f.bytes.length - 1), false) := feed_stop (nextN_part hok (by omega))
    rw [feedD_new, e1]
    simp [Dec.row, hl2, hl3, bytesRows_len, allLen_bytes, take_bytes, drop_bytes, aw_skip, aw_region, aw_seq, aw_block, aw_cond, aw_exit, aw_ret, kq_nil, kq_seq, kq_seq_ret, kq_seq_exit, kq_block, kq_block_ret, kq_block_exit, kq_loop, kq_loop_ret, kq_loop_exit, awOps_nil, awOps_cons, awOps_guard, nx_eq, awOp, Opd.ev, A.ok, A.val, setSl, wrapG, guardB, getB, pickA, binA, binC, binD, cmpD, isCmp, unA, unD, lenA, AOp.total, kills, litB, FinQ, resOks, resOk, resA, resList, resOne, A.thaw, C.thaw, A.fits, As.fits, C.fits, evs, oks, callArgs, A.pure, C.pure, A.re, C.re, fieldAddrA, loadC, cut, A.cells, C.rows?, getOb, newOb, setOb, storeC, splice, Ob.re, Cs.fits, partsA, partsOk, parts2A, parts2Ok, fillC, fillRows, optInt, optOk, sliceA, optK_some, storeK_some, Option.map_some, toDs, C.toD, spliceD, appendA, srcRows, allLen_nil_iff, allLen_cons_iff, allLen_append_iff, dropC, Obs.fits, eqCs, eqD]
    refine ⟨by omega, ?_⟩
    refine qcall_pure (feedImpl_calls ⟨f.bytes.take (f.bytes.length - 1), false⟩ (f.bytes.drop (f.bytes.length - 1)) (by simp; omega) (by simp; omega)) hf rfl ?_
    have e2 : feedD ⟨f.bytes.take (f.bytes.length - 1), false⟩ (f.bytes.drop (f.bytes.length - 1)) = (⟨[], false⟩, [f]) := by
      rw [feedD, if_neg (by simp [Dec.ok, nextN_part hok (show f.bytes.length - 1 < f.bytes.length by omega)])]
      simp only [List.take_append_drop]
      have := feed_bytes hok []
      rw [List.append_nil, feed_nil] at this
      rw [this]
    rw [e2]
    have hmin : (((min (f.bytes.length - 1) f.bytes.length : Nat) : Int)) = (f.bytes.length : Int) - 1 := by omega
    have z0 : inR .i64 (0 : Int) := small_i64 (by omega) (by omega)
    have z1 : inR .i64 (1 : Int) := small_i64 (by omega) (by omega)
    have hcast : ((f.bytes.length - 1 : Nat) : Int) = (f.bytes.length : Int) - 1 := by omega
    simp [Dec.row, Frame.row, hl2, hl3, hmin, hcast, z0, z1, bytesRows_len, bytesRows_nil, allLen_bytes, take_bytes, drop_bytes, aw_skip, aw_region, aw_seq, aw_block, aw_cond, aw_exit, aw_ret, kq_nil, kq_seq, kq_seq_ret, kq_seq_exit, kq_block, kq_block_ret, kq_block_exit, kq_loop, kq_loop_ret, kq_loop_exit, awOps_nil, awOps_cons, awOps_guard, nx_eq, awOp, Opd.ev, A.ok, A.val, setSl, wrapG, guardB, getB, pickA, binA, binC, binD, cmpD, isCmp, unA, unD, lenA, AOp.total, kills, litB, FinQ, resOks, resOk, resA, resList, resOne, A.thaw, C.thaw, A.fits, As.fits, C.fits, evs, oks, callArgs, A.pure, C.pure, A.re, C.re, fieldAddrA, loadC, cut, A.cells, C.rows?, getOb, newOb, setOb, storeC, splice, Ob.re, Cs.fits, partsA, partsOk, parts2A, parts2Ok, fillC, fillRows, optInt, optOk, sliceA, optK_some, storeK_some, Option.map_some, toDs, C.toD, spliceD, appendA, srcRows, allLen_nil_iff, allLen_cons_iff, allLen_append_iff, dropC, Obs.fits, eqCs, eqD]
    refine row_int [.int .i64 f.k, .str f.s] (by omega) rfl rfl ?_
    simp [hcast, z0, bytesRows_len, bytesRows_nil, aw_skip, aw_region, aw_seq, aw_block, aw_cond, aw_exit, aw_ret, kq_nil, kq_seq, kq_seq_ret, kq_seq_exit, kq_block, kq_block_ret, kq_block_exit, kq_loop, kq_loop_ret, kq_loop_exit, awOps_nil, awOps_cons, awOps_guard, nx_eq, awOp, Opd.ev, A.ok, A.val, setSl, wrapG, guardB, getB, pickA, binA, binC, binD, cmpD, isCmp, unA, unD, lenA, AOp.total, kills, litB, FinQ, resOks, resOk, resA, resList, resOne, A.thaw, C.thaw, A.fits, As.fits, C.fits, evs, oks, callArgs, A.pure, C.pure, A.re, C.re, fieldAddrA, loadC, cut, A.cells, C.rows?, getOb, newOb, setOb, storeC, splice, Ob.re, Cs.fits, partsA, partsOk, parts2A, parts2Ok, fillC, fillRows, optInt, optOk, sliceA, optK_some, storeK_some, Option.map_some, toDs, C.toD, spliceD, appendA, srcRows, allLen_nil_iff, allLen_cons_iff, allLen_append_iff, dropC, Obs.fits, eqCs, eqD]
theorem law_run12 (rows : List (List D)) (hr : HasTys Try.prog (#[23] : Array TypeId).toList rows) : ACalls Try.prog 12 (argsA Try.prog (#[23] : Array TypeId).toList rows) [] (fun r _ => r = .c (.d (.bool true))) := by
  obtain ⟨r, rs, rfl, h1, h2⟩ := hr.cons
  obtain rfl := h2.nil
  obtain ⟨s, rfl, hs⟩ := bytes_ty h1
  simp only [argsA, argA, Try.underlying23, List.headD_cons]
  exact shortLaw_calls s hs
namespace fnDecodeShort
theorem own : ownKnob Try.prog.godebug = none := by kernel_rfl
theorem contract (H : Type) (enc : TypeId × Value → H) (W : World) (base : Nat) (args : Array Value) (ds gs : List (DataW H)) (before : List MemPlace)
    (hval : ∀ (j : Nat) t v, Try.f12.params[j]? = some t → args[j]? = some v → Value.okWide Try.prog W .any base t v)
    (hW : DataW.Whole enc Try.prog Try.f12.params.toList Rows.fnDecodeShortSpec.vars false W args.toList ds gs before)
    (hw : (DataW.weightsEach Try.prog (Try.f12.params.toList ++ Rows.fnDecodeShortSpec.plain.varTypes Try.prog) (ds ++ gs)).all (· ≤ reachBytes) = true) :
    Calls Try.prog 12 args W fun e W' => ∃ v, e = .returned v ∧ Rows.fnDecodeShortSpec.post enc Try.prog Try.f12 false true false false W args v W' := by
  refine law_contract (L := [5, 23]) (tb := 4) (by kernel_rfl) (by kernel_rfl) (by kernel_rfl) rfl ?_ (by kernel_rfl) Try.underlying4 ?_ W base args ds gs before hval hW hw
  · intro ds hl
    match ds, hl with
    | [d0], _ => rfl
  · intro rows hr
    rw [Try.params12] at hr ⊢
    exact law_run12 rows hr

theorem lifted (os : Os) (started : os.Started) (H : Type) (enc : TypeId × Value → H) :
    ReturnsInHanded {} Try.checked os 12 .any (Rows.fnDecodeShortSpec.pre6 enc Try.prog Try.f12 Rows.fnDecodeShortRow.domain false) (Rows.fnDecodeShortSpec.post enc Try.prog Try.f12 false true false false) := by
  refine returnsInHanded_of_change_sized (C := Try.checked) own started (by kernel_rfl) Try.func12
    (ChangeSpec.witness6 (enc := enc) (C := Try.checked) false ⟨#[], #[.slice none 0 0], []⟩ 8 (by kernel_rfl) (by kernel_rfl) (by kernel_rfl) (by kernel_rfl)) ?_
  intro W base args ds gs before hval hW _ hw _
  exact contract H enc W base args ds gs before hval hW hw

theorem proved : Rows.FnDecodeShortSaid :=
  OpenClaim.holds_of_wide 12 Try.f12 rfl rfl rfl rfl rfl rfl rfl ⟨rfl, rfl, rfl, rfl, rfl⟩ rfl rfl rfl rfl rfl (by kernel_rfl) Try.func12 (by kernel_rfl)
    (of_decide_eq_true (by kernel_rfl)) (by unfold Func.isWrapper; first | (rw [if_pos (by decide +kernel)]; kernel_rfl) | (rw [if_neg (by decide +kernel)]; exact ⟨rfl, rfl⟩))
    (fun os started H enc _ => lifted os started H enc)
end fnDecodeShort

end Go.Proofs.Ytokgioccfeebkaa
