/-
  The law FnDecoderValid holds: decoders stay valid.
  Conditions: none.
-/
import Derived.Test.YtnobdfcjnnnfmaaFrL
open Go Go.AM Go.Proofs
namespace Go.Proofs.Ytnobdfcjnnnfmaa
open Go.ChangeShapes Go.WideShapes Go.ChangeAt Go.RowKit
set_option linter.unusedVariables false
set_option linter.unusedSimpArgs false
set_option maxRecDepth 100000
-- 7 loop.example/prologserver/laws.FnDecoderValid params 2 ntmps 68
def ac7 : Cd := .seq (.region [⟨(some 4), .mv (.k (.c (.d (.bool false)))), none⟩] [4])
  (.seq (.seq (.region [⟨(some 11), .mv (.t 0), none⟩,
        ⟨(some 12), .len 1 (.t 11), none⟩,
        ⟨(some 13), .bin .gtr (.t 12) (.k (.c (.d (.int .i64 1048576)))), none⟩,
        ⟨(some 14), .mv (.t 13), none⟩,
        ⟨(some 15), .mv (.t 1), some (14, false)⟩,
        ⟨(some 16), .len 1 (.t 15), some (14, false)⟩,
        ⟨(some 17), .bin .gtr (.t 16) (.k (.c (.d (.int .i64 1048576)))), some (14, false)⟩,
        ⟨(some 18), .pick (.t 14) (.k (.c (.d (.bool true)))) (.t 17), none⟩] [11, 12, 13, 14, 15, 16, 17])
    (.cond (.t 18)
      (.seq (.region [⟨(some 4), .mv (.k (.c (.d (.bool true)))), none⟩] [0, 1, 18])
      (.ret))
      (.skip)))
  (.seq (.region [⟨(some 19), .mv (.t 0), none⟩,
      ⟨(some 20), .call false 38 [(.t 19)], none⟩,
      ⟨(some 5), .alloc [(.full []), (.d (.bool false))], none⟩,
      ⟨none, .store 2 (.t 5) (.t 20), none⟩] [0, 4, 18, 19, 20])
  (.seq (.region [⟨(some 21), .load (some 2) (.t 5), none⟩,
      ⟨(some 22), .qcall 39 [(.t 21)], none⟩,
      ⟨(some 6), .mv (.t 22), none⟩] [21, 22])
  (.seq (.region [⟨(some 24), .mv (.t 1), none⟩,
      ⟨(some 25), .call false 40 [(.t 24)], none⟩,
      ⟨(some 23), .mv (.t 25), none⟩,
      ⟨(some 26), .extract 0 (.t 23), none⟩,
      ⟨(some 27), .extract 1 (.t 23), none⟩,
      ⟨(some 7), .alloc [(.full []), (.d (.bool false))], none⟩,
      ⟨none, .store 2 (.t 7) (.t 26), none⟩,
      ⟨(some 8), .mv (.t 27), none⟩] [1, 7, 23, 24, 25, 26, 27])
  (.seq (.seq (.region [⟨(some 28), .mv (.t 6), none⟩,
        ⟨(some 29), .load (some 2) (.t 5), none⟩,
        ⟨(some 30), .qcall 41 [(.t 29)], none⟩,
        ⟨(some 31), .binB true (.t 28) (.t 30), none⟩,
        ⟨(some 32), .mv (.t 31), none⟩,
        ⟨(some 33), .mv (.t 6), some (32, false)⟩,
        ⟨(some 34), .un .not (.t 33), some (32, false)⟩,
        ⟨(some 35), .pick (.t 32) (.k (.c (.d (.bool true)))) (.t 34), none⟩] [28, 29, 30, 31, 32, 33, 34])
    (.cond (.t 35)
      (.seq (.region [⟨(some 36), .mv (.t 6), none⟩,
          ⟨(some 37), .load (some 2) (.t 5), none⟩,
          ⟨(some 38), .qcall 41 [(.t 37)], none⟩,
          ⟨(some 39), .binB false (.t 36) (.t 38), none⟩,
          ⟨(some 4), .mv (.t 39), none⟩] [5, 6, 8, 35, 36, 37, 38, 39])
      (.ret))
      (.skip)))
  (.seq (.region [⟨(some 41), .load (some 2) (.t 5), none⟩,
      ⟨(some 42), .mv (.t 8), none⟩,
      ⟨(some 43), .qcall 32 [(.t 41), (.t 42)], none⟩,
      ⟨(some 40), .mv (.t 43), none⟩,
      ⟨(some 44), .extract 0 (.t 40), none⟩,
      ⟨(some 45), .extract 1 (.t 40), none⟩,
      ⟨(some 9), .alloc [(.full []), (.d (.bool false))], none⟩,
      ⟨none, .store 2 (.t 9) (.t 44), none⟩,
      ⟨(some 10), .mv (.t 45), none⟩] [4, 6, 8, 35, 40, 41, 42, 43, 44, 45])
  (.seq (.region [⟨(some 46), .load (some 2) (.t 9), none⟩,
      ⟨(some 47), .qcall 39 [(.t 46)], none⟩,
      ⟨(some 48), .mv (.t 47), none⟩,
      ⟨(some 49), .fieldAddr 1 (.t 5), some (48, true)⟩,
      ⟨(some 50), .load none (.t 49), some (48, true)⟩,
      ⟨(some 51), .un .not (.t 50), some (48, true)⟩,
      ⟨(some 52), .mv (.t 51), some (48, true)⟩,
      ⟨(some 53), .mv (.t 10), some (52, false)⟩,
      ⟨(some 54), .len 1 (.t 53), some (52, false)⟩,
      ⟨(some 55), .bin .eql (.t 54) (.k (.c (.d (.int .i64 0)))), some (52, false)⟩,
      ⟨(some 56), .mv (.t 55), some (52, false)⟩,
      ⟨(some 57), .fieldAddr 1 (.t 9), some (56, true)⟩,
      ⟨(some 58), .load none (.t 57), some (56, true)⟩,
      ⟨(some 59), .pick (.t 56) (.t 58) (.k (.c (.d (.bool false)))), some (52, false)⟩,
      ⟨(some 60), .pick (.t 52) (.k (.c (.d (.bool true)))) (.t 59), some (48, true)⟩,
      ⟨(some 61), .pick (.t 48) (.t 60) (.k (.c (.d (.bool false)))), none⟩,
      ⟨(some 62), .mv (.t 61), none⟩,
      ⟨(some 63), .fieldAddr 0 (.t 9), some (62, true)⟩,
      ⟨(some 64), .load none (.t 63), some (62, true)⟩,
      ⟨(some 65), .len 1 (.t 64), some (62, true)⟩,
      ⟨(some 66), .bin .leq (.t 65) (.k (.c (.d (.int .i64 2003)))), some (62, true)⟩,
      ⟨(some 67), .pick (.t 62) (.t 66) (.k (.c (.d (.bool false)))), none⟩,
      ⟨(some 4), .mv (.t 67), none⟩] [5, 9, 10, 46, 47, 48, 49, 50, 51, 52, 53, 54, 55, 56, 57, 58, 59, 60, 61, 62, 63, 64, 65, 66, 67])
  (.ret))))))))
theorem ac7_ok : cFunc Try.prog [1000032, 1000039, 1000041] [(0, [4], []), (1, [11, 12, 13, 14, 15, 16, 17], []), (2, [0, 1, 18], []), (3, [0, 4, 18, 19, 20], []), (4, [21, 22], []), (5, [1, 7, 23, 24, 25, 26, 27], []), (6, [28, 29, 30, 31, 32, 33, 34], []), (7, [5, 6, 8, 35, 36, 37, 38, 39], []), (8, [4, 6, 8, 35, 40, 41, 42, 43, 44, 45], []), (9, [5, 9, 10, 46, 47, 48, 49, 50, 51, 52, 53, 54, 55, 56, 57, 58, 59, 60, 61, 62, 63, 64, 65, 66, 67], [])] Try.f7 = some (ac7, [.tmp 4], 68) := by kernel_rfl
theorem feedD_ok (d : Dec) (b : List UInt8) (h : d.ok = true) : (feedD d b).1.ok = true ∧ (d.broken = true → feedD d b = (d, [])) := by
  refine ⟨?_, fun hb => by rw [feedD, if_pos (by simp [hb])]⟩
  unfold feedD
  split
  · exact h
  · simp only [Dec.ok]
    split
    · rename_i hbr
      rw [feed_broken _ hbr]; rfl
    · rename_i hbr
      simp only [Bool.not_eq_true] at hbr
      simp [feed_rest_ok _ hbr]
theorem ok_len (d : Dec) (h : d.ok = true) : d.rest.length ≤ 2003 := by
  unfold Dec.ok at h
  split at h
  · simp at h; simp [h]
  · simp only [beq_iff_eq] at h
    have := (next_zero d.rest).1 h
    omega
theorem dvLaw2_calls (c e : List UInt8) (hc : c.length ≤ reachBytes) (he : e.length ≤ reachBytes) : ACalls Try.prog 7 [.c (.d (.sl (bytesRows c))), .c (.d (.sl (bytesRows e)))] [] (fun r _ => r = .c (.d (.bool true))) := by
  refine acalls Try.func7 (by kernel_rfl) ac7_ok fun hf => ?_
  have hl := reach_i64 hc
  have hl2 := reach_i64 he
  simp -implicitDefEqProofs [ac7, hl, hl2, bytesRows_len, aw_skip, aw_region, aw_seq, aw_block, aw_cond, aw_exit, aw_ret, kq_nil, kq_seq, kq_seq_ret, kq_seq_exit, kq_block, kq_block_ret, kq_block_exit, kq_loop, kq_loop_ret, kq_loop_exit, awOps_nil, awOps_cons, awOps_guardE, nx_eq, awOp, ev_k, ev_0, ev_1, ev_2, ev_3, ev_4, ev_5, ev_6, ev_7, ev_8, set_0, set_1, set_2, set_3, set_4, set_5, set_6, set_7, set_8, -List.set_cons_succ, -List.set_cons_zero, A.ok, A.val, setSl, wrapG, guardB, getB, pickA, binA, binC, binD, cmpD, isCmp, unA, unD, lenA, AOp.total, kills, litB, FinQ, resOks, resOk, resA, resList, resOne, A.thaw, C.thaw, A.fits, As.fits, C.fits, evs, oks, callArgs, A.pure, C.pure, A.re, C.re, fieldAddrA, loadC, cut, A.cells, C.rows?, getOb, newOb, setOb, storeC, splice, Ob.re, Cs.fits, partsA, partsOk, parts2A, parts2Ok, fillC, fillRows, optInt, optOk, sliceA, optK_some, storeK_some, Option.map_some, toDs, C.toD, spliceD, appendA, srcRows, allLen_nil_iff, allLen_cons_iff, allLen_append_iff, dropC, Obs.fits, eqCs, eqD]
  intro hle hle2
  refine call_some (drawDv_calls c (by omega) _) (by simp [Ob.re, C.re]) (fun r => DrawnDec.re) hf ?_
  rintro _ ⟨d, rfl, hd⟩
  have c1 := dvImpl_calls d (by omega)
  have c2 := dvSpec_calls d (by omega)
  simp only [Dec.row, List.map_cons, List.map_nil] at c1 c2
  simp -implicitDefEqProofs [Dec.row, hf, aw_skip, aw_region, aw_seq, aw_block, aw_cond, aw_exit, aw_ret, kq_nil, kq_seq, kq_seq_ret, kq_seq_exit, kq_block, kq_block_ret, kq_block_exit, kq_loop, kq_loop_ret, kq_loop_exit, awOps_nil, awOps_cons, awOps_guardE, nx_eq, awOp, ev_k, ev_0, ev_1, ev_2, ev_3, ev_4, ev_5, ev_6, ev_7, ev_8, set_0, set_1, set_2, set_3, set_4, set_5, set_6, set_7, set_8, -List.set_cons_succ, -List.set_cons_zero, A.ok, A.val, setSl, wrapG, guardB, getB, pickA, binA, binC, binD, cmpD, isCmp, unA, unD, lenA, AOp.total, kills, litB, FinQ, resOks, resOk, resA, resList, resOne, A.thaw, C.thaw, A.fits, As.fits, C.fits, evs, oks, callArgs, A.pure, C.pure, A.re, C.re, fieldAddrA, loadC, cut, A.cells, C.rows?, getOb, newOb, setOb, storeC, splice, Ob.re, Cs.fits, partsA, partsOk, parts2A, parts2Ok, fillC, fillRows, optInt, optOk, sliceA, optK_some, storeK_some, Option.map_some, toDs, C.toD, spliceD, appendA, srcRows, allLen_nil_iff, allLen_cons_iff, allLen_append_iff, dropC, Obs.fits, eqCs, eqD]
  refine qcall_pure c1 hf rfl ?_
  simp -implicitDefEqProofs [hf, aw_skip, aw_region, aw_seq, aw_block, aw_cond, aw_exit, aw_ret, kq_nil, kq_seq, kq_seq_ret, kq_seq_exit, kq_block, kq_block_ret, kq_block_exit, kq_loop, kq_loop_ret, kq_loop_exit, awOps_nil, awOps_cons, awOps_guardE, nx_eq, awOp, ev_k, ev_0, ev_1, ev_2, ev_3, ev_4, ev_5, ev_6, ev_7, ev_8, set_0, set_1, set_2, set_3, set_4, set_5, set_6, set_7, set_8, -List.set_cons_succ, -List.set_cons_zero, A.ok, A.val, setSl, wrapG, guardB, getB, pickA, binA, binC, binD, cmpD, isCmp, unA, unD, lenA, AOp.total, kills, litB, FinQ, resOks, resOk, resA, resList, resOne, A.thaw, C.thaw, A.fits, As.fits, C.fits, evs, oks, callArgs, A.pure, C.pure, A.re, C.re, fieldAddrA, loadC, cut, A.cells, C.rows?, getOb, newOb, setOb, storeC, splice, Ob.re, Cs.fits, partsA, partsOk, parts2A, parts2Ok, fillC, fillRows, optInt, optOk, sliceA, optK_some, storeK_some, Option.map_some, toDs, C.toD, spliceD, appendA, srcRows, allLen_nil_iff, allLen_cons_iff, allLen_append_iff, dropC, Obs.fits, eqCs, eqD]
  refine call_some (drawFd_calls e (by omega) _) (by simp [Ob.re, C.re]) (fun r => DrawnFeed.re) hf ?_
  rintro _ ⟨d2, b, rfl, hd2, hb⟩
  simp -implicitDefEqProofs [Dec.row, hf, aw_skip, aw_region, aw_seq, aw_block, aw_cond, aw_exit, aw_ret, kq_nil, kq_seq, kq_seq_ret, kq_seq_exit, kq_block, kq_block_ret, kq_block_exit, kq_loop, kq_loop_ret, kq_loop_exit, awOps_nil, awOps_cons, awOps_guardE, nx_eq, awOp, ev_k, ev_0, ev_1, ev_2, ev_3, ev_4, ev_5, ev_6, ev_7, ev_8, set_0, set_1, set_2, set_3, set_4, set_5, set_6, set_7, set_8, -List.set_cons_succ, -List.set_cons_zero, A.ok, A.val, setSl, wrapG, guardB, getB, pickA, binA, binC, binD, cmpD, isCmp, unA, unD, lenA, AOp.total, kills, litB, FinQ, resOks, resOk, resA, resList, resOne, A.thaw, C.thaw, A.fits, As.fits, C.fits, evs, oks, callArgs, A.pure, C.pure, A.re, C.re, fieldAddrA, loadC, cut, A.cells, C.rows?, getOb, newOb, setOb, storeC, splice, Ob.re, Cs.fits, partsA, partsOk, parts2A, parts2Ok, fillC, fillRows, optInt, optOk, sliceA, optK_some, storeK_some, Option.map_some, toDs, C.toD, spliceD, appendA, srcRows, allLen_nil_iff, allLen_cons_iff, allLen_append_iff, dropC, Obs.fits, eqCs, eqD]
  refine qcall_pure c2 hf rfl ?_
  cases hok : d.ok with
  | false =>
    rw [hok] at c2
    simp -implicitDefEqProofs [hf, hok, aw_skip, aw_region, aw_seq, aw_block, aw_cond, aw_exit, aw_ret, kq_nil, kq_seq, kq_seq_ret, kq_seq_exit, kq_block, kq_block_ret, kq_block_exit, kq_loop, kq_loop_ret, kq_loop_exit, awOps_nil, awOps_cons, awOps_guardE, nx_eq, awOp, ev_k, ev_0, ev_1, ev_2, ev_3, ev_4, ev_5, ev_6, ev_7, ev_8, set_0, set_1, set_2, set_3, set_4, set_5, set_6, set_7, set_8, -List.set_cons_succ, -List.set_cons_zero, A.ok, A.val, setSl, wrapG, guardB, getB, pickA, binA, binC, binD, cmpD, isCmp, unA, unD, lenA, AOp.total, kills, litB, FinQ, resOks, resOk, resA, resList, resOne, A.thaw, C.thaw, A.fits, As.fits, C.fits, evs, oks, callArgs, A.pure, C.pure, A.re, C.re, fieldAddrA, loadC, cut, A.cells, C.rows?, getOb, newOb, setOb, storeC, splice, Ob.re, Cs.fits, partsA, partsOk, parts2A, parts2Ok, fillC, fillRows, optInt, optOk, sliceA, optK_some, storeK_some, Option.map_some, toDs, C.toD, spliceD, appendA, srcRows, allLen_nil_iff, allLen_cons_iff, allLen_append_iff, dropC, Obs.fits, eqCs, eqD]
    refine qcall_pure c2 hf rfl ?_
    simp -implicitDefEqProofs [hf, hok, aw_skip, aw_region, aw_seq, aw_block, aw_cond, aw_exit, aw_ret, kq_nil, kq_seq, kq_seq_ret, kq_seq_exit, kq_block, kq_block_ret, kq_block_exit, kq_loop, kq_loop_ret, kq_loop_exit, awOps_nil, awOps_cons, awOps_guardE, nx_eq, awOp, ev_k, ev_0, ev_1, ev_2, ev_3, ev_4, ev_5, ev_6, ev_7, ev_8, set_0, set_1, set_2, set_3, set_4, set_5, set_6, set_7, set_8, -List.set_cons_succ, -List.set_cons_zero, A.ok, A.val, setSl, wrapG, guardB, getB, pickA, binA, binC, binD, cmpD, isCmp, unA, unD, lenA, AOp.total, kills, litB, FinQ, resOks, resOk, resA, resList, resOne, A.thaw, C.thaw, A.fits, As.fits, C.fits, evs, oks, callArgs, A.pure, C.pure, A.re, C.re, fieldAddrA, loadC, cut, A.cells, C.rows?, getOb, newOb, setOb, storeC, splice, Ob.re, Cs.fits, partsA, partsOk, parts2A, parts2Ok, fillC, fillRows, optInt, optOk, sliceA, optK_some, storeK_some, Option.map_some, toDs, C.toD, spliceD, appendA, srcRows, allLen_nil_iff, allLen_cons_iff, allLen_append_iff, dropC, Obs.fits, eqCs, eqD]
  | true =>
    simp -implicitDefEqProofs [hf, hok, aw_skip, aw_region, aw_seq, aw_block, aw_cond, aw_exit, aw_ret, kq_nil, kq_seq, kq_seq_ret, kq_seq_exit, kq_block, kq_block_ret, kq_block_exit, kq_loop, kq_loop_ret, kq_loop_exit, awOps_nil, awOps_cons, awOps_guardE, nx_eq, awOp, ev_k, ev_0, ev_1, ev_2, ev_3, ev_4, ev_5, ev_6, ev_7, ev_8, set_0, set_1, set_2, set_3, set_4, set_5, set_6, set_7, set_8, -List.set_cons_succ, -List.set_cons_zero, A.ok, A.val, setSl, wrapG, guardB, getB, pickA, binA, binC, binD, cmpD, isCmp, unA, unD, lenA, AOp.total, kills, litB, FinQ, resOks, resOk, resA, resList, resOne, A.thaw, C.thaw, A.fits, As.fits, C.fits, evs, oks, callArgs, A.pure, C.pure, A.re, C.re, fieldAddrA, loadC, cut, A.cells, C.rows?, getOb, newOb, setOb, storeC, splice, Ob.re, Cs.fits, partsA, partsOk, parts2A, parts2Ok, fillC, fillRows, optInt, optOk, sliceA, optK_some, storeK_some, Option.map_some, toDs, C.toD, spliceD, appendA, srcRows, allLen_nil_iff, allLen_cons_iff, allLen_append_iff, dropC, Obs.fits, eqCs, eqD]
    have c3 := feedImpl_calls d b (by omega) (by omega)
    obtain ⟨k1, k2⟩ := feedD_ok d b hok
    have k3 := ok_len _ k1
    have hx : (feedD d b).2.length ≤ 100000 ∧ (d.broken = true → (feedD d b).2 = [] ∧ (feedD d b).1.broken = true) := by
      refine ⟨?_, fun h => by rw [k2 h]; exact ⟨rfl, h⟩⟩
      unfold feedD
      split
      · simp
      · have := feed_count (d.rest ++ b)
        simp at this ⊢
        omega
    obtain ⟨hx1, hx2⟩ := hx
    generalize feedD d b = x at c3 k1 k3 hx1 hx2
    obtain ⟨x, fs⟩ := x
    simp only at c3 k1 k3 hx1 hx2
    simp only [Dec.row, List.map_cons, List.map_nil] at c3
    refine qcall_pure c3 hf rfl ?_
    have c4 := dvImpl_calls x (by omega)
    rw [k1] at c4
    have i1 : inR .i64 (fs.length : Int) := small_i64 (by omega) (by omega)
    have i2 : inR .i64 (x.rest.length : Int) := small_i64 (by omega) (by omega)
    have i3 : ((x.rest.length : Int) ≤ 2003) := by omega
    have z0 : inR .i64 (0 : Int) := small_i64 (by omega) (by omega)
    simp -implicitDefEqProofs [hf, aw_skip, aw_region, aw_seq, aw_block, aw_cond, aw_exit, aw_ret, kq_nil, kq_seq, kq_seq_ret, kq_seq_exit, kq_block, kq_block_ret, kq_block_exit, kq_loop, kq_loop_ret, kq_loop_exit, awOps_nil, awOps_cons, awOps_guardE, nx_eq, awOp, ev_k, ev_0, ev_1, ev_2, ev_3, ev_4, ev_5, ev_6, ev_7, ev_8, set_0, set_1, set_2, set_3, set_4, set_5, set_6, set_7, set_8, -List.set_cons_succ, -List.set_cons_zero, A.ok, A.val, setSl, wrapG, guardB, getB, pickA, binA, binC, binD, cmpD, isCmp, unA, unD, lenA, AOp.total, kills, litB, FinQ, resOks, resOk, resA, resList, resOne, A.thaw, C.thaw, A.fits, As.fits, C.fits, evs, oks, callArgs, A.pure, C.pure, A.re, C.re, fieldAddrA, loadC, cut, A.cells, C.rows?, getOb, newOb, setOb, storeC, splice, Ob.re, Cs.fits, partsA, partsOk, parts2A, parts2Ok, fillC, fillRows, optInt, optOk, sliceA, optK_some, storeK_some, Option.map_some, toDs, C.toD, spliceD, appendA, srcRows, allLen_nil_iff, allLen_cons_iff, allLen_append_iff, dropC, Obs.fits, eqCs, eqD]
    refine qcall_pure c4 hf rfl ?_
    cases hbr : d.broken with
    | true =>
      obtain ⟨e1, e2⟩ := hx2 hbr
      subst e1
      simp -implicitDefEqProofs [hf, e2, hbr, i2, i3, z0, bytesRows_len, aw_skip, aw_region, aw_seq, aw_block, aw_cond, aw_exit, aw_ret, kq_nil, kq_seq, kq_seq_ret, kq_seq_exit, kq_block, kq_block_ret, kq_block_exit, kq_loop, kq_loop_ret, kq_loop_exit, awOps_nil, awOps_cons, awOps_guardE, nx_eq, awOp, ev_k, ev_0, ev_1, ev_2, ev_3, ev_4, ev_5, ev_6, ev_7, ev_8, set_0, set_1, set_2, set_3, set_4, set_5, set_6, set_7, set_8, -List.set_cons_succ, -List.set_cons_zero, A.ok, A.val, setSl, wrapG, guardB, getB, pickA, binA, binC, binD, cmpD, isCmp, unA, unD, lenA, AOp.total, kills, litB, FinQ, resOks, resOk, resA, resList, resOne, A.thaw, C.thaw, A.fits, As.fits, C.fits, evs, oks, callArgs, A.pure, C.pure, A.re, C.re, fieldAddrA, loadC, cut, A.cells, C.rows?, getOb, newOb, setOb, storeC, splice, Ob.re, Cs.fits, partsA, partsOk, parts2A, parts2Ok, fillC, fillRows, optInt, optOk, sliceA, optK_some, storeK_some, Option.map_some, toDs, C.toD, spliceD, appendA, srcRows, allLen_nil_iff, allLen_cons_iff, allLen_append_iff, dropC, Obs.fits, eqCs, eqD]
    | false => simp -implicitDefEqProofs [hf, hbr, i1, i2, i3, bytesRows_len, aw_skip, aw_region, aw_seq, aw_block, aw_cond, aw_exit, aw_ret, kq_nil, kq_seq, kq_seq_ret, kq_seq_exit, kq_block, kq_block_ret, kq_block_exit, kq_loop, kq_loop_ret, kq_loop_exit, awOps_nil, awOps_cons, awOps_guardE, nx_eq, awOp, ev_k, ev_0, ev_1, ev_2, ev_3, ev_4, ev_5, ev_6, ev_7, ev_8, set_0, set_1, set_2, set_3, set_4, set_5, set_6, set_7, set_8, -List.set_cons_succ, -List.set_cons_zero, A.ok, A.val, setSl, wrapG, guardB, getB, pickA, binA, binC, binD, cmpD, isCmp, unA, unD, lenA, AOp.total, kills, litB, FinQ, resOks, resOk, resA, resList, resOne, A.thaw, C.thaw, A.fits, As.fits, C.fits, evs, oks, callArgs, A.pure, C.pure, A.re, C.re, fieldAddrA, loadC, cut, A.cells, C.rows?, getOb, newOb, setOb, storeC, splice, Ob.re, Cs.fits, partsA, partsOk, parts2A, parts2Ok, fillC, fillRows, optInt, optOk, sliceA, optK_some, storeK_some, Option.map_some, toDs, C.toD, spliceD, appendA, srcRows, allLen_nil_iff, allLen_cons_iff, allLen_append_iff, dropC, Obs.fits, eqCs, eqD]
theorem law_run7 (rows : List (List D)) (hr : HasTys Try.prog (#[22, 22] : Array TypeId).toList rows) : ACalls Try.prog 7 (argsA Try.prog (#[22, 22] : Array TypeId).toList rows) [] (fun r _ => r = .c (.d (.bool true))) := by
  obtain ⟨r, rs, rfl, h1, h2⟩ := hr.cons
  obtain ⟨r', rs, rfl, h2', h3⟩ := h2.cons
  obtain rfl := h3.nil
  obtain ⟨s, rfl, hs⟩ := bytes_ty h1
  obtain ⟨s', rfl, hs'⟩ := bytes_ty h2'
  simp only [argsA, argA, Try.underlying22, List.headD_cons]
  exact dvLaw2_calls s s' hs hs'
namespace fnDecoderValid
theorem own : ownKnob Try.prog.godebug = none := by kernel_rfl
theorem contract (H : Type) (enc : TypeId × Value → H) (W : World) (base : Nat) (args : Array Value) (ds gs : List (DataW H)) (before : List MemPlace)
    (hval : ∀ (j : Nat) t v, Try.f7.params[j]? = some t → args[j]? = some v → Value.okWide Try.prog W .any base t v)
    (hW : DataW.Whole enc Try.prog Try.f7.params.toList Rows.fnDecoderValidSpec.vars false W args.toList ds gs before)
    (hw : (DataW.weightsEach Try.prog (Try.f7.params.toList ++ Rows.fnDecoderValidSpec.plain.varTypes Try.prog) (ds ++ gs)).all (· ≤ reachBytes) = true) :
    Calls Try.prog 7 args W fun e W' => ∃ v, e = .returned v ∧ Rows.fnDecoderValidSpec.post enc Try.prog Try.f7 false true false false W args v W' := by
  refine law_contract (L := [5, 22]) (tb := 4) (by kernel_rfl) (by kernel_rfl) (by kernel_rfl) rfl ?_ (by kernel_rfl) Try.underlying4 ?_ W base args ds gs before hval hW hw
  · intro ds hl
    match ds, hl with
    | [d0, d1], _ => rfl
  · intro rows hr
    rw [Try.params7] at hr ⊢
    exact law_run7 rows hr

theorem lifted (os : Os) (started : os.Started) (H : Type) (enc : TypeId × Value → H) :
    ReturnsInHanded {} Try.checked os 7 .any (Rows.fnDecoderValidSpec.pre6 enc Try.prog Try.f7 Rows.fnDecoderValidRow.domain false) (Rows.fnDecoderValidSpec.post enc Try.prog Try.f7 false true false false) := by
  refine returnsInHanded_of_change_sized (C := Try.checked) own started (by kernel_rfl) Try.func7
    (ChangeSpec.witness6 (enc := enc) (C := Try.checked) false ⟨#[], #[.slice none 0 0, .slice none 0 0], []⟩ 8 (by kernel_rfl) (by kernel_rfl) (by kernel_rfl) (by kernel_rfl)) ?_
  intro W base args ds gs before hval hW _ hw _
  exact contract H enc W base args ds gs before hval hW hw

theorem proved : Rows.FnDecoderValidSaid :=
  OpenClaim.holds_of_wide 7 Try.f7 rfl rfl rfl rfl rfl rfl rfl ⟨rfl, rfl, rfl, rfl, rfl⟩ rfl rfl rfl rfl rfl (by kernel_rfl) Try.func7 (by kernel_rfl)
    (of_decide_eq_true (by kernel_rfl)) (by unfold Func.isWrapper; first | (rw [if_pos (by decide +kernel)]; kernel_rfl) | (rw [if_neg (by decide +kernel)]; exact ⟨rfl, rfl⟩))
    (fun os started H enc _ => lifted os started H enc)
end fnDecoderValid

end Go.Proofs.Ytnobdfcjnnnfmaa
