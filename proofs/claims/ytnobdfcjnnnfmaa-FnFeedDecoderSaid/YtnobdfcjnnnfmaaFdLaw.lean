/-
  The law FnFeedDecoder holds: it does not matter in which parts bytes arrive.
  Conditions: none.
-/
import Derived.Test.YtnobdfcjnnnfmaaFrL
open Go Go.AM Go.Proofs
namespace Go.Proofs.Ytnobdfcjnnnfmaa
open Go.ChangeShapes Go.WideShapes Go.ChangeAt Go.RowKit
set_option linter.unusedVariables false
set_option linter.unusedSimpArgs false
set_option maxRecDepth 100000
-- 8 loop.example/prologserver/laws.FnFeedDecoder params 2 ntmps 85
def ac8 : Cd := .seq (.region [⟨(some 4), .mv (.k (.c (.d (.bool false)))), none⟩] [4])
  (.seq (.seq (.region [⟨(some 16), .mv (.t 0), none⟩,
        ⟨(some 17), .len 1 (.t 16), none⟩,
        ⟨(some 18), .bin .gtr (.t 17) (.k (.c (.d (.int .i64 1048576)))), none⟩,
        ⟨(some 19), .mv (.t 18), none⟩,
        ⟨(some 20), .mv (.t 1), some (19, false)⟩,
        ⟨(some 21), .len 1 (.t 20), some (19, false)⟩,
        ⟨(some 22), .bin .gtr (.t 21) (.k (.c (.d (.int .i64 1048576)))), some (19, false)⟩,
        ⟨(some 23), .pick (.t 19) (.k (.c (.d (.bool true)))) (.t 22), none⟩] [16, 17, 18, 19, 20, 21, 22])
    (.cond (.t 23)
      (.seq (.region [⟨(some 4), .mv (.k (.c (.d (.bool true)))), none⟩] [0, 1, 23])
      (.ret))
      (.skip)))
  (.seq (.region [⟨(some 25), .mv (.t 0), none⟩,
      ⟨(some 26), .call false 40 [(.t 25)], none⟩,
      ⟨(some 24), .mv (.t 26), none⟩,
      ⟨(some 27), .extract 0 (.t 24), none⟩,
      ⟨(some 28), .extract 1 (.t 24), none⟩,
      ⟨(some 5), .alloc [(.full []), (.d (.bool false))], none⟩,
      ⟨none, .store 2 (.t 5) (.t 27), none⟩,
      ⟨(some 6), .mv (.t 28), none⟩] [0, 4, 23, 24, 25, 26, 27, 28])
  (.seq (.region [⟨(some 30), .load (some 2) (.t 5), none⟩,
      ⟨(some 31), .mv (.t 6), none⟩,
      ⟨(some 32), .qcall 32 [(.t 30), (.t 31)], none⟩,
      ⟨(some 29), .mv (.t 32), none⟩,
      ⟨(some 33), .extract 0 (.t 29), none⟩,
      ⟨(some 34), .extract 1 (.t 29), none⟩,
      ⟨(some 7), .alloc [(.full []), (.d (.bool false))], none⟩,
      ⟨none, .store 2 (.t 7) (.t 33), none⟩,
      ⟨(some 8), .mv (.t 34), none⟩] [29, 30, 31, 32, 33, 34])
  (.seq (.region [⟨(some 36), .load (some 2) (.t 5), none⟩,
      ⟨(some 37), .mv (.t 6), none⟩,
      ⟨(some 38), .qcall 33 [(.t 36), (.t 37)], none⟩,
      ⟨(some 35), .mv (.t 38), none⟩,
      ⟨(some 39), .extract 0 (.t 35), none⟩,
      ⟨(some 40), .extract 1 (.t 35), none⟩,
      ⟨(some 9), .alloc [(.full []), (.d (.bool false))], none⟩,
      ⟨none, .store 2 (.t 9) (.t 39), none⟩,
      ⟨(some 10), .mv (.t 40), none⟩] [35, 36, 37, 38, 39, 40])
  (.seq (.seq (.region [⟨(some 41), .load (some 2) (.t 7), none⟩,
        ⟨(some 42), .load (some 2) (.t 9), none⟩,
        ⟨(some 43), .qcall 36 [(.t 41), (.t 42)], none⟩,
        ⟨(some 44), .un .not (.t 43), none⟩,
        ⟨(some 45), .mv (.t 44), none⟩,
        ⟨(some 46), .mv (.t 8), some (45, false)⟩,
        ⟨(some 47), .mv (.t 10), some (45, false)⟩,
        ⟨(some 48), .qcall 24 [(.t 46), (.t 47)], some (45, false)⟩,
        ⟨(some 49), .un .not (.t 48), some (45, false)⟩,
        ⟨(some 50), .pick (.t 45) (.k (.c (.d (.bool true)))) (.t 49), none⟩] [9, 10, 41, 42, 43, 44, 45, 46, 47, 48, 49])
    (.cond (.t 50)
      (.seq (.region [⟨(some 4), .mv (.k (.c (.d (.bool false)))), none⟩] [1, 5, 6, 7, 8, 50])
      (.ret))
      (.skip)))
  (.seq (.region [⟨(some 51), .mv (.t 1), none⟩,
      ⟨(some 52), .len 1 (.t 51), none⟩,
      ⟨(some 53), .mv (.t 6), none⟩,
      ⟨(some 54), .len 1 (.t 53), none⟩,
      ⟨(some 55), .bin .add (.t 54) (.k (.c (.d (.int .i64 1)))), none⟩,
      ⟨(some 56), .bin .rem (.t 52) (.t 55), none⟩,
      ⟨(some 11), .mv (.t 56), none⟩] [1, 4, 50, 51, 52, 53, 54, 55, 56])
  (.seq (.region [⟨(some 59), .mv (.t 6), none⟩,
      ⟨(some 60), .mv (.t 11), none⟩,
      ⟨(some 61), .slice 1 (.t 59) none (some (.t 60)) none, none⟩,
      ⟨(some 58), .load (some 2) (.t 5), none⟩,
      ⟨(some 62), .qcall 32 [(.t 58), (.t 61)], none⟩,
      ⟨(some 57), .mv (.t 62), none⟩,
      ⟨(some 63), .extract 0 (.t 57), none⟩,
      ⟨(some 64), .extract 1 (.t 57), none⟩,
      ⟨(some 12), .alloc [(.full []), (.d (.bool false))], none⟩,
      ⟨none, .store 2 (.t 12) (.t 63), none⟩,
      ⟨(some 13), .mv (.t 64), none⟩] [5, 57, 58, 59, 60, 61, 62, 63, 64])
  (.seq (.region [⟨(some 67), .mv (.t 6), none⟩,
      ⟨(some 68), .mv (.t 11), none⟩,
      ⟨(some 69), .slice 1 (.t 67) (some (.t 68)) none none, none⟩,
      ⟨(some 66), .load (some 2) (.t 12), none⟩,
      ⟨(some 70), .qcall 32 [(.t 66), (.t 69)], none⟩,
      ⟨(some 65), .mv (.t 70), none⟩,
      ⟨(some 71), .extract 0 (.t 65), none⟩,
      ⟨(some 72), .extract 1 (.t 65), none⟩,
      ⟨(some 14), .alloc [(.full []), (.d (.bool false))], none⟩,
      ⟨none, .store 2 (.t 14) (.t 71), none⟩,
      ⟨(some 15), .mv (.t 72), none⟩] [6, 11, 12, 65, 66, 67, 68, 69, 70, 71, 72])
  (.seq (.region [⟨(some 73), .load (some 2) (.t 14), none⟩,
      ⟨(some 74), .load (some 2) (.t 7), none⟩,
      ⟨(some 75), .qcall 36 [(.t 73), (.t 74)], none⟩,
      ⟨(some 76), .mv (.t 75), none⟩,
      ⟨(some 77), .buildSlice 2 0 [(.int .i64 0), (.str [])] [], some (76, true)⟩,
      ⟨(some 78), .mv (.t 13), some (76, true)⟩,
      ⟨(some 79), .append false 2 (.t 77) (.t 78), some (76, true)⟩,
      ⟨(some 80), .mv (.t 15), some (76, true)⟩,
      ⟨(some 81), .append false 2 (.t 79) (.t 80), some (76, true)⟩,
      ⟨(some 82), .mv (.t 8), some (76, true)⟩,
      ⟨(some 83), .qcall 24 [(.t 81), (.t 82)], some (76, true)⟩,
      ⟨(some 84), .pick (.t 76) (.t 83) (.k (.c (.d (.bool false)))), none⟩,
      ⟨(some 4), .mv (.t 84), none⟩] [7, 8, 13, 14, 15, 73, 74, 75, 76, 77, 78, 79, 80, 81, 82, 83, 84])
  (.ret))))))))))
theorem ac8_ok : cFunc Try.prog [1000024, 1000032, 1000033, 1000036] [(0, [4], []), (1, [16, 17, 18, 19, 20, 21, 22], []), (2, [0, 1, 23], []), (3, [0, 4, 23, 24, 25, 26, 27, 28], []), (4, [29, 30, 31, 32, 33, 34], []), (5, [35, 36, 37, 38, 39, 40], []), (6, [9, 10, 41, 42, 43, 44, 45, 46, 47, 48, 49], []), (7, [1, 5, 6, 7, 8, 50], []), (8, [1, 4, 50, 51, 52, 53, 54, 55, 56], []), (9, [5, 57, 58, 59, 60, 61, 62, 63, 64], [1, 2, 3, 0, 4, 5, 6, 7, 8, 9, 10]), (10, [6, 11, 12, 65, 66, 67, 68, 69, 70, 71, 72], [1, 2, 3, 0, 4, 5, 6, 7, 8, 9, 10]), (11, [7, 8, 13, 14, 15, 73, 74, 75, 76, 77, 78, 79, 80, 81, 82, 83, 84], [])] Try.f8 = some (ac8, [.tmp 4], 85) := by kernel_rfl
theorem feedD_parts (d : Dec) (b : List UInt8) (k : Nat) : feedD (feedD d (b.take k)).1 (b.drop k) = ((feedD d b).1, (feedD (feedD d (b.take k)).1 (b.drop k)).2) ∧ (feedD d (b.take k)).2 ++ (feedD (feedD d (b.take k)).1 (b.drop k)).2 = (feedD d b).2 := by
  by_cases h : (!d.ok || d.broken) = true
  · have e : ∀ x, feedD d x = (d, []) := fun x => by rw [feedD, if_pos h]
    rw [e, e, e]
    exact ⟨rfl, rfl⟩
  · have e : ∀ x, feedD d x = (⟨(feed (d.rest ++ x)).2.1, (feed (d.rest ++ x)).2.2⟩, (feed (d.rest ++ x)).1) := fun x => by rw [feedD, if_neg h]
    have ea := feed_append (d.rest ++ b.take k) (b.drop k)
    rw [List.append_assoc, List.take_append_drop] at ea
    rw [e b, e (b.take k), ea]
    cases hbr : (feed (d.rest ++ b.take k)).2.2 with
    | true =>
      rw [feedD, if_pos (by simp)]
      simp [hbr]
    | false =>
      have hn := feed_rest_ok _ hbr
      rw [feedD, if_neg (by simp [Dec.ok, hn])]
      simp
theorem fdLaw_calls (c e : List UInt8) (hc : c.length ≤ reachBytes) (he : e.length ≤ reachBytes) : ACalls Try.prog 8 [.c (.d (.sl (bytesRows c))), .c (.d (.sl (bytesRows e)))] [] (fun r _ => r = .c (.d (.bool true))) := by
  refine acalls Try.func8 (by kernel_rfl) ac8_ok fun hf => ?_
  have hl := reach_i64 hc
  have hl2 := reach_i64 he
  simp -implicitDefEqProofs [ac8, hl, hl2, bytesRows_len, aw_skip, aw_region, aw_seq, aw_block, aw_cond, aw_exit, aw_ret, kq_nil, kq_seq, kq_seq_ret, kq_seq_exit, kq_block, kq_block_ret, kq_block_exit, kq_loop, kq_loop_ret, kq_loop_exit, awOps_nil, awOps_cons, awOps_guardE, nx_eq, awOp, ev_k, ev_0, ev_1, ev_2, ev_3, ev_4, ev_5, ev_6, ev_7, ev_8, set_0, set_1, set_2, set_3, set_4, set_5, set_6, set_7, set_8, -List.set_cons_succ, -List.set_cons_zero, A.ok, A.val, setSl, wrapG, guardB, getB, pickA, binA, binC, binD, cmpD, isCmp, unA, unD, lenA, AOp.total, kills, litB, FinQ, resOks, resOk, resA, resList, resOne, A.thaw, C.thaw, A.fits, As.fits, C.fits, evs, oks, callArgs, A.pure, C.pure, A.re, C.re, fieldAddrA, loadC, cut, A.cells, C.rows?, getOb, newOb, setOb, storeC, splice, Ob.re, Cs.fits, partsA, partsOk, parts2A, parts2Ok, fillC, fillRows, optInt, optOk, sliceA, optK_some, storeK_some, Option.map_some, toDs, C.toD, spliceD, appendA, srcRows, allLen_nil_iff, allLen_cons_iff, allLen_append_iff, dropC, Obs.fits, eqCs, eqD]
  intro hle hle2
  refine call_some (drawFd_calls c (by omega) _) (by simp [Ob.re, C.re]) (fun r => DrawnFeed.re) hf ?_
  rintro _ ⟨d, b, rfl, hd, hb⟩
  have c1 := feedImpl_calls d b (by omega) (by omega)
  have c2 := feedSpec_calls d b (by omega) (by omega)
  have hlen : ∀ x, x.length ≤ 100000 → (feedD d x).1.rest.length ≤ 200000 ∧ (feedD d x).2.length ≤ 200000 := fun x hx => by
    unfold feedD
    split
    · simp; omega
    · have h1 := feed_count (d.rest ++ x)
      have h2 := feed_rest_len (d.rest ++ x)
      simp at h1 h2 ⊢
      omega
  obtain ⟨m1, m2⟩ := hlen b (by omega)
  have hparts := fun k => feedD_parts d b k
  have c3 := fun k => feedImpl_calls d (b.take k) (by omega) (by simp; omega)
  have c4 := fun k => feedImpl_calls (feedD d (b.take k)).1 (b.drop k) (by have := (hlen (b.take k) (by simp; omega)).1; omega) (by simp; omega)
  have m3 := fun k => (hlen (b.take k) (by simp; omega)).2
  generalize hx : feedD d b = x at c1 c2 m1 m2 hparts
  obtain ⟨x, fs⟩ := x
  simp only at c1 c2 m1 m2 hparts
  simp only [Dec.row, List.map_cons, List.map_nil] at c1 c2
  have hli : inR .i64 (b.length : Int) := small_i64 (by omega) (by omega)
  have hli1 : inR .i64 ((b.length : Int) + 1) := small_i64 (by omega) (by omega)
  simp -implicitDefEqProofs [Dec.row, hf, aw_skip, aw_region, aw_seq, aw_block, aw_cond, aw_exit, aw_ret, kq_nil, kq_seq, kq_seq_ret, kq_seq_exit, kq_block, kq_block_ret, kq_block_exit, kq_loop, kq_loop_ret, kq_loop_exit, awOps_nil, awOps_cons, awOps_guardE, nx_eq, awOp, ev_k, ev_0, ev_1, ev_2, ev_3, ev_4, ev_5, ev_6, ev_7, ev_8, set_0, set_1, set_2, set_3, set_4, set_5, set_6, set_7, set_8, -List.set_cons_succ, -List.set_cons_zero, A.ok, A.val, setSl, wrapG, guardB, getB, pickA, binA, binC, binD, cmpD, isCmp, unA, unD, lenA, AOp.total, kills, litB, FinQ, resOks, resOk, resA, resList, resOne, A.thaw, C.thaw, A.fits, As.fits, C.fits, evs, oks, callArgs, A.pure, C.pure, A.re, C.re, fieldAddrA, loadC, cut, A.cells, C.rows?, getOb, newOb, setOb, storeC, splice, Ob.re, Cs.fits, partsA, partsOk, parts2A, parts2Ok, fillC, fillRows, optInt, optOk, sliceA, optK_some, storeK_some, Option.map_some, toDs, C.toD, spliceD, appendA, srcRows, allLen_nil_iff, allLen_cons_iff, allLen_append_iff, dropC, Obs.fits, eqCs, eqD]
  refine qcall_pure c1 hf rfl ?_
  simp -implicitDefEqProofs [hf, aw_skip, aw_region, aw_seq, aw_block, aw_cond, aw_exit, aw_ret, kq_nil, kq_seq, kq_seq_ret, kq_seq_exit, kq_block, kq_block_ret, kq_block_exit, kq_loop, kq_loop_ret, kq_loop_exit, awOps_nil, awOps_cons, awOps_guardE, nx_eq, awOp, ev_k, ev_0, ev_1, ev_2, ev_3, ev_4, ev_5, ev_6, ev_7, ev_8, set_0, set_1, set_2, set_3, set_4, set_5, set_6, set_7, set_8, -List.set_cons_succ, -List.set_cons_zero, A.ok, A.val, setSl, wrapG, guardB, getB, pickA, binA, binC, binD, cmpD, isCmp, unA, unD, lenA, AOp.total, kills, litB, FinQ, resOks, resOk, resA, resList, resOne, A.thaw, C.thaw, A.fits, As.fits, C.fits, evs, oks, callArgs, A.pure, C.pure, A.re, C.re, fieldAddrA, loadC, cut, A.cells, C.rows?, getOb, newOb, setOb, storeC, splice, Ob.re, Cs.fits, partsA, partsOk, parts2A, parts2Ok, fillC, fillRows, optInt, optOk, sliceA, optK_some, storeK_some, Option.map_some, toDs, C.toD, spliceD, appendA, srcRows, allLen_nil_iff, allLen_cons_iff, allLen_append_iff, dropC, Obs.fits, eqCs, eqD]
  refine qcall_pure c2 hf rfl ?_
  simp -implicitDefEqProofs [hf, aw_skip, aw_region, aw_seq, aw_block, aw_cond, aw_exit, aw_ret, kq_nil, kq_seq, kq_seq_ret, kq_seq_exit, kq_block, kq_block_ret, kq_block_exit, kq_loop, kq_loop_ret, kq_loop_exit, awOps_nil, awOps_cons, awOps_guardE, nx_eq, awOp, ev_k, ev_0, ev_1, ev_2, ev_3, ev_4, ev_5, ev_6, ev_7, ev_8, set_0, set_1, set_2, set_3, set_4, set_5, set_6, set_7, set_8, -List.set_cons_succ, -List.set_cons_zero, A.ok, A.val, setSl, wrapG, guardB, getB, pickA, binA, binC, binD, cmpD, isCmp, unA, unD, lenA, AOp.total, kills, litB, FinQ, resOks, resOk, resA, resList, resOne, A.thaw, C.thaw, A.fits, As.fits, C.fits, evs, oks, callArgs, A.pure, C.pure, A.re, C.re, fieldAddrA, loadC, cut, A.cells, C.rows?, getOb, newOb, setOb, storeC, splice, Ob.re, Cs.fits, partsA, partsOk, parts2A, parts2Ok, fillC, fillRows, optInt, optOk, sliceA, optK_some, storeK_some, Option.map_some, toDs, C.toD, spliceD, appendA, srcRows, allLen_nil_iff, allLen_cons_iff, allLen_append_iff, dropC, Obs.fits, eqCs, eqD]
  have p1 := pgDecoder_calls x
  simp only [Dec.row, List.map_cons, List.map_nil] at p1
  refine qcall_pure p1 hf rfl ?_
  simp -implicitDefEqProofs [hf, aw_skip, aw_region, aw_seq, aw_block, aw_cond, aw_exit, aw_ret, kq_nil, kq_seq, kq_seq_ret, kq_seq_exit, kq_block, kq_block_ret, kq_block_exit, kq_loop, kq_loop_ret, kq_loop_exit, awOps_nil, awOps_cons, awOps_guardE, nx_eq, awOp, ev_k, ev_0, ev_1, ev_2, ev_3, ev_4, ev_5, ev_6, ev_7, ev_8, set_0, set_1, set_2, set_3, set_4, set_5, set_6, set_7, set_8, -List.set_cons_succ, -List.set_cons_zero, A.ok, A.val, setSl, wrapG, guardB, getB, pickA, binA, binC, binD, cmpD, isCmp, unA, unD, lenA, AOp.total, kills, litB, FinQ, resOks, resOk, resA, resList, resOne, A.thaw, C.thaw, A.fits, As.fits, C.fits, evs, oks, callArgs, A.pure, C.pure, A.re, C.re, fieldAddrA, loadC, cut, A.cells, C.rows?, getOb, newOb, setOb, storeC, splice, Ob.re, Cs.fits, partsA, partsOk, parts2A, parts2Ok, fillC, fillRows, optInt, optOk, sliceA, optK_some, storeK_some, Option.map_some, toDs, C.toD, spliceD, appendA, srcRows, allLen_nil_iff, allLen_cons_iff, allLen_append_iff, dropC, Obs.fits, eqCs, eqD]
  refine qcall_pure (pgFrames_calls fs (by omega)) hf rfl ?_
  have hk0 : 0 ≤ (e.length : Int).tmod ((b.length : Int) + 1) := Int.tmod_nonneg _ (by omega)
  have hk1 := Int.tmod_lt_of_pos (e.length : Int) (b := (b.length : Int) + 1) (by omega)
  obtain ⟨k, hk⟩ := Int.eq_ofNat_of_zero_le hk0
  have hne : ¬ ((b.length : Int) + 1 = 0) := by omega
  simp -implicitDefEqProofs [hf, hl2, hli, hli1, hne, hk, bytesRows_len, allLen_bytes, take_bytes, drop_bytes, aw_skip, aw_region, aw_seq, aw_block, aw_cond, aw_exit, aw_ret, kq_nil, kq_seq, kq_seq_ret, kq_seq_exit, kq_block, kq_block_ret, kq_block_exit, kq_loop, kq_loop_ret, kq_loop_exit, awOps_nil, awOps_cons, awOps_guardE, nx_eq, awOp, ev_k, ev_0, ev_1, ev_2, ev_3, ev_4, ev_5, ev_6, ev_7, ev_8, set_0, set_1, set_2, set_3, set_4, set_5, set_6, set_7, set_8, -List.set_cons_succ, -List.set_cons_zero, A.ok, A.val, setSl, wrapG, guardB, getB, pickA, binA, binC, binD, cmpD, isCmp, unA, unD, lenA, AOp.total, kills, litB, FinQ, resOks, resOk, resA, resList, resOne, A.thaw, C.thaw, A.fits, As.fits, C.fits, evs, oks, callArgs, A.pure, C.pure, A.re, C.re, fieldAddrA, loadC, cut, A.cells, C.rows?, getOb, newOb, setOb, storeC, splice, Ob.re, Cs.fits, partsA, partsOk, parts2A, parts2Ok, fillC, fillRows, optInt, optOk, sliceA, optK_some, storeK_some, Option.map_some, toDs, C.toD, spliceD, appendA, srcRows, allLen_nil_iff, allLen_cons_iff, allLen_append_iff, dropC, Obs.fits, eqCs, eqD]
  have hkb : k ≤ b.length := by omega
  obtain ⟨e1, e2⟩ := hparts k
  have c3 := c3 k
  have c4 := c4 k
  have m3 := m3 k
  rw [e1] at c4
  generalize feedD d (b.take k) = y at c3 c4 m3 e1 e2
  obtain ⟨y, f1⟩ := y
  simp only at c3 c4 m3 e1 e2
  generalize (feedD y (b.drop k)).2 = f2 at c4 e1 e2
  subst e2
  simp only [Dec.row, List.map_cons, List.map_nil] at c3 c4
  refine ⟨hkb, qcall_pure c3 hf rfl ?_⟩
  simp -implicitDefEqProofs [hf, bytesRows_len, allLen_bytes, take_bytes, drop_bytes, aw_skip, aw_region, aw_seq, aw_block, aw_cond, aw_exit, aw_ret, kq_nil, kq_seq, kq_seq_ret, kq_seq_exit, kq_block, kq_block_ret, kq_block_exit, kq_loop, kq_loop_ret, kq_loop_exit, awOps_nil, awOps_cons, awOps_guardE, nx_eq, awOp, ev_k, ev_0, ev_1, ev_2, ev_3, ev_4, ev_5, ev_6, ev_7, ev_8, set_0, set_1, set_2, set_3, set_4, set_5, set_6, set_7, set_8, -List.set_cons_succ, -List.set_cons_zero, A.ok, A.val, setSl, wrapG, guardB, getB, pickA, binA, binC, binD, cmpD, isCmp, unA, unD, lenA, AOp.total, kills, litB, FinQ, resOks, resOk, resA, resList, resOne, A.thaw, C.thaw, A.fits, As.fits, C.fits, evs, oks, callArgs, A.pure, C.pure, A.re, C.re, fieldAddrA, loadC, cut, A.cells, C.rows?, getOb, newOb, setOb, storeC, splice, Ob.re, Cs.fits, partsA, partsOk, parts2A, parts2Ok, fillC, fillRows, optInt, optOk, sliceA, optK_some, storeK_some, Option.map_some, toDs, C.toD, spliceD, appendA, srcRows, allLen_nil_iff, allLen_cons_iff, allLen_append_iff, dropC, Obs.fits, eqCs, eqD]
  refine ⟨hkb, qcall_pure c4 hf rfl ?_⟩
  simp -implicitDefEqProofs [hf, aw_skip, aw_region, aw_seq, aw_block, aw_cond, aw_exit, aw_ret, kq_nil, kq_seq, kq_seq_ret, kq_seq_exit, kq_block, kq_block_ret, kq_block_exit, kq_loop, kq_loop_ret, kq_loop_exit, awOps_nil, awOps_cons, awOps_guardE, nx_eq, awOp, ev_k, ev_0, ev_1, ev_2, ev_3, ev_4, ev_5, ev_6, ev_7, ev_8, set_0, set_1, set_2, set_3, set_4, set_5, set_6, set_7, set_8, -List.set_cons_succ, -List.set_cons_zero, A.ok, A.val, setSl, wrapG, guardB, getB, pickA, binA, binC, binD, cmpD, isCmp, unA, unD, lenA, AOp.total, kills, litB, FinQ, resOks, resOk, resA, resList, resOne, A.thaw, C.thaw, A.fits, As.fits, C.fits, evs, oks, callArgs, A.pure, C.pure, A.re, C.re, fieldAddrA, loadC, cut, A.cells, C.rows?, getOb, newOb, setOb, storeC, splice, Ob.re, Cs.fits, partsA, partsOk, parts2A, parts2Ok, fillC, fillRows, optInt, optOk, sliceA, optK_some, storeK_some, Option.map_some, toDs, C.toD, spliceD, appendA, srcRows, allLen_nil_iff, allLen_cons_iff, allLen_append_iff, dropC, Obs.fits, eqCs, eqD]
  refine qcall_pure p1 hf rfl ?_
  have c5 := pgFrames_calls (f1 ++ f2) (by omega)
  rw [List.map_append] at c5
  rw [List.length_append] at m2
  simp -implicitDefEqProofs [hf, aw_skip, aw_region, aw_seq, aw_block, aw_cond, aw_exit, aw_ret, kq_nil, kq_seq, kq_seq_ret, kq_seq_exit, kq_block, kq_block_ret, kq_block_exit, kq_loop, kq_loop_ret, kq_loop_exit, awOps_nil, awOps_cons, awOps_guardE, nx_eq, awOp, ev_k, ev_0, ev_1, ev_2, ev_3, ev_4, ev_5, ev_6, ev_7, ev_8, set_0, set_1, set_2, set_3, set_4, set_5, set_6, set_7, set_8, -List.set_cons_succ, -List.set_cons_zero, A.ok, A.val, setSl, wrapG, guardB, getB, pickA, binA, binC, binD, cmpD, isCmp, unA, unD, lenA, AOp.total, kills, litB, FinQ, resOks, resOk, resA, resList, resOne, A.thaw, C.thaw, A.fits, As.fits, C.fits, evs, oks, callArgs, A.pure, C.pure, A.re, C.re, fieldAddrA, loadC, cut, A.cells, C.rows?, getOb, newOb, setOb, storeC, splice, Ob.re, Cs.fits, partsA, partsOk, parts2A, parts2Ok, fillC, fillRows, optInt, optOk, sliceA, optK_some, storeK_some, Option.map_some, toDs, C.toD, spliceD, appendA, srcRows, allLen_nil_iff, allLen_cons_iff, allLen_append_iff, dropC, Obs.fits, eqCs, eqD]
  refine ⟨allLen_map fun x => rfl, by unfold maxApp; omega, allLen_map fun x => rfl, allLen_map fun x => rfl, by unfold maxApp; omega, ?_⟩
  refine qcall_pure c5 hf rfl ?_
  simp -implicitDefEqProofs [hf, aw_skip, aw_region, aw_seq, aw_block, aw_cond, aw_exit, aw_ret, kq_nil, kq_seq, kq_seq_ret, kq_seq_exit, kq_block, kq_block_ret, kq_block_exit, kq_loop, kq_loop_ret, kq_loop_exit, awOps_nil, awOps_cons, awOps_guardE, nx_eq, awOp, ev_k, ev_0, ev_1, ev_2, ev_3, ev_4, ev_5, ev_6, ev_7, ev_8, set_0, set_1, set_2, set_3, set_4, set_5, set_6, set_7, set_8, -List.set_cons_succ, -List.set_cons_zero, A.ok, A.val, setSl, wrapG, guardB, getB, pickA, binA, binC, binD, cmpD, isCmp, unA, unD, lenA, AOp.total, kills, litB, FinQ, resOks, resOk, resA, resList, resOne, A.thaw, C.thaw, A.fits, As.fits, C.fits, evs, oks, callArgs, A.pure, C.pure, A.re, C.re, fieldAddrA, loadC, cut, A.cells, C.rows?, getOb, newOb, setOb, storeC, splice, Ob.re, Cs.fits, partsA, partsOk, parts2A, parts2Ok, fillC, fillRows, optInt, optOk, sliceA, optK_some, storeK_some, Option.map_some, toDs, C.toD, spliceD, appendA, srcRows, allLen_nil_iff, allLen_cons_iff, allLen_append_iff, dropC, Obs.fits, eqCs, eqD]
theorem law_run8 (rows : List (List D)) (hr : HasTys Try.prog (#[22, 22] : Array TypeId).toList rows) : ACalls Try.prog 8 (argsA Try.prog (#[22, 22] : Array TypeId).toList rows) [] (fun r _ => r = .c (.d (.bool true))) := by
  obtain ⟨r, rs, rfl, h1, h2⟩ := hr.cons
  obtain ⟨r', rs, rfl, h2', h3⟩ := h2.cons
  obtain rfl := h3.nil
  obtain ⟨s, rfl, hs⟩ := bytes_ty h1
  obtain ⟨s', rfl, hs'⟩ := bytes_ty h2'
  simp only [argsA, argA, Try.underlying22, List.headD_cons]
  exact fdLaw_calls s s' hs hs'
namespace fnFeedDecoder
theorem own : ownKnob Try.prog.godebug = none := by kernel_rfl
theorem contract (H : Type) (enc : TypeId × Value → H) (W : World) (base : Nat) (args : Array Value) (ds gs : List (DataW H)) (before : List MemPlace)
    (hval : ∀ (j : Nat) t v, Try.f8.params[j]? = some t → args[j]? = some v → Value.okWide Try.prog W .any base t v)
    (hW : DataW.Whole enc Try.prog Try.f8.params.toList Rows.fnFeedDecoderSpec.vars false W args.toList ds gs before)
    (hw : (DataW.weightsEach Try.prog (Try.f8.params.toList ++ Rows.fnFeedDecoderSpec.plain.varTypes Try.prog) (ds ++ gs)).all (· ≤ reachBytes) = true) :
    Calls Try.prog 8 args W fun e W' => ∃ v, e = .returned v ∧ Rows.fnFeedDecoderSpec.post enc Try.prog Try.f8 false true false false W args v W' := by
  refine law_contract (L := [5, 22]) (tb := 4) (by kernel_rfl) (by kernel_rfl) (by kernel_rfl) rfl ?_ (by kernel_rfl) Try.underlying4 ?_ W base args ds gs before hval hW hw
  · intro ds hl
    match ds, hl with
    | [d0, d1], _ => rfl
  · intro rows hr
    rw [Try.params8] at hr ⊢
    exact law_run8 rows hr

theorem lifted (os : Os) (started : os.Started) (H : Type) (enc : TypeId × Value → H) :
    ReturnsInHanded {} Try.checked os 8 .any (Rows.fnFeedDecoderSpec.pre6 enc Try.prog Try.f8 Rows.fnFeedDecoderRow.domain false) (Rows.fnFeedDecoderSpec.post enc Try.prog Try.f8 false true false false) := by
  refine returnsInHanded_of_change_sized (C := Try.checked) own started (by kernel_rfl) Try.func8
    (ChangeSpec.witness6 (enc := enc) (C := Try.checked) false ⟨#[], #[.slice none 0 0, .slice none 0 0], []⟩ 8 (by kernel_rfl) (by kernel_rfl) (by kernel_rfl) (by kernel_rfl)) ?_
  intro W base args ds gs before hval hW _ hw _
  exact contract H enc W base args ds gs before hval hW hw

theorem proved : Rows.FnFeedDecoderSaid :=
  OpenClaim.holds_of_wide 8 Try.f8 rfl rfl rfl rfl rfl rfl rfl ⟨rfl, rfl, rfl, rfl, rfl⟩ rfl rfl rfl rfl rfl (by kernel_rfl) Try.func8 (by kernel_rfl)
    (of_decide_eq_true (by kernel_rfl)) (by unfold Func.isWrapper; first | (rw [if_pos (by decide +kernel)]; kernel_rfl) | (rw [if_neg (by decide +kernel)]; exact ⟨rfl, rfl⟩))
    (fun os started H enc _ => lifted os started H enc)
end fnFeedDecoder

end Go.Proofs.Ytnobdfcjnnnfmaa
