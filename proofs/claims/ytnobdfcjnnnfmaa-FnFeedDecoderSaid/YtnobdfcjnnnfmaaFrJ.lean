/-
  Bytes of frames that are drawn.
  Conditions: none.
-/
import Derived.Test.YtnobdfcjnnnfmaaFrI
open Go Go.AM Go.Proofs
namespace Go.Proofs.Ytnobdfcjnnnfmaa
open Go.ChangeShapes Go.WideShapes Go.ChangeAt Go.RowKit
set_option linter.unusedVariables false
set_option linter.unusedSimpArgs false
set_option maxRecDepth 100000
-- 68 loop.example/prologserver/spec.l11Bytes params 1 ntmps 45
def ac68 : Cd := .seq (.region [⟨(some 2), .mv (.k (.c (.full []))), none⟩] [2])
  (.seq (.region [⟨(some 5), .mv (.t 0), none⟩,
      ⟨(some 6), .call false 75 [(.t 5)], none⟩,
      ⟨(some 7), .qcall 35 [(.t 6)], none⟩,
      ⟨(some 3), .mv (.t 7), none⟩] [5, 6, 7])
  (.seq (.seq (.region [⟨(some 8), .mv (.t 3), none⟩,
        ⟨(some 9), .len 1 (.t 8), none⟩,
        ⟨(some 10), .bin .gtr (.t 9) (.k (.c (.d (.int .i64 0)))), none⟩,
        ⟨(some 11), .mv (.t 10), none⟩,
        ⟨(some 12), .mv (.t 0), some (11, true)⟩,
        ⟨(some 13), .call false 84 [(.t 12), (.k (.c (.d (.int .i64 4))))], some (11, true)⟩,
        ⟨(some 14), .bin .eql (.t 13) (.k (.c (.d (.int .i64 0)))), some (11, true)⟩,
        ⟨(some 15), .pick (.t 11) (.t 14) (.k (.c (.d (.bool false)))), none⟩] [8, 9, 10, 11, 12, 13, 14])
    (.cond (.t 15)
      (.seq (.region [⟨(some 16), .mv (.t 0), none⟩,
          ⟨(some 17), .mv (.t 3), none⟩,
          ⟨(some 18), .len 1 (.t 17), none⟩,
          ⟨(some 19), .call false 84 [(.t 16), (.t 18)], none⟩,
          ⟨(some 4), .mv (.t 19), none⟩] [15, 16, 17, 18, 19])
      (.seq (.region [⟨(some 20), .buildSlice 1 0 [(.int .u8 0)] [], none⟩,
          ⟨(some 21), .mv (.t 3), none⟩,
          ⟨(some 22), .appendF 1 (.t 20) (.t 21), none⟩,
          ⟨(some 3), .mv (.t 22), none⟩] [20, 21, 22])
      (.region [⟨(some 23), .mv (.t 3), none⟩,
        ⟨(some 24), .mv (.t 4), none⟩,
        ⟨(some 25), .mv (.t 0), none⟩,
        ⟨(some 26), .buildSlice 1 5 [(.int .i64 0)] [(0, (.k (.c (.d (.int .i64 0))))), (1, (.k (.c (.d (.int .i64 255))))), (2, (.k (.c (.d (.int .i64 1))))), (3, (.k (.c (.d (.int .i64 9))))), (4, (.k (.c (.d (.int .i64 65)))))], none⟩,
        ⟨(some 27), .call false 123 [(.t 25), (.t 26)], none⟩,
        ⟨(some 28), .cvInt .u8 (.t 27), none⟩,
        ⟨(some 29), .indexAddr 1 (.t 23) (.t 24), none⟩,
        ⟨none, .store 1 (.t 29) (.t 28), none⟩] [4, 23, 24, 25, 26, 27, 28, 29])))
      (.skip)))
  (.seq (.seq (.weak (.region [⟨(some 30), .mv (.t 3), none⟩,
          ⟨(some 31), .len 1 (.t 30), none⟩,
          ⟨(some 32), .bin .gtr (.t 31) (.k (.c (.d (.int .i64 0)))), none⟩,
          ⟨(some 33), .mv (.t 32), none⟩,
          ⟨(some 34), .mv (.t 0), some (33, true)⟩,
          ⟨(some 35), .call false 84 [(.t 34), (.k (.c (.d (.int .i64 3))))], some (33, true)⟩,
          ⟨(some 36), .bin .eql (.t 35) (.k (.c (.d (.int .i64 0)))), some (33, true)⟩,
          ⟨(some 37), .pick (.t 33) (.t 36) (.k (.c (.d (.bool false)))), none⟩] [15, 30, 31, 32, 33, 34, 35, 36]))
    (.cond (.t 37)
      (.region [⟨(some 38), .mv (.t 3), none⟩,
        ⟨(some 39), .mv (.t 0), none⟩,
        ⟨(some 40), .mv (.t 3), none⟩,
        ⟨(some 41), .len 1 (.t 40), none⟩,
        ⟨(some 42), .call false 84 [(.t 39), (.t 41)], none⟩,
        ⟨(some 43), .slice 1 (.t 38) none (some (.t 42)) none, none⟩,
        ⟨(some 3), .mv (.t 43), none⟩] [0, 37, 38, 39, 40, 41, 42, 43])
      (.skip)))
  (.seq (.region [⟨(some 44), .mv (.t 3), none⟩,
      ⟨(some 2), .mv (.t 44), none⟩] [0, 3, 37, 44])
  (.ret)))))
theorem ac68_ok : cFunc Try.prog [1000035, 3000020, 4000006] [(0, [2], []), (1, [5, 6, 7], []), (2, [8, 9, 10, 11, 12, 13, 14], []), (3, [15, 16, 17, 18, 19], []), (4, [20, 21, 22], []), (5, [4, 23, 24, 25, 26, 27, 28, 29], []), (6, [15, 30, 31, 32, 33, 34, 35, 36], []), (7, [0, 37, 38, 39, 40, 41, 42, 43], []), (8, [0, 3, 37, 44], [])] Try.f68 = some (ac68, [.tmp 2], 45) := by kernel_rfl
theorem encAll_len (l : List Frame) : (encAll l).length ≤ 2003 * l.length := by
  unfold encAll
  split
  · rename_i h
    exact cat_len l (by simpa using h)
  · simp
/-- bytes that can be drawn -/
def DrawnBytes (r : A) : Prop := ∃ b : List UInt8, r = .c (.d (.sl (bytesRows b))) ∧ b.length ≤ 6009
theorem DrawnBytes.re {n : Nat} {r : A} (h : DrawnBytes r) : A.re n r = r := by
  obtain ⟨l, rfl, _⟩ := h
  rfl
def bytesTail : Cd := match ac68 with
  | .seq _ (.seq _ (.seq _ (.seq (.seq (.weak r) c) d))) => .seq (.seq r c) d
  | d => d
theorem bytes_tail (c : List UInt8) (p : Int) (H : Heap) (i : Nat) (hc : c.length ≤ 2000) (hp : 0 ≤ p) (hp1 : p + 20 ≤ 1000000) (hi : i < H.length) (hf : Obs.fits H.length 0 (H.set i (Rd c p))) (b : List UInt8) (hb : b.length ≤ 6009) (q : Int) (hq : p ≤ q) (hq1 : q ≤ p + 16) (v : A) :
    aw Try.prog bytesTail (kq Try.prog (FinQ [Rv.tmp 2] (Drew DrawnBytes 20 c p H i)) []) ⟨[.c (.ptr (.e i) 0), .u, .u, .c (.d (.sl (bytesRows b)))] ++ List.replicate 11 .u ++ [v] ++ List.replicate 29 .u, H.set i (Rd c q), []⟩ := by
  have hfq := fits_reset (b := Rd c q) hf ⟨trivial, trivial, trivial⟩
  have hli : inR .i64 (b.length : Int) := small_i64 (by omega) (by omega)
  simp -implicitDefEqProofs [bytesTail, ac68, hli, bytesRows_len, aw_skip, aw_region, aw_seq, aw_block, aw_cond, aw_exit, aw_ret, kq_nil, kq_seq, kq_seq_ret, kq_seq_exit, kq_block, kq_block_ret, kq_block_exit, kq_loop, kq_loop_ret, kq_loop_exit, awOps_nil, awOps_cons, awOps_guardE, nx_eq, awOp, ev_k, ev_0, ev_1, ev_2, ev_3, ev_4, ev_5, ev_6, ev_7, ev_8, set_0, set_1, set_2, set_3, set_4, set_5, set_6, set_7, set_8, -List.set_cons_succ, -List.set_cons_zero, A.ok, A.val, setSl, wrapG, guardB, getB, pickA, binA, binC, binD, cmpD, isCmp, unA, unD, lenA, AOp.total, kills, litB, FinQ, resOks, resOk, resA, resList, resOne, A.thaw, C.thaw, A.fits, As.fits, C.fits, evs, oks, callArgs, A.pure, C.pure, A.re, C.re, fieldAddrA, loadC, cut, A.cells, C.rows?, getOb, newOb, setOb, storeC, splice, Ob.re, Cs.fits, partsA, partsOk, parts2A, parts2Ok, fillC, fillRows, optInt, optOk, sliceA, optK_some, storeK_some, Option.map_some, toDs, C.toD, spliceD, appendA, srcRows, allLen_nil_iff, allLen_cons_iff, allLen_append_iff, dropC, Obs.fits, eqCs, eqD]
  refine ⟨fun h0 => ⟨h0, ?_⟩, fun h0 => ?_⟩
  · refine call_drawE (pick_draws 3 (by omega)) hc (by omega) (by omega) hi (by simp [Ob.re, C.re]) (fun r => IntIn.re) hfq ?_
    rintro _ q1 ⟨k, rfl, k1, k2⟩ h3 h4
    have hfq1 := fits_reset (b := Rd c q1) hf ⟨trivial, trivial, trivial⟩
    simp -implicitDefEqProofs [hli, bytesRows_len, aw_skip, aw_region, aw_seq, aw_block, aw_cond, aw_exit, aw_ret, kq_nil, kq_seq, kq_seq_ret, kq_seq_exit, kq_block, kq_block_ret, kq_block_exit, kq_loop, kq_loop_ret, kq_loop_exit, awOps_nil, awOps_cons, awOps_guardE, nx_eq, awOp, ev_k, ev_0, ev_1, ev_2, ev_3, ev_4, ev_5, ev_6, ev_7, ev_8, set_0, set_1, set_2, set_3, set_4, set_5, set_6, set_7, set_8, -List.set_cons_succ, -List.set_cons_zero, A.ok, A.val, setSl, wrapG, guardB, getB, pickA, binA, binC, binD, cmpD, isCmp, unA, unD, lenA, AOp.total, kills, litB, FinQ, resOks, resOk, resA, resList, resOne, A.thaw, C.thaw, A.fits, As.fits, C.fits, evs, oks, callArgs, A.pure, C.pure, A.re, C.re, fieldAddrA, loadC, cut, A.cells, C.rows?, getOb, newOb, setOb, storeC, splice, Ob.re, Cs.fits, partsA, partsOk, parts2A, parts2Ok, fillC, fillRows, optInt, optOk, sliceA, optK_some, storeK_some, Option.map_some, toDs, C.toD, spliceD, appendA, srcRows, allLen_nil_iff, allLen_cons_iff, allLen_append_iff, dropC, Obs.fits, eqCs, eqD]
    refine ⟨fun hk => ?_, fun hk => ?_⟩
    · refine call_drawE (pick_draws b.length (by omega)) hc (by omega) (by omega) hi (by simp [Ob.re, C.re]) (fun r => IntIn.re) hfq1 ?_
      rintro _ q2 ⟨k', rfl, k3, k4⟩ h5 h6
      have hfq2 := fits_reset (b := Rd c q2) hf ⟨trivial, trivial, trivial⟩
      simp -implicitDefEqProofs [hli, bytesRows_len, allLen_bytes, take_bytes, aw_skip, aw_region, aw_seq, aw_block, aw_cond, aw_exit, aw_ret, kq_nil, kq_seq, kq_seq_ret, kq_seq_exit, kq_block, kq_block_ret, kq_block_exit, kq_loop, kq_loop_ret, kq_loop_exit, awOps_nil, awOps_cons, awOps_guardE, nx_eq, awOp, ev_k, ev_0, ev_1, ev_2, ev_3, ev_4, ev_5, ev_6, ev_7, ev_8, set_0, set_1, set_2, set_3, set_4, set_5, set_6, set_7, set_8, -List.set_cons_succ, -List.set_cons_zero, A.ok, A.val, setSl, wrapG, guardB, getB, pickA, binA, binC, binD, cmpD, isCmp, unA, unD, lenA, AOp.total, kills, litB, FinQ, resOks, resOk, resA, resList, resOne, A.thaw, C.thaw, A.fits, As.fits, C.fits, evs, oks, callArgs, A.pure, C.pure, A.re, C.re, fieldAddrA, loadC, cut, A.cells, C.rows?, getOb, newOb, setOb, storeC, splice, Ob.re, Cs.fits, partsA, partsOk, parts2A, parts2Ok, fillC, fillRows, optInt, optOk, sliceA, optK_some, storeK_some, Option.map_some, toDs, C.toD, spliceD, appendA, srcRows, allLen_nil_iff, allLen_cons_iff, allLen_append_iff, dropC, Obs.fits, eqCs, eqD]
      exact ⟨⟨k3, by omega⟩, ⟨_, rfl, by simp; omega⟩, q2, by omega, by omega, rfl⟩
    · exact ⟨⟨_, rfl, hb⟩, q1, by omega, by omega, rfl⟩
  · exact ⟨⟨_, rfl, hb⟩, q, by omega, by omega, rfl⟩
theorem l11Bytes_draws : Draws 68 [] 20 DrawnBytes := fun c p H i hc hp hp1 hi => by
  refine acalls Try.func68 (by kernel_rfl) ac68_ok fun hf => ?_
  simp only [List.length_set] at hf
  simp -implicitDefEqProofs [ac68, aw_skip, aw_region, aw_seq, aw_block, aw_cond, aw_exit, aw_ret, kq_nil, kq_seq, kq_seq_ret, kq_seq_exit, kq_block, kq_block_ret, kq_block_exit, kq_loop, kq_loop_ret, kq_loop_exit, awOps_nil, awOps_cons, awOps_guardE, nx_eq, awOp, ev_k, ev_0, ev_1, ev_2, ev_3, ev_4, ev_5, ev_6, ev_7, ev_8, set_0, set_1, set_2, set_3, set_4, set_5, set_6, set_7, set_8, -List.set_cons_succ, -List.set_cons_zero, A.ok, A.val, setSl, wrapG, guardB, getB, pickA, binA, binC, binD, cmpD, isCmp, unA, unD, lenA, AOp.total, kills, litB, FinQ, resOks, resOk, resA, resList, resOne, A.thaw, C.thaw, A.fits, As.fits, C.fits, evs, oks, callArgs, A.pure, C.pure, A.re, C.re, fieldAddrA, loadC, cut, A.cells, C.rows?, getOb, newOb, setOb, storeC, splice, Ob.re, Cs.fits, partsA, partsOk, parts2A, parts2Ok, fillC, fillRows, optInt, optOk, sliceA, optK_some, storeK_some, Option.map_some, toDs, C.toD, spliceD, appendA, srcRows, allLen_nil_iff, allLen_cons_iff, allLen_append_iff, dropC, Obs.fits, eqCs, eqD]
  refine call_drawE l11List_draws hc hp (by omega) hi (by simp [Ob.re, C.re]) (fun r => DrawnFrames.re) hf ?_
  rintro _ p1 ⟨l, rfl, g1, g2⟩ h1 h2
  have hf1 := fits_reset (b := Rd c p1) hf ⟨trivial, trivial, trivial⟩
  have hs : ∀ f ∈ l, f.s.length ≤ reachBytes := fun f hf => by have := g2 f hf; simp only [reachBytes]; omega
  simp -implicitDefEqProofs [aw_skip, aw_region, aw_seq, aw_block, aw_cond, aw_exit, aw_ret, kq_nil, kq_seq, kq_seq_ret, kq_seq_exit, kq_block, kq_block_ret, kq_block_exit, kq_loop, kq_loop_ret, kq_loop_exit, awOps_nil, awOps_cons, awOps_guardE, nx_eq, awOp, ev_k, ev_0, ev_1, ev_2, ev_3, ev_4, ev_5, ev_6, ev_7, ev_8, set_0, set_1, set_2, set_3, set_4, set_5, set_6, set_7, set_8, -List.set_cons_succ, -List.set_cons_zero, A.ok, A.val, setSl, wrapG, guardB, getB, pickA, binA, binC, binD, cmpD, isCmp, unA, unD, lenA, AOp.total, kills, litB, FinQ, resOks, resOk, resA, resList, resOne, A.thaw, C.thaw, A.fits, As.fits, C.fits, evs, oks, callArgs, A.pure, C.pure, A.re, C.re, fieldAddrA, loadC, cut, A.cells, C.rows?, getOb, newOb, setOb, storeC, splice, Ob.re, Cs.fits, partsA, partsOk, parts2A, parts2Ok, fillC, fillRows, optInt, optOk, sliceA, optK_some, storeK_some, Option.map_some, toDs, C.toD, spliceD, appendA, srcRows, allLen_nil_iff, allLen_cons_iff, allLen_append_iff, dropC, Obs.fits, eqCs, eqD]
  refine qcall_pure (encAllSpec_calls l (by omega) hs) (by simpa using hf1) rfl ?_
  have hel := encAll_len l
  generalize encAll l = b at hel
  have hli : inR .i64 (b.length : Int) := small_i64 (by omega) (by omega)
  simp -implicitDefEqProofs [hli, bytesRows_len, aw_skip, aw_region, aw_seq, aw_block, aw_cond, aw_exit, aw_ret, kq_nil, kq_seq, kq_seq_ret, kq_seq_exit, kq_block, kq_block_ret, kq_block_exit, kq_loop, kq_loop_ret, kq_loop_exit, awOps_nil, awOps_cons, awOps_guardE, nx_eq, awOp, ev_k, ev_0, ev_1, ev_2, ev_3, ev_4, ev_5, ev_6, ev_7, ev_8, set_0, set_1, set_2, set_3, set_4, set_5, set_6, set_7, set_8, -List.set_cons_succ, -List.set_cons_zero, A.ok, A.val, setSl, wrapG, guardB, getB, pickA, binA, binC, binD, cmpD, isCmp, unA, unD, lenA, AOp.total, kills, litB, FinQ, resOks, resOk, resA, resList, resOne, A.thaw, C.thaw, A.fits, As.fits, C.fits, evs, oks, callArgs, A.pure, C.pure, A.re, C.re, fieldAddrA, loadC, cut, A.cells, C.rows?, getOb, newOb, setOb, storeC, splice, Ob.re, Cs.fits, partsA, partsOk, parts2A, parts2Ok, fillC, fillRows, optInt, optOk, sliceA, optK_some, storeK_some, Option.map_some, toDs, C.toD, spliceD, appendA, srcRows, allLen_nil_iff, allLen_cons_iff, allLen_append_iff, dropC, Obs.fits, eqCs, eqD]
  refine ⟨fun h0 => ⟨h0, ?_⟩, fun h0 => ?_⟩
  · refine call_drawE (pick_draws 4 (by omega)) hc (by omega) (by omega) hi (by simp [Ob.re, C.re]) (fun r => IntIn.re) (by simpa using hf1) ?_
    rintro _ q1 ⟨k, rfl, k1, k2⟩ h3 h4
    have hfq1 := fits_reset (b := Rd c q1) hf ⟨trivial, trivial, trivial⟩
    simp -implicitDefEqProofs [hli, bytesRows_len, aw_skip, aw_region, aw_seq, aw_block, aw_cond, aw_exit, aw_ret, kq_nil, kq_seq, kq_seq_ret, kq_seq_exit, kq_block, kq_block_ret, kq_block_exit, kq_loop, kq_loop_ret, kq_loop_exit, awOps_nil, awOps_cons, awOps_guardE, nx_eq, awOp, ev_k, ev_0, ev_1, ev_2, ev_3, ev_4, ev_5, ev_6, ev_7, ev_8, set_0, set_1, set_2, set_3, set_4, set_5, set_6, set_7, set_8, -List.set_cons_succ, -List.set_cons_zero, A.ok, A.val, setSl, wrapG, guardB, getB, pickA, binA, binC, binD, cmpD, isCmp, unA, unD, lenA, AOp.total, kills, litB, FinQ, resOks, resOk, resA, resList, resOne, A.thaw, C.thaw, A.fits, As.fits, C.fits, evs, oks, callArgs, A.pure, C.pure, A.re, C.re, fieldAddrA, loadC, cut, A.cells, C.rows?, getOb, newOb, setOb, storeC, splice, Ob.re, Cs.fits, partsA, partsOk, parts2A, parts2Ok, fillC, fillRows, optInt, optOk, sliceA, optK_some, storeK_some, Option.map_some, toDs, C.toD, spliceD, appendA, srcRows, allLen_nil_iff, allLen_cons_iff, allLen_append_iff, dropC, Obs.fits, eqCs, eqD]
    refine ⟨fun hk => ?_, fun hk => weak_le (St.le_refl _) (bytes_tail c p H i hc hp hp1 hi hf b (by omega) q1 (by omega) (by omega) _)⟩
    refine call_drawE (pick_draws b.length (by omega)) hc (by omega) (by omega) hi (by simp [Ob.re, C.re]) (fun r => IntIn.re) hfq1 ?_
    rintro _ q2 ⟨k', rfl, k3, k4⟩ h5 h6
    have hfq2 := fits_reset (b := Rd c q2) hf ⟨trivial, trivial, trivial⟩
    simp -implicitDefEqProofs [hli, bytesRows_len, allLen_bytes, take_bytes, aw_skip, aw_region, aw_seq, aw_block, aw_cond, aw_exit, aw_ret, kq_nil, kq_seq, kq_seq_ret, kq_seq_exit, kq_block, kq_block_ret, kq_block_exit, kq_loop, kq_loop_ret, kq_loop_exit, awOps_nil, awOps_cons, awOps_guardE, nx_eq, awOp, ev_k, ev_0, ev_1, ev_2, ev_3, ev_4, ev_5, ev_6, ev_7, ev_8, set_0, set_1, set_2, set_3, set_4, set_5, set_6, set_7, set_8, -List.set_cons_succ, -List.set_cons_zero, A.ok, A.val, setSl, wrapG, guardB, getB, pickA, binA, binC, binD, cmpD, isCmp, unA, unD, lenA, AOp.total, kills, litB, FinQ, resOks, resOk, resA, resList, resOne, A.thaw, C.thaw, A.fits, As.fits, C.fits, evs, oks, callArgs, A.pure, C.pure, A.re, C.re, fieldAddrA, loadC, cut, A.cells, C.rows?, getOb, newOb, setOb, storeC, splice, Ob.re, Cs.fits, partsA, partsOk, parts2A, parts2Ok, fillC, fillRows, optInt, optOk, sliceA, optK_some, storeK_some, Option.map_some, toDs, C.toD, spliceD, appendA, srcRows, allLen_nil_iff, allLen_cons_iff, allLen_append_iff, dropC, Obs.fits, eqCs, eqD]
    refine ⟨by unfold maxApp; omega, fun hbn => by simp [bytesRows] at hbn; subst hbn; simp at h0, fun hbn => ?_⟩
    refine call_drawE (num_draws [0, 255, 1, 9, 65] (by decide)) hc (by omega) (by omega) hi (by simp [Ob.re, C.re]) (fun r ⟨n, _, hn⟩ => by subst hn; rfl) hfq2 ?_
    rintro _ q3 ⟨n, hn, rfl⟩ h7 h8
    have hfq3 := fits_reset (b := Rd c q3) hf ⟨trivial, trivial, trivial⟩
    simp -implicitDefEqProofs [hli, bytesRows_len, allLen_bytes, take_bytes, aw_skip, aw_region, aw_seq, aw_block, aw_cond, aw_exit, aw_ret, kq_nil, kq_seq, kq_seq_ret, kq_seq_exit, kq_block, kq_block_ret, kq_block_exit, kq_loop, kq_loop_ret, kq_loop_exit, awOps_nil, awOps_cons, awOps_guardE, nx_eq, awOp, ev_k, ev_0, ev_1, ev_2, ev_3, ev_4, ev_5, ev_6, ev_7, ev_8, set_0, set_1, set_2, set_3, set_4, set_5, set_6, set_7, set_8, -List.set_cons_succ, -List.set_cons_zero, A.ok, A.val, setSl, wrapG, guardB, getB, pickA, binA, binC, binD, cmpD, isCmp, unA, unD, lenA, AOp.total, kills, litB, FinQ, resOks, resOk, resA, resList, resOne, A.thaw, C.thaw, A.fits, As.fits, C.fits, evs, oks, callArgs, A.pure, C.pure, A.re, C.re, fieldAddrA, loadC, cut, A.cells, C.rows?, getOb, newOb, setOb, storeC, splice, Ob.re, Cs.fits, partsA, partsOk, parts2A, parts2Ok, fillC, fillRows, optInt, optOk, sliceA, optK_some, storeK_some, Option.map_some, toDs, C.toD, spliceD, appendA, srcRows, allLen_nil_iff, allLen_cons_iff, allLen_append_iff, dropC, Obs.fits, eqCs, eqD]
    have hget : (bytesRows b)[k'.toNat]? = some [.int .u8 (b[k'.toNat]'(by omega)).toNat] := bytesRows_get (by omega)
    have hset : (bytesRows b).set k'.toNat [.int .u8 (IntKind.wrap .u8 n)] = bytesRows (b.set k'.toNat (UInt8.ofNat n.toNat)) := by
      simp only [bytesRows, List.map_set]
      congr 2
      simp at hn
      rcases hn with rfl | rfl | rfl | rfl | rfl <;> rfl
    simp -implicitDefEqProofs [hget, hset, hfq3, aw_skip, aw_region, aw_seq, aw_block, aw_cond, aw_exit, aw_ret, kq_nil, kq_seq, kq_seq_ret, kq_seq_exit, kq_block, kq_block_ret, kq_block_exit, kq_loop, kq_loop_ret, kq_loop_exit, awOps_nil, awOps_cons, awOps_guardE, nx_eq, awOp, ev_k, ev_0, ev_1, ev_2, ev_3, ev_4, ev_5, ev_6, ev_7, ev_8, set_0, set_1, set_2, set_3, set_4, set_5, set_6, set_7, set_8, -List.set_cons_succ, -List.set_cons_zero, A.ok, A.val, setSl, wrapG, guardB, getB, pickA, binA, binC, binD, cmpD, isCmp, unA, unD, lenA, AOp.total, kills, litB, FinQ, resOks, resOk, resA, resList, resOne, A.thaw, C.thaw, A.fits, As.fits, C.fits, evs, oks, callArgs, A.pure, C.pure, A.re, C.re, fieldAddrA, loadC, cut, A.cells, C.rows?, getOb, newOb, setOb, storeC, splice, Ob.re, Cs.fits, partsA, partsOk, parts2A, parts2Ok, fillC, fillRows, optInt, optOk, sliceA, optK_some, storeK_some, Option.map_some, toDs, C.toD, spliceD, appendA, srcRows, allLen_nil_iff, allLen_cons_iff, allLen_append_iff, dropC, Obs.fits, eqCs, eqD]
    refine ⟨⟨k3, by omega⟩, weak_le (St.le_thaw (loc := []) 3 rfl (by simp [Sl.le, A.le_refl_iff, A.le_u_iff, As.lo, A.lo, C.lo, Ref.lo, Cs.lo, Obs.lo, Ob.lo, setAll, and_true, true_and, List.length_nil, List.length_cons, hi]) trivial) ?_⟩
    exact bytes_tail c p H i hc hp hp1 hi hf (b.set k'.toNat (UInt8.ofNat n.toNat)) (by simp; omega) q3 (by omega) (by omega) _
  · exact weak_le (St.le_refl _) (bytes_tail c p H i hc hp hp1 hi hf b (by omega) p1 (by omega) (by omega) _)
/-- bytes that are drawn from the beginning -/
-- 23 loop.example/prologserver/spec.DrawDecodeAll params 1 ntmps 6
def ac23 : Cd := .seq (.region [⟨(some 2), .mv (.k (.c (.full []))), none⟩] [2])
  (.seq (.region [⟨(some 3), .mv (.t 0), none⟩,
      ⟨(some 4), .call false 69 [(.t 3)], none⟩,
      ⟨(some 5), .call false 68 [(.t 4)], none⟩,
      ⟨(some 2), .mv (.t 5), none⟩] [0, 3, 4, 5])
  (.ret))
theorem ac23_ok : cFunc Try.prog [] [(0, [2], []), (1, [0, 3, 4, 5], [])] Try.f23 = some (ac23, [.tmp 2], 6) := by kernel_rfl
theorem drawDa_calls (c : List UInt8) (hc : c.length ≤ 1048576) (H : Heap) : ACalls Try.prog 23 [.c (.d (.sl (bytesRows c)))] H (fun r H' => H' = H ∧ DrawnBytes r) := by
  refine acalls Try.func23 (by kernel_rfl) ac23_ok fun hf => ?_
  simp -implicitDefEqProofs [ac23, aw_skip, aw_region, aw_seq, aw_block, aw_cond, aw_exit, aw_ret, kq_nil, kq_seq, kq_seq_ret, kq_seq_exit, kq_block, kq_block_ret, kq_block_exit, kq_loop, kq_loop_ret, kq_loop_exit, awOps_nil, awOps_cons, awOps_guardE, nx_eq, awOp, ev_k, ev_0, ev_1, ev_2, ev_3, ev_4, ev_5, ev_6, ev_7, ev_8, set_0, set_1, set_2, set_3, set_4, set_5, set_6, set_7, set_8, -List.set_cons_succ, -List.set_cons_zero, A.ok, A.val, setSl, wrapG, guardB, getB, pickA, binA, binC, binD, cmpD, isCmp, unA, unD, lenA, AOp.total, kills, litB, FinQ, resOks, resOk, resA, resList, resOne, A.thaw, C.thaw, A.fits, As.fits, C.fits, evs, oks, callArgs, A.pure, C.pure, A.re, C.re, fieldAddrA, loadC, cut, A.cells, C.rows?, getOb, newOb, setOb, storeC, splice, Ob.re, Cs.fits, partsA, partsOk, parts2A, parts2Ok, fillC, fillRows, optInt, optOk, sliceA, optK_some, storeK_some, Option.map_some, toDs, C.toD, spliceD, appendA, srcRows, allLen_nil_iff, allLen_cons_iff, allLen_append_iff, dropC, Obs.fits, eqCs, eqD]
  refine (open_calls c hc _).mono fun r H' ⟨h1, c', hc', h2⟩ => ⟨H, [Rd c' 0], .c (.ptr (.l 0) 0), by rw [h2]; simp [Rd, Ob.re, C.re], rfl, by simp, hf, by rw [h1]; simp [A.re, C.re, Ref.re], ?_⟩
  simp -implicitDefEqProofs [aw_skip, aw_region, aw_seq, aw_block, aw_cond, aw_exit, aw_ret, kq_nil, kq_seq, kq_seq_ret, kq_seq_exit, kq_block, kq_block_ret, kq_block_exit, kq_loop, kq_loop_ret, kq_loop_exit, awOps_nil, awOps_cons, awOps_guardE, nx_eq, awOp, ev_k, ev_0, ev_1, ev_2, ev_3, ev_4, ev_5, ev_6, ev_7, ev_8, set_0, set_1, set_2, set_3, set_4, set_5, set_6, set_7, set_8, -List.set_cons_succ, -List.set_cons_zero, A.ok, A.val, setSl, wrapG, guardB, getB, pickA, binA, binC, binD, cmpD, isCmp, unA, unD, lenA, AOp.total, kills, litB, FinQ, resOks, resOk, resA, resList, resOne, A.thaw, C.thaw, A.fits, As.fits, C.fits, evs, oks, callArgs, A.pure, C.pure, A.re, C.re, fieldAddrA, loadC, cut, A.cells, C.rows?, getOb, newOb, setOb, storeC, splice, Ob.re, Cs.fits, partsA, partsOk, parts2A, parts2Ok, fillC, fillRows, optInt, optOk, sliceA, optK_some, storeK_some, Option.map_some, toDs, C.toD, spliceD, appendA, srcRows, allLen_nil_iff, allLen_cons_iff, allLen_append_iff, dropC, Obs.fits, eqCs, eqD]
  refine call_drawL (j := 0) l11Bytes_draws hc' (by omega) (by omega) rfl (by simp [Rd, Ob.re, C.re]) (fun r => DrawnBytes.re) hf ?_
  rintro _ p' ⟨l, rfl, g1⟩ h3 h4
  simp -implicitDefEqProofs [aw_skip, aw_region, aw_seq, aw_block, aw_cond, aw_exit, aw_ret, kq_nil, kq_seq, kq_seq_ret, kq_seq_exit, kq_block, kq_block_ret, kq_block_exit, kq_loop, kq_loop_ret, kq_loop_exit, awOps_nil, awOps_cons, awOps_guardE, nx_eq, awOp, ev_k, ev_0, ev_1, ev_2, ev_3, ev_4, ev_5, ev_6, ev_7, ev_8, set_0, set_1, set_2, set_3, set_4, set_5, set_6, set_7, set_8, -List.set_cons_succ, -List.set_cons_zero, A.ok, A.val, setSl, wrapG, guardB, getB, pickA, binA, binC, binD, cmpD, isCmp, unA, unD, lenA, AOp.total, kills, litB, FinQ, resOks, resOk, resA, resList, resOne, A.thaw, C.thaw, A.fits, As.fits, C.fits, evs, oks, callArgs, A.pure, C.pure, A.re, C.re, fieldAddrA, loadC, cut, A.cells, C.rows?, getOb, newOb, setOb, storeC, splice, Ob.re, Cs.fits, partsA, partsOk, parts2A, parts2Ok, fillC, fillRows, optInt, optOk, sliceA, optK_some, storeK_some, Option.map_some, toDs, C.toD, spliceD, appendA, srcRows, allLen_nil_iff, allLen_cons_iff, allLen_append_iff, dropC, Obs.fits, eqCs, eqD]
  exact ⟨l, rfl, g1⟩
end Go.Proofs.Ytnobdfcjnnnfmaa
