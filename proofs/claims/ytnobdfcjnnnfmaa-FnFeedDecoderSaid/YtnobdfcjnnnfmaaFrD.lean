/-
  Frames that are drawn.
  Conditions: none.
-/
import Derived.Test.YtnobdfcjnnnfmaaFrA
open Go Go.AM Go.Proofs
namespace Go.Proofs.Ytnobdfcjnnnfmaa
open Go.ChangeShapes Go.WideShapes Go.ChangeAt Go.RowKit
set_option linter.unusedVariables false
set_option linter.unusedSimpArgs false
set_option maxRecDepth 100000
-- 125 loop.example/prologserver/spec.l11Draw params 1 ntmps 16
def ac125 : Cd := .seq (.region [⟨(some 2), .alloc [(.d (.int .i64 0)), (.d (.str []))], none⟩] [])
  (.seq (.region [⟨(some 4), .buildSlice 1 7 [(.str [])] [(0, (.k (.c (.d (.str []))))), (1, (.k (.c (.d (.str [112, 40, 65, 41]))))), (2, (.k (.c (.d (.str [112, 40, 49, 41, 46, 10, 112, 40, 50, 41, 46, 10]))))), (3, (.k (.c (.d (.str [97, 112, 112, 40, 65, 44, 66, 44, 91, 49, 44, 50, 93, 41]))))), (4, (.k (.c (.d (.str [120]))))), (5, (.k (.c (.d (.str [121, 101, 115]))))), (6, (.k (.c (.d (.str [97, 32, 108, 111, 110, 103, 101, 114, 32, 116, 101, 120, 116, 32, 119, 105, 116, 104, 32, 115, 112, 97, 99, 101, 115, 44, 32, 97, 110, 100, 32, 115, 105, 103, 110, 115, 58, 32, 61, 58, 61])))))], none⟩,
      ⟨(some 3), .mv (.t 4), none⟩] [4])
  (.seq (.region [⟨(some 5), .mv (.t 0), none⟩,
      ⟨(some 6), .call false 84 [(.t 5), (.k (.c (.d (.int .i64 7))))], none⟩,
      ⟨(some 7), .bin .add (.k (.c (.d (.int .i64 1)))) (.t 6), none⟩,
      ⟨(some 8), .mv (.t 3), none⟩,
      ⟨(some 9), .mv (.t 0), none⟩,
      ⟨(some 10), .mv (.t 3), none⟩,
      ⟨(some 11), .len 1 (.t 10), none⟩,
      ⟨(some 12), .call false 84 [(.t 9), (.t 11)], none⟩,
      ⟨(some 13), .indexAddr 1 (.t 8) (.t 12), none⟩,
      ⟨(some 14), .load none (.t 13), none⟩,
      ⟨(some 15), .build [(.d (.int .i64 0)), (.d (.str []))] [(0, 1, (.t 7)), (1, 1, (.t 14))], none⟩,
      ⟨none, .store 2 (.t 2) (.t 15), none⟩] [0, 3, 5, 6, 7, 8, 9, 10, 11, 12, 13, 14, 15])
  (.ret)))
theorem ac125_ok : cFunc Try.prog [] [(0, [], []), (1, [4], []), (2, [0, 3, 5, 6, 7, 8, 9, 10, 11, 12, 13, 14, 15], [])] Try.f125 = some (ac125, [.cell 2 (some 2)], 16) := by kernel_rfl
-- 124 loop.example/prologserver/spec.l11Mutate params 2 ntmps 30
-- loop head live: [3, 4]
def ac124 : Cd := .seq (.region [⟨(some 3), .box (.t 1), none⟩,
      ⟨(some 4), .alloc [(.d (.int .i64 0)), (.d (.str []))], none⟩] [1])
  (.seq (.seq (.region [⟨(some 5), .mv (.t 0), none⟩,
        ⟨(some 6), .call false 84 [(.t 5), (.k (.c (.d (.int .i64 24))))], none⟩] [5])
    (.block 0 (.seq (.region [⟨(some 8), .bin .eql (.t 6) (.k (.c (.d (.int .i64 0)))), none⟩,
          ⟨(some 7), .mv (.t 8), none⟩] [8])
      (.cond (.t 7)
        (.region [⟨(some 9), .mv (.t 0), none⟩,
          ⟨(some 10), .buildSlice 1 5 [(.int .i64 0)] [(0, (.k (.c (.d (.int .i64 0))))), (1, (.k (.c (.d (.int .i64 8))))), (2, (.k (.c (.d (.int .i64 255))))), (3, (.k (.c (.d (.int .i64 (-1)))))), (4, (.k (.c (.d (.int .i64 1000)))))], none⟩,
          ⟨(some 11), .call false 123 [(.t 9), (.t 10)], none⟩,
          ⟨(some 12), .fieldAddr 0 (.t 3), none⟩,
          ⟨none, .store 1 (.t 12) (.t 11), none⟩] [0, 6, 7, 9, 10, 11, 12])
        (.seq (.region [⟨(some 14), .bin .eql (.t 6) (.k (.c (.d (.int .i64 1)))), none⟩,
            ⟨(some 13), .mv (.t 14), none⟩] [0, 7, 14])
        (.cond (.t 13)
          (.region [⟨(some 15), .fieldAddr 1 (.t 3), none⟩,
            ⟨(some 16), .load none (.t 15), none⟩,
            ⟨(some 17), .bin .add (.t 16) (.k (.c (.d (.str [9])))), none⟩,
            ⟨(some 18), .fieldAddr 1 (.t 3), none⟩,
            ⟨none, .store 1 (.t 18) (.t 17), none⟩] [6, 13, 15, 16, 17, 18])
          (.seq (.region [⟨(some 20), .bin .eql (.t 6) (.k (.c (.d (.int .i64 2)))), none⟩,
              ⟨(some 19), .mv (.t 20), none⟩] [6, 13, 20])
          (.cond (.t 19)
            (.block 1 (.loop (.seq (.seq (.region [⟨(some 21), .fieldAddr 1 (.t 3), none⟩,
                      ⟨(some 22), .load none (.t 21), none⟩,
                      ⟨(some 23), .len 0 (.t 22), none⟩,
                      ⟨(some 24), .bin .leq (.t 23) (.k (.c (.d (.int .i64 2000)))), none⟩] [21, 22, 23])
                  (.cond (.t 24)
                    (.skip)
                    (.exit 1)))
                (.block 2 (.region [⟨(some 25), .fieldAddr 1 (.t 3), none⟩,
                    ⟨(some 26), .load none (.t 25), none⟩,
                    ⟨(some 27), .bin .add (.t 26) (.k (.c (.d (.str [97, 98, 99, 100, 101, 102, 103, 104, 105, 106])))), none⟩,
                    ⟨(some 28), .fieldAddr 1 (.t 3), none⟩,
                    ⟨none, .store 1 (.t 28) (.t 27), none⟩] [24, 25, 26, 27, 28])))))
            (.skip)))))))))
  (.seq (.region [⟨(some 29), .load (some 2) (.t 3), none⟩,
      ⟨none, .store 2 (.t 4) (.t 29), none⟩] [3, 19, 29])
  (.ret)))
theorem ac124_ok : cFunc Try.prog [] [(0, [1], []), (1, [5], []), (2, [8], []), (3, [0, 6, 7, 9, 10, 11, 12], []), (4, [0, 7, 14], []), (5, [6, 13, 15, 16, 17, 18], []), (6, [6, 13, 20], []), (7, [21, 22, 23], []), (8, [24, 25, 26, 27, 28], []), (9, [3, 19, 29], [])] Try.f124 = some (ac124, [.cell 4 (some 2)], 30) := by kernel_rfl
/-- a frame of a size that can be drawn -/
def DrawnFrame (n : Nat) (r : A) : Prop := ∃ f : Frame, r = .agg (f.row.map .d) ∧ f.s.length ≤ n ∧ -1000 ≤ f.k ∧ f.k ≤ 1000
theorem DrawnFrame.re {m n : Nat} {r : A} (h : DrawnFrame m r) : A.re n r = r := by
  obtain ⟨f, rfl, _⟩ := h
  rfl
theorem l11Draw_draws : Draws 125 [] 2 (DrawnFrame 100) := fun c p H i hc hp hp1 hi => by
  refine acalls Try.func125 (by kernel_rfl) ac125_ok fun hf => ?_
  simp only [List.length_set] at hf
  have h7 : inR .i64 7 := small_i64 (by omega) (by omega)
  simp -implicitDefEqProofs [ac125, h7, aw_skip, aw_region, aw_seq, aw_block, aw_cond, aw_exit, aw_ret, kq_nil, kq_seq, kq_seq_ret, kq_seq_exit, kq_block, kq_block_ret, kq_block_exit, kq_loop, kq_loop_ret, kq_loop_exit, awOps_nil, awOps_cons, awOps_guardE, nx_eq, awOp, ev_k, ev_0, ev_1, ev_2, ev_3, ev_4, ev_5, ev_6, ev_7, ev_8, set_0, set_1, set_2, set_3, set_4, set_5, set_6, set_7, set_8, -List.set_cons_succ, -List.set_cons_zero, A.ok, A.val, setSl, wrapG, guardB, getB, pickA, binA, binC, binD, cmpD, isCmp, unA, unD, lenA, AOp.total, kills, litB, FinQ, resOks, resOk, resA, resList, resOne, A.thaw, C.thaw, A.fits, As.fits, C.fits, evs, oks, callArgs, A.pure, C.pure, A.re, C.re, fieldAddrA, loadC, cut, A.cells, C.rows?, getOb, newOb, setOb, storeC, splice, Ob.re, Cs.fits, partsA, partsOk, parts2A, parts2Ok, fillC, fillRows, optInt, optOk, sliceA, optK_some, storeK_some, Option.map_some, toDs, C.toD, spliceD, appendA, srcRows, allLen_nil_iff, allLen_cons_iff, allLen_append_iff, dropC, Obs.fits, eqCs, eqD]
  refine call_drawE (pick_draws 7 (by omega)) hc hp (by omega) hi (by simp [Ob.re, C.re]) (fun r => IntIn.re) hf ?_
  rintro _ p' ⟨k, rfl, h1, h2⟩ h3 h4
  have hk : inR .i64 (1 + k) := small_i64 (by omega) (by omega)
  simp -implicitDefEqProofs [h7, hk, aw_skip, aw_region, aw_seq, aw_block, aw_cond, aw_exit, aw_ret, kq_nil, kq_seq, kq_seq_ret, kq_seq_exit, kq_block, kq_block_ret, kq_block_exit, kq_loop, kq_loop_ret, kq_loop_exit, awOps_nil, awOps_cons, awOps_guardE, nx_eq, awOp, ev_k, ev_0, ev_1, ev_2, ev_3, ev_4, ev_5, ev_6, ev_7, ev_8, set_0, set_1, set_2, set_3, set_4, set_5, set_6, set_7, set_8, -List.set_cons_succ, -List.set_cons_zero, A.ok, A.val, setSl, wrapG, guardB, getB, pickA, binA, binC, binD, cmpD, isCmp, unA, unD, lenA, AOp.total, kills, litB, FinQ, resOks, resOk, resA, resList, resOne, A.thaw, C.thaw, A.fits, As.fits, C.fits, evs, oks, callArgs, A.pure, C.pure, A.re, C.re, fieldAddrA, loadC, cut, A.cells, C.rows?, getOb, newOb, setOb, storeC, splice, Ob.re, Cs.fits, partsA, partsOk, parts2A, parts2Ok, fillC, fillRows, optInt, optOk, sliceA, optK_some, storeK_some, Option.map_some, toDs, C.toD, spliceD, appendA, srcRows, allLen_nil_iff, allLen_cons_iff, allLen_append_iff, dropC, Obs.fits, eqCs, eqD]
  refine call_drawE (pick_draws 7 (by omega)) hc (by omega) (by omega) hi (by simp [Ob.re, C.re]) (fun r => IntIn.re) (fits_reset (b := Rd c p') hf ⟨trivial, trivial, trivial⟩) ?_
  rintro _ p2 ⟨k2, rfl, g1, g2⟩ g3 g4
  simp -implicitDefEqProofs [aw_skip, aw_region, aw_seq, aw_block, aw_cond, aw_exit, aw_ret, kq_nil, kq_seq, kq_seq_ret, kq_seq_exit, kq_block, kq_block_ret, kq_block_exit, kq_loop, kq_loop_ret, kq_loop_exit, awOps_nil, awOps_cons, awOps_guardE, nx_eq, awOp, ev_k, ev_0, ev_1, ev_2, ev_3, ev_4, ev_5, ev_6, ev_7, ev_8, set_0, set_1, set_2, set_3, set_4, set_5, set_6, set_7, set_8, -List.set_cons_succ, -List.set_cons_zero, A.ok, A.val, setSl, wrapG, guardB, getB, pickA, binA, binC, binD, cmpD, isCmp, unA, unD, lenA, AOp.total, kills, litB, FinQ, resOks, resOk, resA, resList, resOne, A.thaw, C.thaw, A.fits, As.fits, C.fits, evs, oks, callArgs, A.pure, C.pure, A.re, C.re, fieldAddrA, loadC, cut, A.cells, C.rows?, getOb, newOb, setOb, storeC, splice, Ob.re, Cs.fits, partsA, partsOk, parts2A, parts2Ok, fillC, fillRows, optInt, optOk, sliceA, optK_some, storeK_some, Option.map_some, toDs, C.toD, spliceD, appendA, srcRows, allLen_nil_iff, allLen_cons_iff, allLen_append_iff, dropC, Obs.fits, eqCs, eqD]
  refine row_strs (fun s => s.length ≤ 100) g1 (by simp; omega) rfl (by decide) fun s hs => ?_
  have hf2 := fits_reset (b := Rd c p2) hf ⟨trivial, trivial, trivial⟩
  simp -implicitDefEqProofs [hf2, aw_skip, aw_region, aw_seq, aw_block, aw_cond, aw_exit, aw_ret, kq_nil, kq_seq, kq_seq_ret, kq_seq_exit, kq_block, kq_block_ret, kq_block_exit, kq_loop, kq_loop_ret, kq_loop_exit, awOps_nil, awOps_cons, awOps_guardE, nx_eq, awOp, ev_k, ev_0, ev_1, ev_2, ev_3, ev_4, ev_5, ev_6, ev_7, ev_8, set_0, set_1, set_2, set_3, set_4, set_5, set_6, set_7, set_8, -List.set_cons_succ, -List.set_cons_zero, A.ok, A.val, setSl, wrapG, guardB, getB, pickA, binA, binC, binD, cmpD, isCmp, unA, unD, lenA, AOp.total, kills, litB, FinQ, resOks, resOk, resA, resList, resOne, A.thaw, C.thaw, A.fits, As.fits, C.fits, evs, oks, callArgs, A.pure, C.pure, A.re, C.re, fieldAddrA, loadC, cut, A.cells, C.rows?, getOb, newOb, setOb, storeC, splice, Ob.re, Cs.fits, partsA, partsOk, parts2A, parts2Ok, fillC, fillRows, optInt, optOk, sliceA, optK_some, storeK_some, Option.map_some, toDs, C.toD, spliceD, appendA, srcRows, allLen_nil_iff, allLen_cons_iff, allLen_append_iff, dropC, Obs.fits, eqCs, eqD]
  exact ⟨⟨⟨1 + k, s⟩, rfl, by simp; omega, by simp; omega, by simp; omega⟩, p2, by omega, by omega, rfl⟩
theorem l11Mutate_draws (f : Frame) (hs : f.s.length ≤ 100) (hk : -1000 ≤ f.k ∧ f.k ≤ 1000) : Draws 124 [.agg (f.row.map .d)] 2 (DrawnFrame 3000) := fun c p H i hc hp hp1 hi => by
  refine acalls Try.func124 (by kernel_rfl) ac124_ok fun hf => ?_
  simp only [List.length_set] at hf
  obtain ⟨fk, fs⟩ := f
  simp -implicitDefEqProofs [ac124, Frame.row, aw_skip, aw_region, aw_seq, aw_block, aw_cond, aw_exit, aw_ret, kq_nil, kq_seq, kq_seq_ret, kq_seq_exit, kq_block, kq_block_ret, kq_block_exit, kq_loop, kq_loop_ret, kq_loop_exit, awOps_nil, awOps_cons, awOps_guardE, nx_eq, awOp, ev_k, ev_0, ev_1, ev_2, ev_3, ev_4, ev_5, ev_6, ev_7, ev_8, set_0, set_1, set_2, set_3, set_4, set_5, set_6, set_7, set_8, -List.set_cons_succ, -List.set_cons_zero, A.ok, A.val, setSl, wrapG, guardB, getB, pickA, binA, binC, binD, cmpD, isCmp, unA, unD, lenA, AOp.total, kills, litB, FinQ, resOks, resOk, resA, resList, resOne, A.thaw, C.thaw, A.fits, As.fits, C.fits, evs, oks, callArgs, A.pure, C.pure, A.re, C.re, fieldAddrA, loadC, cut, A.cells, C.rows?, getOb, newOb, setOb, storeC, splice, Ob.re, Cs.fits, partsA, partsOk, parts2A, parts2Ok, fillC, fillRows, optInt, optOk, sliceA, optK_some, storeK_some, Option.map_some, toDs, C.toD, spliceD, appendA, srcRows, allLen_nil_iff, allLen_cons_iff, allLen_append_iff, dropC, Obs.fits, eqCs, eqD]
  refine call_drawE (pick_draws 24 (by omega)) hc hp (by omega) hi (by simp [Ob.re, C.re]) (fun r => IntIn.re) hf ?_
  rintro _ p' ⟨k, rfl, h1, h2⟩ h3 h4
  have hf1 := fits_reset (b := Rd c p') hf ⟨trivial, trivial, trivial⟩
  simp -implicitDefEqProofs [hf1, aw_skip, aw_region, aw_seq, aw_block, aw_cond, aw_exit, aw_ret, kq_nil, kq_seq, kq_seq_ret, kq_seq_exit, kq_block, kq_block_ret, kq_block_exit, kq_loop, kq_loop_ret, kq_loop_exit, awOps_nil, awOps_cons, awOps_guardE, nx_eq, awOp, ev_k, ev_0, ev_1, ev_2, ev_3, ev_4, ev_5, ev_6, ev_7, ev_8, set_0, set_1, set_2, set_3, set_4, set_5, set_6, set_7, set_8, -List.set_cons_succ, -List.set_cons_zero, A.ok, A.val, setSl, wrapG, guardB, getB, pickA, binA, binC, binD, cmpD, isCmp, unA, unD, lenA, AOp.total, kills, litB, FinQ, resOks, resOk, resA, resList, resOne, A.thaw, C.thaw, A.fits, As.fits, C.fits, evs, oks, callArgs, A.pure, C.pure, A.re, C.re, fieldAddrA, loadC, cut, A.cells, C.rows?, getOb, newOb, setOb, storeC, splice, Ob.re, Cs.fits, partsA, partsOk, parts2A, parts2Ok, fillC, fillRows, optInt, optOk, sliceA, optK_some, storeK_some, Option.map_some, toDs, C.toD, spliceD, appendA, srcRows, allLen_nil_iff, allLen_cons_iff, allLen_append_iff, dropC, Obs.fits, eqCs, eqD]
  have done : ∀ (k' : Int) (s : List UInt8) (p2 : Int), p ≤ p2 → p2 ≤ p + 2 → s.length ≤ 3000 → -1000 ≤ k' → k' ≤ 1000 → Drew (DrawnFrame 3000) 2 c p H i (.agg [.d (.int .i64 k'), .d (.str s)]) (H.set i (Rd c p2)) :=
    fun k' s p2 a1 a2 a3 a4 a5 => ⟨⟨⟨k', s⟩, rfl, a3, a4, a5⟩, p2, a1, a2, rfl⟩
  simp only at hs hk
  refine ⟨fun _ => ?_, fun _ => ⟨fun _ => ⟨by unfold maxStr; omega, done _ _ _ h3 (by omega) (by simp; omega) hk.1 hk.2⟩, fun _ => ⟨fun _ => ?_, fun _ => done _ _ _ h3 (by omega) (by omega) hk.1 hk.2⟩⟩⟩
  · refine call_drawE (num_draws [0, 8, 255, -1, 1000] (by decide)) hc (by omega) (by omega) hi (by simp [Ob.re, C.re]) (fun r ⟨n, _, hn⟩ => by subst hn; rfl) hf1 ?_
    rintro _ p2 ⟨n, hn, rfl⟩ g3 g4
    have hf2 := fits_reset (b := Rd c p2) hf ⟨trivial, trivial, trivial⟩
    simp -implicitDefEqProofs [hf2, aw_skip, aw_region, aw_seq, aw_block, aw_cond, aw_exit, aw_ret, kq_nil, kq_seq, kq_seq_ret, kq_seq_exit, kq_block, kq_block_ret, kq_block_exit, kq_loop, kq_loop_ret, kq_loop_exit, awOps_nil, awOps_cons, awOps_guardE, nx_eq, awOp, ev_k, ev_0, ev_1, ev_2, ev_3, ev_4, ev_5, ev_6, ev_7, ev_8, set_0, set_1, set_2, set_3, set_4, set_5, set_6, set_7, set_8, -List.set_cons_succ, -List.set_cons_zero, A.ok, A.val, setSl, wrapG, guardB, getB, pickA, binA, binC, binD, cmpD, isCmp, unA, unD, lenA, AOp.total, kills, litB, FinQ, resOks, resOk, resA, resList, resOne, A.thaw, C.thaw, A.fits, As.fits, C.fits, evs, oks, callArgs, A.pure, C.pure, A.re, C.re, fieldAddrA, loadC, cut, A.cells, C.rows?, getOb, newOb, setOb, storeC, splice, Ob.re, Cs.fits, partsA, partsOk, parts2A, parts2Ok, fillC, fillRows, optInt, optOk, sliceA, optK_some, storeK_some, Option.map_some, toDs, C.toD, spliceD, appendA, srcRows, allLen_nil_iff, allLen_cons_iff, allLen_append_iff, dropC, Obs.fits, eqCs, eqD]
    simp at hn
    exact done _ _ _ (by omega) (by omega) (by omega) (by omega) (by omega)
  · refine loop_set (σ := List UInt8) (fun s => []) (fun _ => H.set i (Rd c p')) (fun s => [.cells [.d (.int .i64 fk), .d (.str s)], .cells [.d (.int .i64 0), .d (.str [])]]) (fun s => s.length ≤ 2010) (fun s => 3000 - s.length) fs rfl (by omega) ?_
    intro s hs2
    have hl : inR .i64 (s.length : Int) := small_i64 (by omega) (by omega)
    simp -implicitDefEqProofs [setAll, hf1, hl, aw_skip, aw_region, aw_seq, aw_block, aw_cond, aw_exit, aw_ret, kq_nil, kq_seq, kq_seq_ret, kq_seq_exit, kq_block, kq_block_ret, kq_block_exit, kq_loop, kq_loop_ret, kq_loop_exit, awOps_nil, awOps_cons, awOps_guardE, nx_eq, awOp, ev_k, ev_0, ev_1, ev_2, ev_3, ev_4, ev_5, ev_6, ev_7, ev_8, set_0, set_1, set_2, set_3, set_4, set_5, set_6, set_7, set_8, -List.set_cons_succ, -List.set_cons_zero, A.ok, A.val, setSl, wrapG, guardB, getB, pickA, binA, binC, binD, cmpD, isCmp, unA, unD, lenA, AOp.total, kills, litB, FinQ, resOks, resOk, resA, resList, resOne, A.thaw, C.thaw, A.fits, As.fits, C.fits, evs, oks, callArgs, A.pure, C.pure, A.re, C.re, fieldAddrA, loadC, cut, A.cells, C.rows?, getOb, newOb, setOb, storeC, splice, Ob.re, Cs.fits, partsA, partsOk, parts2A, parts2Ok, fillC, fillRows, optInt, optOk, sliceA, optK_some, storeK_some, Option.map_some, toDs, C.toD, spliceD, appendA, srcRows, allLen_nil_iff, allLen_cons_iff, allLen_append_iff, dropC, Obs.fits, eqCs, eqD]
    refine ⟨fun hlt => ⟨by unfold maxStr; omega, ?_⟩, fun _ => done _ _ _ h3 (by omega) (by omega) hk.1 hk.2⟩
    refine loop_back (s ++ [97, 98, 99, 100, 101, 102, 103, 104, 105, 106]) (by simp [setAll]) (by simp; omega) (by show 3000 - (s ++ _).length < 3000 - s.length; simp; omega)
end Go.Proofs.Ytnobdfcjnnnfmaa
