/-
  Terms that are drawn: copies that are changed.
  Conditions: none.
-/
import Derived.Test.YtddahocmlbnlfaaTermD
open Go Go.AM Go.Proofs
namespace Go.Proofs.Ytddahocmlbnlfaa
open Go.ChangeShapes Go.WideShapes Go.ChangeAt Go.RowKit
set_option linter.unusedVariables false
set_option linter.unusedSimpArgs false
set_option maxRecDepth 100000
-- 22 loop.example/prologserver/spec.l1Some params 1 ntmps 8
def ac22 : Cd := .seq (.region [⟨(some 2), .alloc [(.d (.int .i64 0)), (.d (.int .i64 0)), (.d (.str [])), (.full [])], none⟩] [])
  (.seq (.region [⟨(some 3), .mv (.t 0), none⟩,
      ⟨(some 4), .mv (.t 0), none⟩,
      ⟨(some 5), .buildSlice 1 4 [(.int .i64 0)] [(0, (.k (.c (.d (.int .i64 3))))), (1, (.k (.c (.d (.int .i64 2))))), (2, (.k (.c (.d (.int .i64 4))))), (3, (.k (.c (.d (.int .i64 1)))))], none⟩,
      ⟨(some 6), .call false 23 [(.t 4), (.t 5)], none⟩,
      ⟨(some 7), .call false 24 [(.t 3), (.t 6)], none⟩,
      ⟨none, .store 4 (.t 2) (.t 7), none⟩] [0, 3, 4, 5, 6, 7])
  (.ret))
theorem ac22_ok : cFunc Try.prog [] [(0, [], []), (1, [0, 3, 4, 5, 6, 7], [])] Try.f22 = some (ac22, [.cell 2 (some 4)], 8) := by kernel_rfl
-- 21 loop.example/prologserver/spec.l1Mutate params 2 ntmps 51
-- loop head live: [4, 5]
-- loop head live: [4, 5, 6]
def ac21 : Cd := .seq (.region [⟨(some 3), .box (.t 1), none⟩,
      ⟨(some 4), .alloc [(.d (.int .i64 0)), (.d (.int .i64 0)), (.d (.str [])), (.full [])], none⟩] [1])
  (.seq (.region [⟨(some 7), .load (some 4) (.t 3), none⟩,
      ⟨(some 8), .call false 48 [(.t 7)], none⟩,
      ⟨(some 5), .alloc [(.d (.int .i64 0)), (.d (.int .i64 0)), (.d (.str [])), (.full [])], none⟩,
      ⟨none, .store 4 (.t 5) (.t 8), none⟩] [3, 7, 8])
  (.seq (.seq (.region [⟨(some 9), .mv (.t 0), none⟩,
        ⟨(some 10), .call false 49 [(.t 9), (.k (.c (.d (.int .i64 50))))], none⟩] [9])
    (.block 0 (.seq (.region [⟨(some 12), .bin .eql (.t 10) (.k (.c (.d (.int .i64 0)))), none⟩,
          ⟨(some 11), .mv (.t 12), none⟩] [12])
      (.cond (.t 11)
        (.region [⟨(some 13), .mv (.t 0), none⟩,
          ⟨(some 14), .buildSlice 1 5 [(.int .i64 0)] [(0, (.k (.c (.d (.int .i64 0))))), (1, (.k (.c (.d (.int .i64 4))))), (2, (.k (.c (.d (.int .i64 1))))), (3, (.k (.c (.d (.int .i64 2))))), (4, (.k (.c (.d (.int .i64 3)))))], none⟩,
          ⟨(some 15), .call false 23 [(.t 13), (.t 14)], none⟩,
          ⟨(some 16), .fieldAddr 0 (.t 5), none⟩,
          ⟨none, .store 1 (.t 16) (.t 15), none⟩] [0, 10, 11, 13, 14, 15, 16])
        (.seq (.region [⟨(some 18), .bin .eql (.t 10) (.k (.c (.d (.int .i64 1)))), none⟩,
            ⟨(some 17), .mv (.t 18), none⟩] [11, 18])
        (.cond (.t 17)
          (.region [⟨(some 19), .mv (.t 0), none⟩,
            ⟨(some 20), .buildSlice 1 5 [(.int .i64 0)] [(0, (.k (.c (.d (.int .i64 26))))), (1, (.k (.c (.d (.int .i64 1000))))), (2, (.k (.c (.d (.int .i64 (-1000)))))), (3, (.k (.c (.d (.int .i64 (-1)))))), (4, (.k (.c (.d (.int .i64 1)))))], none⟩,
            ⟨(some 21), .call false 23 [(.t 19), (.t 20)], none⟩,
            ⟨(some 22), .fieldAddr 1 (.t 5), none⟩,
            ⟨none, .store 1 (.t 22) (.t 21), none⟩] [0, 10, 17, 19, 20, 21, 22])
          (.seq (.region [⟨(some 24), .bin .eql (.t 10) (.k (.c (.d (.int .i64 2)))), none⟩,
              ⟨(some 23), .mv (.t 24), none⟩] [17, 24])
          (.cond (.t 23)
            (.region [⟨(some 25), .mv (.t 0), none⟩,
              ⟨(some 26), .buildSlice 1 5 [(.str [])] [(0, (.k (.c (.d (.str []))))), (1, (.k (.c (.d (.str [88]))))), (2, (.k (.c (.d (.str [116, 111, 111, 108, 111, 110, 103]))))), (3, (.k (.c (.d (.str [195, 169]))))), (4, (.k (.c (.d (.str [97])))))], none⟩,
              ⟨(some 27), .call false 50 [(.t 25), (.t 26)], none⟩,
              ⟨(some 28), .fieldAddr 2 (.t 5), none⟩,
              ⟨none, .store 1 (.t 28) (.t 27), none⟩] [0, 10, 23, 25, 26, 27, 28])
            (.seq (.region [⟨(some 30), .bin .eql (.t 10) (.k (.c (.d (.int .i64 3)))), none⟩,
                ⟨(some 29), .mv (.t 30), none⟩] [0, 23, 30])
            (.cond (.t 29)
              (.block 1 (.loop (.seq (.seq (.region [⟨(some 31), .fieldAddr 3 (.t 5), none⟩,
                        ⟨(some 32), .load none (.t 31), none⟩,
                        ⟨(some 33), .len 1 (.t 32), none⟩,
                        ⟨(some 34), .bin .leq (.t 33) (.k (.c (.d (.int .i64 4)))), none⟩] [31, 32, 33])
                    (.cond (.t 34)
                      (.skip)
                      (.exit 1)))
                  (.block 2 (.region [⟨(some 35), .fieldAddr 3 (.t 5), none⟩,
                      ⟨(some 36), .load none (.t 35), none⟩,
                      ⟨(some 37), .qcall 51 [(.k (.c (.d (.int .i64 1))))], none⟩,
                      ⟨(some 38), .buildSlice 4 1 [(.int .i64 0), (.int .i64 0), (.str []), (.sl [])] [(0, (.t 37))], none⟩,
                      ⟨(some 39), .append false 4 (.t 36) (.t 38), none⟩,
                      ⟨(some 40), .fieldAddr 3 (.t 5), none⟩,
                      ⟨none, .store 1 (.t 40) (.t 39), none⟩] [34, 35, 36, 37, 38, 39, 40])))))
              (.seq (.region [⟨(some 42), .bin .eql (.t 10) (.k (.c (.d (.int .i64 4)))), none⟩,
                  ⟨(some 41), .mv (.t 42), none⟩] [10, 29, 42])
              (.cond (.t 41)
                (.seq (.region [⟨(some 6), .mv (.k (.c (.d (.int .i64 0)))), none⟩] [41])
                (.block 3 (.loop (.seq (.seq (.region [⟨(some 43), .mv (.t 6), none⟩,
                          ⟨(some 44), .bin .lss (.t 43) (.k (.c (.d (.int .i64 30)))), none⟩] [43])
                      (.cond (.t 44)
                        (.skip)
                        (.exit 3)))
                    (.seq (.block 4 (.region [⟨(some 47), .load (some 4) (.t 5), none⟩,
                          ⟨(some 48), .buildSlice 4 1 [(.int .i64 0), (.int .i64 0), (.str []), (.sl [])] [(0, (.t 47))], none⟩,
                          ⟨(some 49), .qcall 52 [(.k (.c (.d (.str [115])))), (.t 48)], none⟩,
                          ⟨none, .store 4 (.t 5) (.t 49), none⟩] [44, 47, 48, 49]))
                    (.region [⟨(some 45), .mv (.t 6), none⟩,
                      ⟨(some 46), .bin .add (.t 45) (.k (.c (.d (.int .i64 1)))), none⟩,
                      ⟨(some 6), .mv (.t 46), none⟩] [45, 46]))))))
                (.skip)))))))))))))
  (.seq (.region [⟨(some 50), .load (some 4) (.t 5), none⟩,
      ⟨none, .store 4 (.t 4) (.t 50), none⟩] [5, 41, 50])
  (.ret))))
theorem ac21_ok : cFunc Try.prog [1000051, 1000052] [(0, [1], []), (1, [3, 7, 8], []), (2, [9], []), (3, [12], []), (4, [0, 10, 11, 13, 14, 15, 16], []), (5, [11, 18], []), (6, [0, 10, 17, 19, 20, 21, 22], []), (7, [17, 24], []), (8, [0, 10, 23, 25, 26, 27, 28], []), (9, [0, 23, 30], []), (10, [31, 32, 33], []), (11, [34, 35, 36, 37, 38, 39, 40], [0, 1, 2, 3, 4, 5, 6]), (12, [10, 29, 42], []), (13, [41], []), (14, [43], []), (16, [44, 47, 48, 49], []), (15, [45, 46], []), (17, [5, 41, 50], [])] Try.f21 = some (ac21, [.cell 4 (some 4)], 51) := by kernel_rfl
theorem Draws.mono {f : FuncId} {xs : List A} {N N' : Int} {R : A → Prop} (h : Draws f xs N R) (hN : N ≤ N') : Draws f xs N' R := fun c p H i hc hp hp1 hi =>
  (h c p H i hc hp (by omega) hi).mono fun r H' ⟨h1, p', h2, h3, h4⟩ => ⟨h1, p', h2, by omega, h4⟩
theorem l1Some_draws : Draws 22 [] 1281 TmR := fun c p H i hc hp hp1 hi => by
  refine acalls Try.func22 (by kernel_rfl) ac22_ok fun hf => ?_
  simp only [List.length_set] at hf
  have hf0 : ∀ q, Obs.fits H.length 0 (H.set i (Rd c q)) := fun q => fits_reset (b := Rd c q) hf ⟨trivial, trivial, trivial⟩
  simp -implicitDefEqProofs [ac22, hf0, aw_skip, aw_region, aw_seq, aw_block, aw_cond, aw_exit, aw_ret, kq_nil, kq_seq, kq_seq_ret, kq_seq_exit, kq_block, kq_block_ret, kq_block_exit, kq_loop, kq_loop_ret, kq_loop_exit, awOps_nil, awOps_cons, awOps_guardE, nx_eq, awOp, ev_k, ev_0, ev_1, ev_2, ev_3, ev_4, ev_5, ev_6, ev_7, ev_8, set_0, set_1, set_2, set_3, set_4, set_5, set_6, set_7, set_8, -List.set_cons_succ, -List.set_cons_zero, A.ok, A.val, setSl, wrapG, guardB, getB, pickA, binA, binC, binD, cmpD, isCmp, unA, unD, lenA, AOp.total, kills, litB, FinQ, resOks, resOk, resA, resList, resOne, A.thaw, C.thaw, A.fits, As.fits, C.fits, evs, oks, callArgs, A.pure, C.pure, A.re, C.re, fieldAddrA, loadC, cut, A.cells, C.rows?, getOb, newOb, setOb, storeC, splice, Ob.re, Cs.fits, partsA, partsOk, parts2A, parts2Ok, fillC, fillRows, optInt, optOk, sliceA, clipC, optK_some, storeK_some, Option.map_some, toDs, C.toD, spliceD, appendA, capsOf, srcRows, allLen_nil_iff, allLen_cons_iff, allLen_append_iff, dropC, Obs.fits, eqCs, eqD, mapRow, mapPut, mapVal, mapOne, mapCells]
  refine call_drawE (num_draws [3, 2, 4, 1] (by decide)) hc (by omega) (by omega) hi (by simp [Ob.re, C.re]) (fun r ⟨n, _, hn⟩ => by subst hn; rfl) (hf0 _) ?_
  rintro _ p1 ⟨n, hn, rfl⟩ h1 h2
  obtain ⟨d, rfl, hd⟩ : ∃ d : Nat, n = (d : Int) ∧ d ≤ 4 := ⟨n.toNat, by simp at hn; omega, by simp at hn; omega⟩
  have hdr : Draws 24 [.c (.d (.int .i64 d))] 1280 TmR := (l1Draw_draws d (by omega)).mono (by
    have : 4 ^ d ≤ 4 ^ 4 := Nat.pow_le_pow_right (by omega) hd
    omega)
  simp -implicitDefEqProofs [hf0, aw_skip, aw_region, aw_seq, aw_block, aw_cond, aw_exit, aw_ret, kq_nil, kq_seq, kq_seq_ret, kq_seq_exit, kq_block, kq_block_ret, kq_block_exit, kq_loop, kq_loop_ret, kq_loop_exit, awOps_nil, awOps_cons, awOps_guardE, nx_eq, awOp, ev_k, ev_0, ev_1, ev_2, ev_3, ev_4, ev_5, ev_6, ev_7, ev_8, set_0, set_1, set_2, set_3, set_4, set_5, set_6, set_7, set_8, -List.set_cons_succ, -List.set_cons_zero, A.ok, A.val, setSl, wrapG, guardB, getB, pickA, binA, binC, binD, cmpD, isCmp, unA, unD, lenA, AOp.total, kills, litB, FinQ, resOks, resOk, resA, resList, resOne, A.thaw, C.thaw, A.fits, As.fits, C.fits, evs, oks, callArgs, A.pure, C.pure, A.re, C.re, fieldAddrA, loadC, cut, A.cells, C.rows?, getOb, newOb, setOb, storeC, splice, Ob.re, Cs.fits, partsA, partsOk, parts2A, parts2Ok, fillC, fillRows, optInt, optOk, sliceA, clipC, optK_some, storeK_some, Option.map_some, toDs, C.toD, spliceD, appendA, capsOf, srcRows, allLen_nil_iff, allLen_cons_iff, allLen_append_iff, dropC, Obs.fits, eqCs, eqD, mapRow, mapPut, mapVal, mapOne, mapCells]
  refine call_drawE hdr hc (by omega) (by omega) hi (by simp [Ob.re, C.re]) (fun r => TmR.re) (hf0 _) ?_
  rintro _ p2 ⟨t, rfl, ht⟩ h3 h4
  rw [row_eq]
  simp -implicitDefEqProofs [hf0, aw_skip, aw_region, aw_seq, aw_block, aw_cond, aw_exit, aw_ret, kq_nil, kq_seq, kq_seq_ret, kq_seq_exit, kq_block, kq_block_ret, kq_block_exit, kq_loop, kq_loop_ret, kq_loop_exit, awOps_nil, awOps_cons, awOps_guardE, nx_eq, awOp, ev_k, ev_0, ev_1, ev_2, ev_3, ev_4, ev_5, ev_6, ev_7, ev_8, set_0, set_1, set_2, set_3, set_4, set_5, set_6, set_7, set_8, -List.set_cons_succ, -List.set_cons_zero, A.ok, A.val, setSl, wrapG, guardB, getB, pickA, binA, binC, binD, cmpD, isCmp, unA, unD, lenA, AOp.total, kills, litB, FinQ, resOks, resOk, resA, resList, resOne, A.thaw, C.thaw, A.fits, As.fits, C.fits, evs, oks, callArgs, A.pure, C.pure, A.re, C.re, fieldAddrA, loadC, cut, A.cells, C.rows?, getOb, newOb, setOb, storeC, splice, Ob.re, Cs.fits, partsA, partsOk, parts2A, parts2Ok, fillC, fillRows, optInt, optOk, sliceA, clipC, optK_some, storeK_some, Option.map_some, toDs, C.toD, spliceD, appendA, capsOf, srcRows, allLen_nil_iff, allLen_cons_iff, allLen_append_iff, dropC, Obs.fits, eqCs, eqD, mapRow, mapPut, mapVal, mapOne, mapCells]
  exact ⟨⟨t, by rw [row_eq]; rfl, ht⟩, p2, by omega, by omega, rfl⟩
theorem copy_own (k n : Int) (s : List UInt8) (l : List Tm) (hfits : (Tm.mk k n s l).fits) (H : Heap) : ACalls Try.prog 48 [.agg ((Tm.mk k n s l).row.map .d)] H (fun r H' =>
    H' = H ++ [.cells [.d (.int .i64 k), .d (.int .i64 n), .d (.str s), .d (.sl (l.map Tm.row))], .cells [.d (.int .i64 k), .d (.int .i64 n), .d (.str s), .own (.e (H.length + 3)) l.length (l.map Tm.row)], .cells [.d (.int .i64 k), .d (.int .i64 n), .d (.str s), .own (.e (H.length + 3)) l.length (l.map Tm.row)], .grow l.length 4] ∧
    r = .agg [.d (.int .i64 k), .d (.int .i64 n), .d (.str s), .own (.e (H.length + 3)) l.length (l.map Tm.row)]) := by
  obtain ⟨hk, hn, hs, hl, hkids⟩ := hfits
  refine acallsK Try.func48 (by kernel_rfl) ac48_ok fun hf => ?_
  have hli : inR .i64 (l.length : Int) := small_i64 (by omega) (by omega)
  simp -implicitDefEqProofs [ac48, row_mk, hf, hli, aw_skip, aw_region, aw_seq, aw_block, aw_cond, aw_exit, aw_ret, kq_nil, kq_seq, kq_seq_ret, kq_seq_exit, kq_block, kq_block_ret, kq_block_exit, kq_loop, kq_loop_ret, kq_loop_exit, awOps_nil, awOps_cons, awOps_guardE, nx_eq, awOp, ev_k, ev_0, ev_1, ev_2, ev_3, ev_4, ev_5, ev_6, ev_7, ev_8, set_0, set_1, set_2, set_3, set_4, set_5, set_6, set_7, set_8, -List.set_cons_succ, -List.set_cons_zero, A.ok, A.val, setSl, wrapG, guardB, getB, pickA, binA, binC, binD, cmpD, isCmp, unA, unD, lenA, AOp.total, kills, litB, FinQ, resOks, resOk, resA, resList, resOne, A.thaw, C.thaw, A.fits, As.fits, C.fits, evs, oks, callArgs, A.pure, C.pure, A.re, C.re, fieldAddrA, loadC, cut, A.cells, C.rows?, getOb, newOb, setOb, storeC, splice, Ob.re, Cs.fits, partsA, partsOk, parts2A, parts2Ok, fillC, fillRows, optInt, optOk, sliceA, clipC, optK_some, storeK_some, Option.map_some, toDs, C.toD, spliceD, appendA, capsOf, srcRows, allLen_nil_iff, allLen_cons_iff, allLen_append_iff, dropC, Obs.fits, eqCs, eqD, mapRow, mapPut, mapVal, mapOne, mapCells]
  refine loop_enter (St.le_tokenC 2 3 4 rfl rfl) ?_
  refine loop_set (σ := Nat) (fun i => [(4, .c (.d (.int .i64 i)))]) (fun _ => H) (fun i => [.cells [.d (.int .i64 k), .d (.int .i64 n), .d (.str s), .d (.sl (l.map Tm.row))], .cells [.d (.int .i64 0), .d (.int .i64 0), .d (.str []), .full []], .cells [.d (.int .i64 k), .d (.int .i64 n), .d (.str s), .own (.l 3) i ((l.map Tm.row).take i)], .grow i 4])
    (fun i => i ≤ l.length) (fun i => l.length - i) 0 rfl (Nat.zero_le _) ?_
  intro i hi
  simp -implicitDefEqProofs [setAll, hli, aw_skip, aw_region, aw_seq, aw_block, aw_cond, aw_exit, aw_ret, kq_nil, kq_seq, kq_seq_ret, kq_seq_exit, kq_block, kq_block_ret, kq_block_exit, kq_loop, kq_loop_ret, kq_loop_exit, awOps_nil, awOps_cons, awOps_guardE, nx_eq, awOp, ev_k, ev_0, ev_1, ev_2, ev_3, ev_4, ev_5, ev_6, ev_7, ev_8, set_0, set_1, set_2, set_3, set_4, set_5, set_6, set_7, set_8, -List.set_cons_succ, -List.set_cons_zero, A.ok, A.val, setSl, wrapG, guardB, getB, pickA, binA, binC, binD, cmpD, isCmp, unA, unD, lenA, AOp.total, kills, litB, FinQ, resOks, resOk, resA, resList, resOne, A.thaw, C.thaw, A.fits, As.fits, C.fits, evs, oks, callArgs, A.pure, C.pure, A.re, C.re, fieldAddrA, loadC, cut, A.cells, C.rows?, getOb, newOb, setOb, storeC, splice, Ob.re, Cs.fits, partsA, partsOk, parts2A, parts2Ok, fillC, fillRows, optInt, optOk, sliceA, clipC, optK_some, storeK_some, Option.map_some, toDs, C.toD, spliceD, appendA, capsOf, srcRows, allLen_nil_iff, allLen_cons_iff, allLen_append_iff, dropC, Obs.fits, eqCs, eqD, mapRow, mapPut, mapVal, mapOne, mapCells]
  refine ⟨fun hlt => ?_, fun hge => ?_⟩
  · have hadd : inR .i64 ((i : Int) + 1) := small_i64 (by omega) (by omega)
    refine row_of hlt (row_len _) ?_
    simp -implicitDefEqProofs [row_len, take_row, pure_d, re_d, aw_skip, aw_region, aw_seq, aw_block, aw_cond, aw_exit, aw_ret, kq_nil, kq_seq, kq_seq_ret, kq_seq_exit, kq_block, kq_block_ret, kq_block_exit, kq_loop, kq_loop_ret, kq_loop_exit, awOps_nil, awOps_cons, awOps_guardE, nx_eq, awOp, ev_k, ev_0, ev_1, ev_2, ev_3, ev_4, ev_5, ev_6, ev_7, ev_8, set_0, set_1, set_2, set_3, set_4, set_5, set_6, set_7, set_8, -List.set_cons_succ, -List.set_cons_zero, A.ok, A.val, setSl, wrapG, guardB, getB, pickA, binA, binC, binD, cmpD, isCmp, unA, unD, lenA, AOp.total, kills, litB, FinQ, resOks, resOk, resA, resList, resOne, A.thaw, C.thaw, A.fits, As.fits, C.fits, evs, oks, callArgs, A.pure, C.pure, A.re, C.re, fieldAddrA, loadC, cut, A.cells, C.rows?, getOb, newOb, setOb, storeC, splice, Ob.re, Cs.fits, partsA, partsOk, parts2A, parts2Ok, fillC, fillRows, optInt, optOk, sliceA, clipC, optK_some, storeK_some, Option.map_some, toDs, C.toD, spliceD, appendA, capsOf, srcRows, allLen_nil_iff, allLen_cons_iff, allLen_append_iff, dropC, Obs.fits, eqCs, eqD, mapRow, mapPut, mapVal, mapOne, mapCells]
    refine qcall_pure (copy_calls l[i] (hkids _ (List.getElem_mem hlt))) hf (by simp [A.re, re_d]) ?_
    simp -implicitDefEqProofs [row_len, toDs_map, hadd, hf, Nat.min_eq_left hi, aw_skip, aw_region, aw_seq, aw_block, aw_cond, aw_exit, aw_ret, kq_nil, kq_seq, kq_seq_ret, kq_seq_exit, kq_block, kq_block_ret, kq_block_exit, kq_loop, kq_loop_ret, kq_loop_exit, awOps_nil, awOps_cons, awOps_guardE, nx_eq, awOp, ev_k, ev_0, ev_1, ev_2, ev_3, ev_4, ev_5, ev_6, ev_7, ev_8, set_0, set_1, set_2, set_3, set_4, set_5, set_6, set_7, set_8, -List.set_cons_succ, -List.set_cons_zero, A.ok, A.val, setSl, wrapG, guardB, getB, pickA, binA, binC, binD, cmpD, isCmp, unA, unD, lenA, AOp.total, kills, litB, FinQ, resOks, resOk, resA, resList, resOne, A.thaw, C.thaw, A.fits, As.fits, C.fits, evs, oks, callArgs, A.pure, C.pure, A.re, C.re, fieldAddrA, loadC, cut, A.cells, C.rows?, getOb, newOb, setOb, storeC, splice, Ob.re, Cs.fits, partsA, partsOk, parts2A, parts2Ok, fillC, fillRows, optInt, optOk, sliceA, clipC, optK_some, storeK_some, Option.map_some, toDs, C.toD, spliceD, appendA, capsOf, srcRows, allLen_nil_iff, allLen_cons_iff, allLen_append_iff, dropC, Obs.fits, eqCs, eqD, mapRow, mapPut, mapVal, mapOne, mapCells]
    refine ⟨fun r hr => allLen_map row_len r (List.mem_of_mem_take hr), by unfold maxApp; omega, ?_⟩
    refine loop_back (i + 1) ?_ hlt (by show l.length - (i + 1) < l.length - i; omega)
    simp [setAll, take_map_succ hlt]
  · have hil : i = l.length := by omega
    subst hil
    rw [show (l.map Tm.row).take l.length = l.map Tm.row from List.take_of_length_le (by simp)]
    simp -implicitDefEqProofs [hf, aw_skip, aw_region, aw_seq, aw_block, aw_cond, aw_exit, aw_ret, kq_nil, kq_seq, kq_seq_ret, kq_seq_exit, kq_block, kq_block_ret, kq_block_exit, kq_loop, kq_loop_ret, kq_loop_exit, awOps_nil, awOps_cons, awOps_guardE, nx_eq, awOp, ev_k, ev_0, ev_1, ev_2, ev_3, ev_4, ev_5, ev_6, ev_7, ev_8, set_0, set_1, set_2, set_3, set_4, set_5, set_6, set_7, set_8, -List.set_cons_succ, -List.set_cons_zero, A.ok, A.val, setSl, wrapG, guardB, getB, pickA, binA, binC, binD, cmpD, isCmp, unA, unD, lenA, AOp.total, kills, litB, FinQ, resOks, resOk, resA, resList, resOne, A.thaw, C.thaw, A.fits, As.fits, C.fits, evs, oks, callArgs, A.pure, C.pure, A.re, C.re, fieldAddrA, loadC, cut, A.cells, C.rows?, getOb, newOb, setOb, storeC, splice, Ob.re, Cs.fits, partsA, partsOk, parts2A, parts2Ok, fillC, fillRows, optInt, optOk, sliceA, clipC, optK_some, storeK_some, Option.map_some, toDs, C.toD, spliceD, appendA, capsOf, srcRows, allLen_nil_iff, allLen_cons_iff, allLen_append_iff, dropC, Obs.fits, eqCs, eqD, mapRow, mapPut, mapVal, mapOne, mapCells]
    refine finK_ret _ ⟨trivial, trivial⟩ rfl ?_
    simp [Ob.re, C.re, A.re, Ref.re]
theorem l1Mutate_draws (t : Tm) (ht : t.fits) : Draws 21 [.agg (t.row.map .d)] 2 TmR := fun c p H i hc hp hp1 hi => by
  obtain ⟨k, n, s, l⟩ := t
  refine acalls Try.func21 (by kernel_rfl) ac21_ok fun hf => ?_
  simp only [List.length_set] at hf
  have hf0 : ∀ q, Obs.fits H.length 0 (H.set i (Rd c q)) := fun q => fits_reset (b := Rd c q) hf ⟨trivial, trivial, trivial⟩
  have hf1 : ∀ q, Obs.fits (H.set i (Rd c q)).length 0 (H.set i (Rd c q)) := fun q => by simpa using hf0 q
  have hcopy := copy_own k n s l ht
  obtain ⟨hk, hn, hs, hl, hkids⟩ := ht
  rw [row_mk] at hcopy ⊢
  simp -implicitDefEqProofs [ac21, hf0, aw_skip, aw_region, aw_seq, aw_block, aw_cond, aw_exit, aw_ret, kq_nil, kq_seq, kq_seq_ret, kq_seq_exit, kq_block, kq_block_ret, kq_block_exit, kq_loop, kq_loop_ret, kq_loop_exit, awOps_nil, awOps_cons, awOps_guardE, nx_eq, awOp, ev_k, ev_0, ev_1, ev_2, ev_3, ev_4, ev_5, ev_6, ev_7, ev_8, set_0, set_1, set_2, set_3, set_4, set_5, set_6, set_7, set_8, -List.set_cons_succ, -List.set_cons_zero, A.ok, A.val, setSl, wrapG, guardB, getB, pickA, binA, binC, binD, cmpD, isCmp, unA, unD, lenA, AOp.total, kills, litB, FinQ, resOks, resOk, resA, resList, resOne, A.thaw, C.thaw, A.fits, As.fits, C.fits, evs, oks, callArgs, A.pure, C.pure, A.re, C.re, fieldAddrA, loadC, cut, A.cells, C.rows?, getOb, newOb, setOb, storeC, splice, Ob.re, Cs.fits, partsA, partsOk, parts2A, parts2Ok, fillC, fillRows, optInt, optOk, sliceA, clipC, optK_some, storeK_some, Option.map_some, toDs, C.toD, spliceD, appendA, capsOf, srcRows, allLen_nil_iff, allLen_cons_iff, allLen_append_iff, dropC, Obs.fits, eqCs, eqD, mapRow, mapPut, mapVal, mapOne, mapCells]
  have done : ∀ (t : Tm) (q : Int), p ≤ q → q ≤ p + 2 → t.fits → ∀ r, r = .agg (t.row.map .d) → Drew TmR 2 c p H i r (H.set i (Rd c q)) := fun t q a1 a2 a3 r hr => ⟨⟨t, hr, a3⟩, q, a1, a2, rfl⟩
  refine (hcopy _).mono fun r H' ⟨g1, g2⟩ => ⟨H.set i (Rd c p), [.cells [.d (.int .i64 k), .d (.int .i64 n), .d (.str s), .d (.sl (l.map Tm.row))], .cells [.d (.int .i64 0), .d (.int .i64 0), .d (.str []), .full []], .cells [.d (.int .i64 k), .d (.int .i64 n), .d (.str s), .d (.sl (l.map Tm.row))], .cells [.d (.int .i64 k), .d (.int .i64 n), .d (.str s), .own (.l 5) l.length (l.map Tm.row)], .cells [.d (.int .i64 k), .d (.int .i64 n), .d (.str s), .own (.l 5) l.length (l.map Tm.row)], .grow l.length 4],
    .agg [.d (.int .i64 k), .d (.int .i64 n), .d (.str s), .own (.l 5) l.length (l.map Tm.row)], by rw [g1]; simp [Ob.re, C.re, Ref.re], by simp, by simp, by simpa using hf0 p, by rw [g2]; simp [A.re, C.re, Ref.re], ?_⟩
  clear hcopy
  simp -implicitDefEqProofs [hf0, aw_skip, aw_region, aw_seq, aw_block, aw_cond, aw_exit, aw_ret, kq_nil, kq_seq, kq_seq_ret, kq_seq_exit, kq_block, kq_block_ret, kq_block_exit, kq_loop, kq_loop_ret, kq_loop_exit, awOps_nil, awOps_cons, awOps_guardE, nx_eq, awOp, ev_k, ev_0, ev_1, ev_2, ev_3, ev_4, ev_5, ev_6, ev_7, ev_8, set_0, set_1, set_2, set_3, set_4, set_5, set_6, set_7, set_8, -List.set_cons_succ, -List.set_cons_zero, A.ok, A.val, setSl, wrapG, guardB, getB, pickA, binA, binC, binD, cmpD, isCmp, unA, unD, lenA, AOp.total, kills, litB, FinQ, resOks, resOk, resA, resList, resOne, A.thaw, C.thaw, A.fits, As.fits, C.fits, evs, oks, callArgs, A.pure, C.pure, A.re, C.re, fieldAddrA, loadC, cut, A.cells, C.rows?, getOb, newOb, setOb, storeC, splice, Ob.re, Cs.fits, partsA, partsOk, parts2A, parts2Ok, fillC, fillRows, optInt, optOk, sliceA, clipC, optK_some, storeK_some, Option.map_some, toDs, C.toD, spliceD, appendA, capsOf, srcRows, allLen_nil_iff, allLen_cons_iff, allLen_append_iff, dropC, Obs.fits, eqCs, eqD, mapRow, mapPut, mapVal, mapOne, mapCells]
  refine call_drawE (pick_draws 50 (by omega)) hc (by omega) (by omega) hi (by simp [Ob.re, C.re, Ref.re]) (fun r => IntIn.re) (hf0 _) ?_
  rintro _ p1 ⟨m, rfl, m0, m1⟩ h1 h2
  simp -implicitDefEqProofs [hf0, aw_skip, aw_region, aw_seq, aw_block, aw_cond, aw_exit, aw_ret, kq_nil, kq_seq, kq_seq_ret, kq_seq_exit, kq_block, kq_block_ret, kq_block_exit, kq_loop, kq_loop_ret, kq_loop_exit, awOps_nil, awOps_cons, awOps_guardE, nx_eq, awOp, ev_k, ev_0, ev_1, ev_2, ev_3, ev_4, ev_5, ev_6, ev_7, ev_8, set_0, set_1, set_2, set_3, set_4, set_5, set_6, set_7, set_8, -List.set_cons_succ, -List.set_cons_zero, A.ok, A.val, setSl, wrapG, guardB, getB, pickA, binA, binC, binD, cmpD, isCmp, unA, unD, lenA, AOp.total, kills, litB, FinQ, resOks, resOk, resA, resList, resOne, A.thaw, C.thaw, A.fits, As.fits, C.fits, evs, oks, callArgs, A.pure, C.pure, A.re, C.re, fieldAddrA, loadC, cut, A.cells, C.rows?, getOb, newOb, setOb, storeC, splice, Ob.re, Cs.fits, partsA, partsOk, parts2A, parts2Ok, fillC, fillRows, optInt, optOk, sliceA, clipC, optK_some, storeK_some, Option.map_some, toDs, C.toD, spliceD, appendA, capsOf, srcRows, allLen_nil_iff, allLen_cons_iff, allLen_append_iff, dropC, Obs.fits, eqCs, eqD, mapRow, mapPut, mapVal, mapOne, mapCells]
  refine ⟨fun _ => ?_, fun _ => ⟨fun _ => ?_, fun _ => ⟨fun _ => ?_, fun _ => ⟨fun _ => ?_, fun _ => ⟨fun _ => ?_, fun _ => ?_⟩⟩⟩⟩⟩
  · refine call_drawE (num_draws [0, 4, 1, 2, 3] (by decide)) hc (by omega) (by omega) hi (by simp [Ob.re, C.re]) (fun r ⟨n, _, hn⟩ => by subst hn; rfl) (hf0 _) ?_
    rintro _ p2 ⟨x, hx, rfl⟩ h3 h4
    have hx : -1000 ≤ x ∧ x ≤ 1000 := by simp at hx; omega
    simp -implicitDefEqProofs [hf0, aw_skip, aw_region, aw_seq, aw_block, aw_cond, aw_exit, aw_ret, kq_nil, kq_seq, kq_seq_ret, kq_seq_exit, kq_block, kq_block_ret, kq_block_exit, kq_loop, kq_loop_ret, kq_loop_exit, awOps_nil, awOps_cons, awOps_guardE, nx_eq, awOp, ev_k, ev_0, ev_1, ev_2, ev_3, ev_4, ev_5, ev_6, ev_7, ev_8, set_0, set_1, set_2, set_3, set_4, set_5, set_6, set_7, set_8, -List.set_cons_succ, -List.set_cons_zero, A.ok, A.val, setSl, wrapG, guardB, getB, pickA, binA, binC, binD, cmpD, isCmp, unA, unD, lenA, AOp.total, kills, litB, FinQ, resOks, resOk, resA, resList, resOne, A.thaw, C.thaw, A.fits, As.fits, C.fits, evs, oks, callArgs, A.pure, C.pure, A.re, C.re, fieldAddrA, loadC, cut, A.cells, C.rows?, getOb, newOb, setOb, storeC, splice, Ob.re, Cs.fits, partsA, partsOk, parts2A, parts2Ok, fillC, fillRows, optInt, optOk, sliceA, clipC, optK_some, storeK_some, Option.map_some, toDs, C.toD, spliceD, appendA, capsOf, srcRows, allLen_nil_iff, allLen_cons_iff, allLen_append_iff, dropC, Obs.fits, eqCs, eqD, mapRow, mapPut, mapVal, mapOne, mapCells]
    exact done (.mk x n s l) p2 (by omega) (by omega) (.mk (small_i64 (by omega) (by omega)) hn hs hl hkids) _ (by simp [row_mk])
  · refine call_drawE (num_draws [26, 1000, -1000, -1, 1] (by decide)) hc (by omega) (by omega) hi (by simp [Ob.re, C.re]) (fun r ⟨n, _, hn⟩ => by subst hn; rfl) (hf0 _) ?_
    rintro _ p2 ⟨x, hx, rfl⟩ h3 h4
    have hx : -1000 ≤ x ∧ x ≤ 1000 := by simp at hx; omega
    simp -implicitDefEqProofs [hf0, aw_skip, aw_region, aw_seq, aw_block, aw_cond, aw_exit, aw_ret, kq_nil, kq_seq, kq_seq_ret, kq_seq_exit, kq_block, kq_block_ret, kq_block_exit, kq_loop, kq_loop_ret, kq_loop_exit, awOps_nil, awOps_cons, awOps_guardE, nx_eq, awOp, ev_k, ev_0, ev_1, ev_2, ev_3, ev_4, ev_5, ev_6, ev_7, ev_8, set_0, set_1, set_2, set_3, set_4, set_5, set_6, set_7, set_8, -List.set_cons_succ, -List.set_cons_zero, A.ok, A.val, setSl, wrapG, guardB, getB, pickA, binA, binC, binD, cmpD, isCmp, unA, unD, lenA, AOp.total, kills, litB, FinQ, resOks, resOk, resA, resList, resOne, A.thaw, C.thaw, A.fits, As.fits, C.fits, evs, oks, callArgs, A.pure, C.pure, A.re, C.re, fieldAddrA, loadC, cut, A.cells, C.rows?, getOb, newOb, setOb, storeC, splice, Ob.re, Cs.fits, partsA, partsOk, parts2A, parts2Ok, fillC, fillRows, optInt, optOk, sliceA, clipC, optK_some, storeK_some, Option.map_some, toDs, C.toD, spliceD, appendA, capsOf, srcRows, allLen_nil_iff, allLen_cons_iff, allLen_append_iff, dropC, Obs.fits, eqCs, eqD, mapRow, mapPut, mapVal, mapOne, mapCells]
    exact done (.mk k x s l) p2 (by omega) (by omega) (.mk hk (small_i64 (by omega) (by omega)) hs hl hkids) _ (by simp [row_mk])
  · refine call_drawE (of_draws [[], [88], [116, 111, 111, 108, 111, 110, 103], [195, 169], [97]] (by decide)) hc (by omega) (by omega) hi (by simp [Ob.re, C.re]) (fun r ⟨n, _, hn⟩ => by subst hn; rfl) (hf0 _) ?_
    rintro _ p2 ⟨x, hx, rfl⟩ h3 h4
    have hx : x.length ≤ 1000 := by simp at hx; rcases hx with rfl | rfl | rfl | rfl | rfl <;> decide
    simp -implicitDefEqProofs [hf0, aw_skip, aw_region, aw_seq, aw_block, aw_cond, aw_exit, aw_ret, kq_nil, kq_seq, kq_seq_ret, kq_seq_exit, kq_block, kq_block_ret, kq_block_exit, kq_loop, kq_loop_ret, kq_loop_exit, awOps_nil, awOps_cons, awOps_guardE, nx_eq, awOp, ev_k, ev_0, ev_1, ev_2, ev_3, ev_4, ev_5, ev_6, ev_7, ev_8, set_0, set_1, set_2, set_3, set_4, set_5, set_6, set_7, set_8, -List.set_cons_succ, -List.set_cons_zero, A.ok, A.val, setSl, wrapG, guardB, getB, pickA, binA, binC, binD, cmpD, isCmp, unA, unD, lenA, AOp.total, kills, litB, FinQ, resOks, resOk, resA, resList, resOne, A.thaw, C.thaw, A.fits, As.fits, C.fits, evs, oks, callArgs, A.pure, C.pure, A.re, C.re, fieldAddrA, loadC, cut, A.cells, C.rows?, getOb, newOb, setOb, storeC, splice, Ob.re, Cs.fits, partsA, partsOk, parts2A, parts2Ok, fillC, fillRows, optInt, optOk, sliceA, clipC, optK_some, storeK_some, Option.map_some, toDs, C.toD, spliceD, appendA, capsOf, srcRows, allLen_nil_iff, allLen_cons_iff, allLen_append_iff, dropC, Obs.fits, eqCs, eqD, mapRow, mapPut, mapVal, mapOne, mapCells]
    exact done (.mk k n x l) p2 (by omega) (by omega) (.mk hk hn (by omega) hl hkids) _ (by simp [row_mk])
  · refine loop_set (σ := List Tm) (fun _ => []) (fun _ => H.set i (Rd c p1)) (fun y => [.cells [.d (.int .i64 k), .d (.int .i64 n), .d (.str s), .d (.sl (l.map Tm.row))], .cells [.d (.int .i64 0), .d (.int .i64 0), .d (.str []), .full []], .cells [.d (.int .i64 k), .d (.int .i64 n), .d (.str s), .d (.sl (l.map Tm.row))], .cells [.d (.int .i64 k), .d (.int .i64 n), .d (.str s), .own (.l 5) l.length (l.map Tm.row)], .cells [.d (.int .i64 k), .d (.int .i64 n), .d (.str s), .own (.l 5) l.length (l.map Tm.row)], .grow y.length 4, .cells [.d (.int .i64 k), .d (.int .i64 n), .d (.str s), .own (.l 5) y.length (y.map Tm.row)]])
      (fun y => y.length ≤ 1048576 ∧ ∀ t ∈ y, t.fits) (fun y => 5 - y.length) l rfl ⟨hl, hkids⟩ ?_
    rintro y ⟨hy, hyf⟩
    have hly : inR .i64 (y.length : Int) := small_i64 (by omega) (by omega)
    simp -implicitDefEqProofs [setAll, hf0, hly, aw_skip, aw_region, aw_seq, aw_block, aw_cond, aw_exit, aw_ret, kq_nil, kq_seq, kq_seq_ret, kq_seq_exit, kq_block, kq_block_ret, kq_block_exit, kq_loop, kq_loop_ret, kq_loop_exit, awOps_nil, awOps_cons, awOps_guardE, nx_eq, awOp, ev_k, ev_0, ev_1, ev_2, ev_3, ev_4, ev_5, ev_6, ev_7, ev_8, set_0, set_1, set_2, set_3, set_4, set_5, set_6, set_7, set_8, -List.set_cons_succ, -List.set_cons_zero, A.ok, A.val, setSl, wrapG, guardB, getB, pickA, binA, binC, binD, cmpD, isCmp, unA, unD, lenA, AOp.total, kills, litB, FinQ, resOks, resOk, resA, resList, resOne, A.thaw, C.thaw, A.fits, As.fits, C.fits, evs, oks, callArgs, A.pure, C.pure, A.re, C.re, fieldAddrA, loadC, cut, A.cells, C.rows?, getOb, newOb, setOb, storeC, splice, Ob.re, Cs.fits, partsA, partsOk, parts2A, parts2Ok, fillC, fillRows, optInt, optOk, sliceA, clipC, optK_some, storeK_some, Option.map_some, toDs, C.toD, spliceD, appendA, capsOf, srcRows, allLen_nil_iff, allLen_cons_iff, allLen_append_iff, dropC, Obs.fits, eqCs, eqD, mapRow, mapPut, mapVal, mapOne, mapCells]
    refine ⟨fun hlt => ?_, fun hge => ?_⟩
    · refine qcall_pure (int_calls 1) (hf1 _) (by simp [A.re, re_d]) ?_
      simp -implicitDefEqProofs [hf0, row_mk, aw_skip, aw_region, aw_seq, aw_block, aw_cond, aw_exit, aw_ret, kq_nil, kq_seq, kq_seq_ret, kq_seq_exit, kq_block, kq_block_ret, kq_block_exit, kq_loop, kq_loop_ret, kq_loop_exit, awOps_nil, awOps_cons, awOps_guardE, nx_eq, awOp, ev_k, ev_0, ev_1, ev_2, ev_3, ev_4, ev_5, ev_6, ev_7, ev_8, set_0, set_1, set_2, set_3, set_4, set_5, set_6, set_7, set_8, -List.set_cons_succ, -List.set_cons_zero, A.ok, A.val, setSl, wrapG, guardB, getB, pickA, binA, binC, binD, cmpD, isCmp, unA, unD, lenA, AOp.total, kills, litB, FinQ, resOks, resOk, resA, resList, resOne, A.thaw, C.thaw, A.fits, As.fits, C.fits, evs, oks, callArgs, A.pure, C.pure, A.re, C.re, fieldAddrA, loadC, cut, A.cells, C.rows?, getOb, newOb, setOb, storeC, splice, Ob.re, Cs.fits, partsA, partsOk, parts2A, parts2Ok, fillC, fillRows, optInt, optOk, sliceA, clipC, optK_some, storeK_some, Option.map_some, toDs, C.toD, spliceD, appendA, capsOf, srcRows, allLen_nil_iff, allLen_cons_iff, allLen_append_iff, dropC, Obs.fits, eqCs, eqD, mapRow, mapPut, mapVal, mapOne, mapCells]
      refine ⟨allLen_map row_len, by unfold maxApp; omega, ?_⟩
      refine loop_back (y ++ [Tm.mk 2 1 [] []]) (by simp [setAll, row_mk]) ⟨by simp; omega, fun t ht => ?_⟩ (by show 5 - (y ++ [Tm.mk 2 1 [] []]).length < 5 - y.length; simp; omega)
      rcases List.mem_append.1 ht with ht | ht
      · exact hyf t ht
      · simp at ht; subst ht; exact .mk (small_i64 (by omega) (by omega)) (small_i64 (by omega) (by omega)) (by simp) (by simp) (by simp)
    · exact done (.mk k n s y) p1 (by omega) (by omega) (.mk hk hn hs hy hyf) _ (by simp [row_mk])
  · refine loop_set (σ := Nat × Tm) (fun x => [(6, .c (.d (.int .i64 x.1)))]) (fun _ => H.set i (Rd c p1)) (fun x => [.cells [.d (.int .i64 k), .d (.int .i64 n), .d (.str s), .d (.sl (l.map Tm.row))], .cells [.d (.int .i64 0), .d (.int .i64 0), .d (.str []), .full []], .cells [.d (.int .i64 k), .d (.int .i64 n), .d (.str s), .d (.sl (l.map Tm.row))], .cells [.d (.int .i64 k), .d (.int .i64 n), .d (.str s), .own (.l 5) l.length (l.map Tm.row)], .cells [.d (.int .i64 k), .d (.int .i64 n), .d (.str s), .own (.l 5) l.length (l.map Tm.row)], .grow l.length 4, .cells (if x.1 = 0 then [.d (.int .i64 k), .d (.int .i64 n), .d (.str s), .own (.l 5) l.length (l.map Tm.row)] else x.2.row.map .d)])
      (fun x => x.1 ≤ 30 ∧ x.2.fits ∧ (x.1 = 0 → x.2 = .mk k n s l)) (fun x => 30 - x.1) (0, Tm.mk k n s l) rfl ⟨by omega, .mk hk hn hs hl hkids, fun _ => rfl⟩ ?_
    rintro ⟨j, u⟩ ⟨hj, hu, hj0⟩
    simp only at hj hu hj0
    have hadd : inR .i64 ((j : Int) + 1) := small_i64 (by omega) (by omega)
    have hone : (Tm.mk 3 0 [115] [u]).fits := .mk (small_i64 (by omega) (by omega)) (small_i64 (by omega) (by omega)) (by simp) (by simp) (by simpa using hu)
    have hst := struct_calls [115] [u] (by simp)
    simp only [List.map_cons, List.map_nil] at hst
    by_cases hz : j = 0
    · subst hz
      have hu := hj0 rfl
      subst hu
      have h1 : inR .i64 1 := small_i64 (by omega) (by omega)
      simp -implicitDefEqProofs [setAll, hf0, aw_skip, aw_region, aw_seq, aw_block, aw_cond, aw_exit, aw_ret, kq_nil, kq_seq, kq_seq_ret, kq_seq_exit, kq_block, kq_block_ret, kq_block_exit, kq_loop, kq_loop_ret, kq_loop_exit, awOps_nil, awOps_cons, awOps_guardE, nx_eq, awOp, ev_k, ev_0, ev_1, ev_2, ev_3, ev_4, ev_5, ev_6, ev_7, ev_8, set_0, set_1, set_2, set_3, set_4, set_5, set_6, set_7, set_8, -List.set_cons_succ, -List.set_cons_zero, A.ok, A.val, setSl, wrapG, guardB, getB, pickA, binA, binC, binD, cmpD, isCmp, unA, unD, lenA, AOp.total, kills, litB, FinQ, resOks, resOk, resA, resList, resOne, A.thaw, C.thaw, A.fits, As.fits, C.fits, evs, oks, callArgs, A.pure, C.pure, A.re, C.re, fieldAddrA, loadC, cut, A.cells, C.rows?, getOb, newOb, setOb, storeC, splice, Ob.re, Cs.fits, partsA, partsOk, parts2A, parts2Ok, fillC, fillRows, optInt, optOk, sliceA, clipC, optK_some, storeK_some, Option.map_some, toDs, C.toD, spliceD, appendA, capsOf, srcRows, allLen_nil_iff, allLen_cons_iff, allLen_append_iff, dropC, Obs.fits, eqCs, eqD, mapRow, mapPut, mapVal, mapOne, mapCells]
      rw [row_mk] at hst
      refine qcall_pure hst (hf1 _) (by simp [A.re, re_d]) ?_
      simp -implicitDefEqProofs [hf0, h1, row_len, take_row, aw_skip, aw_region, aw_seq, aw_block, aw_cond, aw_exit, aw_ret, kq_nil, kq_seq, kq_seq_ret, kq_seq_exit, kq_block, kq_block_ret, kq_block_exit, kq_loop, kq_loop_ret, kq_loop_exit, awOps_nil, awOps_cons, awOps_guardE, nx_eq, awOp, ev_k, ev_0, ev_1, ev_2, ev_3, ev_4, ev_5, ev_6, ev_7, ev_8, set_0, set_1, set_2, set_3, set_4, set_5, set_6, set_7, set_8, -List.set_cons_succ, -List.set_cons_zero, A.ok, A.val, setSl, wrapG, guardB, getB, pickA, binA, binC, binD, cmpD, isCmp, unA, unD, lenA, AOp.total, kills, litB, FinQ, resOks, resOk, resA, resList, resOne, A.thaw, C.thaw, A.fits, As.fits, C.fits, evs, oks, callArgs, A.pure, C.pure, A.re, C.re, fieldAddrA, loadC, cut, A.cells, C.rows?, getOb, newOb, setOb, storeC, splice, Ob.re, Cs.fits, partsA, partsOk, parts2A, parts2Ok, fillC, fillRows, optInt, optOk, sliceA, clipC, optK_some, storeK_some, Option.map_some, toDs, C.toD, spliceD, appendA, capsOf, srcRows, allLen_nil_iff, allLen_cons_iff, allLen_append_iff, dropC, Obs.fits, eqCs, eqD, mapRow, mapPut, mapVal, mapOne, mapCells]
      exact loop_back (1, Tm.mk 3 0 [115] [Tm.mk k n s l]) (by simp [setAll]) ⟨by simp, hone, fun h => by simp at h⟩ (by show 30 - 1 < 30 - 0; omega)
    · simp -implicitDefEqProofs [setAll, hf0, hz, hadd, row_len, take_row, toDs_map, aw_skip, aw_region, aw_seq, aw_block, aw_cond, aw_exit, aw_ret, kq_nil, kq_seq, kq_seq_ret, kq_seq_exit, kq_block, kq_block_ret, kq_block_exit, kq_loop, kq_loop_ret, kq_loop_exit, awOps_nil, awOps_cons, awOps_guardE, nx_eq, awOp, ev_k, ev_0, ev_1, ev_2, ev_3, ev_4, ev_5, ev_6, ev_7, ev_8, set_0, set_1, set_2, set_3, set_4, set_5, set_6, set_7, set_8, -List.set_cons_succ, -List.set_cons_zero, A.ok, A.val, setSl, wrapG, guardB, getB, pickA, binA, binC, binD, cmpD, isCmp, unA, unD, lenA, AOp.total, kills, litB, FinQ, resOks, resOk, resA, resList, resOne, A.thaw, C.thaw, A.fits, As.fits, C.fits, evs, oks, callArgs, A.pure, C.pure, A.re, C.re, fieldAddrA, loadC, cut, A.cells, C.rows?, getOb, newOb, setOb, storeC, splice, Ob.re, Cs.fits, partsA, partsOk, parts2A, parts2Ok, fillC, fillRows, optInt, optOk, sliceA, clipC, optK_some, storeK_some, Option.map_some, toDs, C.toD, spliceD, appendA, capsOf, srcRows, allLen_nil_iff, allLen_cons_iff, allLen_append_iff, dropC, Obs.fits, eqCs, eqD, mapRow, mapPut, mapVal, mapOne, mapCells]
      refine ⟨fun hlt => ?_, fun hge => ?_⟩
      · refine qcall_pure hst (hf1 _) (by simp [A.re, re_d, row_len]) ?_
        simp -implicitDefEqProofs [hf0, hadd, row_len, take_row, aw_skip, aw_region, aw_seq, aw_block, aw_cond, aw_exit, aw_ret, kq_nil, kq_seq, kq_seq_ret, kq_seq_exit, kq_block, kq_block_ret, kq_block_exit, kq_loop, kq_loop_ret, kq_loop_exit, awOps_nil, awOps_cons, awOps_guardE, nx_eq, awOp, ev_k, ev_0, ev_1, ev_2, ev_3, ev_4, ev_5, ev_6, ev_7, ev_8, set_0, set_1, set_2, set_3, set_4, set_5, set_6, set_7, set_8, -List.set_cons_succ, -List.set_cons_zero, A.ok, A.val, setSl, wrapG, guardB, getB, pickA, binA, binC, binD, cmpD, isCmp, unA, unD, lenA, AOp.total, kills, litB, FinQ, resOks, resOk, resA, resList, resOne, A.thaw, C.thaw, A.fits, As.fits, C.fits, evs, oks, callArgs, A.pure, C.pure, A.re, C.re, fieldAddrA, loadC, cut, A.cells, C.rows?, getOb, newOb, setOb, storeC, splice, Ob.re, Cs.fits, partsA, partsOk, parts2A, parts2Ok, fillC, fillRows, optInt, optOk, sliceA, clipC, optK_some, storeK_some, Option.map_some, toDs, C.toD, spliceD, appendA, capsOf, srcRows, allLen_nil_iff, allLen_cons_iff, allLen_append_iff, dropC, Obs.fits, eqCs, eqD, mapRow, mapPut, mapVal, mapOne, mapCells]
        exact loop_back (j + 1, Tm.mk 3 0 [115] [u]) (by simp [setAll, row_len]) ⟨by show j + 1 ≤ 30; omega, hone, fun h => by simp at h⟩ (by show 30 - (j + 1) < 30 - j; omega)
      · simp [thaw_d, fits_map]
        exact done u p1 (by omega) (by omega) hu _ rfl
  · exact done (.mk k n s l) p1 (by omega) (by omega) (.mk hk hn hs hl hkids) _ (by simp [row_mk])
end Go.Proofs.Ytddahocmlbnlfaa
