/-
  impl.EncodeAll: the bytes that it hands out stand in an array of their own.
  Conditions: none.
-/
import Derived.Test.YtamaaiabbganjaaEncW
import Derived.Test.YtamaaiabbganjaaFrHa
open Go Go.AM Go.Proofs
namespace Go.Proofs.Ytamaaiabbganjaa
open Go.ChangeShapes Go.WideShapes Go.ChangeAt Go.RowKit
set_option linter.unusedVariables false
set_option linter.unusedSimpArgs false
set_option maxRecDepth 100000
namespace Own
-- 18 loop.example/prologserver/impl.EncodeAll params 1 ntmps 22
-- loop head live: [3, 6, 7, 8]
def ac18 : Cd := .seq (.region [⟨(some 2), .mv (.k (.c (.full []))), none⟩] [2])
  (.seq (.region [⟨(some 3), .mv (.k (.c (.full []))), none⟩] [])
  (.seq (.seq (.region [⟨(some 6), .mv (.t 0), none⟩,
        ⟨(some 7), .len 1 (.t 6), none⟩,
        ⟨(some 8), .mv (.k (.c (.d (.int .i64 0)))), none⟩] [0])
    (.block 0 (.loop (.seq (.region [⟨(some 9), .bin .lss (.t 8) (.t 7), none⟩] [])
        (.seq (.cond (.t 9)
            (.skip)
            (.exit 0))
        (.seq (.block 1 (.seq (.region [⟨(some 10), .indexAddr 2 (.t 6) (.t 8), none⟩,
                ⟨(some 11), .load (some 2) (.t 10), none⟩,
                ⟨(some 5), .alloc [(.d (.int .i64 0)), (.d (.str []))], none⟩,
                ⟨none, .store 2 (.t 5) (.t 11), none⟩] [9, 10, 11])
            (.seq (.seq (.region [⟨(some 12), .load (some 2) (.t 5), none⟩,
                  ⟨(some 13), .qcall 39 [(.t 12)], none⟩,
                  ⟨(some 14), .un .not (.t 13), none⟩] [12, 13])
              (.cond (.t 14)
                (.seq (.region [⟨(some 2), .mv (.k (.c (.full []))), none⟩] [3, 5, 6, 7, 8, 14])
                (.ret))
                (.skip)))
            (.region [⟨(some 15), .mv (.t 3), none⟩,
              ⟨(some 16), .load (some 2) (.t 5), none⟩,
              ⟨(some 17), .qcall 41 [(.t 16)], none⟩,
              ⟨(some 18), .append false 1 (.t 15) (.t 17), none⟩,
              ⟨(some 3), .mv (.t 18), none⟩] [2, 5, 14, 15, 16, 17, 18]))))
        (.region [⟨(some 19), .bin .add (.t 8) (.k (.c (.d (.int .i64 1)))), none⟩,
          ⟨(some 8), .mv (.t 19), none⟩] [19])))))))
  (.seq (.region [⟨(some 20), .mv (.t 3), none⟩,
      ⟨(some 21), .call true 40 [(.t 20)], none⟩,
      ⟨(some 2), .mv (.t 21), none⟩] [3, 20, 21])
  (.ret))))
theorem ac18_ok : cFunc Try.prog [1000039, 40, 1000041] [(0, [2], []), (1, [], []), (2, [0], []), (3, [], []), (4, [9, 10, 11], []), (5, [12, 13], []), (6, [3, 5, 6, 7, 8, 14], []), (7, [2, 5, 14, 15, 16, 17, 18], []), (8, [19], []), (9, [3, 20, 21], [])] Try.f18 = some (ac18, [.tmp 2], 22) := by kernel_rfl
end Own
theorem encAllOwn_calls (l : List Frame) (hl : l.length ≤ 1048576) (hs : ∀ f ∈ l, f.s.length ≤ reachBytes) : ACalls Try.prog 18 [.c (.d (.sl (l.map Frame.row)))] [] (HandsBytes (encAll l)) := by
  refine acallsT Try.func18 (by kernel_rfl) Own.ac18_ok ?_
  have hli : inR .i64 (l.length : Int) := small_i64 (by omega) (by omega)
  simp -implicitDefEqProofs [Own.ac18, hli, aw_skip, aw_region, aw_seq, aw_block, aw_cond, aw_exit, aw_ret, kq_nil, kq_seq, kq_seq_ret, kq_seq_exit, kq_block, kq_block_ret, kq_block_exit, kq_loop, kq_loop_ret, kq_loop_exit, awOps_nil, awOps_cons, awOps_guardE, nx_eq, awOp, ev_k, ev_0, ev_1, ev_2, ev_3, ev_4, ev_5, ev_6, ev_7, ev_8, set_0, set_1, set_2, set_3, set_4, set_5, set_6, set_7, set_8, -List.set_cons_succ, -List.set_cons_zero, A.ok, A.val, setSl, wrapG, guardB, getB, pickA, binA, binC, binD, cmpD, isCmp, unA, unD, lenA, AOp.total, kills, litB, FinQ, resOks, resOk, resA, resList, resOne, A.thaw, C.thaw, A.fits, As.fits, C.fits, evs, oks, callArgs, A.pure, C.pure, A.re, C.re, fieldAddrA, loadC, cut, A.cells, C.rows?, getOb, newOb, setOb, storeC, splice, Ob.re, Cs.fits, partsA, partsOk, parts2A, parts2Ok, fillC, fillRows, optInt, optOk, sliceA, clipC, optK_some, storeK_some, Option.map_some, toDs, C.toD, spliceD, appendA, capsOf, srcRows, allLen_nil_iff, allLen_cons_iff, allLen_append_iff, dropC, Obs.fits, eqCs, eqD]
  refine loop_enter (St.le_token 3 1 rfl) ?_
  refine loop_set (σ := Nat) (fun i => [(8, .c (.d (.int .i64 i))), (3, .c (.own (.l 0) (cat (l.take i)).length (bytesRows (cat (l.take i)))))]) (fun _ => []) (fun i => [.grow (cat (l.take i)).length 1]) (fun i => i ≤ l.length ∧ ∀ f ∈ l.take i, f.ok = true) (fun i => l.length - i) 0 rfl ⟨Nat.zero_le _, by simp⟩ ?_
  rintro i ⟨hi, hall⟩
  have hcl := cat_len (l.take i) hall
  have htl : (l.take i).length = i := by simp; omega
  rw [htl] at hcl
  simp -implicitDefEqProofs [setAll, hli, aw_skip, aw_region, aw_seq, aw_block, aw_cond, aw_exit, aw_ret, kq_nil, kq_seq, kq_seq_ret, kq_seq_exit, kq_block, kq_block_ret, kq_block_exit, kq_loop, kq_loop_ret, kq_loop_exit, awOps_nil, awOps_cons, awOps_guardE, nx_eq, awOp, ev_k, ev_0, ev_1, ev_2, ev_3, ev_4, ev_5, ev_6, ev_7, ev_8, set_0, set_1, set_2, set_3, set_4, set_5, set_6, set_7, set_8, -List.set_cons_succ, -List.set_cons_zero, A.ok, A.val, setSl, wrapG, guardB, getB, pickA, binA, binC, binD, cmpD, isCmp, unA, unD, lenA, AOp.total, kills, litB, FinQ, resOks, resOk, resA, resList, resOne, A.thaw, C.thaw, A.fits, As.fits, C.fits, evs, oks, callArgs, A.pure, C.pure, A.re, C.re, fieldAddrA, loadC, cut, A.cells, C.rows?, getOb, newOb, setOb, storeC, splice, Ob.re, Cs.fits, partsA, partsOk, parts2A, parts2Ok, fillC, fillRows, optInt, optOk, sliceA, clipC, optK_some, storeK_some, Option.map_some, toDs, C.toD, spliceD, appendA, capsOf, srcRows, allLen_nil_iff, allLen_cons_iff, allLen_append_iff, dropC, Obs.fits, eqCs, eqD]
  refine ⟨fun hlt => ?_, fun hge => ?_⟩
  · refine row_of hlt rfl ?_
    simp -implicitDefEqProofs [Frame.row, aw_skip, aw_region, aw_seq, aw_block, aw_cond, aw_exit, aw_ret, kq_nil, kq_seq, kq_seq_ret, kq_seq_exit, kq_block, kq_block_ret, kq_block_exit, kq_loop, kq_loop_ret, kq_loop_exit, awOps_nil, awOps_cons, awOps_guardE, nx_eq, awOp, ev_k, ev_0, ev_1, ev_2, ev_3, ev_4, ev_5, ev_6, ev_7, ev_8, set_0, set_1, set_2, set_3, set_4, set_5, set_6, set_7, set_8, -List.set_cons_succ, -List.set_cons_zero, A.ok, A.val, setSl, wrapG, guardB, getB, pickA, binA, binC, binD, cmpD, isCmp, unA, unD, lenA, AOp.total, kills, litB, FinQ, resOks, resOk, resA, resList, resOne, A.thaw, C.thaw, A.fits, As.fits, C.fits, evs, oks, callArgs, A.pure, C.pure, A.re, C.re, fieldAddrA, loadC, cut, A.cells, C.rows?, getOb, newOb, setOb, storeC, splice, Ob.re, Cs.fits, partsA, partsOk, parts2A, parts2Ok, fillC, fillRows, optInt, optOk, sliceA, clipC, optK_some, storeK_some, Option.map_some, toDs, C.toD, spliceD, appendA, capsOf, srcRows, allLen_nil_iff, allLen_cons_iff, allLen_append_iff, dropC, Obs.fits, eqCs, eqD]
    refine qcall_pure (fvImpl_calls l[i] (hs _ (List.getElem_mem hlt))) trivial rfl ?_
    have hadd : inR .i64 ((i : Int) + 1) := small_i64 (by omega) (by omega)
    simp -implicitDefEqProofs [Frame.row, aw_skip, aw_region, aw_seq, aw_block, aw_cond, aw_exit, aw_ret, kq_nil, kq_seq, kq_seq_ret, kq_seq_exit, kq_block, kq_block_ret, kq_block_exit, kq_loop, kq_loop_ret, kq_loop_exit, awOps_nil, awOps_cons, awOps_guardE, nx_eq, awOp, ev_k, ev_0, ev_1, ev_2, ev_3, ev_4, ev_5, ev_6, ev_7, ev_8, set_0, set_1, set_2, set_3, set_4, set_5, set_6, set_7, set_8, -List.set_cons_succ, -List.set_cons_zero, A.ok, A.val, setSl, wrapG, guardB, getB, pickA, binA, binC, binD, cmpD, isCmp, unA, unD, lenA, AOp.total, kills, litB, FinQ, resOks, resOk, resA, resList, resOne, A.thaw, C.thaw, A.fits, As.fits, C.fits, evs, oks, callArgs, A.pure, C.pure, A.re, C.re, fieldAddrA, loadC, cut, A.cells, C.rows?, getOb, newOb, setOb, storeC, splice, Ob.re, Cs.fits, partsA, partsOk, parts2A, parts2Ok, fillC, fillRows, optInt, optOk, sliceA, clipC, optK_some, storeK_some, Option.map_some, toDs, C.toD, spliceD, appendA, capsOf, srcRows, allLen_nil_iff, allLen_cons_iff, allLen_append_iff, dropC, Obs.fits, eqCs, eqD]
    refine ⟨fun hno => ?_, fun hok => ?_⟩
    · have : encAll l = [] := by
        rw [encAll, if_neg]
        simp only [List.all_eq_true]
        exact fun h => by have := h _ (List.getElem_mem hlt); simp [hno] at this
      rw [this]
      exact finT_ret _ ⟨trivial, trivial⟩ rfl fun kv => ⟨_, _, _, .one (.c .full), by simp, _, rfl, rfl⟩
    · refine qcall_pure (encImpl_calls l[i] hok) trivial rfl ?_
      have hbl := bytes_len l[i]
      have ho := ok_spec hok
      have hne : bytesRows l[i].bytes ≠ [] := by simp [bytesRows, Frame.bytes]
      simp -implicitDefEqProofs [hadd, bytesRows_len, allLen_bytes, append_bytes, posF_ne _ _ hne, aw_skip, aw_region, aw_seq, aw_block, aw_cond, aw_exit, aw_ret, kq_nil, kq_seq, kq_seq_ret, kq_seq_exit, kq_block, kq_block_ret, kq_block_exit, kq_loop, kq_loop_ret, kq_loop_exit, awOps_nil, awOps_cons, awOps_guardE, nx_eq, awOp, ev_k, ev_0, ev_1, ev_2, ev_3, ev_4, ev_5, ev_6, ev_7, ev_8, set_0, set_1, set_2, set_3, set_4, set_5, set_6, set_7, set_8, -List.set_cons_succ, -List.set_cons_zero, A.ok, A.val, setSl, wrapG, guardB, getB, pickA, binA, binC, binD, cmpD, isCmp, unA, unD, lenA, AOp.total, kills, litB, FinQ, resOks, resOk, resA, resList, resOne, A.thaw, C.thaw, A.fits, As.fits, C.fits, evs, oks, callArgs, A.pure, C.pure, A.re, C.re, fieldAddrA, loadC, cut, A.cells, C.rows?, getOb, newOb, setOb, storeC, splice, Ob.re, Cs.fits, partsA, partsOk, parts2A, parts2Ok, fillC, fillRows, optInt, optOk, sliceA, clipC, optK_some, storeK_some, Option.map_some, toDs, C.toD, spliceD, appendA, capsOf, srcRows, allLen_nil_iff, allLen_cons_iff, allLen_append_iff, dropC, Obs.fits, eqCs, eqD]
      refine ⟨by unfold maxApp; omega, ?_⟩
      have hcs := cat_succ l hlt
      refine loop_less (i + 1) (St.le_cut [_] ?_ (by simp [Sl.le, A.le_refl_iff, A.le_u_iff, As.lo, A.lo, C.lo, Ref.lo, Cs.lo, Obs.lo, Ob.lo, setAll, and_true, true_and, List.length_nil, List.length_cons]) (by simp only [hcs, List.length_append]; rfl) ⟨trivial, trivial⟩) ⟨hlt, take_ok hlt hall hok⟩ (by show l.length - (i + 1) < l.length - i; omega)
      simp [hcs, Sl.le, A.le_refl_iff, A.le_u_iff, As.lo, A.lo, C.lo, Ref.lo, Cs.lo, Obs.lo, Ob.lo, setAll, and_true, true_and, List.length_nil, List.length_cons]
  · have hil : i = l.length := by omega
    subst hil
    rw [List.take_length] at hall hcl ⊢
    have : encAll l = cat l := by rw [encAll, if_pos (List.all_eq_true.2 hall)]
    refine (clipOwn_calls (cat l) (by omega) 0 _ _).mono fun r H' ⟨h1, h2⟩ => ⟨[], [.grow (cat l).length 1], .c (.own (.l 0) (cat l).length (bytesRows (cat l))), by rw [h1]; simp [Ob.re], rfl, by simp, trivial, by rw [h2]; simp [A.re, C.re, Ref.re], ?_⟩
    simp -implicitDefEqProofs [aw_skip, aw_region, aw_seq, aw_block, aw_cond, aw_exit, aw_ret, kq_nil, kq_seq, kq_seq_ret, kq_seq_exit, kq_block, kq_block_ret, kq_block_exit, kq_loop, kq_loop_ret, kq_loop_exit, awOps_nil, awOps_cons, awOps_guardE, nx_eq, awOp, ev_k, ev_0, ev_1, ev_2, ev_3, ev_4, ev_5, ev_6, ev_7, ev_8, set_0, set_1, set_2, set_3, set_4, set_5, set_6, set_7, set_8, -List.set_cons_succ, -List.set_cons_zero, A.ok, A.val, setSl, wrapG, guardB, getB, pickA, binA, binC, binD, cmpD, isCmp, unA, unD, lenA, AOp.total, kills, litB, FinQ, resOks, resOk, resA, resList, resOne, A.thaw, C.thaw, A.fits, As.fits, C.fits, evs, oks, callArgs, A.pure, C.pure, A.re, C.re, fieldAddrA, loadC, cut, A.cells, C.rows?, getOb, newOb, setOb, storeC, splice, Ob.re, Cs.fits, partsA, partsOk, parts2A, parts2Ok, fillC, fillRows, optInt, optOk, sliceA, clipC, optK_some, storeK_some, Option.map_some, toDs, C.toD, spliceD, appendA, capsOf, srcRows, allLen_nil_iff, allLen_cons_iff, allLen_append_iff, dropC, Obs.fits, eqCs, eqD]
    refine finT_ret _ ⟨trivial, trivial⟩ rfl fun kv => ⟨_, _, _, .one (.c (.own (js := []) rfl (by simp [bytesRows_len]) ((strip_flat (flat_bytes _)).2 ⟨rfl, rfl⟩) rfl (fun m hm => by simp at hm))), by simp, ?_⟩
    exact ⟨_, rfl, by simp [this]⟩
end Go.Proofs.Ytamaaiabbganjaa
