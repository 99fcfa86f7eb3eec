/-
  impl.DecodeAll: the frames of bytes.
  Conditions: none.
-/
import Derived.Test.YtamaaiabbganjaaFrM
open Go Go.AM Go.Proofs
namespace Go.Proofs.Ytamaaiabbganjaa
open Go.ChangeShapes Go.WideShapes Go.ChangeAt Go.RowKit
set_option linter.unusedVariables false
set_option linter.unusedSimpArgs false
set_option maxRecDepth 100000
-- 23 loop.example/prologserver/impl.DecodeAll params 1 ntmps 21
def ac23 : Cd := .seq (.region [⟨(some 2), .mv (.k (.c (.full []))), none⟩,
      ⟨(some 3), .mv (.k (.c (.d (.bool false)))), none⟩] [2, 3])
  (.seq (.region [⟨(some 7), .build [(.full []), (.d (.bool false))] [], none⟩,
      ⟨(some 8), .mv (.t 0), none⟩,
      ⟨(some 9), .qcall 28 [(.t 7), (.t 8)], none⟩,
      ⟨(some 6), .mv (.t 9), none⟩,
      ⟨(some 10), .extract 0 (.t 6), none⟩,
      ⟨(some 11), .extract 1 (.t 6), none⟩,
      ⟨(some 4), .alloc [(.full []), (.d (.bool false))], none⟩,
      ⟨none, .store 2 (.t 4) (.t 10), none⟩,
      ⟨(some 5), .mv (.t 11), none⟩] [0, 6, 7, 8, 9, 10, 11])
  (.seq (.seq (.region [⟨(some 12), .fieldAddr 1 (.t 4), none⟩,
        ⟨(some 13), .load none (.t 12), none⟩,
        ⟨(some 14), .mv (.t 13), none⟩,
        ⟨(some 15), .fieldAddr 0 (.t 4), some (14, false)⟩,
        ⟨(some 16), .load none (.t 15), some (14, false)⟩,
        ⟨(some 17), .len 1 (.t 16), some (14, false)⟩,
        ⟨(some 18), .bin .gtr (.t 17) (.k (.c (.d (.int .i64 0)))), some (14, false)⟩,
        ⟨(some 19), .pick (.t 14) (.k (.c (.d (.bool true)))) (.t 18), none⟩] [4, 12, 13, 14, 15, 16, 17, 18])
    (.cond (.t 19)
      (.seq (.region [⟨(some 2), .mv (.k (.c (.full []))), none⟩,
          ⟨(some 3), .mv (.k (.c (.d (.bool false)))), none⟩] [5, 19])
      (.ret))
      (.skip)))
  (.seq (.region [⟨(some 20), .mv (.t 5), none⟩,
      ⟨(some 2), .mv (.t 20), none⟩,
      ⟨(some 3), .mv (.k (.c (.d (.bool true)))), none⟩] [5, 19, 20])
  (.ret))))
theorem ac23_ok : cFunc Try.prog [1000028] [(0, [2, 3], []), (1, [0, 6, 7, 8, 9, 10, 11], []), (2, [4, 12, 13, 14, 15, 16, 17, 18], []), (3, [5, 19], []), (4, [5, 19, 20], [])] Try.f23 = some (ac23, [.tmp 2, .tmp 3], 21) := by kernel_rfl
def decAll (b : List UInt8) : List Frame × Bool := if (feed b).2.2 || !(feed b).2.1.isEmpty then ([], false) else ((feed b).1, true)
theorem feedD_new (b : List UInt8) : feedD ⟨[], false⟩ b = (⟨(feed b).2.1, (feed b).2.2⟩, (feed b).1) := by
  rw [feedD, if_neg (by simp [Dec.ok, nextN])]
  rfl
theorem feed_rest_len (b : List UInt8) : (feed b).2.1.length ≤ b.length := by
  induction h : b.length using Nat.strongRecOn generalizing b with
  | ind n ih =>
    by_cases hn : 0 < nextN b
    · rw [feed_go hn]
      have hb : 0 < b.length := by
        cases b with
        | nil => simp [nextN] at hn
        | cons x l => simp
      have := ih (b.drop (nextN b).toNat).length (by simp; omega) _ rfl
      simp at this ⊢
      omega
    · rw [feed, dif_neg hn]
      split <;> simp <;> omega
theorem decAllImpl_calls (b : List UInt8) (hb : b.length ≤ 100000000) (H : Heap) : ACalls Try.prog 23 [.c (.d (.sl (bytesRows b)))] H (fun r H' => H' = H ∧ r = .tup [.c (.d (.sl ((decAll b).1.map Frame.row))), .c (.d (.bool (decAll b).2))]) := by
  refine acalls Try.func23 (by kernel_rfl) ac23_ok fun hf => ?_
  simp -implicitDefEqProofs [ac23, aw_skip, aw_region, aw_seq, aw_block, aw_cond, aw_exit, aw_ret, kq_nil, kq_seq, kq_seq_ret, kq_seq_exit, kq_block, kq_block_ret, kq_block_exit, kq_loop, kq_loop_ret, kq_loop_exit, awOps_nil, awOps_cons, awOps_guardE, nx_eq, awOp, ev_k, ev_0, ev_1, ev_2, ev_3, ev_4, ev_5, ev_6, ev_7, ev_8, set_0, set_1, set_2, set_3, set_4, set_5, set_6, set_7, set_8, -List.set_cons_succ, -List.set_cons_zero, A.ok, A.val, setSl, wrapG, guardB, getB, pickA, binA, binC, binD, cmpD, isCmp, unA, unD, lenA, AOp.total, kills, litB, FinQ, resOks, resOk, resA, resList, resOne, A.thaw, C.thaw, A.fits, As.fits, C.fits, evs, oks, callArgs, A.pure, C.pure, A.re, C.re, fieldAddrA, loadC, cut, A.cells, C.rows?, getOb, newOb, setOb, storeC, splice, Ob.re, Cs.fits, partsA, partsOk, parts2A, parts2Ok, fillC, fillRows, optInt, optOk, sliceA, clipC, optK_some, storeK_some, Option.map_some, toDs, C.toD, spliceD, appendA, capsOf, srcRows, allLen_nil_iff, allLen_cons_iff, allLen_append_iff, dropC, Obs.fits, eqCs, eqD]
  refine qcall_pure (feedImpl_calls ⟨[], false⟩ b (by simp) hb) hf rfl ?_
  have hr := feed_rest_len b
  have hl : inR .i64 ((feed b).2.1.length : Int) := small_i64 (by omega) (by omega)
  rw [feedD_new]
  simp -implicitDefEqProofs [Dec.row, hf, hl, bytesRows_len, aw_skip, aw_region, aw_seq, aw_block, aw_cond, aw_exit, aw_ret, kq_nil, kq_seq, kq_seq_ret, kq_seq_exit, kq_block, kq_block_ret, kq_block_exit, kq_loop, kq_loop_ret, kq_loop_exit, awOps_nil, awOps_cons, awOps_guardE, nx_eq, awOp, ev_k, ev_0, ev_1, ev_2, ev_3, ev_4, ev_5, ev_6, ev_7, ev_8, set_0, set_1, set_2, set_3, set_4, set_5, set_6, set_7, set_8, -List.set_cons_succ, -List.set_cons_zero, A.ok, A.val, setSl, wrapG, guardB, getB, pickA, binA, binC, binD, cmpD, isCmp, unA, unD, lenA, AOp.total, kills, litB, FinQ, resOks, resOk, resA, resList, resOne, A.thaw, C.thaw, A.fits, As.fits, C.fits, evs, oks, callArgs, A.pure, C.pure, A.re, C.re, fieldAddrA, loadC, cut, A.cells, C.rows?, getOb, newOb, setOb, storeC, splice, Ob.re, Cs.fits, partsA, partsOk, parts2A, parts2Ok, fillC, fillRows, optInt, optOk, sliceA, clipC, optK_some, storeK_some, Option.map_some, toDs, C.toD, spliceD, appendA, capsOf, srcRows, allLen_nil_iff, allLen_cons_iff, allLen_append_iff, dropC, Obs.fits, eqCs, eqD]
  refine ⟨fun h => ?_, fun h1 h2 => ?_⟩
  · have : decAll b = ([], false) := by
      rw [decAll, if_pos]
      simp only [Bool.or_eq_true, Bool.not_eq_true']
      rcases h with h | h
      · exact .inl h
      · refine .inr ?_
        cases hq : (feed b).2.1 with
        | nil => rw [hq] at h; simp at h
        | cons x l => rfl
    simp [this]
  · have : decAll b = ((feed b).1, true) := by
      rw [decAll, if_neg]
      simp [h1, h2]
    simp [this]
end Go.Proofs.Ytamaaiabbganjaa
