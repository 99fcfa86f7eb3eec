/-
  The law FnExactNewServer holds: impl.NewServer answers as spec.NewServer does, with memory of its own.
  Conditions: none.
-/
import Derived.Test.YtamaaiabbganjaaNsM
open Go Go.AM Go.Proofs
namespace Go.Proofs.Ytamaaiabbganjaa
open Go.ChangeShapes Go.WideShapes Go.ChangeAt Go.RowKit
set_option linter.unusedVariables false
set_option linter.unusedSimpArgs false
set_option maxRecDepth 100000
theorem markServer_calls (n : Nat) (hn : n ≤ 1000) (q : Int) (k : Int) (h0 : 0 ≤ k) (h1 : k ≤ 1000000) (kv : Value) : ACalls Try.prog 35 [.agg [.d (.v kv), .d (.int .i64 q)], .c (.d (.int .i64 k))] [.tree kv (List.replicate n zc)]
    (fun r H' => H' = [.tree kv (mClis k n)] ∧ r = .c (.d (.int .i64 (k + 7 * n)))) := by
  refine acalls Try.func35 (by kernel_rfl) ac35_ok fun hf => ?_
  simp -implicitDefEqProofs [ac35, aw_skip, aw_region, aw_seq, aw_block, aw_cond, aw_exit, aw_ret, kq_nil, kq_seq, kq_seq_ret, kq_seq_exit, kq_block, kq_block_ret, kq_block_exit, kq_loop, kq_loop_ret, kq_loop_exit, awOps_nil, awOps_cons, awOps_guardE, nx_eq, awOp, ev_k, ev_0, ev_1, ev_2, ev_3, ev_4, ev_5, ev_6, ev_7, ev_8, set_0, set_1, set_2, set_3, set_4, set_5, set_6, set_7, set_8, -List.set_cons_succ, -List.set_cons_zero, A.ok, A.val, setSl, wrapG, guardB, getB, pickA, binA, binC, binD, cmpD, isCmp, unA, unD, lenA, AOp.total, kills, litB, FinQ, resOks, resOk, resA, resList, resOne, A.thaw, C.thaw, A.fits, As.fits, C.fits, evs, oks, callArgs, A.pure, C.pure, A.re, C.re, fieldAddrA, loadC, cut, A.cells, C.rows?, getOb, newOb, setOb, storeC, splice, Ob.re, Cs.fits, partsA, partsOk, parts2A, parts2Ok, fillC, fillRows, optInt, optOk, sliceA, clipC, optK_some, storeK_some, Option.map_some, toDs, C.toD, spliceD, appendA, capsOf, srcRows, allLen_nil_iff, allLen_cons_iff, allLen_append_iff, dropC, Obs.fits, eqCs, eqD]
  refine call_ext (J := [0]) (markClientS_calls n hn k h0 h1 kv) (fun r H' ⟨h1, h2⟩ => by subst h1; subst h2; exact ⟨⟨rfl, rfl⟩, rfl⟩) rfl (.cons (.c .d) (.cons (.c .d) .nil)) (by simp) rfl rfl ⟨trivial, trivial⟩ ?_
  rintro _ _ ⟨rfl, rfl⟩
  simp -implicitDefEqProofs [putAll, aw_skip, aw_region, aw_seq, aw_block, aw_cond, aw_exit, aw_ret, kq_nil, kq_seq, kq_seq_ret, kq_seq_exit, kq_block, kq_block_ret, kq_block_exit, kq_loop, kq_loop_ret, kq_loop_exit, awOps_nil, awOps_cons, awOps_guardE, nx_eq, awOp, ev_k, ev_0, ev_1, ev_2, ev_3, ev_4, ev_5, ev_6, ev_7, ev_8, set_0, set_1, set_2, set_3, set_4, set_5, set_6, set_7, set_8, -List.set_cons_succ, -List.set_cons_zero, A.ok, A.val, setSl, wrapG, guardB, getB, pickA, binA, binC, binD, cmpD, isCmp, unA, unD, lenA, AOp.total, kills, litB, FinQ, resOks, resOk, resA, resList, resOne, A.thaw, C.thaw, A.fits, As.fits, C.fits, evs, oks, callArgs, A.pure, C.pure, A.re, C.re, fieldAddrA, loadC, cut, A.cells, C.rows?, getOb, newOb, setOb, storeC, splice, Ob.re, Cs.fits, partsA, partsOk, parts2A, parts2Ok, fillC, fillRows, optInt, optOk, sliceA, clipC, optK_some, storeK_some, Option.map_some, toDs, C.toD, spliceD, appendA, capsOf, srcRows, allLen_nil_iff, allLen_cons_iff, allLen_append_iff, dropC, Obs.fits, eqCs, eqD]
theorem heldServer_calls (n : Nat) (hn : n ≤ 1000) (q : Int) (k : Int) (h0 : 0 ≤ k) (h1 : k ≤ 1000000) (H : Heap) : ACalls Try.prog 36 [.agg [.d (.sl (mClis k n)), .d (.int .i64 q)], .c (.d (.int .i64 k))] H
    (fun r H' => H' = H ∧ r = .c (.d (.int .i64 (k + 7 * n)))) := by
  refine acalls Try.func36 (by kernel_rfl) ac36_ok fun hf => ?_
  simp -implicitDefEqProofs [ac36, aw_skip, aw_region, aw_seq, aw_block, aw_cond, aw_exit, aw_ret, kq_nil, kq_seq, kq_seq_ret, kq_seq_exit, kq_block, kq_block_ret, kq_block_exit, kq_loop, kq_loop_ret, kq_loop_exit, awOps_nil, awOps_cons, awOps_guardE, nx_eq, awOp, ev_k, ev_0, ev_1, ev_2, ev_3, ev_4, ev_5, ev_6, ev_7, ev_8, set_0, set_1, set_2, set_3, set_4, set_5, set_6, set_7, set_8, -List.set_cons_succ, -List.set_cons_zero, A.ok, A.val, setSl, wrapG, guardB, getB, pickA, binA, binC, binD, cmpD, isCmp, unA, unD, lenA, AOp.total, kills, litB, FinQ, resOks, resOk, resA, resList, resOne, A.thaw, C.thaw, A.fits, As.fits, C.fits, evs, oks, callArgs, A.pure, C.pure, A.re, C.re, fieldAddrA, loadC, cut, A.cells, C.rows?, getOb, newOb, setOb, storeC, splice, Ob.re, Cs.fits, partsA, partsOk, parts2A, parts2Ok, fillC, fillRows, optInt, optOk, sliceA, clipC, optK_some, storeK_some, Option.map_some, toDs, C.toD, spliceD, appendA, capsOf, srcRows, allLen_nil_iff, allLen_cons_iff, allLen_append_iff, dropC, Obs.fits, eqCs, eqD]
  refine qcall_pure (heldClientS_calls n hn k h0 h1) hf rfl ?_
  have : ¬ (k + 7 * (n : Int) < 0) := by omega
  simp -implicitDefEqProofs [this, aw_skip, aw_region, aw_seq, aw_block, aw_cond, aw_exit, aw_ret, kq_nil, kq_seq, kq_seq_ret, kq_seq_exit, kq_block, kq_block_ret, kq_block_exit, kq_loop, kq_loop_ret, kq_loop_exit, awOps_nil, awOps_cons, awOps_guardE, nx_eq, awOp, ev_k, ev_0, ev_1, ev_2, ev_3, ev_4, ev_5, ev_6, ev_7, ev_8, set_0, set_1, set_2, set_3, set_4, set_5, set_6, set_7, set_8, -List.set_cons_succ, -List.set_cons_zero, A.ok, A.val, setSl, wrapG, guardB, getB, pickA, binA, binC, binD, cmpD, isCmp, unA, unD, lenA, AOp.total, kills, litB, FinQ, resOks, resOk, resA, resList, resOne, A.thaw, C.thaw, A.fits, As.fits, C.fits, evs, oks, callArgs, A.pure, C.pure, A.re, C.re, fieldAddrA, loadC, cut, A.cells, C.rows?, getOb, newOb, setOb, storeC, splice, Ob.re, Cs.fits, partsA, partsOk, parts2A, parts2Ok, fillC, fillRows, optInt, optOk, sliceA, clipC, optK_some, storeK_some, Option.map_some, toDs, C.toD, spliceD, appendA, capsOf, srcRows, allLen_nil_iff, allLen_cons_iff, allLen_append_iff, dropC, Obs.fits, eqCs, eqD]
def HandsSrv (n : Nat) (q : Int) (ok : Bool) (r : A) (H : Heap) : Prop := ∃ v : Value, r = .tup [.agg [.d (.v v), .d (.int .i64 q)], .c (.d (.bool ok))] ∧ H = [.tree v (List.replicate n zc)]
theorem HandsSrv.handed {n : Nat} {q : Int} {ok : Bool} {r : A} {H : Heap} (h : HandsSrv n q ok r H) : Handed r H := by
  obtain ⟨v, rfl, rfl⟩ := h
  exact ⟨rfl, rfl⟩
/-- what NewServer answers -/
def nsX (c q : Int) : Nat × Int × Bool := if nsOk c q then (c.toNat, q, true) else (0, 0, false)
theorem nsR_eq (c q : Int) : nsR c q = .tup [.agg (svr (nsX c q).1 (nsX c q).2.1), .c (.d (.bool (nsX c q).2.2))] := by
  unfold nsR nsX
  split <;> rfl
theorem nsOwn_calls (c q : Int) : ACalls Try.prog 33 [.c (.d (.int .i64 c)), .c (.d (.int .i64 q))] [] (HandsSrv (nsX c q).1 (nsX c q).2.1 (nsX c q).2.2) := by
  refine acallsT Try.func33 (by kernel_rfl) ac33_ok ?_
  simp -implicitDefEqProofs [ac33, aw_skip, aw_region, aw_seq, aw_block, aw_cond, aw_exit, aw_ret, kq_nil, kq_seq, kq_seq_ret, kq_seq_exit, kq_block, kq_block_ret, kq_block_exit, kq_loop, kq_loop_ret, kq_loop_exit, awOps_nil, awOps_cons, awOps_guardE, nx_eq, awOp, ev_k, ev_0, ev_1, ev_2, ev_3, ev_4, ev_5, ev_6, ev_7, ev_8, set_0, set_1, set_2, set_3, set_4, set_5, set_6, set_7, set_8, -List.set_cons_succ, -List.set_cons_zero, A.ok, A.val, setSl, wrapG, guardB, getB, pickA, binA, binC, binD, cmpD, isCmp, unA, unD, lenA, AOp.total, kills, litB, FinQ, resOks, resOk, resA, resList, resOne, A.thaw, C.thaw, A.fits, As.fits, C.fits, evs, oks, callArgs, A.pure, C.pure, A.re, C.re, fieldAddrA, loadC, cut, A.cells, C.rows?, getOb, newOb, setOb, storeC, splice, Ob.re, Cs.fits, partsA, partsOk, parts2A, parts2Ok, fillC, fillRows, optInt, optOk, sliceA, clipC, optK_some, storeK_some, Option.map_some, toDs, C.toD, spliceD, appendA, capsOf, srcRows, allLen_nil_iff, allLen_cons_iff, allLen_append_iff, dropC, Obs.fits, eqCs, eqD]
  refine qcall_pure (within_calls c 0 4) trivial rfl ?_
  simp -implicitDefEqProofs [aw_skip, aw_region, aw_seq, aw_block, aw_cond, aw_exit, aw_ret, kq_nil, kq_seq, kq_seq_ret, kq_seq_exit, kq_block, kq_block_ret, kq_block_exit, kq_loop, kq_loop_ret, kq_loop_exit, awOps_nil, awOps_cons, awOps_guardE, nx_eq, awOp, ev_k, ev_0, ev_1, ev_2, ev_3, ev_4, ev_5, ev_6, ev_7, ev_8, set_0, set_1, set_2, set_3, set_4, set_5, set_6, set_7, set_8, -List.set_cons_succ, -List.set_cons_zero, A.ok, A.val, setSl, wrapG, guardB, getB, pickA, binA, binC, binD, cmpD, isCmp, unA, unD, lenA, AOp.total, kills, litB, FinQ, resOks, resOk, resA, resList, resOne, A.thaw, C.thaw, A.fits, As.fits, C.fits, evs, oks, callArgs, A.pure, C.pure, A.re, C.re, fieldAddrA, loadC, cut, A.cells, C.rows?, getOb, newOb, setOb, storeC, splice, Ob.re, Cs.fits, partsA, partsOk, parts2A, parts2Ok, fillC, fillRows, optInt, optOk, sliceA, clipC, optK_some, storeK_some, Option.map_some, toDs, C.toD, spliceD, appendA, capsOf, srcRows, allLen_nil_iff, allLen_cons_iff, allLen_append_iff, dropC, Obs.fits, eqCs, eqD]
  have bad : nsOk c q = false → nsX c q = (0, 0, false) := fun h => by rw [nsX, h]; rfl
  have no : ∀ {st : St}, resOks st [Rv.cell 4 (some 2), Rv.tmp 5] → resRaw st [Rv.cell 4 (some 2), Rv.tmp 5] = some (.tup [.agg [.full [], .d (.int .i64 0)], .c (.d (.bool false))]) → nsOk c q = false → FinT [Rv.cell 4 (some 2), Rv.tmp 5] (HandsSrv (nsX c q).1 (nsX c q).2.1 (nsX c q).2.2) .ret st := fun h1 h2 h3 => by
    rw [bad h3]
    exact finT_ret _ h1 h2 fun kv => ⟨_, _, _, .tup (.cons (.agg (.cons .full (.cons (.leaf rfl) .nil))) (.cons (.c (.leaf rfl)) .nil)), by simp, _, rfl, rfl⟩
  refine ⟨fun h1 h2 => ⟨⟨h1, h2⟩, ?_⟩, fun h => no ⟨trivial, trivial, trivial⟩ rfl (by simp [nsOk]; omega)⟩
  refine qcall_pure (within_calls q 0 300) trivial rfl ?_
  simp -implicitDefEqProofs [h1, h2, aw_skip, aw_region, aw_seq, aw_block, aw_cond, aw_exit, aw_ret, kq_nil, kq_seq, kq_seq_ret, kq_seq_exit, kq_block, kq_block_ret, kq_block_exit, kq_loop, kq_loop_ret, kq_loop_exit, awOps_nil, awOps_cons, awOps_guardE, nx_eq, awOp, ev_k, ev_0, ev_1, ev_2, ev_3, ev_4, ev_5, ev_6, ev_7, ev_8, set_0, set_1, set_2, set_3, set_4, set_5, set_6, set_7, set_8, -List.set_cons_succ, -List.set_cons_zero, A.ok, A.val, setSl, wrapG, guardB, getB, pickA, binA, binC, binD, cmpD, isCmp, unA, unD, lenA, AOp.total, kills, litB, FinQ, resOks, resOk, resA, resList, resOne, A.thaw, C.thaw, A.fits, As.fits, C.fits, evs, oks, callArgs, A.pure, C.pure, A.re, C.re, fieldAddrA, loadC, cut, A.cells, C.rows?, getOb, newOb, setOb, storeC, splice, Ob.re, Cs.fits, partsA, partsOk, parts2A, parts2Ok, fillC, fillRows, optInt, optOk, sliceA, clipC, optK_some, storeK_some, Option.map_some, toDs, C.toD, spliceD, appendA, capsOf, srcRows, allLen_nil_iff, allLen_cons_iff, allLen_append_iff, dropC, Obs.fits, eqCs, eqD]
  refine ⟨fun h => no ⟨trivial, trivial, trivial⟩ rfl (by simp [nsOk]; omega), fun h3 h4 => ⟨by unfold maxApp; omega, ?_⟩⟩
  have e : nsX c q = (c.toNat, q, true) := by rw [nsX, show nsOk c q = true by simp [nsOk]; omega]; rfl
  rw [e]
  exact finT_ret _ ⟨trivial, trivial, trivial⟩ rfl fun kv => ⟨_, _, _, .tup (.cons (.agg (.cons (.leafs rfl (leaf_zc _)) (.cons (.leaf rfl) .nil))) (.cons (.c (.leaf rfl)) .nil)), by simp, _, rfl, rfl⟩
-- 7 loop.example/prologserver/laws.FnExactNewServer params 2 ntmps 68
def ac7 : Cd := .seq (.region [⟨(some 4), .mv (.k (.c (.d (.bool false)))), none⟩] [4])
  (.seq (.region [⟨(some 14), .mv (.t 0), none⟩,
      ⟨(some 15), .mv (.t 1), none⟩,
      ⟨(some 16), .qcall 32 [(.t 14), (.t 15)], none⟩,
      ⟨(some 13), .mv (.t 16), none⟩,
      ⟨(some 17), .extract 0 (.t 13), none⟩,
      ⟨(some 18), .extract 1 (.t 13), none⟩,
      ⟨(some 5), .alloc [(.full []), (.d (.int .i64 0))], none⟩,
      ⟨none, .store 2 (.t 5) (.t 17), none⟩,
      ⟨(some 6), .mv (.t 18), none⟩] [13, 14, 15, 16, 17, 18])
  (.seq (.region [⟨(some 20), .mv (.t 0), none⟩,
      ⟨(some 21), .mv (.t 1), none⟩,
      ⟨(some 22), .call false 33 [(.t 20), (.t 21)], none⟩,
      ⟨(some 19), .mv (.t 22), none⟩,
      ⟨(some 23), .extract 0 (.t 19), none⟩,
      ⟨(some 24), .extract 1 (.t 19), none⟩,
      ⟨(some 7), .alloc [(.full []), (.d (.int .i64 0))], none⟩,
      ⟨none, .store 2 (.t 7) (.t 23), none⟩,
      ⟨(some 8), .mv (.t 24), none⟩] [19, 20, 21, 22, 23, 24])
  (.seq (.seq (.region [⟨(some 25), .load (some 2) (.t 7), none⟩,
        ⟨(some 26), .load (some 2) (.t 5), none⟩,
        ⟨(some 27), .qcall 34 [(.t 25), (.t 26)], none⟩,
        ⟨(some 28), .un .not (.t 27), none⟩,
        ⟨(some 29), .mv (.t 28), none⟩,
        ⟨(some 30), .mv (.t 8), some (29, false)⟩,
        ⟨(some 31), .mv (.t 6), some (29, false)⟩,
        ⟨(some 32), .binB true (.t 30) (.t 31), some (29, false)⟩,
        ⟨(some 33), .pick (.t 29) (.k (.c (.d (.bool true)))) (.t 32), none⟩] [8, 25, 26, 27, 28, 29, 30, 31, 32])
    (.cond (.t 33)
      (.seq (.region [⟨(some 4), .mv (.k (.c (.d (.bool false)))), none⟩] [0, 1, 5, 6, 7, 33])
      (.ret))
      (.skip)))
  (.seq (.region [⟨(some 9), .mv (.k (.c (.d (.int .i64 1)))), none⟩] [4, 33])
  (.seq (.region [⟨(some 34), .load (some 2) (.t 7), none⟩,
      ⟨(some 35), .mv (.t 9), none⟩,
      ⟨(some 36), .call false 35 [(.t 34), (.t 35)], none⟩,
      ⟨(some 9), .mv (.t 36), none⟩] [34, 35, 36])
  (.seq (.region [⟨(some 10), .mv (.k (.c (.d (.int .i64 1)))), none⟩] [])
  (.seq (.region [⟨(some 37), .load (some 2) (.t 7), none⟩,
      ⟨(some 38), .mv (.t 10), none⟩,
      ⟨(some 39), .qcall 36 [(.t 37), (.t 38)], none⟩,
      ⟨(some 10), .mv (.t 39), none⟩] [37, 38, 39])
  (.seq (.seq (.region [⟨(some 40), .mv (.t 10), none⟩,
        ⟨(some 41), .bin .lss (.t 40) (.k (.c (.d (.int .i64 0)))), none⟩] [40])
    (.cond (.t 41)
      (.seq (.region [⟨(some 4), .mv (.k (.c (.d (.bool false)))), none⟩] [0, 1, 5, 6, 7, 9, 10, 41])
      (.ret))
      (.skip)))
  (.seq (.seq (.region [⟨(some 42), .mv (.t 10), none⟩,
        ⟨(some 43), .mv (.t 9), none⟩,
        ⟨(some 44), .bin .neq (.t 42) (.t 43), none⟩] [4, 10, 41, 42, 43])
    (.cond (.t 44)
      (.seq (.region [⟨(some 4), .mv (.k (.c (.d (.bool false)))), none⟩] [0, 1, 5, 6, 7, 9, 44])
      (.ret))
      (.skip)))
  (.seq (.region [⟨(some 46), .mv (.t 0), none⟩,
      ⟨(some 47), .mv (.t 1), none⟩,
      ⟨(some 48), .call false 33 [(.t 46), (.t 47)], none⟩,
      ⟨(some 45), .mv (.t 48), none⟩,
      ⟨(some 49), .extract 0 (.t 45), none⟩,
      ⟨(some 50), .extract 1 (.t 45), none⟩,
      ⟨(some 11), .alloc [(.full []), (.d (.int .i64 0))], none⟩,
      ⟨none, .store 2 (.t 11) (.t 49), none⟩,
      ⟨(some 12), .mv (.t 50), none⟩] [0, 1, 4, 44, 45, 46, 47, 48, 49, 50])
  (.seq (.seq (.region [⟨(some 51), .load (some 2) (.t 11), none⟩,
        ⟨(some 52), .load (some 2) (.t 5), none⟩,
        ⟨(some 53), .qcall 34 [(.t 51), (.t 52)], none⟩,
        ⟨(some 54), .un .not (.t 53), none⟩,
        ⟨(some 55), .mv (.t 54), none⟩,
        ⟨(some 56), .mv (.t 12), some (55, false)⟩,
        ⟨(some 57), .mv (.t 6), some (55, false)⟩,
        ⟨(some 58), .binB true (.t 56) (.t 57), some (55, false)⟩,
        ⟨(some 59), .pick (.t 55) (.k (.c (.d (.bool true)))) (.t 58), none⟩] [5, 6, 11, 12, 51, 52, 53, 54, 55, 56, 57, 58])
    (.cond (.t 59)
      (.seq (.region [⟨(some 4), .mv (.k (.c (.d (.bool false)))), none⟩] [7, 9, 59])
      (.ret))
      (.skip)))
  (.seq (.region [⟨(some 10), .mv (.k (.c (.d (.int .i64 1)))), none⟩] [4, 59])
  (.seq (.region [⟨(some 60), .load (some 2) (.t 7), none⟩,
      ⟨(some 61), .mv (.t 10), none⟩,
      ⟨(some 62), .qcall 36 [(.t 60), (.t 61)], none⟩,
      ⟨(some 10), .mv (.t 62), none⟩] [7, 60, 61, 62])
  (.seq (.seq (.region [⟨(some 63), .mv (.t 10), none⟩,
        ⟨(some 64), .bin .lss (.t 63) (.k (.c (.d (.int .i64 0)))), none⟩] [63])
    (.cond (.t 64)
      (.seq (.region [⟨(some 4), .mv (.k (.c (.d (.bool false)))), none⟩] [9, 10, 64])
      (.ret))
      (.skip)))
  (.seq (.seq (.region [⟨(some 65), .mv (.t 10), none⟩,
        ⟨(some 66), .mv (.t 9), none⟩,
        ⟨(some 67), .bin .neq (.t 65) (.t 66), none⟩] [4, 9, 10, 64, 65, 66])
    (.cond (.t 67)
      (.seq (.region [⟨(some 4), .mv (.k (.c (.d (.bool false)))), none⟩] [67])
      (.ret))
      (.skip)))
  (.seq (.region [⟨(some 4), .mv (.k (.c (.d (.bool true)))), none⟩] [67])
  (.ret)))))))))))))))))
theorem ac7_ok : cFunc Try.prog [1000032, 1000034, 1000036] [(0, [4], []), (1, [13, 14, 15, 16, 17, 18], []), (2, [19, 20, 21, 22, 23, 24], []), (3, [8, 25, 26, 27, 28, 29, 30, 31, 32], []), (4, [0, 1, 5, 6, 7, 33], []), (5, [4, 33], []), (6, [34, 35, 36], []), (7, [], []), (8, [37, 38, 39], []), (9, [40], []), (10, [0, 1, 5, 6, 7, 9, 10, 41], []), (11, [4, 10, 41, 42, 43], []), (12, [0, 1, 5, 6, 7, 9, 44], []), (13, [0, 1, 4, 44, 45, 46, 47, 48, 49, 50], []), (14, [5, 6, 11, 12, 51, 52, 53, 54, 55, 56, 57, 58], []), (15, [7, 9, 59], []), (16, [4, 59], []), (17, [7, 60, 61, 62], []), (18, [63], []), (19, [9, 10, 64], []), (20, [4, 9, 10, 64, 65, 66], []), (21, [67], []), (22, [67], [])] Try.f7 = some (ac7, [.tmp 4], 68) := by kernel_rfl
theorem nsxLaw_calls (c q : Int) : ACalls Try.prog 7 [.c (.d (.int .i64 c)), .c (.d (.int .i64 q))] [] (fun r _ => r = .c (.d (.bool true))) := by
  refine acalls Try.func7 (by kernel_rfl) ac7_ok fun hf => ?_
  have cs := nsSpec_calls c q
  have ci2 := nsImpl_calls c q
  have ci := nsOwn_calls c q
  simp only [nsR_eq] at cs ci2
  have hn : (nsX c q).1 ≤ 1000 := by
    unfold nsX
    split
    · rename_i h
      simp [nsOk] at h
      simp only; omega
    · simp
  generalize nsX c q = x at cs ci ci2 hn
  obtain ⟨n, q', ok⟩ := x
  simp only [svr] at cs ci ci2 hn
  have ce := eqServerZ n hn q' []
  simp only [svr] at ce
  simp -implicitDefEqProofs [ac7, aw_skip, aw_region, aw_seq, aw_block, aw_cond, aw_exit, aw_ret, kq_nil, kq_seq, kq_seq_ret, kq_seq_exit, kq_block, kq_block_ret, kq_block_exit, kq_loop, kq_loop_ret, kq_loop_exit, awOps_nil, awOps_cons, awOps_guardE, nx_eq, awOp, ev_k, ev_0, ev_1, ev_2, ev_3, ev_4, ev_5, ev_6, ev_7, ev_8, set_0, set_1, set_2, set_3, set_4, set_5, set_6, set_7, set_8, -List.set_cons_succ, -List.set_cons_zero, A.ok, A.val, setSl, wrapG, guardB, getB, pickA, binA, binC, binD, cmpD, isCmp, unA, unD, lenA, AOp.total, kills, litB, FinQ, resOks, resOk, resA, resList, resOne, A.thaw, C.thaw, A.fits, As.fits, C.fits, evs, oks, callArgs, A.pure, C.pure, A.re, C.re, fieldAddrA, loadC, cut, A.cells, C.rows?, getOb, newOb, setOb, storeC, splice, Ob.re, Cs.fits, partsA, partsOk, parts2A, parts2Ok, fillC, fillRows, optInt, optOk, sliceA, clipC, optK_some, storeK_some, Option.map_some, toDs, C.toD, spliceD, appendA, capsOf, srcRows, allLen_nil_iff, allLen_cons_iff, allLen_append_iff, dropC, Obs.fits, eqCs, eqD]
  refine qcall_pure cs hf rfl ?_
  simp -implicitDefEqProofs [aw_skip, aw_region, aw_seq, aw_block, aw_cond, aw_exit, aw_ret, kq_nil, kq_seq, kq_seq_ret, kq_seq_exit, kq_block, kq_block_ret, kq_block_exit, kq_loop, kq_loop_ret, kq_loop_exit, awOps_nil, awOps_cons, awOps_guardE, nx_eq, awOp, ev_k, ev_0, ev_1, ev_2, ev_3, ev_4, ev_5, ev_6, ev_7, ev_8, set_0, set_1, set_2, set_3, set_4, set_5, set_6, set_7, set_8, -List.set_cons_succ, -List.set_cons_zero, A.ok, A.val, setSl, wrapG, guardB, getB, pickA, binA, binC, binD, cmpD, isCmp, unA, unD, lenA, AOp.total, kills, litB, FinQ, resOks, resOk, resA, resList, resOne, A.thaw, C.thaw, A.fits, As.fits, C.fits, evs, oks, callArgs, A.pure, C.pure, A.re, C.re, fieldAddrA, loadC, cut, A.cells, C.rows?, getOb, newOb, setOb, storeC, splice, Ob.re, Cs.fits, partsA, partsOk, parts2A, parts2Ok, fillC, fillRows, optInt, optOk, sliceA, clipC, optK_some, storeK_some, Option.map_some, toDs, C.toD, spliceD, appendA, capsOf, srcRows, allLen_nil_iff, allLen_cons_iff, allLen_append_iff, dropC, Obs.fits, eqCs, eqD]
  refine call_loc (J := []) ci (fun r H' h => h.handed) rfl (.cons (.c .d) (.cons (.c .d) .nil)) List.nodup_nil rfl rfl ?_
  rintro _ _ ⟨v, rfl, rfl⟩ _
  simp -implicitDefEqProofs [putAll, aw_skip, aw_region, aw_seq, aw_block, aw_cond, aw_exit, aw_ret, kq_nil, kq_seq, kq_seq_ret, kq_seq_exit, kq_block, kq_block_ret, kq_block_exit, kq_loop, kq_loop_ret, kq_loop_exit, awOps_nil, awOps_cons, awOps_guardE, nx_eq, awOp, ev_k, ev_0, ev_1, ev_2, ev_3, ev_4, ev_5, ev_6, ev_7, ev_8, set_0, set_1, set_2, set_3, set_4, set_5, set_6, set_7, set_8, -List.set_cons_succ, -List.set_cons_zero, A.ok, A.val, setSl, wrapG, guardB, getB, pickA, binA, binC, binD, cmpD, isCmp, unA, unD, lenA, AOp.total, kills, litB, FinQ, resOks, resOk, resA, resList, resOne, A.thaw, C.thaw, A.fits, As.fits, C.fits, evs, oks, callArgs, A.pure, C.pure, A.re, C.re, fieldAddrA, loadC, cut, A.cells, C.rows?, getOb, newOb, setOb, storeC, splice, Ob.re, Cs.fits, partsA, partsOk, parts2A, parts2Ok, fillC, fillRows, optInt, optOk, sliceA, clipC, optK_some, storeK_some, Option.map_some, toDs, C.toD, spliceD, appendA, capsOf, srcRows, allLen_nil_iff, allLen_cons_iff, allLen_append_iff, dropC, Obs.fits, eqCs, eqD]
  have zs : ∀ {H : Heap}, H[1]? = some (.tree v (List.replicate n zc)) → FzL H [] [.agg [.d (.v v), .d (.int .i64 q')], .agg [.d (.sl (List.replicate n zc)), .d (.int .i64 q')]] [.agg [.d (.sl (List.replicate n zc)), .d (.int .i64 q')], .agg [.d (.sl (List.replicate n zc)), .d (.int .i64 q')]] := fun h =>
    .cons (.agg (.cons (.tree (i := 1) h (by simp)) (.cons .d .nil))) (.cons (.agg (fzCs_id [.sl (List.replicate n zc), .int .i64 q'])) .nil)
  refine qcall_read ce rfl hf (zs rfl) ?_
  simp -implicitDefEqProofs [aw_skip, aw_region, aw_seq, aw_block, aw_cond, aw_exit, aw_ret, kq_nil, kq_seq, kq_seq_ret, kq_seq_exit, kq_block, kq_block_ret, kq_block_exit, kq_loop, kq_loop_ret, kq_loop_exit, awOps_nil, awOps_cons, awOps_guardE, nx_eq, awOp, ev_k, ev_0, ev_1, ev_2, ev_3, ev_4, ev_5, ev_6, ev_7, ev_8, set_0, set_1, set_2, set_3, set_4, set_5, set_6, set_7, set_8, -List.set_cons_succ, -List.set_cons_zero, A.ok, A.val, setSl, wrapG, guardB, getB, pickA, binA, binC, binD, cmpD, isCmp, unA, unD, lenA, AOp.total, kills, litB, FinQ, resOks, resOk, resA, resList, resOne, A.thaw, C.thaw, A.fits, As.fits, C.fits, evs, oks, callArgs, A.pure, C.pure, A.re, C.re, fieldAddrA, loadC, cut, A.cells, C.rows?, getOb, newOb, setOb, storeC, splice, Ob.re, Cs.fits, partsA, partsOk, parts2A, parts2Ok, fillC, fillRows, optInt, optOk, sliceA, clipC, optK_some, storeK_some, Option.map_some, toDs, C.toD, spliceD, appendA, capsOf, srcRows, allLen_nil_iff, allLen_cons_iff, allLen_append_iff, dropC, Obs.fits, eqCs, eqD]
  refine call_loc (J := [1]) (markServer_calls n hn q' 1 (by omega) (by omega) v) (fun r H' ⟨h1, h2⟩ => by subst h1; subst h2; exact ⟨rfl, rfl⟩) rfl (.cons (.agg (fzCs_id [.v v, .int .i64 q'])) (.cons (.c .d) .nil)) (by simp) rfl rfl ?_
  rintro _ _ ⟨rfl, rfl⟩ _
  simp -implicitDefEqProofs [putAll, aw_skip, aw_region, aw_seq, aw_block, aw_cond, aw_exit, aw_ret, kq_nil, kq_seq, kq_seq_ret, kq_seq_exit, kq_block, kq_block_ret, kq_block_exit, kq_loop, kq_loop_ret, kq_loop_exit, awOps_nil, awOps_cons, awOps_guardE, nx_eq, awOp, ev_k, ev_0, ev_1, ev_2, ev_3, ev_4, ev_5, ev_6, ev_7, ev_8, set_0, set_1, set_2, set_3, set_4, set_5, set_6, set_7, set_8, -List.set_cons_succ, -List.set_cons_zero, A.ok, A.val, setSl, wrapG, guardB, getB, pickA, binA, binC, binD, cmpD, isCmp, unA, unD, lenA, AOp.total, kills, litB, FinQ, resOks, resOk, resA, resList, resOne, A.thaw, C.thaw, A.fits, As.fits, C.fits, evs, oks, callArgs, A.pure, C.pure, A.re, C.re, fieldAddrA, loadC, cut, A.cells, C.rows?, getOb, newOb, setOb, storeC, splice, Ob.re, Cs.fits, partsA, partsOk, parts2A, parts2Ok, fillC, fillRows, optInt, optOk, sliceA, clipC, optK_some, storeK_some, Option.map_some, toDs, C.toD, spliceD, appendA, capsOf, srcRows, allLen_nil_iff, allLen_cons_iff, allLen_append_iff, dropC, Obs.fits, eqCs, eqD]
  have zh : ∀ {H : Heap}, H[1]? = some (.tree v (mClis 1 n)) → FzL H [] [.agg [.d (.v v), .d (.int .i64 q')], .c (.d (.int .i64 1))] [.agg [.d (.sl (mClis 1 n)), .d (.int .i64 q')], .c (.d (.int .i64 1))] := fun h =>
    .cons (.agg (.cons (.tree (i := 1) h (by simp)) (.cons .d .nil))) (.cons (.c .d) .nil)
  have hp : ¬ (1 + 7 * (n : Int) < 0) := by omega
  refine qcall_read (heldServer_calls n hn q' 1 (by omega) (by omega) []) rfl hf (zh rfl) ?_
  simp -implicitDefEqProofs [hp, aw_skip, aw_region, aw_seq, aw_block, aw_cond, aw_exit, aw_ret, kq_nil, kq_seq, kq_seq_ret, kq_seq_exit, kq_block, kq_block_ret, kq_block_exit, kq_loop, kq_loop_ret, kq_loop_exit, awOps_nil, awOps_cons, awOps_guardE, nx_eq, awOp, ev_k, ev_0, ev_1, ev_2, ev_3, ev_4, ev_5, ev_6, ev_7, ev_8, set_0, set_1, set_2, set_3, set_4, set_5, set_6, set_7, set_8, -List.set_cons_succ, -List.set_cons_zero, A.ok, A.val, setSl, wrapG, guardB, getB, pickA, binA, binC, binD, cmpD, isCmp, unA, unD, lenA, AOp.total, kills, litB, FinQ, resOks, resOk, resA, resList, resOne, A.thaw, C.thaw, A.fits, As.fits, C.fits, evs, oks, callArgs, A.pure, C.pure, A.re, C.re, fieldAddrA, loadC, cut, A.cells, C.rows?, getOb, newOb, setOb, storeC, splice, Ob.re, Cs.fits, partsA, partsOk, parts2A, parts2Ok, fillC, fillRows, optInt, optOk, sliceA, clipC, optK_some, storeK_some, Option.map_some, toDs, C.toD, spliceD, appendA, capsOf, srcRows, allLen_nil_iff, allLen_cons_iff, allLen_append_iff, dropC, Obs.fits, eqCs, eqD]
  refine call_same (ci2 _) (by simp [Ob.re, C.re]) rfl hf ?_
  simp -implicitDefEqProofs [aw_skip, aw_region, aw_seq, aw_block, aw_cond, aw_exit, aw_ret, kq_nil, kq_seq, kq_seq_ret, kq_seq_exit, kq_block, kq_block_ret, kq_block_exit, kq_loop, kq_loop_ret, kq_loop_exit, awOps_nil, awOps_cons, awOps_guardE, nx_eq, awOp, ev_k, ev_0, ev_1, ev_2, ev_3, ev_4, ev_5, ev_6, ev_7, ev_8, set_0, set_1, set_2, set_3, set_4, set_5, set_6, set_7, set_8, -List.set_cons_succ, -List.set_cons_zero, A.ok, A.val, setSl, wrapG, guardB, getB, pickA, binA, binC, binD, cmpD, isCmp, unA, unD, lenA, AOp.total, kills, litB, FinQ, resOks, resOk, resA, resList, resOne, A.thaw, C.thaw, A.fits, As.fits, C.fits, evs, oks, callArgs, A.pure, C.pure, A.re, C.re, fieldAddrA, loadC, cut, A.cells, C.rows?, getOb, newOb, setOb, storeC, splice, Ob.re, Cs.fits, partsA, partsOk, parts2A, parts2Ok, fillC, fillRows, optInt, optOk, sliceA, clipC, optK_some, storeK_some, Option.map_some, toDs, C.toD, spliceD, appendA, capsOf, srcRows, allLen_nil_iff, allLen_cons_iff, allLen_append_iff, dropC, Obs.fits, eqCs, eqD]
  refine qcall_read ce rfl hf (.cons (.agg (fzCs_id [.sl (List.replicate n zc), .int .i64 q'])) (.cons (.agg (fzCs_id [.sl (List.replicate n zc), .int .i64 q'])) .nil)) ?_
  simp -implicitDefEqProofs [aw_skip, aw_region, aw_seq, aw_block, aw_cond, aw_exit, aw_ret, kq_nil, kq_seq, kq_seq_ret, kq_seq_exit, kq_block, kq_block_ret, kq_block_exit, kq_loop, kq_loop_ret, kq_loop_exit, awOps_nil, awOps_cons, awOps_guardE, nx_eq, awOp, ev_k, ev_0, ev_1, ev_2, ev_3, ev_4, ev_5, ev_6, ev_7, ev_8, set_0, set_1, set_2, set_3, set_4, set_5, set_6, set_7, set_8, -List.set_cons_succ, -List.set_cons_zero, A.ok, A.val, setSl, wrapG, guardB, getB, pickA, binA, binC, binD, cmpD, isCmp, unA, unD, lenA, AOp.total, kills, litB, FinQ, resOks, resOk, resA, resList, resOne, A.thaw, C.thaw, A.fits, As.fits, C.fits, evs, oks, callArgs, A.pure, C.pure, A.re, C.re, fieldAddrA, loadC, cut, A.cells, C.rows?, getOb, newOb, setOb, storeC, splice, Ob.re, Cs.fits, partsA, partsOk, parts2A, parts2Ok, fillC, fillRows, optInt, optOk, sliceA, clipC, optK_some, storeK_some, Option.map_some, toDs, C.toD, spliceD, appendA, capsOf, srcRows, allLen_nil_iff, allLen_cons_iff, allLen_append_iff, dropC, Obs.fits, eqCs, eqD]
  refine qcall_read (heldServer_calls n hn q' 1 (by omega) (by omega) []) rfl hf (zh rfl) ?_
  simp -implicitDefEqProofs [hp, aw_skip, aw_region, aw_seq, aw_block, aw_cond, aw_exit, aw_ret, kq_nil, kq_seq, kq_seq_ret, kq_seq_exit, kq_block, kq_block_ret, kq_block_exit, kq_loop, kq_loop_ret, kq_loop_exit, awOps_nil, awOps_cons, awOps_guardE, nx_eq, awOp, ev_k, ev_0, ev_1, ev_2, ev_3, ev_4, ev_5, ev_6, ev_7, ev_8, set_0, set_1, set_2, set_3, set_4, set_5, set_6, set_7, set_8, -List.set_cons_succ, -List.set_cons_zero, A.ok, A.val, setSl, wrapG, guardB, getB, pickA, binA, binC, binD, cmpD, isCmp, unA, unD, lenA, AOp.total, kills, litB, FinQ, resOks, resOk, resA, resList, resOne, A.thaw, C.thaw, A.fits, As.fits, C.fits, evs, oks, callArgs, A.pure, C.pure, A.re, C.re, fieldAddrA, loadC, cut, A.cells, C.rows?, getOb, newOb, setOb, storeC, splice, Ob.re, Cs.fits, partsA, partsOk, parts2A, parts2Ok, fillC, fillRows, optInt, optOk, sliceA, clipC, optK_some, storeK_some, Option.map_some, toDs, C.toD, spliceD, appendA, capsOf, srcRows, allLen_nil_iff, allLen_cons_iff, allLen_append_iff, dropC, Obs.fits, eqCs, eqD]
theorem law_run7 (rows : List (List D)) (hr : HasTys Try.prog (#[3, 3] : Array TypeId).toList rows) : ACalls Try.prog 7 (argsA Try.prog (#[3, 3] : Array TypeId).toList rows) [] (fun r _ => r = .c (.d (.bool true))) := by
  obtain ⟨r, rs, rfl, h1, h2⟩ := hr.cons
  obtain ⟨r', rs, rfl, h3, h4⟩ := h2.cons
  obtain rfl := h4.nil
  obtain ⟨c, rfl, _⟩ := h1.int_inv Try.underlying3
  obtain ⟨q, rfl, _⟩ := h3.int_inv Try.underlying3
  simp only [argsA, argA, Try.underlying3, List.headD_cons]
  exact nsxLaw_calls c q
namespace fnExactNewServer
theorem own : ownKnob Try.prog.godebug = none := by kernel_rfl
theorem contract (H : Type) (enc : TypeId × Value → H) (W : World) (base : Nat) (args : Array Value) (ds gs : List (DataW H)) (before : List MemPlace)
    (hval : ∀ (j : Nat) t v, Try.f7.params[j]? = some t → args[j]? = some v → Value.okWide Try.prog W .any base t v)
    (hW : DataW.Whole enc Try.prog Try.f7.params.toList Rows.fnExactNewServerSpec.vars false W args.toList ds gs before)
    (hw : (DataW.weightsEach Try.prog (Try.f7.params.toList ++ Rows.fnExactNewServerSpec.plain.varTypes Try.prog) (ds ++ gs)).all (· ≤ reachBytes) = true) :
    Calls Try.prog 7 args W fun e W' => ∃ v, e = .returned v ∧ Rows.fnExactNewServerSpec.post enc Try.prog Try.f7 false true false false W args v W' := by
  refine law_contract (L := [3]) (tb := 4) (by kernel_rfl) (by kernel_rfl) (by kernel_rfl) rfl ?_ (by kernel_rfl) Try.underlying4 ?_ W base args ds gs before hval hW hw
  · intro ds hl
    match ds, hl with
    | [d0, d1], _ => rfl
  · intro rows hr
    rw [Try.params7] at hr ⊢
    exact law_run7 rows hr

theorem lifted (os : Os) (started : os.Started) (H : Type) (enc : TypeId × Value → H) :
    ReturnsInHanded {} Try.checked os 7 .any (Rows.fnExactNewServerSpec.pre6 enc Try.prog Try.f7 Rows.fnExactNewServerRow.domain false) (Rows.fnExactNewServerSpec.post enc Try.prog Try.f7 false true false false) := by
  refine returnsInHanded_of_change_sized (C := Try.checked) own started (by kernel_rfl) Try.func7
    (ChangeSpec.witness6 (enc := enc) (C := Try.checked) false ⟨#[], #[.int .i64 0, .int .i64 0], []⟩ 8 (by kernel_rfl) (by kernel_rfl) (by kernel_rfl) (by kernel_rfl)) ?_
  intro W base args ds gs before hval hW _ hw _
  exact contract H enc W base args ds gs before hval hW hw

theorem proved : Rows.FnExactNewServerSaid :=
  OpenClaim.holds_of_wide 7 Try.f7 rfl rfl rfl rfl rfl rfl rfl ⟨rfl, rfl, rfl, rfl, rfl⟩ rfl rfl rfl rfl rfl (by kernel_rfl) Try.func7 (by kernel_rfl)
    (of_decide_eq_true (by kernel_rfl)) (by unfold Func.isWrapper; first | (rw [if_pos (by decide +kernel)]; kernel_rfl) | (rw [if_neg (by decide +kernel)]; exact ⟨rfl, rfl⟩))
    (fun os started H enc _ => lifted os started H enc)
end fnExactNewServer

end Go.Proofs.Ytamaaiabbganjaa
