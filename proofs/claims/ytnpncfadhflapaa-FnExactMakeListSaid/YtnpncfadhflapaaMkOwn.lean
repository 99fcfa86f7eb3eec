/-
  The program's MakeList hands out an array of its own.
  Conditions: none.
-/
import Derived.Test.YtnpncfadhflapaaListO
import Derived.Test.YtnpncfadhflapaaTermMk
import Derived.Test.YtnpncfadhflapaaLists3
open Go Go.AM Go.Proofs
namespace Go.Proofs.Ytnpncfadhflapaa
open Go.ChangeShapes Go.WideShapes Go.ChangeAt Go.RowKit
set_option linter.unusedVariables false
set_option linter.unusedSimpArgs false
set_option maxRecDepth 100000
namespace Own
-- 13 loop.example/prologserver/impl.MakeList params 2 ntmps 30
def ac13 : Cd := .seq (.region [⟨(some 3), .box (.t 1), none⟩,
      ⟨(some 4), .alloc [(.d (.int .i64 0)), (.d (.int .i64 0)), (.d (.str [])), (.full [])], none⟩,
      ⟨(some 5), .mv (.k (.c (.d (.bool false)))), none⟩] [1, 5])
  (.seq (.seq (.region [⟨(some 7), .mv (.t 0), none⟩,
        ⟨(some 8), .len 1 (.t 7), none⟩,
        ⟨(some 9), .bin .gtr (.t 8) (.k (.c (.d (.int .i64 120)))), none⟩,
        ⟨(some 10), .mv (.t 9), none⟩,
        ⟨(some 11), .mv (.t 0), some (10, false)⟩,
        ⟨(some 12), .qcall 58 [(.t 11)], some (10, false)⟩,
        ⟨(some 13), .un .not (.t 12), some (10, false)⟩,
        ⟨(some 14), .pick (.t 10) (.k (.c (.d (.bool true)))) (.t 13), none⟩,
        ⟨(some 15), .mv (.t 14), none⟩,
        ⟨(some 16), .load (some 4) (.t 3), some (15, false)⟩,
        ⟨(some 17), .qcall 50 [(.t 16)], some (15, false)⟩,
        ⟨(some 18), .un .not (.t 17), some (15, false)⟩,
        ⟨(some 19), .pick (.t 15) (.k (.c (.d (.bool true)))) (.t 18), none⟩] [7, 8, 9, 10, 11, 12, 13, 14, 15, 16, 17, 18])
    (.cond (.t 19)
      (.seq (.region [⟨(some 20), .build [(.d (.int .i64 0)), (.d (.int .i64 0)), (.d (.str [])), (.full [])] [], none⟩,
          ⟨none, .store 4 (.t 4) (.t 20), none⟩,
          ⟨(some 5), .mv (.k (.c (.d (.bool false)))), none⟩] [0, 3, 19, 20])
      (.ret))
      (.skip)))
  (.seq (.region [⟨(some 21), .mv (.t 0), none⟩,
      ⟨(some 22), .load (some 4) (.t 3), none⟩,
      ⟨(some 23), .qcall 60 [(.t 21), (.t 22)], none⟩,
      ⟨(some 24), .call false 59 [(.t 23)], none⟩,
      ⟨(some 6), .alloc [(.d (.int .i64 0)), (.d (.int .i64 0)), (.d (.str [])), (.full [])], none⟩,
      ⟨none, .store 4 (.t 6) (.t 24), none⟩] [0, 3, 5, 19, 21, 22, 23, 24])
  (.seq (.seq (.region [⟨(some 25), .load (some 4) (.t 6), none⟩,
        ⟨(some 26), .qcall 50 [(.t 25)], none⟩,
        ⟨(some 27), .un .not (.t 26), none⟩] [25, 26])
    (.cond (.t 27)
      (.seq (.region [⟨(some 28), .build [(.d (.int .i64 0)), (.d (.int .i64 0)), (.d (.str [])), (.full [])] [], none⟩,
          ⟨none, .store 4 (.t 4) (.t 28), none⟩,
          ⟨(some 5), .mv (.k (.c (.d (.bool false)))), none⟩] [6, 27, 28])
      (.ret))
      (.skip)))
  (.seq (.region [⟨(some 29), .load (some 4) (.t 6), none⟩,
      ⟨none, .store 4 (.t 4) (.t 29), none⟩,
      ⟨(some 5), .mv (.k (.c (.d (.bool true)))), none⟩] [6, 27, 29])
  (.ret)))))
theorem ac13_ok : cFunc Try.prog [1000050, 1000058, 1000060] [(0, [1, 5], []), (1, [7, 8, 9, 10, 11, 12, 13, 14, 15, 16, 17, 18], []), (2, [0, 3, 19, 20], []), (3, [0, 3, 5, 19, 21, 22, 23, 24], []), (4, [25, 26], []), (5, [6, 27, 28], []), (6, [6, 27, 29], [])] Try.f13 = some (ac13, [.cell 4 (some 4), .tmp 5], 30) := by kernel_rfl
end Own
/-- .. a term and a bool -/
def HandsTB (t : Tm) (b : Bool) (r : A) (H : Heap) : Prop := ∃ v : Value, r = .tup [.agg [.d (.int .i64 t.k), .d (.int .i64 t.n), .d (.str t.s), .d (.v v)], .c (.d (.bool b))] ∧ H = [.tree v (t.kids.map Tm.row)]
theorem HandsTB.handed {t : Tm} {b : Bool} {r : A} {H : Heap} (h : HandsTB t b r H) : Handed r H := by
  obtain ⟨v, rfl, rfl⟩ := h
  exact ⟨rfl, rfl⟩
theorem mkOwn_calls (l : List Tm) (hl : l.length ≤ 1048576) (h : ∀ t ∈ l, t.fits) (t : Tm) (ht : t.fits) : ACalls Try.prog 13 [.c (.d (.sl (l.map Tm.row))), .agg (t.row.map .d)] [] (HandsTB (mkT l t).1 (mkT l t).2) := by
  refine acallsT Try.func13 (by kernel_rfl) Own.ac13_ok ?_
  have hli : inR .i64 (l.length : Int) := small_i64 (by omega) (by omega)
  have hch := chain_fits l t h ht
  have bad : ((decide (l.length ≤ 120) && l.all Tm.valid && t.valid) && (chainT l t).valid) = false → mkT l t = (.mk 0 0 [] [], false) := fun e => by rw [mkT, e]; rfl
  simp -implicitDefEqProofs [Own.ac13, row_len, take_row, hli, aw_skip, aw_region, aw_seq, aw_block, aw_cond, aw_exit, aw_ret, kq_nil, kq_seq, kq_seq_ret, kq_seq_exit, kq_block, kq_block_ret, kq_block_exit, kq_loop, kq_loop_ret, kq_loop_exit, awOps_nil, awOps_cons, awOps_guardE, nx_eq, awOp, ev_k, ev_0, ev_1, ev_2, ev_3, ev_4, ev_5, ev_6, ev_7, ev_8, set_0, set_1, set_2, set_3, set_4, set_5, set_6, set_7, set_8, -List.set_cons_succ, -List.set_cons_zero, A.ok, A.val, setSl, wrapG, guardB, getB, pickA, binA, binC, binD, cmpD, isCmp, unA, unD, lenA, AOp.total, kills, litB, FinQ, resOks, resOk, resA, resList, resOne, A.thaw, C.thaw, A.fits, As.fits, C.fits, evs, oks, callArgs, A.pure, C.pure, A.re, C.re, fieldAddrA, loadC, cut, A.cells, C.rows?, getOb, newOb, setOb, storeC, splice, Ob.re, Cs.fits, partsA, partsOk, parts2A, parts2Ok, fillC, fillRows, optInt, optOk, sliceA, clipC, optK_some, storeK_some, Option.map_some, toDs, C.toD, spliceD, appendA, capsOf, srcRows, allLen_nil_iff, allLen_cons_iff, allLen_append_iff, dropC, Obs.fits, eqCs, eqD]
  have no : ∀ {st : St}, resOks st [Rv.cell 4 (some 4), Rv.tmp 5] → resRaw st [Rv.cell 4 (some 4), Rv.tmp 5] = some (.tup [.agg [.d (.int .i64 0), .d (.int .i64 0), .d (.str []), .full []], .c (.d (.bool false))]) → ((decide (l.length ≤ 120) && l.all Tm.valid && t.valid) && (chainT l t).valid) = false → FinT [Rv.cell 4 (some 4), Rv.tmp 5] (HandsTB (mkT l t).1 (mkT l t).2) .ret st := fun h1 h2 h3 => by
    rw [bad h3]
    exact finT_ret _ h1 h2 fun kv => ⟨_, _, _, .tup (.cons (.agg (.cons (.leaf rfl) (.cons (.leaf rfl) (.cons (.leaf rfl) (.cons .full .nil))))) (.cons (.c (.leaf rfl)) .nil)), by simp, _, rfl, rfl⟩
  refine ⟨fun h1 => ⟨h1, ?_⟩, fun h1 => no ⟨trivial, trivial, trivial⟩ rfl (by rw [decide_eq_false (by omega)]; simp)⟩
  have h1' : l.length ≤ 120 := by omega
  have hav := allValid_calls l hl h
  cases ha : l.all Tm.valid with
  | false =>
    simp only [ha] at hav
    refine qcall_pure hav trivial rfl ?_
    simp -implicitDefEqProofs [row_len, take_row, aw_skip, aw_region, aw_seq, aw_block, aw_cond, aw_exit, aw_ret, kq_nil, kq_seq, kq_seq_ret, kq_seq_exit, kq_block, kq_block_ret, kq_block_exit, kq_loop, kq_loop_ret, kq_loop_exit, awOps_nil, awOps_cons, awOps_guardE, nx_eq, awOp, ev_k, ev_0, ev_1, ev_2, ev_3, ev_4, ev_5, ev_6, ev_7, ev_8, set_0, set_1, set_2, set_3, set_4, set_5, set_6, set_7, set_8, -List.set_cons_succ, -List.set_cons_zero, A.ok, A.val, setSl, wrapG, guardB, getB, pickA, binA, binC, binD, cmpD, isCmp, unA, unD, lenA, AOp.total, kills, litB, FinQ, resOks, resOk, resA, resList, resOne, A.thaw, C.thaw, A.fits, As.fits, C.fits, evs, oks, callArgs, A.pure, C.pure, A.re, C.re, fieldAddrA, loadC, cut, A.cells, C.rows?, getOb, newOb, setOb, storeC, splice, Ob.re, Cs.fits, partsA, partsOk, parts2A, parts2Ok, fillC, fillRows, optInt, optOk, sliceA, clipC, optK_some, storeK_some, Option.map_some, toDs, C.toD, spliceD, appendA, capsOf, srcRows, allLen_nil_iff, allLen_cons_iff, allLen_append_iff, dropC, Obs.fits, eqCs, eqD]
    exact no ⟨trivial, trivial, trivial⟩ rfl (by rw [ha]; simp)
  | true =>
    simp only [ha] at hav
    refine qcall_pure hav trivial rfl ?_
    simp -implicitDefEqProofs [row_len, take_row, pure_d, re_d, aw_skip, aw_region, aw_seq, aw_block, aw_cond, aw_exit, aw_ret, kq_nil, kq_seq, kq_seq_ret, kq_seq_exit, kq_block, kq_block_ret, kq_block_exit, kq_loop, kq_loop_ret, kq_loop_exit, awOps_nil, awOps_cons, awOps_guardE, nx_eq, awOp, ev_k, ev_0, ev_1, ev_2, ev_3, ev_4, ev_5, ev_6, ev_7, ev_8, set_0, set_1, set_2, set_3, set_4, set_5, set_6, set_7, set_8, -List.set_cons_succ, -List.set_cons_zero, A.ok, A.val, setSl, wrapG, guardB, getB, pickA, binA, binC, binD, cmpD, isCmp, unA, unD, lenA, AOp.total, kills, litB, FinQ, resOks, resOk, resA, resList, resOne, A.thaw, C.thaw, A.fits, As.fits, C.fits, evs, oks, callArgs, A.pure, C.pure, A.re, C.re, fieldAddrA, loadC, cut, A.cells, C.rows?, getOb, newOb, setOb, storeC, splice, Ob.re, Cs.fits, partsA, partsOk, parts2A, parts2Ok, fillC, fillRows, optInt, optOk, sliceA, clipC, optK_some, storeK_some, Option.map_some, toDs, C.toD, spliceD, appendA, capsOf, srcRows, allLen_nil_iff, allLen_cons_iff, allLen_append_iff, dropC, Obs.fits, eqCs, eqD]
    have htv := tvImpl_calls t ht
    cases hv : t.valid with
    | false =>
      simp only [hv] at htv
      refine qcall_pure htv trivial rfl ?_
      simp -implicitDefEqProofs [aw_skip, aw_region, aw_seq, aw_block, aw_cond, aw_exit, aw_ret, kq_nil, kq_seq, kq_seq_ret, kq_seq_exit, kq_block, kq_block_ret, kq_block_exit, kq_loop, kq_loop_ret, kq_loop_exit, awOps_nil, awOps_cons, awOps_guardE, nx_eq, awOp, ev_k, ev_0, ev_1, ev_2, ev_3, ev_4, ev_5, ev_6, ev_7, ev_8, set_0, set_1, set_2, set_3, set_4, set_5, set_6, set_7, set_8, -List.set_cons_succ, -List.set_cons_zero, A.ok, A.val, setSl, wrapG, guardB, getB, pickA, binA, binC, binD, cmpD, isCmp, unA, unD, lenA, AOp.total, kills, litB, FinQ, resOks, resOk, resA, resList, resOne, A.thaw, C.thaw, A.fits, As.fits, C.fits, evs, oks, callArgs, A.pure, C.pure, A.re, C.re, fieldAddrA, loadC, cut, A.cells, C.rows?, getOb, newOb, setOb, storeC, splice, Ob.re, Cs.fits, partsA, partsOk, parts2A, parts2Ok, fillC, fillRows, optInt, optOk, sliceA, clipC, optK_some, storeK_some, Option.map_some, toDs, C.toD, spliceD, appendA, capsOf, srcRows, allLen_nil_iff, allLen_cons_iff, allLen_append_iff, dropC, Obs.fits, eqCs, eqD]
      exact no ⟨trivial, trivial, trivial⟩ rfl (by rw [ha, hv]; simp)
    | true =>
      simp only [hv] at htv
      refine qcall_pure htv trivial rfl ?_
      simp -implicitDefEqProofs [row_len, take_row, pure_d, re_d, aw_skip, aw_region, aw_seq, aw_block, aw_cond, aw_exit, aw_ret, kq_nil, kq_seq, kq_seq_ret, kq_seq_exit, kq_block, kq_block_ret, kq_block_exit, kq_loop, kq_loop_ret, kq_loop_exit, awOps_nil, awOps_cons, awOps_guardE, nx_eq, awOp, ev_k, ev_0, ev_1, ev_2, ev_3, ev_4, ev_5, ev_6, ev_7, ev_8, set_0, set_1, set_2, set_3, set_4, set_5, set_6, set_7, set_8, -List.set_cons_succ, -List.set_cons_zero, A.ok, A.val, setSl, wrapG, guardB, getB, pickA, binA, binC, binD, cmpD, isCmp, unA, unD, lenA, AOp.total, kills, litB, FinQ, resOks, resOk, resA, resList, resOne, A.thaw, C.thaw, A.fits, As.fits, C.fits, evs, oks, callArgs, A.pure, C.pure, A.re, C.re, fieldAddrA, loadC, cut, A.cells, C.rows?, getOb, newOb, setOb, storeC, splice, Ob.re, Cs.fits, partsA, partsOk, parts2A, parts2Ok, fillC, fillRows, optInt, optOk, sliceA, clipC, optK_some, storeK_some, Option.map_some, toDs, C.toD, spliceD, appendA, capsOf, srcRows, allLen_nil_iff, allLen_cons_iff, allLen_append_iff, dropC, Obs.fits, eqCs, eqD]
      refine qcall_pure (chainImpl_calls l hl t) trivial (by simp [A.re, re_d]) ?_
      simp -implicitDefEqProofs [row_len, take_row, pure_d, re_d, aw_skip, aw_region, aw_seq, aw_block, aw_cond, aw_exit, aw_ret, kq_nil, kq_seq, kq_seq_ret, kq_seq_exit, kq_block, kq_block_ret, kq_block_exit, kq_loop, kq_loop_ret, kq_loop_exit, awOps_nil, awOps_cons, awOps_guardE, nx_eq, awOp, ev_k, ev_0, ev_1, ev_2, ev_3, ev_4, ev_5, ev_6, ev_7, ev_8, set_0, set_1, set_2, set_3, set_4, set_5, set_6, set_7, set_8, -List.set_cons_succ, -List.set_cons_zero, A.ok, A.val, setSl, wrapG, guardB, getB, pickA, binA, binC, binD, cmpD, isCmp, unA, unD, lenA, AOp.total, kills, litB, FinQ, resOks, resOk, resA, resList, resOne, A.thaw, C.thaw, A.fits, As.fits, C.fits, evs, oks, callArgs, A.pure, C.pure, A.re, C.re, fieldAddrA, loadC, cut, A.cells, C.rows?, getOb, newOb, setOb, storeC, splice, Ob.re, Cs.fits, partsA, partsOk, parts2A, parts2Ok, fillC, fillRows, optInt, optOk, sliceA, clipC, optK_some, storeK_some, Option.map_some, toDs, C.toD, spliceD, appendA, capsOf, srcRows, allLen_nil_iff, allLen_cons_iff, allLen_append_iff, dropC, Obs.fits, eqCs, eqD]
      refine call_loc (J := []) (ownO_calls _ hch) (fun r H' h => h.handed) (by simp [Ob.re, re_d, C.re]) (.cons fz_row .nil) List.nodup_nil rfl rfl ?_
      rintro _ _ ⟨v, rfl, rfl⟩ _
      simp -implicitDefEqProofs [putAll, row_len, take_row, pure_d, re_d, aw_skip, aw_region, aw_seq, aw_block, aw_cond, aw_exit, aw_ret, kq_nil, kq_seq, kq_seq_ret, kq_seq_exit, kq_block, kq_block_ret, kq_block_exit, kq_loop, kq_loop_ret, kq_loop_exit, awOps_nil, awOps_cons, awOps_guardE, nx_eq, awOp, ev_k, ev_0, ev_1, ev_2, ev_3, ev_4, ev_5, ev_6, ev_7, ev_8, set_0, set_1, set_2, set_3, set_4, set_5, set_6, set_7, set_8, -List.set_cons_succ, -List.set_cons_zero, A.ok, A.val, setSl, wrapG, guardB, getB, pickA, binA, binC, binD, cmpD, isCmp, unA, unD, lenA, AOp.total, kills, litB, FinQ, resOks, resOk, resA, resList, resOne, A.thaw, C.thaw, A.fits, As.fits, C.fits, evs, oks, callArgs, A.pure, C.pure, A.re, C.re, fieldAddrA, loadC, cut, A.cells, C.rows?, getOb, newOb, setOb, storeC, splice, Ob.re, Cs.fits, partsA, partsOk, parts2A, parts2Ok, fillC, fillRows, optInt, optOk, sliceA, clipC, optK_some, storeK_some, Option.map_some, toDs, C.toD, spliceD, appendA, capsOf, srcRows, allLen_nil_iff, allLen_cons_iff, allLen_append_iff, dropC, Obs.fits, eqCs, eqD]
      have hcv := tvImpl_calls _ hch []
      cases hw : (chainT l t).valid with
      | false =>
        simp only [hw] at hcv
        refine qcall_read hcv rfl trivial (.cons (fz_tm (i := 2) rfl) .nil) ?_
        simp -implicitDefEqProofs [aw_skip, aw_region, aw_seq, aw_block, aw_cond, aw_exit, aw_ret, kq_nil, kq_seq, kq_seq_ret, kq_seq_exit, kq_block, kq_block_ret, kq_block_exit, kq_loop, kq_loop_ret, kq_loop_exit, awOps_nil, awOps_cons, awOps_guardE, nx_eq, awOp, ev_k, ev_0, ev_1, ev_2, ev_3, ev_4, ev_5, ev_6, ev_7, ev_8, set_0, set_1, set_2, set_3, set_4, set_5, set_6, set_7, set_8, -List.set_cons_succ, -List.set_cons_zero, A.ok, A.val, setSl, wrapG, guardB, getB, pickA, binA, binC, binD, cmpD, isCmp, unA, unD, lenA, AOp.total, kills, litB, FinQ, resOks, resOk, resA, resList, resOne, A.thaw, C.thaw, A.fits, As.fits, C.fits, evs, oks, callArgs, A.pure, C.pure, A.re, C.re, fieldAddrA, loadC, cut, A.cells, C.rows?, getOb, newOb, setOb, storeC, splice, Ob.re, Cs.fits, partsA, partsOk, parts2A, parts2Ok, fillC, fillRows, optInt, optOk, sliceA, clipC, optK_some, storeK_some, Option.map_some, toDs, C.toD, spliceD, appendA, capsOf, srcRows, allLen_nil_iff, allLen_cons_iff, allLen_append_iff, dropC, Obs.fits, eqCs, eqD]
        exact no ⟨trivial, trivial, trivial⟩ rfl (by rw [hw]; simp)
      | true =>
        simp only [hw] at hcv
        refine qcall_read hcv rfl trivial (.cons (fz_tm (i := 2) rfl) .nil) ?_
        have good : mkT l t = (chainT l t, true) := by rw [mkT, ha, hv, hw]; simp [h1']
        simp -implicitDefEqProofs [row_len, take_row, aw_skip, aw_region, aw_seq, aw_block, aw_cond, aw_exit, aw_ret, kq_nil, kq_seq, kq_seq_ret, kq_seq_exit, kq_block, kq_block_ret, kq_block_exit, kq_loop, kq_loop_ret, kq_loop_exit, awOps_nil, awOps_cons, awOps_guardE, nx_eq, awOp, ev_k, ev_0, ev_1, ev_2, ev_3, ev_4, ev_5, ev_6, ev_7, ev_8, set_0, set_1, set_2, set_3, set_4, set_5, set_6, set_7, set_8, -List.set_cons_succ, -List.set_cons_zero, A.ok, A.val, setSl, wrapG, guardB, getB, pickA, binA, binC, binD, cmpD, isCmp, unA, unD, lenA, AOp.total, kills, litB, FinQ, resOks, resOk, resA, resList, resOne, A.thaw, C.thaw, A.fits, As.fits, C.fits, evs, oks, callArgs, A.pure, C.pure, A.re, C.re, fieldAddrA, loadC, cut, A.cells, C.rows?, getOb, newOb, setOb, storeC, splice, Ob.re, Cs.fits, partsA, partsOk, parts2A, parts2Ok, fillC, fillRows, optInt, optOk, sliceA, clipC, optK_some, storeK_some, Option.map_some, toDs, C.toD, spliceD, appendA, capsOf, srcRows, allLen_nil_iff, allLen_cons_iff, allLen_append_iff, dropC, Obs.fits, eqCs, eqD]
        rw [good]
        exact finT_ret _ ⟨trivial, trivial, trivial⟩ rfl fun kv => ⟨_, _, _, .tup (.cons (.agg (.cons (.leaf rfl) (.cons (.leaf rfl) (.cons (.leaf rfl) (.cons (.tree (j := 2) rfl) .nil))))) (.cons (.c (.leaf rfl)) .nil)), by simp, _, rfl, rfl⟩
end Go.Proofs.Ytnpncfadhflapaa
