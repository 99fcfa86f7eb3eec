/-
  The law FnKeysFit holds: impl.KeysFit answers as spec.KeysFit, is symmetric, and fits a key to itself and to none.
  Conditions: none.
-/
import Derived.Test.YtokgioccfeebkaaDraw
open Go Go.AM Go.Proofs
namespace Go.Proofs.Ytokgioccfeebkaa
open Go.ChangeShapes Go.WideShapes Go.ChangeAt Go.RowKit
set_option linter.unusedVariables false
set_option linter.unusedSimpArgs false
set_option maxRecDepth 100000
-- 14 loop.example/prologserver/spec.KeysFit params 2 ntmps 16
def ac14 : Cd := .seq (.region [⟨(some 4), .mv (.k (.c (.d (.bool false)))), none⟩] [4])
  (.seq (.region [⟨(some 5), .mv (.t 0), none⟩,
      ⟨(some 6), .bin .eql (.t 5) (.k (.c (.d (.str [])))), none⟩,
      ⟨(some 7), .mv (.t 6), none⟩,
      ⟨(some 8), .mv (.t 1), some (7, false)⟩,
      ⟨(some 9), .bin .eql (.t 8) (.k (.c (.d (.str [])))), some (7, false)⟩,
      ⟨(some 10), .pick (.t 7) (.k (.c (.d (.bool true)))) (.t 9), none⟩,
      ⟨(some 11), .mv (.t 10), none⟩,
      ⟨(some 12), .mv (.t 0), some (11, false)⟩,
      ⟨(some 13), .mv (.t 1), some (11, false)⟩,
      ⟨(some 14), .bin .eql (.t 12) (.t 13), some (11, false)⟩,
      ⟨(some 15), .pick (.t 11) (.k (.c (.d (.bool true)))) (.t 14), none⟩,
      ⟨(some 4), .mv (.t 15), none⟩] [0, 1, 5, 6, 7, 8, 9, 10, 11, 12, 13, 14, 15])
  (.ret))
theorem ac14_ok : cFunc Try.prog [] [(0, [4], []), (1, [0, 1, 5, 6, 7, 8, 9, 10, 11, 12, 13, 14, 15], [])] Try.f14 = some (ac14, [.tmp 4], 16) := by kernel_rfl
-- 15 loop.example/prologserver/impl.KeysFit params 2 ntmps 16
def ac15 : Cd := .seq (.region [⟨(some 4), .mv (.k (.c (.d (.bool false)))), none⟩] [4])
  (.seq (.region [⟨(some 5), .mv (.t 0), none⟩,
      ⟨(some 6), .bin .eql (.t 5) (.k (.c (.d (.str [])))), none⟩,
      ⟨(some 7), .mv (.t 6), none⟩,
      ⟨(some 8), .mv (.t 1), some (7, false)⟩,
      ⟨(some 9), .bin .eql (.t 8) (.k (.c (.d (.str [])))), some (7, false)⟩,
      ⟨(some 10), .pick (.t 7) (.k (.c (.d (.bool true)))) (.t 9), none⟩,
      ⟨(some 11), .mv (.t 10), none⟩,
      ⟨(some 12), .mv (.t 0), some (11, false)⟩,
      ⟨(some 13), .mv (.t 1), some (11, false)⟩,
      ⟨(some 14), .bin .eql (.t 12) (.t 13), some (11, false)⟩,
      ⟨(some 15), .pick (.t 11) (.k (.c (.d (.bool true)))) (.t 14), none⟩,
      ⟨(some 4), .mv (.t 15), none⟩] [0, 1, 5, 6, 7, 8, 9, 10, 11, 12, 13, 14, 15])
  (.ret))
theorem ac15_ok : cFunc Try.prog [] [(0, [4], []), (1, [0, 1, 5, 6, 7, 8, 9, 10, 11, 12, 13, 14, 15], [])] Try.f15 = some (ac15, [.tmp 4], 16) := by kernel_rfl
-- 16 loop.example/prologserver/spec.DrawKeysFit params 1 ntmps 23
def ac16 : Cd := .seq (.region [⟨(some 2), .mv (.k (.c (.d (.str [])))), none⟩,
      ⟨(some 3), .mv (.k (.c (.d (.str [])))), none⟩] [2, 3])
  (.seq (.region [⟨(some 6), .mv (.t 0), none⟩,
      ⟨(some 7), .call false 56 [(.t 6)], none⟩,
      ⟨(some 4), .mv (.t 7), none⟩] [0, 6, 7])
  (.seq (.region [⟨(some 8), .buildSlice 1 6 [(.str [])] [(0, (.k (.c (.d (.str []))))), (1, (.k (.c (.d (.str [49]))))), (2, (.k (.c (.d (.str [97, 47, 48]))))), (3, (.k (.c (.d (.str [102, 47, 49]))))), (4, (.k (.c (.d (.str [45, 49]))))), (5, (.k (.c (.d (.str [46, 47, 50])))))], none⟩,
      ⟨(some 5), .mv (.t 8), none⟩] [8])
  (.seq (.region [⟨(some 9), .mv (.t 5), none⟩,
      ⟨(some 10), .mv (.t 4), none⟩,
      ⟨(some 11), .mv (.t 5), none⟩,
      ⟨(some 12), .len 1 (.t 11), none⟩,
      ⟨(some 16), .mv (.t 5), none⟩,
      ⟨(some 17), .mv (.t 4), none⟩,
      ⟨(some 18), .mv (.t 5), none⟩,
      ⟨(some 19), .len 1 (.t 18), none⟩,
      ⟨(some 13), .call false 57 [(.t 10), (.t 12)], none⟩,
      ⟨(some 14), .indexAddr 1 (.t 9) (.t 13), none⟩,
      ⟨(some 15), .loadI none (.t 14), none⟩,
      ⟨(some 20), .call false 57 [(.t 17), (.t 19)], none⟩,
      ⟨(some 21), .indexAddr 1 (.t 16) (.t 20), none⟩,
      ⟨(some 22), .loadI none (.t 21), none⟩,
      ⟨(some 2), .mv (.t 15), none⟩,
      ⟨(some 3), .mv (.t 22), none⟩] [4, 5, 9, 10, 11, 12, 13, 14, 15, 16, 17, 18, 19, 20, 21, 22])
  (.ret))))
theorem ac16_ok : cFunc Try.prog [2000014, 2000021] [(0, [2, 3], []), (1, [0, 6, 7], []), (2, [8], []), (3, [4, 5, 9, 10, 11, 12, 13, 14, 15, 16, 17, 18, 19, 20, 21, 22], [0, 1, 2, 3, 7, 8, 9, 10, 4, 5, 6, 11, 12, 13, 14, 15])] Try.f16 = some (ac16, [.tmp 2, .tmp 3], 23) := by kernel_rfl
-- 4 loop.example/prologserver/laws.FnKeysFit params 1 ntmps 38
def ac4 : Cd := .seq (.region [⟨(some 2), .mv (.k (.c (.d (.bool false)))), none⟩] [2])
  (.seq (.seq (.region [⟨(some 6), .mv (.t 0), none⟩,
        ⟨(some 7), .len 1 (.t 6), none⟩,
        ⟨(some 8), .bin .gtr (.t 7) (.k (.c (.d (.int .i64 1048576)))), none⟩] [6, 7])
    (.cond (.t 8)
      (.seq (.region [⟨(some 2), .mv (.k (.c (.d (.bool true)))), none⟩] [0, 8])
      (.ret))
      (.skip)))
  (.seq (.region [⟨(some 10), .mv (.t 0), none⟩,
      ⟨(some 11), .call false 16 [(.t 10)], none⟩,
      ⟨(some 9), .mv (.t 11), none⟩,
      ⟨(some 12), .extract 0 (.t 9), none⟩,
      ⟨(some 13), .extract 1 (.t 9), none⟩,
      ⟨(some 3), .mv (.t 12), none⟩,
      ⟨(some 4), .mv (.t 13), none⟩] [0, 2, 8, 9, 10, 11, 12, 13])
  (.seq (.region [⟨(some 14), .mv (.t 3), none⟩,
      ⟨(some 15), .mv (.t 4), none⟩,
      ⟨(some 16), .qcall 15 [(.t 14), (.t 15)], none⟩,
      ⟨(some 5), .mv (.t 16), none⟩] [14, 15, 16])
  (.seq (.region [⟨(some 17), .mv (.t 5), none⟩,
      ⟨(some 18), .mv (.t 3), none⟩,
      ⟨(some 19), .mv (.t 4), none⟩,
      ⟨(some 20), .qcall 14 [(.t 18), (.t 19)], none⟩,
      ⟨(some 21), .binB false (.t 17) (.t 20), none⟩,
      ⟨(some 22), .mv (.t 21), none⟩,
      ⟨(some 23), .mv (.t 5), some (22, true)⟩,
      ⟨(some 24), .mv (.t 4), some (22, true)⟩,
      ⟨(some 25), .mv (.t 3), some (22, true)⟩,
      ⟨(some 26), .qcall 15 [(.t 24), (.t 25)], some (22, true)⟩,
      ⟨(some 27), .binB false (.t 23) (.t 26), some (22, true)⟩,
      ⟨(some 28), .pick (.t 22) (.t 27) (.k (.c (.d (.bool false)))), none⟩,
      ⟨(some 29), .mv (.t 28), none⟩,
      ⟨(some 30), .mv (.t 3), some (29, true)⟩,
      ⟨(some 31), .mv (.t 3), some (29, true)⟩,
      ⟨(some 32), .qcall 15 [(.t 30), (.t 31)], some (29, true)⟩,
      ⟨(some 33), .pick (.t 29) (.t 32) (.k (.c (.d (.bool false)))), none⟩,
      ⟨(some 34), .mv (.t 33), none⟩,
      ⟨(some 35), .mv (.t 3), some (34, true)⟩,
      ⟨(some 36), .qcall 15 [(.t 35), (.k (.c (.d (.str []))))], some (34, true)⟩,
      ⟨(some 37), .pick (.t 34) (.t 36) (.k (.c (.d (.bool false)))), none⟩,
      ⟨(some 2), .mv (.t 37), none⟩] [3, 4, 5, 17, 18, 19, 20, 21, 22, 23, 24, 25, 26, 27, 28, 29, 30, 31, 32, 33, 34, 35, 36, 37])
  (.ret)))))
theorem ac4_ok : cFunc Try.prog [1000014, 1000015] [(0, [2], []), (1, [6, 7], []), (2, [0, 8], []), (3, [0, 2, 8, 9, 10, 11, 12, 13], []), (4, [14, 15, 16], []), (5, [3, 4, 5, 17, 18, 19, 20, 21, 22, 23, 24, 25, 26, 27, 28, 29, 30, 31, 32, 33, 34, 35, 36, 37], [])] Try.f4 = some (ac4, [.tmp 2], 38) := by kernel_rfl
theorem kfSpec_calls (x y : List UInt8) (H : Heap) : ACalls Try.prog 14 [.c (.d (.str x)), .c (.d (.str y))] H (fun r H' => H' = H ∧ r = .c (.d (.bool (x.isEmpty || y.isEmpty || x == y)))) := by
  refine acalls Try.func14 (by kernel_rfl) ac14_ok fun hf => ?_
  simp [ac14, aw_skip, aw_region, aw_seq, aw_block, aw_cond, aw_exit, aw_ret, kq_nil, kq_seq, kq_seq_ret, kq_seq_exit, kq_block, kq_block_ret, kq_block_exit, kq_loop, kq_loop_ret, kq_loop_exit, awOps_nil, awOps_cons, awOps_guard, nx_eq, awOp, Opd.ev, A.ok, A.val, setSl, wrapG, guardB, getB, pickA, binA, binC, binD, cmpD, isCmp, unA, unD, lenA, AOp.total, kills, litB, FinQ, resOks, resOk, resA, resList, resOne, A.thaw, C.thaw, A.fits, As.fits, C.fits, evs, oks, callArgs, A.pure, C.pure, A.re, C.re, fieldAddrA, loadC, cut, A.cells, C.rows?, getOb, newOb, setOb, storeC, splice, Ob.re, Cs.fits, partsA, partsOk, parts2A, parts2Ok, fillC, fillRows, optInt, optOk, sliceA, optK_some, storeK_some, Option.map_some, toDs, C.toD, spliceD]
theorem kfImpl_calls (x y : List UInt8) (H : Heap) : ACalls Try.prog 15 [.c (.d (.str x)), .c (.d (.str y))] H (fun r H' => H' = H ∧ r = .c (.d (.bool (x.isEmpty || y.isEmpty || x == y)))) := by
  refine acalls Try.func15 (by kernel_rfl) ac15_ok fun hf => ?_
  simp [ac15, aw_skip, aw_region, aw_seq, aw_block, aw_cond, aw_exit, aw_ret, kq_nil, kq_seq, kq_seq_ret, kq_seq_exit, kq_block, kq_block_ret, kq_block_exit, kq_loop, kq_loop_ret, kq_loop_exit, awOps_nil, awOps_cons, awOps_guard, nx_eq, awOp, Opd.ev, A.ok, A.val, setSl, wrapG, guardB, getB, pickA, binA, binC, binD, cmpD, isCmp, unA, unD, lenA, AOp.total, kills, litB, FinQ, resOks, resOk, resA, resList, resOne, A.thaw, C.thaw, A.fits, As.fits, C.fits, evs, oks, callArgs, A.pure, C.pure, A.re, C.re, fieldAddrA, loadC, cut, A.cells, C.rows?, getOb, newOb, setOb, storeC, splice, Ob.re, Cs.fits, partsA, partsOk, parts2A, parts2Ok, fillC, fillRows, optInt, optOk, sliceA, optK_some, storeK_some, Option.map_some, toDs, C.toD, spliceD]
def strOf (k : Int) : List UInt8 := if k = 0 then [] else if k = 1 then [49] else if k = 2 then [97, 47, 48] else if k = 3 then [102, 47, 49] else if k = 4 then [45, 49] else [46, 47, 50]
theorem keys_get (k : Int) (h0 : 0 ≤ k) (h1 : k < 6) : ([[D.str []], [D.str [49]], [D.str [97, 47, 48]], [D.str [102, 47, 49]], [D.str [45, 49]], [D.str [46, 47, 50]]] : List (List D))[k.toNat]? = some [.str (strOf k)] := by
  obtain ⟨n, rfl⟩ := Int.eq_ofNat_of_zero_le h0
  have : n < 6 := by omega
  match n, this with
  | 0, _ => rfl
  | 1, _ => rfl
  | 2, _ => rfl
  | 3, _ => rfl
  | 4, _ => rfl
  | 5, _ => rfl
/-- two strings -/
def TwoStr (r : A) : Prop := ∃ x y : List UInt8, r = .tup [.c (.d (.str x)), .c (.d (.str y))]
theorem TwoStr.re {n : Nat} {r : A} (h : TwoStr r) : A.re n r = r := by
  obtain ⟨x, y, rfl⟩ := h
  rfl
theorem drawKf_calls (c : List UInt8) (hc : c.length ≤ 1048576) (H : Heap) : ACalls Try.prog 16 [.c (.d (.sl (bytesRows c)))] H (fun r H' => H' = H ∧ TwoStr r) := by
  refine acalls Try.func16 (by kernel_rfl) ac16_ok fun hf => ?_
  simp [ac16, aw_skip, aw_region, aw_seq, aw_block, aw_cond, aw_exit, aw_ret, kq_nil, kq_seq, kq_seq_ret, kq_seq_exit, kq_block, kq_block_ret, kq_block_exit, kq_loop, kq_loop_ret, kq_loop_exit, awOps_nil, awOps_cons, awOps_guard, nx_eq, awOp, Opd.ev, A.ok, A.val, setSl, wrapG, guardB, getB, pickA, binA, binC, binD, cmpD, isCmp, unA, unD, lenA, AOp.total, kills, litB, FinQ, resOks, resOk, resA, resList, resOne, A.thaw, C.thaw, A.fits, As.fits, C.fits, evs, oks, callArgs, A.pure, C.pure, A.re, C.re, fieldAddrA, loadC, cut, A.cells, C.rows?, getOb, newOb, setOb, storeC, splice, Ob.re, Cs.fits, partsA, partsOk, parts2A, parts2Ok, fillC, fillRows, optInt, optOk, sliceA, optK_some, storeK_some, Option.map_some, toDs, C.toD, spliceD]
  refine (open_calls c hc H).mono fun r H' ⟨h1, c', hc', h2⟩ => ⟨H, [Rd c' 0], .c (.ptr (.l 0) 0), by rw [h2]; rfl, rfl, by simp, hf, h1, ?_⟩
  simp [aw_skip, aw_region, aw_seq, aw_block, aw_cond, aw_exit, aw_ret, kq_nil, kq_seq, kq_seq_ret, kq_seq_exit, kq_block, kq_block_ret, kq_block_exit, kq_loop, kq_loop_ret, kq_loop_exit, awOps_nil, awOps_cons, awOps_guard, nx_eq, awOp, Opd.ev, A.ok, A.val, setSl, wrapG, guardB, getB, pickA, binA, binC, binD, cmpD, isCmp, unA, unD, lenA, AOp.total, kills, litB, FinQ, resOks, resOk, resA, resList, resOne, A.thaw, C.thaw, A.fits, As.fits, C.fits, evs, oks, callArgs, A.pure, C.pure, A.re, C.re, fieldAddrA, loadC, cut, A.cells, C.rows?, getOb, newOb, setOb, storeC, splice, Ob.re, Cs.fits, partsA, partsOk, parts2A, parts2Ok, fillC, fillRows, optInt, optOk, sliceA, optK_some, storeK_some, Option.map_some, toDs, C.toD, spliceD]
  have hi6 : inR .i64 6 := small_i64 (by omega) (by omega)
  simp [hi6]
  refine call_drawL (j := 0) (pick_draws 6 (by omega)) hc' (by omega) (by omega) rfl (by simp [Rd, Ob.re, C.re]) (fun r => IntIn.re) hf ?_
  rintro _ p' ⟨k, rfl, h1, h2⟩ h3 h4
  simp [aw_skip, aw_region, aw_seq, aw_block, aw_cond, aw_exit, aw_ret, kq_nil, kq_seq, kq_seq_ret, kq_seq_exit, kq_block, kq_block_ret, kq_block_exit, kq_loop, kq_loop_ret, kq_loop_exit, awOps_nil, awOps_cons, awOps_guard, nx_eq, awOp, Opd.ev, A.ok, A.val, setSl, wrapG, guardB, getB, pickA, binA, binC, binD, cmpD, isCmp, unA, unD, lenA, AOp.total, kills, litB, FinQ, resOks, resOk, resA, resList, resOne, A.thaw, C.thaw, A.fits, As.fits, C.fits, evs, oks, callArgs, A.pure, C.pure, A.re, C.re, fieldAddrA, loadC, cut, A.cells, C.rows?, getOb, newOb, setOb, storeC, splice, Ob.re, Cs.fits, partsA, partsOk, parts2A, parts2Ok, fillC, fillRows, optInt, optOk, sliceA, optK_some, storeK_some, Option.map_some, toDs, C.toD, spliceD]
  refine row_int [.str (strOf k)] h1 (keys_get k h1 h2) rfl ?_
  simp [aw_skip, aw_region, aw_seq, aw_block, aw_cond, aw_exit, aw_ret, kq_nil, kq_seq, kq_seq_ret, kq_seq_exit, kq_block, kq_block_ret, kq_block_exit, kq_loop, kq_loop_ret, kq_loop_exit, awOps_nil, awOps_cons, awOps_guard, nx_eq, awOp, Opd.ev, A.ok, A.val, setSl, wrapG, guardB, getB, pickA, binA, binC, binD, cmpD, isCmp, unA, unD, lenA, AOp.total, kills, litB, FinQ, resOks, resOk, resA, resList, resOne, A.thaw, C.thaw, A.fits, As.fits, C.fits, evs, oks, callArgs, A.pure, C.pure, A.re, C.re, fieldAddrA, loadC, cut, A.cells, C.rows?, getOb, newOb, setOb, storeC, splice, Ob.re, Cs.fits, partsA, partsOk, parts2A, parts2Ok, fillC, fillRows, optInt, optOk, sliceA, optK_some, storeK_some, Option.map_some, toDs, C.toD, spliceD]
  refine call_drawL (j := 0) (pick_draws 6 (by omega)) hc' (by omega) (by omega) rfl (by simp [Rd, Ob.re, C.re]) (fun r => IntIn.re) hf ?_
  rintro _ p2 ⟨k2, rfl, g1, g2⟩ g3 g4
  simp [aw_skip, aw_region, aw_seq, aw_block, aw_cond, aw_exit, aw_ret, kq_nil, kq_seq, kq_seq_ret, kq_seq_exit, kq_block, kq_block_ret, kq_block_exit, kq_loop, kq_loop_ret, kq_loop_exit, awOps_nil, awOps_cons, awOps_guard, nx_eq, awOp, Opd.ev, A.ok, A.val, setSl, wrapG, guardB, getB, pickA, binA, binC, binD, cmpD, isCmp, unA, unD, lenA, AOp.total, kills, litB, FinQ, resOks, resOk, resA, resList, resOne, A.thaw, C.thaw, A.fits, As.fits, C.fits, evs, oks, callArgs, A.pure, C.pure, A.re, C.re, fieldAddrA, loadC, cut, A.cells, C.rows?, getOb, newOb, setOb, storeC, splice, Ob.re, Cs.fits, partsA, partsOk, parts2A, parts2Ok, fillC, fillRows, optInt, optOk, sliceA, optK_some, storeK_some, Option.map_some, toDs, C.toD, spliceD]
  refine row_int [.str (strOf k2)] g1 (keys_get k2 g1 g2) rfl ?_
  simp [TwoStr, aw_skip, aw_region, aw_seq, aw_block, aw_cond, aw_exit, aw_ret, kq_nil, kq_seq, kq_seq_ret, kq_seq_exit, kq_block, kq_block_ret, kq_block_exit, kq_loop, kq_loop_ret, kq_loop_exit, awOps_nil, awOps_cons, awOps_guard, nx_eq, awOp, Opd.ev, A.ok, A.val, setSl, wrapG, guardB, getB, pickA, binA, binC, binD, cmpD, isCmp, unA, unD, lenA, AOp.total, kills, litB, FinQ, resOks, resOk, resA, resList, resOne, A.thaw, C.thaw, A.fits, As.fits, C.fits, evs, oks, callArgs, A.pure, C.pure, A.re, C.re, fieldAddrA, loadC, cut, A.cells, C.rows?, getOb, newOb, setOb, storeC, splice, Ob.re, Cs.fits, partsA, partsOk, parts2A, parts2Ok, fillC, fillRows, optInt, optOk, sliceA, optK_some, storeK_some, Option.map_some, toDs, C.toD, spliceD]
theorem lawKf_calls (c : List UInt8) (hc : c.length ≤ reachBytes) : ACalls Try.prog 4 [.c (.d (.sl (bytesRows c)))] [] (fun r _ => r = .c (.d (.bool true))) := by
  refine acalls Try.func4 (by kernel_rfl) ac4_ok fun hf => ?_
  have hl := reach_i64 hc
  simp [ac4, hl, bytesRows_len, aw_skip, aw_region, aw_seq, aw_block, aw_cond, aw_exit, aw_ret, kq_nil, kq_seq, kq_seq_ret, kq_seq_exit, kq_block, kq_block_ret, kq_block_exit, kq_loop, kq_loop_ret, kq_loop_exit, awOps_nil, awOps_cons, awOps_guard, nx_eq, awOp, Opd.ev, A.ok, A.val, setSl, wrapG, guardB, getB, pickA, binA, binC, binD, cmpD, isCmp, unA, unD, lenA, AOp.total, kills, litB, FinQ, resOks, resOk, resA, resList, resOne, A.thaw, C.thaw, A.fits, As.fits, C.fits, evs, oks, callArgs, A.pure, C.pure, A.re, C.re, fieldAddrA, loadC, cut, A.cells, C.rows?, getOb, newOb, setOb, storeC, splice, Ob.re, Cs.fits, partsA, partsOk, parts2A, parts2Ok, fillC, fillRows, optInt, optOk, sliceA, optK_some, storeK_some, Option.map_some, toDs, C.toD, spliceD]
  intro hle
  refine call_some (drawKf_calls c (by omega) _) (by simp) (fun r => TwoStr.re) hf ?_
  rintro _ ⟨x, y, rfl⟩
  simp [aw_skip, aw_region, aw_seq, aw_block, aw_cond, aw_exit, aw_ret, kq_nil, kq_seq, kq_seq_ret, kq_seq_exit, kq_block, kq_block_ret, kq_block_exit, kq_loop, kq_loop_ret, kq_loop_exit, awOps_nil, awOps_cons, awOps_guard, nx_eq, awOp, Opd.ev, A.ok, A.val, setSl, wrapG, guardB, getB, pickA, binA, binC, binD, cmpD, isCmp, unA, unD, lenA, AOp.total, kills, litB, FinQ, resOks, resOk, resA, resList, resOne, A.thaw, C.thaw, A.fits, As.fits, C.fits, evs, oks, callArgs, A.pure, C.pure, A.re, C.re, fieldAddrA, loadC, cut, A.cells, C.rows?, getOb, newOb, setOb, storeC, splice, Ob.re, Cs.fits, partsA, partsOk, parts2A, parts2Ok, fillC, fillRows, optInt, optOk, sliceA, optK_some, storeK_some, Option.map_some, toDs, C.toD, spliceD]
  refine qcall_pure (kfImpl_calls x y) hf rfl ?_
  simp [aw_skip, aw_region, aw_seq, aw_block, aw_cond, aw_exit, aw_ret, kq_nil, kq_seq, kq_seq_ret, kq_seq_exit, kq_block, kq_block_ret, kq_block_exit, kq_loop, kq_loop_ret, kq_loop_exit, awOps_nil, awOps_cons, awOps_guard, nx_eq, awOp, Opd.ev, A.ok, A.val, setSl, wrapG, guardB, getB, pickA, binA, binC, binD, cmpD, isCmp, unA, unD, lenA, AOp.total, kills, litB, FinQ, resOks, resOk, resA, resList, resOne, A.thaw, C.thaw, A.fits, As.fits, C.fits, evs, oks, callArgs, A.pure, C.pure, A.re, C.re, fieldAddrA, loadC, cut, A.cells, C.rows?, getOb, newOb, setOb, storeC, splice, Ob.re, Cs.fits, partsA, partsOk, parts2A, parts2Ok, fillC, fillRows, optInt, optOk, sliceA, optK_some, storeK_some, Option.map_some, toDs, C.toD, spliceD]
  refine qcall_pure (kfSpec_calls x y) hf rfl ?_
  simp [aw_skip, aw_region, aw_seq, aw_block, aw_cond, aw_exit, aw_ret, kq_nil, kq_seq, kq_seq_ret, kq_seq_exit, kq_block, kq_block_ret, kq_block_exit, kq_loop, kq_loop_ret, kq_loop_exit, awOps_nil, awOps_cons, awOps_guard, nx_eq, awOp, Opd.ev, A.ok, A.val, setSl, wrapG, guardB, getB, pickA, binA, binC, binD, cmpD, isCmp, unA, unD, lenA, AOp.total, kills, litB, FinQ, resOks, resOk, resA, resList, resOne, A.thaw, C.thaw, A.fits, As.fits, C.fits, evs, oks, callArgs, A.pure, C.pure, A.re, C.re, fieldAddrA, loadC, cut, A.cells, C.rows?, getOb, newOb, setOb, storeC, splice, Ob.re, Cs.fits, partsA, partsOk, parts2A, parts2Ok, fillC, fillRows, optInt, optOk, sliceA, optK_some, storeK_some, Option.map_some, toDs, C.toD, spliceD]
  refine qcall_pure (kfImpl_calls y x) hf rfl ?_
  have hs : (y.isEmpty || x.isEmpty || y == x) = (x.isEmpty || y.isEmpty || x == y) := by
    rw [Bool.or_comm y.isEmpty]
    congr 1
    exact Bool.eq_iff_iff.2 (by simp; exact eq_comm)
  rw [hs]
  simp [aw_skip, aw_region, aw_seq, aw_block, aw_cond, aw_exit, aw_ret, kq_nil, kq_seq, kq_seq_ret, kq_seq_exit, kq_block, kq_block_ret, kq_block_exit, kq_loop, kq_loop_ret, kq_loop_exit, awOps_nil, awOps_cons, awOps_guard, nx_eq, awOp, Opd.ev, A.ok, A.val, setSl, wrapG, guardB, getB, pickA, binA, binC, binD, cmpD, isCmp, unA, unD, lenA, AOp.total, kills, litB, FinQ, resOks, resOk, resA, resList, resOne, A.thaw, C.thaw, A.fits, As.fits, C.fits, evs, oks, callArgs, A.pure, C.pure, A.re, C.re, fieldAddrA, loadC, cut, A.cells, C.rows?, getOb, newOb, setOb, storeC, splice, Ob.re, Cs.fits, partsA, partsOk, parts2A, parts2Ok, fillC, fillRows, optInt, optOk, sliceA, optK_some, storeK_some, Option.map_some, toDs, C.toD, spliceD]
  refine qcall_pure (kfImpl_calls x x) hf rfl ?_
  simp [aw_skip, aw_region, aw_seq, aw_block, aw_cond, aw_exit, aw_ret, kq_nil, kq_seq, kq_seq_ret, kq_seq_exit, kq_block, kq_block_ret, kq_block_exit, kq_loop, kq_loop_ret, kq_loop_exit, awOps_nil, awOps_cons, awOps_guard, nx_eq, awOp, Opd.ev, A.ok, A.val, setSl, wrapG, guardB, getB, pickA, binA, binC, binD, cmpD, isCmp, unA, unD, lenA, AOp.total, kills, litB, FinQ, resOks, resOk, resA, resList, resOne, A.thaw, C.thaw, A.fits, As.fits, C.fits, evs, oks, callArgs, A.pure, C.pure, A.re, C.re, fieldAddrA, loadC, cut, A.cells, C.rows?, getOb, newOb, setOb, storeC, splice, Ob.re, Cs.fits, partsA, partsOk, parts2A, parts2Ok, fillC, fillRows, optInt, optOk, sliceA, optK_some, storeK_some, Option.map_some, toDs, C.toD, spliceD]
  refine qcall_pure (kfImpl_calls x []) hf rfl ?_
  simp [aw_skip, aw_region, aw_seq, aw_block, aw_cond, aw_exit, aw_ret, kq_nil, kq_seq, kq_seq_ret, kq_seq_exit, kq_block, kq_block_ret, kq_block_exit, kq_loop, kq_loop_ret, kq_loop_exit, awOps_nil, awOps_cons, awOps_guard, nx_eq, awOp, Opd.ev, A.ok, A.val, setSl, wrapG, guardB, getB, pickA, binA, binC, binD, cmpD, isCmp, unA, unD, lenA, AOp.total, kills, litB, FinQ, resOks, resOk, resA, resList, resOne, A.thaw, C.thaw, A.fits, As.fits, C.fits, evs, oks, callArgs, A.pure, C.pure, A.re, C.re, fieldAddrA, loadC, cut, A.cells, C.rows?, getOb, newOb, setOb, storeC, splice, Ob.re, Cs.fits, partsA, partsOk, parts2A, parts2Ok, fillC, fillRows, optInt, optOk, sliceA, optK_some, storeK_some, Option.map_some, toDs, C.toD, spliceD]
theorem law_run4 (rows : List (List D)) (hr : HasTys Try.prog (#[23] : Array TypeId).toList rows) : ACalls Try.prog 4 (argsA Try.prog (#[23] : Array TypeId).toList rows) [] (fun r _ => r = .c (.d (.bool true))) := by
  obtain ⟨r, rs, rfl, h1, h2⟩ := hr.cons
  obtain rfl := h2.nil
  obtain ⟨s, rfl, hs⟩ := bytes_ty h1
  simp only [argsA, argA, Try.underlying23, List.headD_cons]
  exact lawKf_calls s hs
namespace fnKeysFit
theorem own : ownKnob Try.prog.godebug = none := by kernel_rfl
theorem contract (H : Type) (enc : TypeId × Value → H) (W : World) (base : Nat) (args : Array Value) (ds gs : List (DataW H)) (before : List MemPlace)
    (hval : ∀ (j : Nat) t v, Try.f4.params[j]? = some t → args[j]? = some v → Value.okWide Try.prog W .any base t v)
    (hW : DataW.Whole enc Try.prog Try.f4.params.toList Rows.fnKeysFitSpec.vars false W args.toList ds gs before)
    (hw : (DataW.weightsEach Try.prog (Try.f4.params.toList ++ Rows.fnKeysFitSpec.plain.varTypes Try.prog) (ds ++ gs)).all (· ≤ reachBytes) = true) :
    Calls Try.prog 4 args W fun e W' => ∃ v, e = .returned v ∧ Rows.fnKeysFitSpec.post enc Try.prog Try.f4 false true false false W args v W' := by
  refine law_contract (L := [5, 23]) (tb := 4) (by kernel_rfl) (by kernel_rfl) (by kernel_rfl) rfl ?_ (by kernel_rfl) Try.underlying4 ?_ W base args ds gs before hval hW hw
  · intro ds hl
    match ds, hl with
    | [d0], _ => rfl
  · intro rows hr
    rw [Try.params4] at hr ⊢
    exact law_run4 rows hr

theorem lifted (os : Os) (started : os.Started) (H : Type) (enc : TypeId × Value → H) :
    ReturnsInHanded {} Try.checked os 4 .any (Rows.fnKeysFitSpec.pre6 enc Try.prog Try.f4 Rows.fnKeysFitRow.domain false) (Rows.fnKeysFitSpec.post enc Try.prog Try.f4 false true false false) := by
  refine returnsInHanded_of_change_sized (C := Try.checked) own started (by kernel_rfl) Try.func4
    (ChangeSpec.witness6 (enc := enc) (C := Try.checked) false ⟨#[], #[.slice none 0 0], []⟩ 8 (by kernel_rfl) (by kernel_rfl) (by kernel_rfl) (by kernel_rfl)) ?_
  intro W base args ds gs before hval hW _ hw _
  exact contract H enc W base args ds gs before hval hW hw

theorem proved : Rows.FnKeysFitSaid :=
  OpenClaim.holds_of_wide 4 Try.f4 rfl rfl rfl rfl rfl rfl rfl ⟨rfl, rfl, rfl, rfl, rfl⟩ rfl rfl rfl rfl rfl (by kernel_rfl) Try.func4 (by kernel_rfl)
    (of_decide_eq_true (by kernel_rfl)) (by unfold Func.isWrapper; first | (rw [if_pos (by decide +kernel)]; kernel_rfl) | (rw [if_neg (by decide +kernel)]; exact ⟨rfl, rfl⟩))
    (fun os started H enc _ => lifted os started H enc)
end fnKeysFit

end Go.Proofs.Ytokgioccfeebkaa
