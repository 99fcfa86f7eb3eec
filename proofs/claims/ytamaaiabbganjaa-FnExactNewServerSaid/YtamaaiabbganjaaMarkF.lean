/-
  Frames are marked, and looked at again.
  Conditions: none.
-/
import Derived.Test.YtamaaiabbganjaaMarkB
import Derived.Test.YtamaaiabbganjaaMText
import Derived.Test.YtamaaiabbganjaaFrameS
open Go Go.AM Go.Proofs
namespace Go.Proofs.Ytamaaiabbganjaa
open Go.ChangeShapes Go.WideShapes Go.ChangeAt Go.RowKit
set_option linter.unusedVariables false
set_option linter.unusedSimpArgs false
set_option maxRecDepth 100000
-- 20 loop.example/prologserver/laws.markFrameS params 2 ntmps 28
-- loop head live: [0, 1, 5]
def ac20 : Cd := .seq (.region [⟨(some 4), .mv (.k (.c (.d (.int .i64 0)))), none⟩] [4])
  (.seq (.seq (.region [⟨(some 5), .mv (.k (.c (.d (.int .i64 0)))), none⟩] [])
    (.block 0 (.loop (.seq (.seq (.region [⟨(some 6), .mv (.t 5), none⟩,
              ⟨(some 7), .mv (.t 0), none⟩,
              ⟨(some 8), .len 1 (.t 7), none⟩,
              ⟨(some 9), .bin .lss (.t 6) (.t 8), none⟩] [6, 7, 8])
          (.cond (.t 9)
            (.skip)
            (.exit 0)))
        (.seq (.block 1 (.seq (.region [⟨(some 12), .mv (.t 0), none⟩,
                ⟨(some 13), .mv (.t 5), none⟩,
                ⟨(some 14), .mv (.t 1), none⟩,
                ⟨(some 15), .indexAddr 2 (.t 12) (.t 13), none⟩,
                ⟨(some 16), .fieldAddr 0 (.t 15), none⟩,
                ⟨none, .store 1 (.t 16) (.t 14), none⟩] [9, 12, 13, 14, 15, 16])
            (.seq (.region [⟨(some 17), .mv (.t 1), none⟩,
                ⟨(some 18), .bin .add (.t 17) (.k (.c (.d (.int .i64 1)))), none⟩,
                ⟨(some 1), .mv (.t 18), none⟩] [17, 18])
            (.seq (.region [⟨(some 19), .mv (.t 0), none⟩,
                ⟨(some 20), .mv (.t 5), none⟩,
                ⟨(some 21), .mv (.t 1), none⟩,
                ⟨(some 22), .qcall 43 [(.t 21)], none⟩,
                ⟨(some 23), .indexAddr 2 (.t 19) (.t 20), none⟩,
                ⟨(some 24), .fieldAddr 1 (.t 23), none⟩,
                ⟨none, .store 1 (.t 24) (.t 22), none⟩] [19, 20, 21, 22, 23, 24])
            (.region [⟨(some 25), .mv (.t 1), none⟩,
              ⟨(some 26), .bin .add (.t 25) (.k (.c (.d (.int .i64 1)))), none⟩,
              ⟨(some 1), .mv (.t 26), none⟩] [25, 26])))))
        (.region [⟨(some 10), .mv (.t 5), none⟩,
          ⟨(some 11), .bin .add (.t 10) (.k (.c (.d (.int .i64 1)))), none⟩,
          ⟨(some 5), .mv (.t 11), none⟩] [10, 11]))))))
  (.seq (.region [⟨(some 27), .mv (.t 1), none⟩,
      ⟨(some 4), .mv (.t 27), none⟩] [1, 27])
  (.ret)))
theorem ac20_ok : cFunc Try.prog [1000043] [(0, [4], []), (1, [], []), (2, [6, 7, 8], []), (4, [9, 12, 13, 14, 15, 16], []), (5, [17, 18], []), (6, [19, 20, 21, 22, 23, 24], []), (7, [25, 26], []), (3, [10, 11], []), (8, [1, 27], [])] Try.f20 = some (ac20, [.tmp 4], 28) := by kernel_rfl
-- 24 loop.example/prologserver/laws.heldFrameS params 2 ntmps 32
-- loop head live: [0, 1, 5]
def ac24 : Cd := .seq (.region [⟨(some 4), .mv (.k (.c (.d (.int .i64 0)))), none⟩] [4])
  (.seq (.seq (.region [⟨(some 5), .mv (.k (.c (.d (.int .i64 0)))), none⟩] [])
    (.block 0 (.loop (.seq (.seq (.region [⟨(some 6), .mv (.t 5), none⟩,
              ⟨(some 7), .mv (.t 0), none⟩,
              ⟨(some 8), .len 1 (.t 7), none⟩,
              ⟨(some 9), .bin .lss (.t 6) (.t 8), none⟩] [6, 7, 8])
          (.cond (.t 9)
            (.skip)
            (.exit 0)))
        (.seq (.block 1 (.seq (.seq (.region [⟨(some 12), .mv (.t 0), none⟩,
                  ⟨(some 13), .mv (.t 5), none⟩,
                  ⟨(some 14), .indexAddr 2 (.t 12) (.t 13), none⟩,
                  ⟨(some 15), .fieldAddr 0 (.t 14), none⟩,
                  ⟨(some 16), .load none (.t 15), none⟩,
                  ⟨(some 17), .mv (.t 1), none⟩,
                  ⟨(some 18), .bin .neq (.t 16) (.t 17), none⟩] [9, 12, 13, 14, 15, 16, 17])
              (.cond (.t 18)
                (.seq (.region [⟨(some 4), .mv (.k (.c (.d (.int .i64 (-1))))), none⟩] [0, 1, 5, 18])
                (.ret))
                (.skip)))
            (.seq (.region [⟨(some 19), .mv (.t 1), none⟩,
                ⟨(some 20), .bin .add (.t 19) (.k (.c (.d (.int .i64 1)))), none⟩,
                ⟨(some 1), .mv (.t 20), none⟩] [4, 18, 19, 20])
            (.seq (.seq (.region [⟨(some 21), .mv (.t 0), none⟩,
                  ⟨(some 22), .mv (.t 5), none⟩,
                  ⟨(some 23), .indexAddr 2 (.t 21) (.t 22), none⟩,
                  ⟨(some 24), .fieldAddr 1 (.t 23), none⟩,
                  ⟨(some 26), .mv (.t 1), none⟩,
                  ⟨(some 25), .load none (.t 24), none⟩,
                  ⟨(some 27), .qcall 43 [(.t 26)], none⟩,
                  ⟨(some 28), .bin .neq (.t 25) (.t 27), none⟩] [21, 22, 23, 24, 25, 26, 27])
              (.cond (.t 28)
                (.seq (.region [⟨(some 4), .mv (.k (.c (.d (.int .i64 (-1))))), none⟩] [0, 1, 5, 28])
                (.ret))
                (.skip)))
            (.region [⟨(some 29), .mv (.t 1), none⟩,
              ⟨(some 30), .bin .add (.t 29) (.k (.c (.d (.int .i64 1)))), none⟩,
              ⟨(some 1), .mv (.t 30), none⟩] [4, 28, 29, 30])))))
        (.region [⟨(some 10), .mv (.t 5), none⟩,
          ⟨(some 11), .bin .add (.t 10) (.k (.c (.d (.int .i64 1)))), none⟩,
          ⟨(some 5), .mv (.t 11), none⟩] [10, 11]))))))
  (.seq (.region [⟨(some 31), .mv (.t 1), none⟩,
      ⟨(some 4), .mv (.t 31), none⟩] [1, 31])
  (.ret)))
theorem ac24_ok : cFunc Try.prog [1000043] [(0, [4], []), (1, [], []), (2, [6, 7, 8], []), (4, [9, 12, 13, 14, 15, 16, 17], []), (5, [0, 1, 5, 18], []), (6, [4, 18, 19, 20], []), (7, [21, 22, 23, 24, 25, 26, 27], [0, 1, 2, 3, 5, 4, 6, 7]), (8, [0, 1, 5, 28], []), (9, [4, 28, 29, 30], []), (3, [10, 11], []), (10, [1, 31], [])] Try.f24 = some (ac24, [.tmp 4], 32) := by kernel_rfl
def mFrame (k : Int) (i : Nat) : List D := [.int .i64 (k + 2 * i), .str (mText (k + 2 * i + 1))]
def mFrames (k : Int) (n : Nat) : List (List D) := (List.range n).map (mFrame k)
theorem mFrames_len (k : Int) (n : Nat) : (mFrames k n).length = n := by simp [mFrames]
theorem flat_frames (l : List Frame) : Flat (l.map Frame.row) := by
  intro x hx
  simp only [List.mem_flatten, List.mem_map] at hx
  obtain ⟨r, ⟨f, _, rfl⟩, hx⟩ := hx
  simp [Frame.row] at hx
  rcases hx with rfl | rfl <;> rfl
theorem flat_mFrames (k : Int) (n : Nat) : Flat (mFrames k n) := by
  intro x hx
  simp only [mFrames, List.mem_flatten, List.mem_map] at hx
  obtain ⟨r, ⟨f, _, rfl⟩, hx⟩ := hx
  simp [mFrame] at hx
  rcases hx with rfl | rfl <;> rfl
theorem markFrameS_calls (l : List Frame) (k : Int) (h0 : 0 ≤ k) (h1 : k + 2 * l.length ≤ 500000000000000) (kv : Value) : ACalls Try.prog 20 [.c (.d (.v kv)), .c (.d (.int .i64 k))] [.tree kv (l.map Frame.row)]
    (fun r H' => H' = [.tree kv (mFrames k l.length)] ∧ r = .c (.d (.int .i64 (k + 2 * l.length)))) := by
  refine (acalls_flat (f := 20) (pre := []) (post := [.c (.d (.int .i64 k))]) (rows := l.map Frame.row) (Q := fun r rows' => r = .c (.d (.int .i64 (k + 2 * l.length))) ∧ rows' = mFrames k l.length) 2 (fun r hr => by obtain ⟨f, _, rfl⟩ := List.mem_map.1 hr; rfl) (flat_frames l) rfl rfl (fun he => ?_) ?_ kv).mono fun r H' ⟨rows', h1, _, h2, h3⟩ => ⟨by rw [h1, h3], h2⟩
  · obtain rfl : l = [] := by simpa using he
    have hk0 : inR .i64 k := small_i64 (by simp at h1; omega) (by simp at h1; omega)
    have hz0 : inR .i64 0 := small_i64 (by omega) (by omega)
    refine acalls Try.func20 (by kernel_rfl) ac20_ok fun hf => ?_
    simp -implicitDefEqProofs [ac20, aw_skip, aw_region, aw_seq, aw_block, aw_cond, aw_exit, aw_ret, kq_nil, kq_seq, kq_seq_ret, kq_seq_exit, kq_block, kq_block_ret, kq_block_exit, kq_loop, kq_loop_ret, kq_loop_exit, awOps_nil, awOps_cons, awOps_guardE, nx_eq, awOp, ev_k, ev_0, ev_1, ev_2, ev_3, ev_4, ev_5, ev_6, ev_7, ev_8, set_0, set_1, set_2, set_3, set_4, set_5, set_6, set_7, set_8, -List.set_cons_succ, -List.set_cons_zero, A.ok, A.val, setSl, wrapG, guardB, getB, pickA, binA, binC, binD, cmpD, isCmp, unA, unD, lenA, AOp.total, kills, litB, FinQ, resOks, resOk, resA, resList, resOne, A.thaw, C.thaw, A.fits, As.fits, C.fits, evs, oks, callArgs, A.pure, C.pure, A.re, C.re, fieldAddrA, loadC, cut, A.cells, C.rows?, getOb, newOb, setOb, storeC, splice, Ob.re, Cs.fits, partsA, partsOk, parts2A, parts2Ok, fillC, fillRows, optInt, optOk, sliceA, clipC, optK_some, storeK_some, Option.map_some, toDs, C.toD, spliceD, appendA, capsOf, srcRows, allLen_nil_iff, allLen_cons_iff, allLen_append_iff, dropC, Obs.fits, eqCs, eqD]
    refine loop_set (σ := Unit) (fun _ => [(5, .c (.d (.int .i64 0)))]) (fun _ => []) (fun _ => []) (fun _ => True) (fun _ => 0) () rfl trivial ?_
    intro _ _
    simp -implicitDefEqProofs [setAll, hz0, mFrames, A.portT, A.portB, C.portB, D.leaf, aw_skip, aw_region, aw_seq, aw_block, aw_cond, aw_exit, aw_ret, kq_nil, kq_seq, kq_seq_ret, kq_seq_exit, kq_block, kq_block_ret, kq_block_exit, kq_loop, kq_loop_ret, kq_loop_exit, awOps_nil, awOps_cons, awOps_guardE, nx_eq, awOp, ev_k, ev_0, ev_1, ev_2, ev_3, ev_4, ev_5, ev_6, ev_7, ev_8, set_0, set_1, set_2, set_3, set_4, set_5, set_6, set_7, set_8, -List.set_cons_succ, -List.set_cons_zero, A.ok, A.val, setSl, wrapG, guardB, getB, pickA, binA, binC, binD, cmpD, isCmp, unA, unD, lenA, AOp.total, kills, litB, FinQ, resOks, resOk, resA, resList, resOne, A.thaw, C.thaw, A.fits, As.fits, C.fits, evs, oks, callArgs, A.pure, C.pure, A.re, C.re, fieldAddrA, loadC, cut, A.cells, C.rows?, getOb, newOb, setOb, storeC, splice, Ob.re, Cs.fits, partsA, partsOk, parts2A, parts2Ok, fillC, fillRows, optInt, optOk, sliceA, clipC, optK_some, storeK_some, Option.map_some, toDs, C.toD, spliceD, appendA, capsOf, srcRows, allLen_nil_iff, allLen_cons_iff, allLen_append_iff, dropC, Obs.fits, eqCs, eqD]
  · refine acalls Try.func20 (by kernel_rfl) ac20_ok fun hf => ?_
    have hl : inR .i64 (l.length : Int) := small_i64 (by omega) (by omega)
    simp -implicitDefEqProofs [ac20, hl, aw_skip, aw_region, aw_seq, aw_block, aw_cond, aw_exit, aw_ret, kq_nil, kq_seq, kq_seq_ret, kq_seq_exit, kq_block, kq_block_ret, kq_block_exit, kq_loop, kq_loop_ret, kq_loop_exit, awOps_nil, awOps_cons, awOps_guardE, nx_eq, awOp, ev_k, ev_0, ev_1, ev_2, ev_3, ev_4, ev_5, ev_6, ev_7, ev_8, set_0, set_1, set_2, set_3, set_4, set_5, set_6, set_7, set_8, -List.set_cons_succ, -List.set_cons_zero, A.ok, A.val, setSl, wrapG, guardB, getB, pickA, binA, binC, binD, cmpD, isCmp, unA, unD, lenA, AOp.total, kills, litB, FinQ, resOks, resOk, resA, resList, resOne, A.thaw, C.thaw, A.fits, As.fits, C.fits, evs, oks, callArgs, A.pure, C.pure, A.re, C.re, fieldAddrA, loadC, cut, A.cells, C.rows?, getOb, newOb, setOb, storeC, splice, Ob.re, Cs.fits, partsA, partsOk, parts2A, parts2Ok, fillC, fillRows, optInt, optOk, sliceA, clipC, optK_some, storeK_some, Option.map_some, toDs, C.toD, spliceD, appendA, capsOf, srcRows, allLen_nil_iff, allLen_cons_iff, allLen_append_iff, dropC, Obs.fits, eqCs, eqD]
    refine loop_set (σ := Nat) (fun i => [(5, .c (.d (.int .i64 i))), (1, .c (.d (.int .i64 (k + 2 * i))))]) (fun i => [.rows (mixed (mFrame k) (l.map Frame.row) i)]) (fun _ => []) (fun i => i ≤ l.length) (fun i => l.length - i) 0 (by simp [setAll, mixed_zero]) (Nat.zero_le _) ?_
    intro i hi
    simp -implicitDefEqProofs [setAll, hl, aw_skip, aw_region, aw_seq, aw_block, aw_cond, aw_exit, aw_ret, kq_nil, kq_seq, kq_seq_ret, kq_seq_exit, kq_block, kq_block_ret, kq_block_exit, kq_loop, kq_loop_ret, kq_loop_exit, awOps_nil, awOps_cons, awOps_guardE, nx_eq, awOp, ev_k, ev_0, ev_1, ev_2, ev_3, ev_4, ev_5, ev_6, ev_7, ev_8, set_0, set_1, set_2, set_3, set_4, set_5, set_6, set_7, set_8, -List.set_cons_succ, -List.set_cons_zero, A.ok, A.val, setSl, wrapG, guardB, getB, pickA, binA, binC, binD, cmpD, isCmp, unA, unD, lenA, AOp.total, kills, litB, FinQ, resOks, resOk, resA, resList, resOne, A.thaw, C.thaw, A.fits, As.fits, C.fits, evs, oks, callArgs, A.pure, C.pure, A.re, C.re, fieldAddrA, loadC, cut, A.cells, C.rows?, getOb, newOb, setOb, storeC, splice, Ob.re, Cs.fits, partsA, partsOk, parts2A, parts2Ok, fillC, fillRows, optInt, optOk, sliceA, clipC, optK_some, storeK_some, Option.map_some, toDs, C.toD, spliceD, appendA, capsOf, srcRows, allLen_nil_iff, allLen_cons_iff, allLen_append_iff, dropC, Obs.fits, eqCs, eqD]
    refine ⟨fun hlt => ?_, fun hge => ?_⟩
    · have hadd : inR .i64 ((i : Int) + 1) := small_i64 (by omega) (by omega)
      have hadk : inR .i64 (k + 2 * i + 1) := small_i64 (by omega) (by omega)
      have hadk2 : inR .i64 (k + 2 * i + 1 + 1) := small_i64 (by omega) (by omega)
      have hlt' : i < (l.map Frame.row).length := by simpa using hlt
      have hget : (mixed (mFrame k) (l.map Frame.row) i)[i]? = some l[i].row := by rw [mixed_get _ _ hlt']; simp
      refine ⟨hlt, ?_⟩
      simp -implicitDefEqProofs [hget, hadd, hadk, hadk2, Frame.row, aw_skip, aw_region, aw_seq, aw_block, aw_cond, aw_exit, aw_ret, kq_nil, kq_seq, kq_seq_ret, kq_seq_exit, kq_block, kq_block_ret, kq_block_exit, kq_loop, kq_loop_ret, kq_loop_exit, awOps_nil, awOps_cons, awOps_guardE, nx_eq, awOp, ev_k, ev_0, ev_1, ev_2, ev_3, ev_4, ev_5, ev_6, ev_7, ev_8, set_0, set_1, set_2, set_3, set_4, set_5, set_6, set_7, set_8, -List.set_cons_succ, -List.set_cons_zero, A.ok, A.val, setSl, wrapG, guardB, getB, pickA, binA, binC, binD, cmpD, isCmp, unA, unD, lenA, AOp.total, kills, litB, FinQ, resOks, resOk, resA, resList, resOne, A.thaw, C.thaw, A.fits, As.fits, C.fits, evs, oks, callArgs, A.pure, C.pure, A.re, C.re, fieldAddrA, loadC, cut, A.cells, C.rows?, getOb, newOb, setOb, storeC, splice, Ob.re, Cs.fits, partsA, partsOk, parts2A, parts2Ok, fillC, fillRows, optInt, optOk, sliceA, clipC, optK_some, storeK_some, Option.map_some, toDs, C.toD, spliceD, appendA, capsOf, srcRows, allLen_nil_iff, allLen_cons_iff, allLen_append_iff, dropC, Obs.fits, eqCs, eqD]
      have hlm : i < (mixed (mFrame k) (l.map Frame.row) i).length := by rw [mixed_len _ _ (by simp; omega)]; exact hlt'
      refine ⟨trivial, qcall_pure (markText_calls _ (by omega)) ⟨trivial, trivial⟩ rfl ?_⟩
      have hg2 : ((mixed (mFrame k) (l.map Frame.row) i).set i [D.int IntKind.i64 (k + 2 * (i : Int)), D.str l[i].s])[i]? = some [D.int IntKind.i64 (k + 2 * (i : Int)), D.str l[i].s] := by rw [List.getElem?_set_self hlm]
      simp -implicitDefEqProofs [hg2, hadd, hadk, hadk2, hlt, aw_skip, aw_region, aw_seq, aw_block, aw_cond, aw_exit, aw_ret, kq_nil, kq_seq, kq_seq_ret, kq_seq_exit, kq_block, kq_block_ret, kq_block_exit, kq_loop, kq_loop_ret, kq_loop_exit, awOps_nil, awOps_cons, awOps_guardE, nx_eq, awOp, ev_k, ev_0, ev_1, ev_2, ev_3, ev_4, ev_5, ev_6, ev_7, ev_8, set_0, set_1, set_2, set_3, set_4, set_5, set_6, set_7, set_8, -List.set_cons_succ, -List.set_cons_zero, A.ok, A.val, setSl, wrapG, guardB, getB, pickA, binA, binC, binD, cmpD, isCmp, unA, unD, lenA, AOp.total, kills, litB, FinQ, resOks, resOk, resA, resList, resOne, A.thaw, C.thaw, A.fits, As.fits, C.fits, evs, oks, callArgs, A.pure, C.pure, A.re, C.re, fieldAddrA, loadC, cut, A.cells, C.rows?, getOb, newOb, setOb, storeC, splice, Ob.re, Cs.fits, partsA, partsOk, parts2A, parts2Ok, fillC, fillRows, optInt, optOk, sliceA, clipC, optK_some, storeK_some, Option.map_some, toDs, C.toD, spliceD, appendA, capsOf, srcRows, allLen_nil_iff, allLen_cons_iff, allLen_append_iff, dropC, Obs.fits, eqCs, eqD]
      refine ⟨trivial, loop_back (i + 1) ?_ hlt (by show l.length - (i + 1) < l.length - i; omega)⟩
      have hset := mixed_set (mFrame k) (l.map Frame.row) hlt'
      simp [setAll, ← hset, mFrame]
      omega
    · obtain rfl : i = l.length := by omega
      refine ⟨mFrames k l.length, flat_mFrames _ _, mFrames_len _ _, ?_, ?_, rfl, rfl, rfl⟩
      · intro r hr
        obtain ⟨b, _, rfl⟩ := List.mem_map.1 hr
        rfl
      · have := mixed_all (mFrame k) (l.map Frame.row)
        simp only [List.length_map] at this
        exact this
theorem heldFrameS_calls (n : Nat) (k : Int) (h0 : 0 ≤ k) (h1 : k + 2 * n ≤ 500000000000000) (H : Heap) : ACalls Try.prog 24 [.c (.d (.sl (mFrames k n))), .c (.d (.int .i64 k))] H
    (fun r H' => H' = H ∧ r = .c (.d (.int .i64 (k + 2 * n)))) := by
  refine acalls Try.func24 (by kernel_rfl) ac24_ok fun hf => ?_
  have hl : inR .i64 (n : Int) := small_i64 (by omega) (by omega)
  simp -implicitDefEqProofs [ac24, hl, mFrames_len, aw_skip, aw_region, aw_seq, aw_block, aw_cond, aw_exit, aw_ret, kq_nil, kq_seq, kq_seq_ret, kq_seq_exit, kq_block, kq_block_ret, kq_block_exit, kq_loop, kq_loop_ret, kq_loop_exit, awOps_nil, awOps_cons, awOps_guardE, nx_eq, awOp, ev_k, ev_0, ev_1, ev_2, ev_3, ev_4, ev_5, ev_6, ev_7, ev_8, set_0, set_1, set_2, set_3, set_4, set_5, set_6, set_7, set_8, -List.set_cons_succ, -List.set_cons_zero, A.ok, A.val, setSl, wrapG, guardB, getB, pickA, binA, binC, binD, cmpD, isCmp, unA, unD, lenA, AOp.total, kills, litB, FinQ, resOks, resOk, resA, resList, resOne, A.thaw, C.thaw, A.fits, As.fits, C.fits, evs, oks, callArgs, A.pure, C.pure, A.re, C.re, fieldAddrA, loadC, cut, A.cells, C.rows?, getOb, newOb, setOb, storeC, splice, Ob.re, Cs.fits, partsA, partsOk, parts2A, parts2Ok, fillC, fillRows, optInt, optOk, sliceA, clipC, optK_some, storeK_some, Option.map_some, toDs, C.toD, spliceD, appendA, capsOf, srcRows, allLen_nil_iff, allLen_cons_iff, allLen_append_iff, dropC, Obs.fits, eqCs, eqD]
  refine loop_set (σ := Nat) (fun i => [(5, .c (.d (.int .i64 i))), (1, .c (.d (.int .i64 (k + 2 * i))))]) (fun i => H) (fun _ => []) (fun i => i ≤ n) (fun i => n - i) 0 (by simp [setAll]) (Nat.zero_le _) ?_
  intro i hi
  simp -implicitDefEqProofs [setAll, hl, mFrames_len, aw_skip, aw_region, aw_seq, aw_block, aw_cond, aw_exit, aw_ret, kq_nil, kq_seq, kq_seq_ret, kq_seq_exit, kq_block, kq_block_ret, kq_block_exit, kq_loop, kq_loop_ret, kq_loop_exit, awOps_nil, awOps_cons, awOps_guardE, nx_eq, awOp, ev_k, ev_0, ev_1, ev_2, ev_3, ev_4, ev_5, ev_6, ev_7, ev_8, set_0, set_1, set_2, set_3, set_4, set_5, set_6, set_7, set_8, -List.set_cons_succ, -List.set_cons_zero, A.ok, A.val, setSl, wrapG, guardB, getB, pickA, binA, binC, binD, cmpD, isCmp, unA, unD, lenA, AOp.total, kills, litB, FinQ, resOks, resOk, resA, resList, resOne, A.thaw, C.thaw, A.fits, As.fits, C.fits, evs, oks, callArgs, A.pure, C.pure, A.re, C.re, fieldAddrA, loadC, cut, A.cells, C.rows?, getOb, newOb, setOb, storeC, splice, Ob.re, Cs.fits, partsA, partsOk, parts2A, parts2Ok, fillC, fillRows, optInt, optOk, sliceA, clipC, optK_some, storeK_some, Option.map_some, toDs, C.toD, spliceD, appendA, capsOf, srcRows, allLen_nil_iff, allLen_cons_iff, allLen_append_iff, dropC, Obs.fits, eqCs, eqD]
  refine ⟨fun hlt => ?_, fun hge => ?_⟩
  · have hadd : inR .i64 ((i : Int) + 1) := small_i64 (by omega) (by omega)
    have hadk : inR .i64 (k + 2 * i + 1) := small_i64 (by omega) (by omega)
    have hadk2 : inR .i64 (k + 2 * i + 1 + 1) := small_i64 (by omega) (by omega)
    refine row_nat (mFrame k i) (range_row hlt) rfl ?_
    simp -implicitDefEqProofs [mFrame, hadd, hadk, hadk2, aw_skip, aw_region, aw_seq, aw_block, aw_cond, aw_exit, aw_ret, kq_nil, kq_seq, kq_seq_ret, kq_seq_exit, kq_block, kq_block_ret, kq_block_exit, kq_loop, kq_loop_ret, kq_loop_exit, awOps_nil, awOps_cons, awOps_guardE, nx_eq, awOp, ev_k, ev_0, ev_1, ev_2, ev_3, ev_4, ev_5, ev_6, ev_7, ev_8, set_0, set_1, set_2, set_3, set_4, set_5, set_6, set_7, set_8, -List.set_cons_succ, -List.set_cons_zero, A.ok, A.val, setSl, wrapG, guardB, getB, pickA, binA, binC, binD, cmpD, isCmp, unA, unD, lenA, AOp.total, kills, litB, FinQ, resOks, resOk, resA, resList, resOne, A.thaw, C.thaw, A.fits, As.fits, C.fits, evs, oks, callArgs, A.pure, C.pure, A.re, C.re, fieldAddrA, loadC, cut, A.cells, C.rows?, getOb, newOb, setOb, storeC, splice, Ob.re, Cs.fits, partsA, partsOk, parts2A, parts2Ok, fillC, fillRows, optInt, optOk, sliceA, clipC, optK_some, storeK_some, Option.map_some, toDs, C.toD, spliceD, appendA, capsOf, srcRows, allLen_nil_iff, allLen_cons_iff, allLen_append_iff, dropC, Obs.fits, eqCs, eqD]
    refine row_nat (mFrame k i) (range_row hlt) rfl ?_
    simp -implicitDefEqProofs [mFrame, hadd, hadk, hadk2, aw_skip, aw_region, aw_seq, aw_block, aw_cond, aw_exit, aw_ret, kq_nil, kq_seq, kq_seq_ret, kq_seq_exit, kq_block, kq_block_ret, kq_block_exit, kq_loop, kq_loop_ret, kq_loop_exit, awOps_nil, awOps_cons, awOps_guardE, nx_eq, awOp, ev_k, ev_0, ev_1, ev_2, ev_3, ev_4, ev_5, ev_6, ev_7, ev_8, set_0, set_1, set_2, set_3, set_4, set_5, set_6, set_7, set_8, -List.set_cons_succ, -List.set_cons_zero, A.ok, A.val, setSl, wrapG, guardB, getB, pickA, binA, binC, binD, cmpD, isCmp, unA, unD, lenA, AOp.total, kills, litB, FinQ, resOks, resOk, resA, resList, resOne, A.thaw, C.thaw, A.fits, As.fits, C.fits, evs, oks, callArgs, A.pure, C.pure, A.re, C.re, fieldAddrA, loadC, cut, A.cells, C.rows?, getOb, newOb, setOb, storeC, splice, Ob.re, Cs.fits, partsA, partsOk, parts2A, parts2Ok, fillC, fillRows, optInt, optOk, sliceA, clipC, optK_some, storeK_some, Option.map_some, toDs, C.toD, spliceD, appendA, capsOf, srcRows, allLen_nil_iff, allLen_cons_iff, allLen_append_iff, dropC, Obs.fits, eqCs, eqD]
    refine qcall_pure (markText_calls _ (by omega)) hf rfl ?_
    simp -implicitDefEqProofs [mFrame, hadd, hadk, hadk2, aw_skip, aw_region, aw_seq, aw_block, aw_cond, aw_exit, aw_ret, kq_nil, kq_seq, kq_seq_ret, kq_seq_exit, kq_block, kq_block_ret, kq_block_exit, kq_loop, kq_loop_ret, kq_loop_exit, awOps_nil, awOps_cons, awOps_guardE, nx_eq, awOp, ev_k, ev_0, ev_1, ev_2, ev_3, ev_4, ev_5, ev_6, ev_7, ev_8, set_0, set_1, set_2, set_3, set_4, set_5, set_6, set_7, set_8, -List.set_cons_succ, -List.set_cons_zero, A.ok, A.val, setSl, wrapG, guardB, getB, pickA, binA, binC, binD, cmpD, isCmp, unA, unD, lenA, AOp.total, kills, litB, FinQ, resOks, resOk, resA, resList, resOne, A.thaw, C.thaw, A.fits, As.fits, C.fits, evs, oks, callArgs, A.pure, C.pure, A.re, C.re, fieldAddrA, loadC, cut, A.cells, C.rows?, getOb, newOb, setOb, storeC, splice, Ob.re, Cs.fits, partsA, partsOk, parts2A, parts2Ok, fillC, fillRows, optInt, optOk, sliceA, clipC, optK_some, storeK_some, Option.map_some, toDs, C.toD, spliceD, appendA, capsOf, srcRows, allLen_nil_iff, allLen_cons_iff, allLen_append_iff, dropC, Obs.fits, eqCs, eqD]
    exact loop_back (i + 1) (by simp [setAll]; omega) hlt (by show n - (i + 1) < n - i; omega)
  · obtain rfl : i = n := by omega
    rfl
end Go.Proofs.Ytamaaiabbganjaa
