/-
  impl.encode and impl.EncodeFrame: the bytes stand in a row of their own.
  Conditions: none.
-/
import Derived.Test.YtamaaiabbganjaaFrEn
import Derived.Test.YtamaaiabbganjaaAbsS
import Derived.Lib.Walk
import Derived.Lib.SliceRun
set_option linter.unusedVariables false
set_option linter.unusedSimpArgs false
open Go Go.AM Go.Proofs Go.RowKit Go.Lib
namespace Go.Proofs.Ytamaaiabbganjaa
set_option maxHeartbeats 4000000 in
set_option maxRecDepth 100000 in
theorem enc_walk (k : Int) (h0 : 1 ≤ k) (h1 : k ≤ 7) (w : World) :
    Calls Try.prog 41 #[.agg #[.int .i64 k, .string (ByteArray.mk #[])]] w fun e w' => ∃ t1 t2 : TypeId, e = .returned (.slice (some ⟨w.heap.size + 1, 0, none⟩) 3 3) ∧ w' = (w.alloc (.cells #[.int .i64 k, .string (ByteArray.mk #[])] t1)).alloc (.cells #[.int .u8 0, .int .u8 1, .int .u8 k] t2) := by
  go_enter Try.func41, Try.ntmps41
  go_wp2
  go_ret
  exact ⟨_, _, rfl, rfl⟩
open Go.ChangeShapes Go.WideShapes Go.ChangeAt
set_option maxRecDepth 100000
namespace Own
-- 11 loop.example/prologserver/impl.EncodeFrame params 1 ntmps 9
def ac11 : Cd := .seq (.region [⟨(some 1), .box (.t 0), none⟩,
      ⟨(some 2), .mv (.k (.c (.full []))), none⟩] [0, 2])
  (.seq (.seq (.region [⟨(some 3), .load (some 2) (.t 1), none⟩,
        ⟨(some 4), .qcall 39 [(.t 3)], none⟩,
        ⟨(some 5), .un .not (.t 4), none⟩] [3, 4])
    (.cond (.t 5)
      (.seq (.region [⟨(some 2), .mv (.k (.c (.full []))), none⟩] [1, 5])
      (.ret))
      (.skip)))
  (.seq (.region [⟨(some 6), .load (some 2) (.t 1), none⟩,
      ⟨(some 7), .call false 41 [(.t 6)], none⟩,
      ⟨(some 8), .call true 40 [(.t 7)], none⟩,
      ⟨(some 2), .mv (.t 8), none⟩] [1, 5, 6, 7, 8])
  (.ret)))
theorem ac11_ok : cFunc Try.prog [1000039, 40] [(0, [0, 2], []), (1, [3, 4], []), (2, [1, 5], []), (3, [1, 5, 6, 7, 8], [])] Try.f11 = some (ac11, [.tmp 2], 9) := by kernel_rfl
end Own
theorem enc_empty (k : Int) (h0 : 1 ≤ k) (h1 : k ≤ 7) (H : Heap) : ACalls Try.prog 41 [.agg [.d (.int .i64 k), .d (.str [])]] H
    (fun r H' => H' = H ++ [.cells [.d (.int .i64 k), .d (.str [])], .grow 3 1] ∧ r = .c (.own (.e (H.length + 1)) 3 [[.int .u8 0], [.int .u8 1], [.int .u8 k]])) := by
  refine ⟨⟨_, Try.func41, by kernel_rfl, by decide⟩, fun w ι cargs hsim hl ha => ?_⟩
  match cargs, hl with
  | [v0], _ =>
    obtain ⟨vs, rfl, hvs⟩ := (ha 0 _ v0 rfl rfl).agg_inv
    match vs, hvs with
    | [a0, a1], hvs =>
      have r0 := hvs.2 0 _ a0 rfl rfl
      have r1 := hvs.2 1 _ a1 rfl rfl
      have hk : inR .i64 k := small_i64 (by omega) (by omega)
      have hk8 : inR .u8 k := by constructor <;> simp [IntKind.min, IntKind.max, IntKind.signed, IntKind.bits] <;> omega
      obtain rfl : a0 = .int .i64 k := by cases r0 with | d h => cases h; rfl
      obtain ⟨t, rfl, ht⟩ : ∃ t : ByteArray, a1 = .string t ∧ t.data.toList = [] := by
        cases r1 with
        | d h => obtain ⟨u, h1, h2, _⟩ := h.str_eq; exact ⟨u, h1, h2⟩
      obtain rfl : t = ByteArray.mk #[] := by
        obtain ⟨d⟩ := t
        obtain ⟨l⟩ := d
        simp at ht
        rw [ht]
      refine (enc_walk k h0 h1 w).mono fun e w' ⟨t1, t2, he, hw⟩ => ?_
      subst hw
      have hx1 : Ext w ι (w.alloc (.cells #[.int .i64 k, .string (ByteArray.mk #[])] t1)) ι := Ext.alloc _ ι _
      have hb1 : ∀ b, b < w.heap.size → (w.alloc (.cells #[.int .i64 k, .string (ByteArray.mk #[])] t1)).heap[b]? = w.heap[b]? := fun b hb => heap_alloc_lt w _ hb
      have hs1 := hsim.push (n := H.length) (k := .blk w.heap.size) (o := .cells [.d (.int .i64 k), .d (.str [])]) hx1 hb1 (fun b hb => by cases hb; simp)
        ⟨_, t1, heap_alloc_new w _, ⟨rfl, fun i c v hc hv => by
          match i with
          | 0 => simp at hc hv; subst hc; subst hv; exact .d (.int _ _ hk)
          | 1 => simp at hc hv; subst hc; subst hv; exact .d (.str (ByteArray.mk #[]) (by simp))
          | i + 2 => simp at hc⟩⟩
      have hxp1 := hx1.push (k := .blk w.heap.size) (fun b hb => by cases hb; exact Nat.le_refl _)
      generalize hw1 : w.alloc (.cells #[.int .i64 k, .string (ByteArray.mk #[])] t1) = w1 at *
      have hsz : w1.heap.size = w.heap.size + 1 := by rw [← hw1]; simp
      have hx2 : Ext w1 (ι ++ [.blk w.heap.size]) (w1.alloc (.cells #[.int .u8 0, .int .u8 1, .int .u8 k] t2)) (ι ++ [.blk w.heap.size]) := Ext.alloc _ _ _
      have hk2 : ∀ b, (AM.K.grow 3 (some (w1.heap.size, 3, 3, 1))).at b → w1.heap.size ≤ b ∧ b < (w1.alloc (.cells #[.int .u8 0, .int .u8 1, .int .u8 k] t2)).heap.size := fun b hb => by
        have : b = w1.heap.size := hb
        subst this; simp
      have hs2 := hs1.push (n := H.length) (k := .grow 3 (some (w1.heap.size, 3, 3, 1))) (o := .grow 3 1) hx2 (fun b hb => heap_alloc_lt w1 _ hb) hk2 ⟨⟨rfl, rfl⟩, _, t2, heap_alloc_new w1 _, by simp⟩
      have hxp2 := hx2.push (k := .grow 3 (some (w1.heap.size, 3, 3, 1))) (fun b hb => (hk2 b hb).1)
      refine ⟨_, H ++ [.cells [.d (.int .i64 k), .d (.str [])], .grow 3 1], ι ++ [.blk w.heap.size] ++ [.grow 3 (some (w1.heap.size, 3, 3, 1))], _, he, ⟨rfl, rfl⟩, ?_, ?_, hxp1.trans hxp2, by simp⟩
      · have h3 := Sim.out (st := ⟨[], H, [Ob.cells [.d (.int .i64 k), .d (.str [])], Ob.grow 3 1]⟩) (by simpa using hs2) (sim_fits hsim) (H ++ [Ob.cells [.d (.int .i64 k), .d (.str [])], Ob.grow 3 1]).length
        simpa [Ob.re, C.re] using h3
      · rw [← hsz]
        refine .c (.own (RD.sl_iff.2 (.inr ⟨w1.heap.size, 0, 1, rfl, rfl, Nat.le_refl _, by simp [maxRows], fun i r hi => ?_⟩)) ⟨3, some (w1.heap.size, 3, 3, 1), by simp [idx, ← hsim.len], Nat.le_refl _, fun _ => ?_⟩)
        · have hrow : ∀ (i : Nat) (n : Int), i < 3 → inR .u8 n → ((#[.int .u8 0, .int .u8 1, .int .u8 k] : Array Value)[i]? = some (.int .u8 n)) → RowAt (w1.alloc (.cells #[.int .u8 0, .int .u8 1, .int .u8 k] t2)) (AM.Safe (w1.alloc (.cells #[.int .u8 0, .int .u8 1, .int .u8 k] t2)) (ι ++ [AM.K.blk w.heap.size] ++ [AM.K.grow 3 (some (w1.heap.size, 3, 3, 1))])) [.int .u8 n] w1.heap.size (0 + i * 1) := fun i n hi hn hg j x hj => by
            match j with
            | 0 =>
              simp at hj; subst hj
              refine ⟨.int .u8 n, by simp only [World.cell?, heap_alloc_new]; simpa using hg, ⟨by simp, fun k0 hk0 ho => ?_⟩, .int _ _ hn⟩
              rcases List.mem_append.1 hk0 with h1 | h1
              · have := hs1.low k0 _ h1 (AM.K.at_of_owns ho); omega
              · rw [List.mem_singleton.1 h1] at ho
                have := ho.2.1
                omega
            | j + 1 => simp at hj
          match i with
          | 0 => simp at hi; subst hi; exact ⟨rfl, hrow 0 0 (by omega) (by constructor <;> decide) rfl⟩
          | 1 => simp at hi; subst hi; exact ⟨rfl, hrow 1 1 (by omega) (by constructor <;> decide) rfl⟩
          | 2 => simp at hi; subst hi; exact ⟨rfl, hrow 2 k (by omega) hk8 rfl⟩
          | i + 3 => simp at hi
        · refine ⟨fun h => by simp at h, by simp, fun _ => .inr ⟨w1.heap.size, 3, 3, 1, by simp, rfl, by simp, Nat.le_refl _, fun r hr => by simp at hr; rcases hr with rfl | rfl | rfl <;> rfl⟩⟩
theorem encOwn_calls (f : Frame) (hk : f.ok = true) (H : Heap) : ACalls Try.prog 41 [.agg (f.row.map .d)] H
    (fun r H' => H' = H ++ [.cells (f.row.map .d), .grow f.bytes.length 1] ∧ r = .c (.own (.e (H.length + 1)) f.bytes.length (bytesRows f.bytes))) := by
  have hk' := hk
  simp only [Frame.ok, Bool.and_eq_true, decide_eq_true_eq] at hk
  obtain ⟨⟨⟨h1, h2⟩, _⟩, h3⟩ := hk
  by_cases he : f.s = []
  · have hr := enc_rows f h1
    obtain ⟨k, s⟩ := f
    simp only at he h1 h2 hr
    subst he
    have h4 : bytesRows (Frame.bytes ⟨k, []⟩) = [[.int .u8 0], [.int .u8 1], [.int .u8 k]] := by
      rw [← hr]
      have : IntKind.wrap .u8 k = k := by simp [IntKind.wrap, IntKind.signed, IntKind.bits]; omega
      rw [this]
      rfl
    rw [h4]
    exact enc_empty k h1 h2 H
  · refine acallsK Try.func41 (by kernel_rfl) ac41_ok fun hf => ?_
    have hl : inR .i64 (f.s.length : Int) := small_i64 (by omega) (by omega)
    have hl1 : inR .i64 ((f.s.length : Int) + 1) := small_i64 (by omega) (by omega)
    have hb : (8 : Int) < ((IntKind.i64.bits : Nat) : Int) := by decide
    have hne : bytesRows f.s ≠ [] := fun e => he (by cases hs : f.s with | nil => rfl | cons a l => rw [hs] at e; cases e)
    simp -implicitDefEqProofs [ac41, Frame.row, hl, hl1, hb, bytesRows_len, allLen_bytes, posF_ne _ _ hne, aw_skip, aw_region, aw_seq, aw_block, aw_cond, aw_exit, aw_ret, kq_nil, kq_seq, kq_seq_ret, kq_seq_exit, kq_block, kq_block_ret, kq_block_exit, kq_loop, kq_loop_ret, kq_loop_exit, awOps_nil, awOps_cons, awOps_guardE, nx_eq, awOp, ev_k, ev_0, ev_1, ev_2, ev_3, ev_4, ev_5, ev_6, ev_7, ev_8, set_0, set_1, set_2, set_3, set_4, set_5, set_6, set_7, set_8, -List.set_cons_succ, -List.set_cons_zero, A.ok, A.val, setSl, wrapG, guardB, getB, pickA, binA, binC, binD, cmpD, isCmp, unA, unD, lenA, AOp.total, kills, litB, FinQ, resOks, resOk, resA, resList, resOne, A.thaw, C.thaw, A.fits, As.fits, C.fits, evs, oks, callArgs, A.pure, C.pure, A.re, C.re, fieldAddrA, loadC, cut, A.cells, C.rows?, getOb, newOb, setOb, storeC, splice, Ob.re, Cs.fits, partsA, partsOk, parts2A, parts2Ok, fillC, fillRows, optInt, optOk, sliceA, clipC, optK_some, storeK_some, Option.map_some, toDs, C.toD, spliceD, appendA, capsOf, srcRows, allLen_nil_iff, allLen_cons_iff, allLen_append_iff, dropC, Obs.fits, eqCs, eqD]
    refine ⟨by unfold maxApp; omega, ?_⟩
    refine finK_ret _ ⟨trivial, trivial⟩ rfl ?_
    have hr := enc_rows f h1
    have hlen : f.bytes.length = 3 + f.s.length := by rw [bytes_len]; omega
    simp [Ob.re, C.re, A.re, A.val, Ref.re, Frame.row, hlen]
    exact hr
namespace Own
-- 40 slices.Clip[[]byte,byte] params 1 ntmps 9
def ac40 : Cd := .seq (.region [⟨(some 2), .mv (.k (.c (.full []))), none⟩] [2])
  (.seq (.region [⟨(some 3), .mv (.t 0), none⟩,
      ⟨(some 4), .mv (.t 0), none⟩,
      ⟨(some 5), .len 1 (.t 4), none⟩,
      ⟨(some 6), .mv (.t 0), none⟩,
      ⟨(some 7), .len 1 (.t 6), none⟩,
      ⟨(some 8), .slice 1 (.t 3) none (some (.t 5)) (some (.t 7)), none⟩,
      ⟨(some 2), .mv (.t 8), none⟩] [0, 3, 4, 5, 6, 7, 8])
  (.ret))
theorem ac40_ok : cFunc Try.prog [] [(0, [2], []), (1, [0, 3, 4, 5, 6, 7, 8], [])] Try.f40 = some (ac40, [.tmp 2], 9) := by kernel_rfl
end Own
theorem clipOwn_calls (s : List UInt8) (hs : s.length ≤ 140737488355328) (i p : Nat) (H : Heap) : ACalls Try.prog 40 [.c (.own (.e i) p (bytesRows s))] H (fun r H' => H' = H ∧ r = .c (.own (.e i) p (bytesRows s))) := by
  refine acallsK Try.func40 (by kernel_rfl) ac40_ok fun hf => ?_
  have hl : inR .i64 (s.length : Int) := small_i64 (by omega) (by omega)
  simp -implicitDefEqProofs [ac40, hl, bytesRows_len, allLen_bytes, take_bytes, aw_skip, aw_region, aw_seq, aw_block, aw_cond, aw_exit, aw_ret, kq_nil, kq_seq, kq_seq_ret, kq_seq_exit, kq_block, kq_block_ret, kq_block_exit, kq_loop, kq_loop_ret, kq_loop_exit, awOps_nil, awOps_cons, awOps_guardE, nx_eq, awOp, ev_k, ev_0, ev_1, ev_2, ev_3, ev_4, ev_5, ev_6, ev_7, ev_8, set_0, set_1, set_2, set_3, set_4, set_5, set_6, set_7, set_8, -List.set_cons_succ, -List.set_cons_zero, A.ok, A.val, setSl, wrapG, guardB, getB, pickA, binA, binC, binD, cmpD, isCmp, unA, unD, lenA, AOp.total, kills, litB, FinQ, resOks, resOk, resA, resList, resOne, A.thaw, C.thaw, A.fits, As.fits, C.fits, evs, oks, callArgs, A.pure, C.pure, A.re, C.re, fieldAddrA, loadC, cut, A.cells, C.rows?, getOb, newOb, setOb, storeC, splice, Ob.re, Cs.fits, partsA, partsOk, parts2A, parts2Ok, fillC, fillRows, optInt, optOk, sliceA, clipC, optK_some, storeK_some, Option.map_some, toDs, C.toD, spliceD, appendA, capsOf, srcRows, allLen_nil_iff, allLen_cons_iff, allLen_append_iff, dropC, Obs.fits, eqCs, eqD]
  refine finK_ret _ ⟨trivial, trivial⟩ rfl ?_
  simp [Ob.re, C.re, A.re, A.val, Ref.re]
/-- what is handed out: bytes in a row of their own -/
def HandsBytes (s : List UInt8) (r : A) (H : Heap) : Prop := ∃ v : Value, r = .c (.d (.v v)) ∧ H = [.tree v (bytesRows s)]
theorem HandsBytes.handed {s : List UInt8} {r : A} {H : Heap} (h : HandsBytes s r H) : Handed r H := by
  obtain ⟨v, rfl, rfl⟩ := h
  exact ⟨rfl, rfl⟩
theorem flat_bytes (s : List UInt8) : Flat (bytesRows s) := by
  intro x hx
  simp only [bytesRows, List.mem_flatten, List.mem_map] at hx
  obtain ⟨l, ⟨b, _, rfl⟩, hx⟩ := hx
  simp at hx
  subst hx
  rfl
theorem encFOwn_calls (f : Frame) (hs : f.s.length ≤ reachBytes) : ACalls Try.prog 11 [.agg (f.row.map .d)] [] (HandsBytes (encF f)) := by
  refine acallsT Try.func11 (by kernel_rfl) Own.ac11_ok ?_
  simp -implicitDefEqProofs [Own.ac11, Frame.row, aw_skip, aw_region, aw_seq, aw_block, aw_cond, aw_exit, aw_ret, kq_nil, kq_seq, kq_seq_ret, kq_seq_exit, kq_block, kq_block_ret, kq_block_exit, kq_loop, kq_loop_ret, kq_loop_exit, awOps_nil, awOps_cons, awOps_guardE, nx_eq, awOp, ev_k, ev_0, ev_1, ev_2, ev_3, ev_4, ev_5, ev_6, ev_7, ev_8, set_0, set_1, set_2, set_3, set_4, set_5, set_6, set_7, set_8, -List.set_cons_succ, -List.set_cons_zero, A.ok, A.val, setSl, wrapG, guardB, getB, pickA, binA, binC, binD, cmpD, isCmp, unA, unD, lenA, AOp.total, kills, litB, FinQ, resOks, resOk, resA, resList, resOne, A.thaw, C.thaw, A.fits, As.fits, C.fits, evs, oks, callArgs, A.pure, C.pure, A.re, C.re, fieldAddrA, loadC, cut, A.cells, C.rows?, getOb, newOb, setOb, storeC, splice, Ob.re, Cs.fits, partsA, partsOk, parts2A, parts2Ok, fillC, fillRows, optInt, optOk, sliceA, clipC, optK_some, storeK_some, Option.map_some, toDs, C.toD, spliceD, appendA, capsOf, srcRows, allLen_nil_iff, allLen_cons_iff, allLen_append_iff, dropC, Obs.fits, eqCs, eqD]
  refine qcall_pure (fvImpl_calls f hs) trivial rfl ?_
  simp -implicitDefEqProofs [aw_skip, aw_region, aw_seq, aw_block, aw_cond, aw_exit, aw_ret, kq_nil, kq_seq, kq_seq_ret, kq_seq_exit, kq_block, kq_block_ret, kq_block_exit, kq_loop, kq_loop_ret, kq_loop_exit, awOps_nil, awOps_cons, awOps_guardE, nx_eq, awOp, ev_k, ev_0, ev_1, ev_2, ev_3, ev_4, ev_5, ev_6, ev_7, ev_8, set_0, set_1, set_2, set_3, set_4, set_5, set_6, set_7, set_8, -List.set_cons_succ, -List.set_cons_zero, A.ok, A.val, setSl, wrapG, guardB, getB, pickA, binA, binC, binD, cmpD, isCmp, unA, unD, lenA, AOp.total, kills, litB, FinQ, resOks, resOk, resA, resList, resOne, A.thaw, C.thaw, A.fits, As.fits, C.fits, evs, oks, callArgs, A.pure, C.pure, A.re, C.re, fieldAddrA, loadC, cut, A.cells, C.rows?, getOb, newOb, setOb, storeC, splice, Ob.re, Cs.fits, partsA, partsOk, parts2A, parts2Ok, fillC, fillRows, optInt, optOk, sliceA, clipC, optK_some, storeK_some, Option.map_some, toDs, C.toD, spliceD, appendA, capsOf, srcRows, allLen_nil_iff, allLen_cons_iff, allLen_append_iff, dropC, Obs.fits, eqCs, eqD]
  refine ⟨fun h => ?_, fun h => ?_⟩
  · refine finT_ret _ ⟨trivial, trivial⟩ rfl fun kv => ⟨_, _, _, .one (.c .full), List.nodup_nil, ?_⟩
    exact ⟨_, rfl, by simp [encF, h, bytesRows]⟩
  · refine (encOwn_calls f h _).mono fun r H' ⟨h1, h2⟩ => ⟨[], [.cells (f.row.map .d), .cells (f.row.map .d), .grow f.bytes.length 1], .c (.own (.l 2) f.bytes.length (bytesRows f.bytes)), by rw [h1]; simp [Ob.re, C.re, Frame.row], rfl, by simp, trivial, by rw [h2]; simp [A.re, C.re, Ref.re], ?_⟩
    simp -implicitDefEqProofs [Frame.row, aw_skip, aw_region, aw_seq, aw_block, aw_cond, aw_exit, aw_ret, kq_nil, kq_seq, kq_seq_ret, kq_seq_exit, kq_block, kq_block_ret, kq_block_exit, kq_loop, kq_loop_ret, kq_loop_exit, awOps_nil, awOps_cons, awOps_guardE, nx_eq, awOp, ev_k, ev_0, ev_1, ev_2, ev_3, ev_4, ev_5, ev_6, ev_7, ev_8, set_0, set_1, set_2, set_3, set_4, set_5, set_6, set_7, set_8, -List.set_cons_succ, -List.set_cons_zero, A.ok, A.val, setSl, wrapG, guardB, getB, pickA, binA, binC, binD, cmpD, isCmp, unA, unD, lenA, AOp.total, kills, litB, FinQ, resOks, resOk, resA, resList, resOne, A.thaw, C.thaw, A.fits, As.fits, C.fits, evs, oks, callArgs, A.pure, C.pure, A.re, C.re, fieldAddrA, loadC, cut, A.cells, C.rows?, getOb, newOb, setOb, storeC, splice, Ob.re, Cs.fits, partsA, partsOk, parts2A, parts2Ok, fillC, fillRows, optInt, optOk, sliceA, clipC, optK_some, storeK_some, Option.map_some, toDs, C.toD, spliceD, appendA, capsOf, srcRows, allLen_nil_iff, allLen_cons_iff, allLen_append_iff, dropC, Obs.fits, eqCs, eqD]
    refine (clipOwn_calls f.bytes (by have := ok_spec h; rw [bytes_len]; omega) _ _ _).mono fun r H' ⟨h1, h2⟩ => ⟨[], [.cells (f.row.map .d), .cells (f.row.map .d), .grow f.bytes.length 1], .c (.own (.l 2) f.bytes.length (bytesRows f.bytes)), by rw [h1]; simp [Ob.re, C.re, Frame.row], rfl, by simp, trivial, by rw [h2]; simp [A.re, C.re, Ref.re], ?_⟩
    simp -implicitDefEqProofs [Frame.row, aw_skip, aw_region, aw_seq, aw_block, aw_cond, aw_exit, aw_ret, kq_nil, kq_seq, kq_seq_ret, kq_seq_exit, kq_block, kq_block_ret, kq_block_exit, kq_loop, kq_loop_ret, kq_loop_exit, awOps_nil, awOps_cons, awOps_guardE, nx_eq, awOp, ev_k, ev_0, ev_1, ev_2, ev_3, ev_4, ev_5, ev_6, ev_7, ev_8, set_0, set_1, set_2, set_3, set_4, set_5, set_6, set_7, set_8, -List.set_cons_succ, -List.set_cons_zero, A.ok, A.val, setSl, wrapG, guardB, getB, pickA, binA, binC, binD, cmpD, isCmp, unA, unD, lenA, AOp.total, kills, litB, FinQ, resOks, resOk, resA, resList, resOne, A.thaw, C.thaw, A.fits, As.fits, C.fits, evs, oks, callArgs, A.pure, C.pure, A.re, C.re, fieldAddrA, loadC, cut, A.cells, C.rows?, getOb, newOb, setOb, storeC, splice, Ob.re, Cs.fits, partsA, partsOk, parts2A, parts2Ok, fillC, fillRows, optInt, optOk, sliceA, clipC, optK_some, storeK_some, Option.map_some, toDs, C.toD, spliceD, appendA, capsOf, srcRows, allLen_nil_iff, allLen_cons_iff, allLen_append_iff, dropC, Obs.fits, eqCs, eqD]
    refine finT_ret _ ⟨trivial, trivial⟩ rfl fun kv => ⟨_, _, _, .one (.c (.own (js := []) rfl (by simp [bytesRows_len]) ((strip_flat (flat_bytes _)).2 ⟨rfl, rfl⟩) rfl (fun m hm => by simp at hm))), by simp, ?_⟩
    exact ⟨_, rfl, by simp [encF, h]⟩
end Go.Proofs.Ytamaaiabbganjaa
