/-
  Frames: lists of frames, as the program and the reference write them; the reference's decoder.
  Conditions: none.
-/
import Derived.Test.YtamaaiabbganjaaFrM
open Go Go.AM Go.Proofs
namespace Go.Proofs.Ytamaaiabbganjaa
open Go.ChangeShapes Go.WideShapes Go.ChangeAt Go.RowKit
set_option linter.unusedVariables false
set_option linter.unusedSimpArgs false
set_option maxRecDepth 100000
-- 18 loop.example/prologserver/impl.EncodeAll params 1 ntmps 22
-- loop head live: [3, 6, 7, 8]
def ac18 : Cd := .seq (.region [⟨(some 2), .mv (.k (.c (.full []))), none⟩] [2])
  (.seq (.region [⟨(some 3), .mv (.k (.c (.full []))), none⟩] [])
  (.seq (.seq (.region [⟨(some 6), .mv (.t 0), none⟩,
        ⟨(some 7), .len 1 (.t 6), none⟩,
        ⟨(some 8), .mv (.k (.c (.d (.int .i64 0)))), none⟩] [0])
    (.block 0 (.loop (.seq (.region [⟨(some 9), .bin .lss (.t 8) (.t 7), none⟩] [])
        (.seq (.cond (.t 9)
            (.skip)
            (.exit 0))
        (.seq (.block 1 (.seq (.region [⟨(some 10), .indexAddr 2 (.t 6) (.t 8), none⟩,
                ⟨(some 11), .load (some 2) (.t 10), none⟩,
                ⟨(some 5), .alloc [(.d (.int .i64 0)), (.d (.str []))], none⟩,
                ⟨none, .store 2 (.t 5) (.t 11), none⟩] [9, 10, 11])
            (.seq (.seq (.region [⟨(some 12), .load (some 2) (.t 5), none⟩,
                  ⟨(some 13), .qcall 39 [(.t 12)], none⟩,
                  ⟨(some 14), .un .not (.t 13), none⟩] [12, 13])
              (.cond (.t 14)
                (.seq (.region [⟨(some 2), .mv (.k (.c (.full []))), none⟩] [3, 5, 6, 7, 8, 14])
                (.ret))
                (.skip)))
            (.region [⟨(some 15), .mv (.t 3), none⟩,
              ⟨(some 16), .load (some 2) (.t 5), none⟩,
              ⟨(some 17), .qcall 41 [(.t 16)], none⟩,
              ⟨(some 18), .append false 1 (.t 15) (.t 17), none⟩,
              ⟨(some 3), .mv (.t 18), none⟩] [2, 5, 14, 15, 16, 17, 18]))))
        (.region [⟨(some 19), .bin .add (.t 8) (.k (.c (.d (.int .i64 1)))), none⟩,
          ⟨(some 8), .mv (.t 19), none⟩] [19])))))))
  (.seq (.region [⟨(some 20), .mv (.t 3), none⟩,
      ⟨(some 21), .qcall 40 [(.t 20)], none⟩,
      ⟨(some 2), .mv (.t 21), none⟩] [3, 20, 21])
  (.ret))))
theorem ac18_ok : cFunc Try.prog [1000039, 1000040, 1000041] [(0, [2], []), (1, [], []), (2, [0], []), (3, [], []), (4, [9, 10, 11], []), (5, [12, 13], []), (6, [3, 5, 6, 7, 8, 14], []), (7, [2, 5, 14, 15, 16, 17, 18], []), (8, [19], []), (9, [3, 20, 21], [])] Try.f18 = some (ac18, [.tmp 2], 22) := by kernel_rfl
-- 16 loop.example/prologserver/spec.EncodeAll params 1 ntmps 27
-- loop head live: [0, 3, 4]
def ac16 : Cd := .seq (.region [⟨(some 2), .mv (.k (.c (.full []))), none⟩] [2])
  (.seq (.region [⟨(some 5), .buildSlice 1 0 [(.int .u8 0)] [], none⟩,
      ⟨(some 3), .mv (.t 5), none⟩] [5])
  (.seq (.seq (.region [⟨(some 4), .mv (.k (.c (.d (.int .i64 0)))), none⟩] [])
    (.block 0 (.loop (.seq (.seq (.region [⟨(some 6), .mv (.t 4), none⟩,
              ⟨(some 7), .mv (.t 0), none⟩,
              ⟨(some 8), .len 1 (.t 7), none⟩,
              ⟨(some 9), .bin .lss (.t 6) (.t 8), none⟩] [6, 7, 8])
          (.cond (.t 9)
            (.skip)
            (.exit 0)))
        (.seq (.block 1 (.seq (.seq (.region [⟨(some 12), .mv (.t 0), none⟩,
                  ⟨(some 13), .mv (.t 4), none⟩,
                  ⟨(some 14), .indexAddr 2 (.t 12) (.t 13), none⟩,
                  ⟨(some 15), .load (some 2) (.t 14), none⟩,
                  ⟨(some 16), .qcall 37 [(.t 15)], none⟩,
                  ⟨(some 17), .un .not (.t 16), none⟩] [9, 12, 13, 14, 15, 16])
              (.cond (.t 17)
                (.seq (.region [⟨(some 18), .buildSlice 1 0 [(.int .u8 0)] [], none⟩,
                    ⟨(some 2), .mv (.t 18), none⟩] [0, 3, 4, 17, 18])
                (.ret))
                (.skip)))
            (.region [⟨(some 19), .mv (.t 3), none⟩,
              ⟨(some 20), .mv (.t 0), none⟩,
              ⟨(some 21), .mv (.t 4), none⟩,
              ⟨(some 22), .indexAddr 2 (.t 20) (.t 21), none⟩,
              ⟨(some 23), .load (some 2) (.t 22), none⟩,
              ⟨(some 24), .qcall 38 [(.t 23)], none⟩,
              ⟨(some 25), .append false 1 (.t 19) (.t 24), none⟩,
              ⟨(some 3), .mv (.t 25), none⟩] [2, 17, 19, 20, 21, 22, 23, 24, 25])))
        (.region [⟨(some 10), .mv (.t 4), none⟩,
          ⟨(some 11), .bin .add (.t 10) (.k (.c (.d (.int .i64 1)))), none⟩,
          ⟨(some 4), .mv (.t 11), none⟩] [10, 11]))))))
  (.seq (.region [⟨(some 26), .mv (.t 3), none⟩,
      ⟨(some 2), .mv (.t 26), none⟩] [3, 26])
  (.ret))))
theorem ac16_ok : cFunc Try.prog [1000037, 1000038] [(0, [2], []), (1, [5], []), (2, [], []), (3, [6, 7, 8], []), (5, [9, 12, 13, 14, 15, 16], []), (6, [0, 3, 4, 17, 18], []), (7, [2, 17, 19, 20, 21, 22, 23, 24, 25], []), (4, [10, 11], []), (8, [3, 26], [])] Try.f16 = some (ac16, [.tmp 2], 27) := by kernel_rfl
-- 44 loop.example/prologserver/spec.l11Take params 1 ntmps 28
-- loop head live: [0, 5]
def ac44 : Cd := .seq (.region [⟨(some 2), .mv (.k (.c (.full []))), none⟩,
      ⟨(some 3), .mv (.k (.c (.full []))), none⟩,
      ⟨(some 4), .mv (.k (.c (.d (.bool false)))), none⟩] [2, 3, 4])
  (.seq (.region [⟨(some 8), .buildSlice 2 0 [(.int .i64 0), (.str [])] [], none⟩,
      ⟨(some 5), .mv (.t 8), none⟩] [8])
  (.block 0 (.loop (.block 1 (.seq (.region [⟨(some 10), .mv (.t 0), none⟩,
            ⟨(some 11), .qcall 56 [(.t 10)], none⟩,
            ⟨(some 9), .mv (.t 11), none⟩,
            ⟨(some 12), .extract 0 (.t 9), none⟩,
            ⟨(some 13), .extract 1 (.t 9), none⟩,
            ⟨(some 6), .alloc [(.d (.int .i64 0)), (.d (.str []))], none⟩,
            ⟨none, .store 2 (.t 6) (.t 12), none⟩,
            ⟨(some 7), .mv (.t 13), none⟩] [9, 10, 11, 12, 13])
        (.seq (.seq (.region [⟨(some 14), .mv (.t 7), none⟩,
              ⟨(some 15), .bin .eql (.t 14) (.k (.c (.d (.int .i64 0)))), none⟩] [14])
          (.cond (.t 15)
            (.seq (.region [⟨(some 16), .mv (.t 5), none⟩,
                ⟨(some 17), .mv (.t 0), none⟩,
                ⟨(some 2), .mv (.t 16), none⟩,
                ⟨(some 3), .mv (.t 17), none⟩,
                ⟨(some 4), .mv (.k (.c (.d (.bool false)))), none⟩] [0, 5, 6, 7, 15, 16, 17])
            (.ret))
            (.skip)))
        (.seq (.seq (.region [⟨(some 18), .mv (.t 7), none⟩,
              ⟨(some 19), .bin .lss (.t 18) (.k (.c (.d (.int .i64 0)))), none⟩] [2, 3, 4, 15, 18])
          (.cond (.t 19)
            (.seq (.region [⟨(some 20), .mv (.t 5), none⟩,
                ⟨(some 2), .mv (.t 20), none⟩,
                ⟨(some 3), .mv (.k (.c (.full []))), none⟩,
                ⟨(some 4), .mv (.k (.c (.d (.bool true)))), none⟩] [0, 5, 6, 7, 19, 20])
            (.ret))
            (.skip)))
        (.seq (.region [⟨(some 21), .mv (.t 5), none⟩,
            ⟨(some 22), .load (some 2) (.t 6), none⟩,
            ⟨(some 23), .buildSlice 2 1 [(.int .i64 0), (.str [])] [(0, (.t 22))], none⟩,
            ⟨(some 24), .append false 2 (.t 21) (.t 23), none⟩,
            ⟨(some 5), .mv (.t 24), none⟩] [2, 3, 4, 6, 19, 21, 22, 23, 24])
        (.region [⟨(some 25), .mv (.t 0), none⟩,
          ⟨(some 26), .mv (.t 7), none⟩,
          ⟨(some 27), .slice 1 (.t 25) (some (.t 26)) none none, none⟩,
          ⟨(some 0), .mv (.t 27), none⟩] [7, 25, 26, 27])))))))))
theorem ac44_ok : cFunc Try.prog [1000056] [(0, [2, 3, 4], []), (1, [8], []), (2, [9, 10, 11, 12, 13], []), (3, [14], []), (4, [0, 5, 6, 7, 15, 16, 17], []), (5, [2, 3, 4, 15, 18], []), (6, [0, 5, 6, 7, 19, 20], []), (7, [2, 3, 4, 6, 19, 21, 22, 23, 24], []), (8, [7, 25, 26, 27], [])] Try.f44 = some (ac44, [.tmp 2, .tmp 3, .tmp 4], 28) := by kernel_rfl
-- 26 loop.example/prologserver/spec.FeedDecoder params 2 ntmps 41
def ac26 : Cd := .seq (.region [⟨(some 2), .box (.t 0), none⟩,
      ⟨(some 4), .alloc [(.full []), (.d (.bool false))], none⟩,
      ⟨(some 5), .mv (.k (.c (.full []))), none⟩] [0, 5])
  (.seq (.seq (.region [⟨(some 9), .load (some 2) (.t 2), none⟩,
        ⟨(some 10), .qcall 46 [(.t 9)], none⟩,
        ⟨(some 11), .un .not (.t 10), none⟩,
        ⟨(some 12), .mv (.t 11), none⟩,
        ⟨(some 13), .fieldAddr 1 (.t 2), some (12, false)⟩,
        ⟨(some 14), .load none (.t 13), some (12, false)⟩,
        ⟨(some 15), .pick (.t 12) (.k (.c (.d (.bool true)))) (.t 14), none⟩] [9, 10, 11, 12, 13, 14])
    (.cond (.t 15)
      (.seq (.region [⟨(some 16), .buildSlice 1 0 [(.int .u8 0)] [], none⟩,
          ⟨(some 17), .fieldAddr 0 (.t 2), none⟩,
          ⟨(some 20), .fieldAddr 1 (.t 2), none⟩,
          ⟨(some 23), .buildSlice 2 0 [(.int .i64 0), (.str [])] [], none⟩,
          ⟨(some 18), .load none (.t 17), none⟩,
          ⟨(some 21), .load none (.t 20), none⟩,
          ⟨(some 19), .append false 1 (.t 16) (.t 18), none⟩,
          ⟨(some 22), .build [(.full []), (.d (.bool false))] [(0, 1, (.t 19)), (1, 1, (.t 21))], none⟩,
          ⟨none, .store 2 (.t 4) (.t 22), none⟩,
          ⟨(some 5), .mv (.t 23), none⟩] [1, 2, 15, 16, 17, 18, 19, 20, 21, 22, 23])
      (.ret))
      (.skip)))
  (.seq (.region [⟨(some 25), .buildSlice 1 0 [(.int .u8 0)] [], none⟩,
      ⟨(some 26), .fieldAddr 0 (.t 2), none⟩,
      ⟨(some 27), .load none (.t 26), none⟩,
      ⟨(some 28), .append false 1 (.t 25) (.t 27), none⟩,
      ⟨(some 29), .mv (.t 1), none⟩,
      ⟨(some 30), .append false 1 (.t 28) (.t 29), none⟩,
      ⟨(some 31), .qcall 44 [(.t 30)], none⟩,
      ⟨(some 24), .mv (.t 31), none⟩,
      ⟨(some 32), .extract 0 (.t 24), none⟩,
      ⟨(some 33), .extract 1 (.t 24), none⟩,
      ⟨(some 34), .extract 2 (.t 24), none⟩,
      ⟨(some 6), .mv (.t 32), none⟩,
      ⟨(some 7), .mv (.t 33), none⟩,
      ⟨(some 8), .mv (.t 34), none⟩] [1, 2, 5, 15, 24, 25, 26, 27, 28, 29, 30, 31, 32, 33, 34])
  (.seq (.region [⟨(some 35), .buildSlice 1 0 [(.int .u8 0)] [], none⟩,
      ⟨(some 36), .mv (.t 7), none⟩,
      ⟨(some 37), .append false 1 (.t 35) (.t 36), none⟩,
      ⟨(some 38), .mv (.t 8), none⟩,
      ⟨(some 39), .build [(.full []), (.d (.bool false))] [(0, 1, (.t 37)), (1, 1, (.t 38))], none⟩,
      ⟨(some 40), .mv (.t 6), none⟩,
      ⟨none, .store 2 (.t 4) (.t 39), none⟩,
      ⟨(some 5), .mv (.t 40), none⟩] [6, 7, 8, 35, 36, 37, 38, 39, 40])
  (.ret))))
theorem ac26_ok : cFunc Try.prog [1000044, 1000046] [(0, [0, 5], []), (1, [9, 10, 11, 12, 13, 14], []), (2, [1, 2, 15, 16, 17, 18, 19, 20, 21, 22, 23], [0, 1, 4, 7, 2, 5, 3, 6, 8, 9]), (3, [1, 2, 5, 15, 24, 25, 26, 27, 28, 29, 30, 31, 32, 33, 34], []), (4, [6, 7, 8, 35, 36, 37, 38, 39, 40], [])] Try.f26 = some (ac26, [.cell 4 (some 2), .tmp 5], 41) := by kernel_rfl
def cat (l : List Frame) : List UInt8 := l.flatMap Frame.bytes
def encAll (l : List Frame) : List UInt8 := if l.all Frame.ok then cat l else []
theorem cat_len (l : List Frame) (h : ∀ f ∈ l, f.ok = true) : (cat l).length ≤ 2003 * l.length := by
  induction l with
  | nil => simp [cat]
  | cons f l ih =>
    have := ih (fun g hg => h g (by simp [hg]))
    have h2 := ok_spec (h f (by simp))
    simp only [cat, List.flatMap_cons, List.length_append, bytes_len, List.length_cons] at this ⊢
    omega
theorem cat_succ (l : List Frame) {i : Nat} (h : i < l.length) : cat (l.take (i + 1)) = cat (l.take i) ++ l[i].bytes := by
  rw [List.take_succ_eq_append_getElem h]
  simp only [cat, List.flatMap_append, List.flatMap_cons, List.flatMap_nil, List.append_nil]
theorem take_ok {l : List Frame} {i : Nat} (h : i < l.length) (ha : ∀ f ∈ l.take i, f.ok = true) (hb : l[i].ok = true) : ∀ f ∈ l.take (i + 1), f.ok = true := by
  intro f h'
  rw [List.take_succ_eq_append_getElem h, List.mem_append] at h'
  rcases h' with h' | h'
  · exact ha f h'
  · simp at h'; subst h'; exact hb
theorem encAllImpl_calls (l : List Frame) (hl : l.length ≤ 1048576) (hs : ∀ f ∈ l, f.s.length ≤ reachBytes) (H : Heap) : ACalls Try.prog 18 [.c (.d (.sl (l.map Frame.row)))] H (fun r H' => H' = H ∧ r = .c (.d (.sl (bytesRows (encAll l))))) := by
  refine acalls Try.func18 (by kernel_rfl) ac18_ok fun hf => ?_
  have hli : inR .i64 (l.length : Int) := small_i64 (by omega) (by omega)
  simp -implicitDefEqProofs [ac18, hli, aw_skip, aw_region, aw_seq, aw_block, aw_cond, aw_exit, aw_ret, kq_nil, kq_seq, kq_seq_ret, kq_seq_exit, kq_block, kq_block_ret, kq_block_exit, kq_loop, kq_loop_ret, kq_loop_exit, awOps_nil, awOps_cons, awOps_guardE, nx_eq, awOp, ev_k, ev_0, ev_1, ev_2, ev_3, ev_4, ev_5, ev_6, ev_7, ev_8, set_0, set_1, set_2, set_3, set_4, set_5, set_6, set_7, set_8, -List.set_cons_succ, -List.set_cons_zero, A.ok, A.val, setSl, wrapG, guardB, getB, pickA, binA, binC, binD, cmpD, isCmp, unA, unD, lenA, AOp.total, kills, litB, FinQ, resOks, resOk, resA, resList, resOne, A.thaw, C.thaw, A.fits, As.fits, C.fits, evs, oks, callArgs, A.pure, C.pure, A.re, C.re, fieldAddrA, loadC, cut, A.cells, C.rows?, getOb, newOb, setOb, storeC, splice, Ob.re, Cs.fits, partsA, partsOk, parts2A, parts2Ok, fillC, fillRows, optInt, optOk, sliceA, clipC, optK_some, storeK_some, Option.map_some, toDs, C.toD, spliceD, appendA, capsOf, srcRows, allLen_nil_iff, allLen_cons_iff, allLen_append_iff, dropC, Obs.fits, eqCs, eqD]
  refine loop_enter (St.le_token 3 1 rfl) ?_
  refine loop_set (σ := Nat) (fun i => [(8, .c (.d (.int .i64 i))), (3, .c (.own (.l 0) (cat (l.take i)).length (bytesRows (cat (l.take i)))))]) (fun _ => H) (fun i => [.grow (cat (l.take i)).length 1]) (fun i => i ≤ l.length ∧ ∀ f ∈ l.take i, f.ok = true) (fun i => l.length - i) 0 rfl ⟨Nat.zero_le _, by simp⟩ ?_
  rintro i ⟨hi, hall⟩
  have hcl := cat_len (l.take i) hall
  have htl : (l.take i).length = i := by simp; omega
  rw [htl] at hcl
  simp -implicitDefEqProofs [setAll, hli, aw_skip, aw_region, aw_seq, aw_block, aw_cond, aw_exit, aw_ret, kq_nil, kq_seq, kq_seq_ret, kq_seq_exit, kq_block, kq_block_ret, kq_block_exit, kq_loop, kq_loop_ret, kq_loop_exit, awOps_nil, awOps_cons, awOps_guardE, nx_eq, awOp, ev_k, ev_0, ev_1, ev_2, ev_3, ev_4, ev_5, ev_6, ev_7, ev_8, set_0, set_1, set_2, set_3, set_4, set_5, set_6, set_7, set_8, -List.set_cons_succ, -List.set_cons_zero, A.ok, A.val, setSl, wrapG, guardB, getB, pickA, binA, binC, binD, cmpD, isCmp, unA, unD, lenA, AOp.total, kills, litB, FinQ, resOks, resOk, resA, resList, resOne, A.thaw, C.thaw, A.fits, As.fits, C.fits, evs, oks, callArgs, A.pure, C.pure, A.re, C.re, fieldAddrA, loadC, cut, A.cells, C.rows?, getOb, newOb, setOb, storeC, splice, Ob.re, Cs.fits, partsA, partsOk, parts2A, parts2Ok, fillC, fillRows, optInt, optOk, sliceA, clipC, optK_some, storeK_some, Option.map_some, toDs, C.toD, spliceD, appendA, capsOf, srcRows, allLen_nil_iff, allLen_cons_iff, allLen_append_iff, dropC, Obs.fits, eqCs, eqD]
  refine ⟨fun hlt => ?_, fun hge => ?_⟩
  · refine row_of hlt rfl ?_
    simp -implicitDefEqProofs [Frame.row, hf, aw_skip, aw_region, aw_seq, aw_block, aw_cond, aw_exit, aw_ret, kq_nil, kq_seq, kq_seq_ret, kq_seq_exit, kq_block, kq_block_ret, kq_block_exit, kq_loop, kq_loop_ret, kq_loop_exit, awOps_nil, awOps_cons, awOps_guardE, nx_eq, awOp, ev_k, ev_0, ev_1, ev_2, ev_3, ev_4, ev_5, ev_6, ev_7, ev_8, set_0, set_1, set_2, set_3, set_4, set_5, set_6, set_7, set_8, -List.set_cons_succ, -List.set_cons_zero, A.ok, A.val, setSl, wrapG, guardB, getB, pickA, binA, binC, binD, cmpD, isCmp, unA, unD, lenA, AOp.total, kills, litB, FinQ, resOks, resOk, resA, resList, resOne, A.thaw, C.thaw, A.fits, As.fits, C.fits, evs, oks, callArgs, A.pure, C.pure, A.re, C.re, fieldAddrA, loadC, cut, A.cells, C.rows?, getOb, newOb, setOb, storeC, splice, Ob.re, Cs.fits, partsA, partsOk, parts2A, parts2Ok, fillC, fillRows, optInt, optOk, sliceA, clipC, optK_some, storeK_some, Option.map_some, toDs, C.toD, spliceD, appendA, capsOf, srcRows, allLen_nil_iff, allLen_cons_iff, allLen_append_iff, dropC, Obs.fits, eqCs, eqD]
    refine qcall_pure (fvImpl_calls l[i] (hs _ (List.getElem_mem hlt))) hf rfl ?_
    have hadd : inR .i64 ((i : Int) + 1) := small_i64 (by omega) (by omega)
    simp -implicitDefEqProofs [Frame.row, hf, aw_skip, aw_region, aw_seq, aw_block, aw_cond, aw_exit, aw_ret, kq_nil, kq_seq, kq_seq_ret, kq_seq_exit, kq_block, kq_block_ret, kq_block_exit, kq_loop, kq_loop_ret, kq_loop_exit, awOps_nil, awOps_cons, awOps_guardE, nx_eq, awOp, ev_k, ev_0, ev_1, ev_2, ev_3, ev_4, ev_5, ev_6, ev_7, ev_8, set_0, set_1, set_2, set_3, set_4, set_5, set_6, set_7, set_8, -List.set_cons_succ, -List.set_cons_zero, A.ok, A.val, setSl, wrapG, guardB, getB, pickA, binA, binC, binD, cmpD, isCmp, unA, unD, lenA, AOp.total, kills, litB, FinQ, resOks, resOk, resA, resList, resOne, A.thaw, C.thaw, A.fits, As.fits, C.fits, evs, oks, callArgs, A.pure, C.pure, A.re, C.re, fieldAddrA, loadC, cut, A.cells, C.rows?, getOb, newOb, setOb, storeC, splice, Ob.re, Cs.fits, partsA, partsOk, parts2A, parts2Ok, fillC, fillRows, optInt, optOk, sliceA, clipC, optK_some, storeK_some, Option.map_some, toDs, C.toD, spliceD, appendA, capsOf, srcRows, allLen_nil_iff, allLen_cons_iff, allLen_append_iff, dropC, Obs.fits, eqCs, eqD]
    refine ⟨fun hno => ?_, fun hok => ?_⟩
    · have : encAll l = [] := by
        rw [encAll, if_neg]
        simp only [List.all_eq_true]
        exact fun h => by have := h _ (List.getElem_mem hlt); simp [hno] at this
      simp [this, bytesRows]
    · refine qcall_pure (encImpl_calls l[i] hok) hf rfl ?_
      have hbl := bytes_len l[i]
      have ho := ok_spec hok
      simp -implicitDefEqProofs [hadd, bytesRows_len, allLen_bytes, append_bytes, aw_skip, aw_region, aw_seq, aw_block, aw_cond, aw_exit, aw_ret, kq_nil, kq_seq, kq_seq_ret, kq_seq_exit, kq_block, kq_block_ret, kq_block_exit, kq_loop, kq_loop_ret, kq_loop_exit, awOps_nil, awOps_cons, awOps_guardE, nx_eq, awOp, ev_k, ev_0, ev_1, ev_2, ev_3, ev_4, ev_5, ev_6, ev_7, ev_8, set_0, set_1, set_2, set_3, set_4, set_5, set_6, set_7, set_8, -List.set_cons_succ, -List.set_cons_zero, A.ok, A.val, setSl, wrapG, guardB, getB, pickA, binA, binC, binD, cmpD, isCmp, unA, unD, lenA, AOp.total, kills, litB, FinQ, resOks, resOk, resA, resList, resOne, A.thaw, C.thaw, A.fits, As.fits, C.fits, evs, oks, callArgs, A.pure, C.pure, A.re, C.re, fieldAddrA, loadC, cut, A.cells, C.rows?, getOb, newOb, setOb, storeC, splice, Ob.re, Cs.fits, partsA, partsOk, parts2A, parts2Ok, fillC, fillRows, optInt, optOk, sliceA, clipC, optK_some, storeK_some, Option.map_some, toDs, C.toD, spliceD, appendA, capsOf, srcRows, allLen_nil_iff, allLen_cons_iff, allLen_append_iff, dropC, Obs.fits, eqCs, eqD]
      refine ⟨by unfold maxApp; omega, ?_⟩
      have hcs := cat_succ l hlt
      refine loop_less (i + 1) (St.le_cut [_] ?_ (by simp [Sl.le, A.le_refl_iff, A.le_u_iff, As.lo, A.lo, C.lo, Ref.lo, Cs.lo, Obs.lo, Ob.lo, setAll, and_true, true_and, List.length_nil, List.length_cons]) (by simp only [hcs, List.length_append]; rfl) ⟨trivial, trivial⟩) ⟨hlt, take_ok hlt hall hok⟩ (by show l.length - (i + 1) < l.length - i; omega)
      simp [hcs, Sl.le, A.le_refl_iff, A.le_u_iff, As.lo, A.lo, C.lo, Ref.lo, Cs.lo, Obs.lo, Ob.lo, setAll, and_true, true_and, List.length_nil, List.length_cons]
  · have hil : i = l.length := by omega
    subst hil
    rw [List.take_length] at hall hcl ⊢
    refine qcall_pure (clip_calls (cat l) (by omega)) hf rfl ?_
    have : encAll l = cat l := by rw [encAll, if_pos (List.all_eq_true.2 hall)]
    simp -implicitDefEqProofs [this, aw_skip, aw_region, aw_seq, aw_block, aw_cond, aw_exit, aw_ret, kq_nil, kq_seq, kq_seq_ret, kq_seq_exit, kq_block, kq_block_ret, kq_block_exit, kq_loop, kq_loop_ret, kq_loop_exit, awOps_nil, awOps_cons, awOps_guardE, nx_eq, awOp, ev_k, ev_0, ev_1, ev_2, ev_3, ev_4, ev_5, ev_6, ev_7, ev_8, set_0, set_1, set_2, set_3, set_4, set_5, set_6, set_7, set_8, -List.set_cons_succ, -List.set_cons_zero, A.ok, A.val, setSl, wrapG, guardB, getB, pickA, binA, binC, binD, cmpD, isCmp, unA, unD, lenA, AOp.total, kills, litB, FinQ, resOks, resOk, resA, resList, resOne, A.thaw, C.thaw, A.fits, As.fits, C.fits, evs, oks, callArgs, A.pure, C.pure, A.re, C.re, fieldAddrA, loadC, cut, A.cells, C.rows?, getOb, newOb, setOb, storeC, splice, Ob.re, Cs.fits, partsA, partsOk, parts2A, parts2Ok, fillC, fillRows, optInt, optOk, sliceA, clipC, optK_some, storeK_some, Option.map_some, toDs, C.toD, spliceD, appendA, capsOf, srcRows, allLen_nil_iff, allLen_cons_iff, allLen_append_iff, dropC, Obs.fits, eqCs, eqD]
theorem encAllSpec_calls (l : List Frame) (hl : l.length ≤ 1048576) (hs : ∀ f ∈ l, f.s.length ≤ reachBytes) (H : Heap) : ACalls Try.prog 16 [.c (.d (.sl (l.map Frame.row)))] H (fun r H' => H' = H ∧ r = .c (.d (.sl (bytesRows (encAll l))))) := by
  refine acalls Try.func16 (by kernel_rfl) ac16_ok fun hf => ?_
  have hli : inR .i64 (l.length : Int) := small_i64 (by omega) (by omega)
  simp -implicitDefEqProofs [ac16, hli, aw_skip, aw_region, aw_seq, aw_block, aw_cond, aw_exit, aw_ret, kq_nil, kq_seq, kq_seq_ret, kq_seq_exit, kq_block, kq_block_ret, kq_block_exit, kq_loop, kq_loop_ret, kq_loop_exit, awOps_nil, awOps_cons, awOps_guardE, nx_eq, awOp, ev_k, ev_0, ev_1, ev_2, ev_3, ev_4, ev_5, ev_6, ev_7, ev_8, set_0, set_1, set_2, set_3, set_4, set_5, set_6, set_7, set_8, -List.set_cons_succ, -List.set_cons_zero, A.ok, A.val, setSl, wrapG, guardB, getB, pickA, binA, binC, binD, cmpD, isCmp, unA, unD, lenA, AOp.total, kills, litB, FinQ, resOks, resOk, resA, resList, resOne, A.thaw, C.thaw, A.fits, As.fits, C.fits, evs, oks, callArgs, A.pure, C.pure, A.re, C.re, fieldAddrA, loadC, cut, A.cells, C.rows?, getOb, newOb, setOb, storeC, splice, Ob.re, Cs.fits, partsA, partsOk, parts2A, parts2Ok, fillC, fillRows, optInt, optOk, sliceA, clipC, optK_some, storeK_some, Option.map_some, toDs, C.toD, spliceD, appendA, capsOf, srcRows, allLen_nil_iff, allLen_cons_iff, allLen_append_iff, dropC, Obs.fits, eqCs, eqD]
  refine loop_enter (St.le_token 3 1 rfl) ?_
  refine loop_set (σ := Nat) (fun i => [(4, .c (.d (.int .i64 i))), (3, .c (.own (.l 0) (cat (l.take i)).length (bytesRows (cat (l.take i)))))]) (fun _ => H) (fun i => [.grow (cat (l.take i)).length 1]) (fun i => i ≤ l.length ∧ ∀ f ∈ l.take i, f.ok = true) (fun i => l.length - i) 0 rfl ⟨Nat.zero_le _, by simp⟩ ?_
  rintro i ⟨hi, hall⟩
  have hcl := cat_len (l.take i) hall
  have htl : (l.take i).length = i := by simp; omega
  rw [htl] at hcl
  simp -implicitDefEqProofs [setAll, hli, aw_skip, aw_region, aw_seq, aw_block, aw_cond, aw_exit, aw_ret, kq_nil, kq_seq, kq_seq_ret, kq_seq_exit, kq_block, kq_block_ret, kq_block_exit, kq_loop, kq_loop_ret, kq_loop_exit, awOps_nil, awOps_cons, awOps_guardE, nx_eq, awOp, ev_k, ev_0, ev_1, ev_2, ev_3, ev_4, ev_5, ev_6, ev_7, ev_8, set_0, set_1, set_2, set_3, set_4, set_5, set_6, set_7, set_8, -List.set_cons_succ, -List.set_cons_zero, A.ok, A.val, setSl, wrapG, guardB, getB, pickA, binA, binC, binD, cmpD, isCmp, unA, unD, lenA, AOp.total, kills, litB, FinQ, resOks, resOk, resA, resList, resOne, A.thaw, C.thaw, A.fits, As.fits, C.fits, evs, oks, callArgs, A.pure, C.pure, A.re, C.re, fieldAddrA, loadC, cut, A.cells, C.rows?, getOb, newOb, setOb, storeC, splice, Ob.re, Cs.fits, partsA, partsOk, parts2A, parts2Ok, fillC, fillRows, optInt, optOk, sliceA, clipC, optK_some, storeK_some, Option.map_some, toDs, C.toD, spliceD, appendA, capsOf, srcRows, allLen_nil_iff, allLen_cons_iff, allLen_append_iff, dropC, Obs.fits, eqCs, eqD]
  refine ⟨fun hlt => ?_, fun hge => ?_⟩
  · refine row_of hlt rfl ?_
    simp -implicitDefEqProofs [Frame.row, aw_skip, aw_region, aw_seq, aw_block, aw_cond, aw_exit, aw_ret, kq_nil, kq_seq, kq_seq_ret, kq_seq_exit, kq_block, kq_block_ret, kq_block_exit, kq_loop, kq_loop_ret, kq_loop_exit, awOps_nil, awOps_cons, awOps_guardE, nx_eq, awOp, ev_k, ev_0, ev_1, ev_2, ev_3, ev_4, ev_5, ev_6, ev_7, ev_8, set_0, set_1, set_2, set_3, set_4, set_5, set_6, set_7, set_8, -List.set_cons_succ, -List.set_cons_zero, A.ok, A.val, setSl, wrapG, guardB, getB, pickA, binA, binC, binD, cmpD, isCmp, unA, unD, lenA, AOp.total, kills, litB, FinQ, resOks, resOk, resA, resList, resOne, A.thaw, C.thaw, A.fits, As.fits, C.fits, evs, oks, callArgs, A.pure, C.pure, A.re, C.re, fieldAddrA, loadC, cut, A.cells, C.rows?, getOb, newOb, setOb, storeC, splice, Ob.re, Cs.fits, partsA, partsOk, parts2A, parts2Ok, fillC, fillRows, optInt, optOk, sliceA, clipC, optK_some, storeK_some, Option.map_some, toDs, C.toD, spliceD, appendA, capsOf, srcRows, allLen_nil_iff, allLen_cons_iff, allLen_append_iff, dropC, Obs.fits, eqCs, eqD]
    refine qcall_pure (fvSpec_calls l[i] (hs _ (List.getElem_mem hlt))) hf rfl ?_
    have hadd : inR .i64 ((i : Int) + 1) := small_i64 (by omega) (by omega)
    simp -implicitDefEqProofs [aw_skip, aw_region, aw_seq, aw_block, aw_cond, aw_exit, aw_ret, kq_nil, kq_seq, kq_seq_ret, kq_seq_exit, kq_block, kq_block_ret, kq_block_exit, kq_loop, kq_loop_ret, kq_loop_exit, awOps_nil, awOps_cons, awOps_guardE, nx_eq, awOp, ev_k, ev_0, ev_1, ev_2, ev_3, ev_4, ev_5, ev_6, ev_7, ev_8, set_0, set_1, set_2, set_3, set_4, set_5, set_6, set_7, set_8, -List.set_cons_succ, -List.set_cons_zero, A.ok, A.val, setSl, wrapG, guardB, getB, pickA, binA, binC, binD, cmpD, isCmp, unA, unD, lenA, AOp.total, kills, litB, FinQ, resOks, resOk, resA, resList, resOne, A.thaw, C.thaw, A.fits, As.fits, C.fits, evs, oks, callArgs, A.pure, C.pure, A.re, C.re, fieldAddrA, loadC, cut, A.cells, C.rows?, getOb, newOb, setOb, storeC, splice, Ob.re, Cs.fits, partsA, partsOk, parts2A, parts2Ok, fillC, fillRows, optInt, optOk, sliceA, clipC, optK_some, storeK_some, Option.map_some, toDs, C.toD, spliceD, appendA, capsOf, srcRows, allLen_nil_iff, allLen_cons_iff, allLen_append_iff, dropC, Obs.fits, eqCs, eqD]
    refine ⟨fun hno => ?_, fun hok => ?_⟩
    · have : encAll l = [] := by
        rw [encAll, if_neg]
        simp only [List.all_eq_true]
        exact fun h => by have := h _ (List.getElem_mem hlt); simp [hno] at this
      simp [this, bytesRows]
    · refine row_of hlt rfl ?_
      simp -implicitDefEqProofs [Frame.row, aw_skip, aw_region, aw_seq, aw_block, aw_cond, aw_exit, aw_ret, kq_nil, kq_seq, kq_seq_ret, kq_seq_exit, kq_block, kq_block_ret, kq_block_exit, kq_loop, kq_loop_ret, kq_loop_exit, awOps_nil, awOps_cons, awOps_guardE, nx_eq, awOp, ev_k, ev_0, ev_1, ev_2, ev_3, ev_4, ev_5, ev_6, ev_7, ev_8, set_0, set_1, set_2, set_3, set_4, set_5, set_6, set_7, set_8, -List.set_cons_succ, -List.set_cons_zero, A.ok, A.val, setSl, wrapG, guardB, getB, pickA, binA, binC, binD, cmpD, isCmp, unA, unD, lenA, AOp.total, kills, litB, FinQ, resOks, resOk, resA, resList, resOne, A.thaw, C.thaw, A.fits, As.fits, C.fits, evs, oks, callArgs, A.pure, C.pure, A.re, C.re, fieldAddrA, loadC, cut, A.cells, C.rows?, getOb, newOb, setOb, storeC, splice, Ob.re, Cs.fits, partsA, partsOk, parts2A, parts2Ok, fillC, fillRows, optInt, optOk, sliceA, clipC, optK_some, storeK_some, Option.map_some, toDs, C.toD, spliceD, appendA, capsOf, srcRows, allLen_nil_iff, allLen_cons_iff, allLen_append_iff, dropC, Obs.fits, eqCs, eqD]
      refine qcall_pure (encSpec_calls l[i] hok) hf rfl ?_
      have hbl := bytes_len l[i]
      have ho := ok_spec hok
      simp -implicitDefEqProofs [hadd, bytesRows_len, allLen_bytes, append_bytes, aw_skip, aw_region, aw_seq, aw_block, aw_cond, aw_exit, aw_ret, kq_nil, kq_seq, kq_seq_ret, kq_seq_exit, kq_block, kq_block_ret, kq_block_exit, kq_loop, kq_loop_ret, kq_loop_exit, awOps_nil, awOps_cons, awOps_guardE, nx_eq, awOp, ev_k, ev_0, ev_1, ev_2, ev_3, ev_4, ev_5, ev_6, ev_7, ev_8, set_0, set_1, set_2, set_3, set_4, set_5, set_6, set_7, set_8, -List.set_cons_succ, -List.set_cons_zero, A.ok, A.val, setSl, wrapG, guardB, getB, pickA, binA, binC, binD, cmpD, isCmp, unA, unD, lenA, AOp.total, kills, litB, FinQ, resOks, resOk, resA, resList, resOne, A.thaw, C.thaw, A.fits, As.fits, C.fits, evs, oks, callArgs, A.pure, C.pure, A.re, C.re, fieldAddrA, loadC, cut, A.cells, C.rows?, getOb, newOb, setOb, storeC, splice, Ob.re, Cs.fits, partsA, partsOk, parts2A, parts2Ok, fillC, fillRows, optInt, optOk, sliceA, clipC, optK_some, storeK_some, Option.map_some, toDs, C.toD, spliceD, appendA, capsOf, srcRows, allLen_nil_iff, allLen_cons_iff, allLen_append_iff, dropC, Obs.fits, eqCs, eqD]
      refine ⟨by unfold maxApp; omega, ?_⟩
      have hcs := cat_succ l hlt
      exact loop_back (i + 1) (by simp [setAll, hcs]) ⟨hlt, take_ok hlt hall hok⟩ (by show l.length - (i + 1) < l.length - i; omega)
  · have hil : i = l.length := by omega
    subst hil
    rw [List.take_length] at hall ⊢
    have : encAll l = cat l := by rw [encAll, if_pos (List.all_eq_true.2 hall)]
    simp [this]
theorem take_calls (b : List UInt8) (hb : b.length ≤ 200000000) (H : Heap) : ACalls Try.prog 44 [.c (.d (.sl (bytesRows b)))] H (fun r H' => H' = H ∧ r = .tup [.c (.d (.sl ((feed b).1.map Frame.row))), .c (.d (.sl (bytesRows (feed b).2.1))), .c (.d (.bool (feed b).2.2))]) := by
  refine acalls Try.func44 (by kernel_rfl) ac44_ok fun hf => ?_
  simp -implicitDefEqProofs [ac44, aw_skip, aw_region, aw_seq, aw_block, aw_cond, aw_exit, aw_ret, kq_nil, kq_seq, kq_seq_ret, kq_seq_exit, kq_block, kq_block_ret, kq_block_exit, kq_loop, kq_loop_ret, kq_loop_exit, awOps_nil, awOps_cons, awOps_guardE, nx_eq, awOp, ev_k, ev_0, ev_1, ev_2, ev_3, ev_4, ev_5, ev_6, ev_7, ev_8, set_0, set_1, set_2, set_3, set_4, set_5, set_6, set_7, set_8, -List.set_cons_succ, -List.set_cons_zero, A.ok, A.val, setSl, wrapG, guardB, getB, pickA, binA, binC, binD, cmpD, isCmp, unA, unD, lenA, AOp.total, kills, litB, FinQ, resOks, resOk, resA, resList, resOne, A.thaw, C.thaw, A.fits, As.fits, C.fits, evs, oks, callArgs, A.pure, C.pure, A.re, C.re, fieldAddrA, loadC, cut, A.cells, C.rows?, getOb, newOb, setOb, storeC, splice, Ob.re, Cs.fits, partsA, partsOk, parts2A, parts2Ok, fillC, fillRows, optInt, optOk, sliceA, clipC, optK_some, storeK_some, Option.map_some, toDs, C.toD, spliceD, appendA, capsOf, srcRows, allLen_nil_iff, allLen_cons_iff, allLen_append_iff, dropC, Obs.fits, eqCs, eqD]
  refine loop_enter (St.le_token 5 2 rfl) ?_
  refine loop_set (σ := List Frame × List UInt8) (fun x => [(0, .c (.d (.sl (bytesRows x.2)))), (5, .c (.own (.l 0) x.1.length (x.1.map Frame.row)))]) (fun _ => H) (fun x => [.grow x.1.length 2])
    (fun x => x.2.length ≤ b.length ∧ x.1 ++ (feed x.2).1 = (feed b).1 ∧ (feed x.2).2 = (feed b).2 ∧ x.1.length + x.2.length ≤ b.length) (fun x => x.2.length) ([], b) rfl ⟨Nat.le_refl _, rfl, rfl, by simp⟩ ?_
  rintro ⟨fs, rest⟩ ⟨i1, i2, i3, i4⟩
  simp only at i1 i2 i3 i4
  simp -implicitDefEqProofs [setAll, aw_skip, aw_region, aw_seq, aw_block, aw_cond, aw_exit, aw_ret, kq_nil, kq_seq, kq_seq_ret, kq_seq_exit, kq_block, kq_block_ret, kq_block_exit, kq_loop, kq_loop_ret, kq_loop_exit, awOps_nil, awOps_cons, awOps_guardE, nx_eq, awOp, ev_k, ev_0, ev_1, ev_2, ev_3, ev_4, ev_5, ev_6, ev_7, ev_8, set_0, set_1, set_2, set_3, set_4, set_5, set_6, set_7, set_8, -List.set_cons_succ, -List.set_cons_zero, A.ok, A.val, setSl, wrapG, guardB, getB, pickA, binA, binC, binD, cmpD, isCmp, unA, unD, lenA, AOp.total, kills, litB, FinQ, resOks, resOk, resA, resList, resOne, A.thaw, C.thaw, A.fits, As.fits, C.fits, evs, oks, callArgs, A.pure, C.pure, A.re, C.re, fieldAddrA, loadC, cut, A.cells, C.rows?, getOb, newOb, setOb, storeC, splice, Ob.re, Cs.fits, partsA, partsOk, parts2A, parts2Ok, fillC, fillRows, optInt, optOk, sliceA, clipC, optK_some, storeK_some, Option.map_some, toDs, C.toD, spliceD, appendA, capsOf, srcRows, allLen_nil_iff, allLen_cons_iff, allLen_append_iff, dropC, Obs.fits, eqCs, eqD]
  refine qcall_pure (next_calls rest (by omega)) hf rfl ?_
  simp -implicitDefEqProofs [Frame.row, hf, bytesRows_len, allLen_bytes, take_bytes, drop_bytes, aw_skip, aw_region, aw_seq, aw_block, aw_cond, aw_exit, aw_ret, kq_nil, kq_seq, kq_seq_ret, kq_seq_exit, kq_block, kq_block_ret, kq_block_exit, kq_loop, kq_loop_ret, kq_loop_exit, awOps_nil, awOps_cons, awOps_guardE, nx_eq, awOp, ev_k, ev_0, ev_1, ev_2, ev_3, ev_4, ev_5, ev_6, ev_7, ev_8, set_0, set_1, set_2, set_3, set_4, set_5, set_6, set_7, set_8, -List.set_cons_succ, -List.set_cons_zero, A.ok, A.val, setSl, wrapG, guardB, getB, pickA, binA, binC, binD, cmpD, isCmp, unA, unD, lenA, AOp.total, kills, litB, FinQ, resOks, resOk, resA, resList, resOne, A.thaw, C.thaw, A.fits, As.fits, C.fits, evs, oks, callArgs, A.pure, C.pure, A.re, C.re, fieldAddrA, loadC, cut, A.cells, C.rows?, getOb, newOb, setOb, storeC, splice, Ob.re, Cs.fits, partsA, partsOk, parts2A, parts2Ok, fillC, fillRows, optInt, optOk, sliceA, clipC, optK_some, storeK_some, Option.map_some, toDs, C.toD, spliceD, appendA, capsOf, srcRows, allLen_nil_iff, allLen_cons_iff, allLen_append_iff, dropC, Obs.fits, eqCs, eqD]
  refine ⟨fun h0 => ?_, fun h0 => ⟨fun h1 => ?_, fun h1 => ?_⟩⟩
  · rw [feed_stop h0] at i2 i3
    simp only [List.append_nil] at i2
    simp [← i2, ← i3]
  · have hm : nextN rest = -1 := by
      rcases next_cases rest with h | h | ⟨_, _, _, h⟩
      · exact h.1
      · omega
      · split at h <;> omega
    rw [feed_bad hm] at i2 i3
    simp only [List.append_nil] at i2
    simp [← i2, ← i3, bytesRows]
  · have hp : 0 < nextN rest := by omega
    have hlen : (nextN rest).toNat ≤ rest.length ∧ 0 < (nextN rest).toNat := by
      rcases next_cases rest with h | h | ⟨_, h2, h3, h⟩
      · omega
      · omega
      · split at h <;> omega
    rw [feed_go hp] at i2 i3
    have hnf : nextF rest = frameAt rest := by rw [nextF, if_pos hp]
    refine ⟨allLen_map fun x => rfl, by unfold maxApp; omega, by omega, ?_⟩
    refine loop_less (fs ++ [frameAt rest], rest.drop (nextN rest).toNat) (St.le_cut [_] ?_ (by simp [Sl.le, A.le_refl_iff, A.le_u_iff, As.lo, A.lo, C.lo, Ref.lo, Cs.lo, Obs.lo, Ob.lo, setAll, and_true, true_and, List.length_nil, List.length_cons]) (by simp only [List.length_append, List.length_cons, List.length_nil]; rfl) ⟨trivial, trivial⟩) ⟨?_, ?_, i3, ?_⟩ ?_
    · simp [hnf, Frame.row, Sl.le, A.le_refl_iff, A.le_u_iff, As.lo, A.lo, C.lo, Ref.lo, Cs.lo, Obs.lo, Ob.lo, setAll, and_true, true_and, List.length_nil, List.length_cons]
    · simp; omega
    · simp only [List.append_assoc, List.cons_append, List.nil_append]; exact i2
    · simp; omega
    · show (rest.drop (nextN rest).toNat).length < rest.length
      simp; omega
end Go.Proofs.Ytamaaiabbganjaa
