/-
  Frames: valid ones and their bytes; what the functions on slices of bytes answer.
  Conditions: none.
-/
import Derived.Test.YtamaaiabbganjaaFrameD
import Derived.Test.YtamaaiabbganjaaWithin
open Go Go.AM Go.Proofs
namespace Go.Proofs.Ytamaaiabbganjaa
open Go.ChangeShapes Go.WideShapes Go.ChangeAt Go.RowKit
set_option linter.unusedVariables false
set_option linter.unusedSimpArgs false
set_option maxRecDepth 100000
-- 63 loop.example/prologserver/spec.l11Byte params 1 ntmps 13
def ac63 : Cd := .seq (.region [⟨(some 2), .mv (.k (.c (.d (.bool false)))), none⟩] [2])
  (.seq (.region [⟨(some 3), .mv (.t 0), none⟩,
      ⟨(some 4), .bin .eql (.t 3) (.k (.c (.d (.int .u8 10)))), none⟩,
      ⟨(some 5), .mv (.t 4), none⟩,
      ⟨(some 6), .mv (.t 0), some (5, false)⟩,
      ⟨(some 7), .bin .geq (.t 6) (.k (.c (.d (.int .u8 32)))), some (5, false)⟩,
      ⟨(some 8), .mv (.t 7), some (5, false)⟩,
      ⟨(some 9), .mv (.t 0), some (8, true)⟩,
      ⟨(some 10), .bin .leq (.t 9) (.k (.c (.d (.int .u8 126)))), some (8, true)⟩,
      ⟨(some 11), .pick (.t 8) (.t 10) (.k (.c (.d (.bool false)))), some (5, false)⟩,
      ⟨(some 12), .pick (.t 5) (.k (.c (.d (.bool true)))) (.t 11), none⟩,
      ⟨(some 2), .mv (.t 12), none⟩] [0, 3, 4, 5, 6, 7, 8, 9, 10, 11, 12])
  (.ret))
theorem ac63_ok : cFunc Try.prog [] [(0, [2], []), (1, [0, 3, 4, 5, 6, 7, 8, 9, 10, 11, 12], [])] Try.f63 = some (ac63, [.tmp 2], 13) := by kernel_rfl
-- 55 loop.example/prologserver/spec.l11Text params 1 ntmps 18
-- loop head live: [0, 3]
def ac55 : Cd := .seq (.region [⟨(some 2), .mv (.k (.c (.d (.bool false)))), none⟩] [2])
  (.seq (.seq (.region [⟨(some 3), .mv (.k (.c (.d (.int .i64 0)))), none⟩] [])
    (.block 0 (.loop (.seq (.seq (.region [⟨(some 4), .mv (.t 3), none⟩,
              ⟨(some 5), .mv (.t 0), none⟩,
              ⟨(some 6), .len 0 (.t 5), none⟩,
              ⟨(some 7), .bin .lss (.t 4) (.t 6), none⟩] [4, 5, 6])
          (.cond (.t 7)
            (.skip)
            (.exit 0)))
        (.seq (.block 1 (.seq (.region [⟨(some 10), .mv (.t 0), none⟩,
                ⟨(some 11), .mv (.t 3), none⟩,
                ⟨(some 12), .index (.t 10) (.t 11), none⟩,
                ⟨(some 13), .qcall 63 [(.t 12)], none⟩,
                ⟨(some 14), .un .not (.t 13), none⟩] [7, 10, 11, 12, 13])
            (.cond (.t 14)
              (.seq (.region [⟨(some 2), .mv (.k (.c (.d (.bool false)))), none⟩] [0, 3, 14])
              (.ret))
              (.skip))))
        (.region [⟨(some 8), .mv (.t 3), none⟩,
          ⟨(some 9), .bin .add (.t 8) (.k (.c (.d (.int .i64 1)))), none⟩,
          ⟨(some 3), .mv (.t 9), none⟩] [2, 8, 9, 14]))))))
  (.seq (.region [⟨(some 15), .mv (.t 0), none⟩,
      ⟨(some 16), .len 0 (.t 15), none⟩,
      ⟨(some 17), .bin .leq (.t 16) (.k (.c (.d (.int .i64 2000)))), none⟩,
      ⟨(some 2), .mv (.t 17), none⟩] [0, 15, 16, 17])
  (.ret)))
theorem ac55_ok : cFunc Try.prog [1000063] [(0, [2], []), (1, [], []), (2, [4, 5, 6], []), (4, [7, 10, 11, 12, 13], []), (5, [0, 3, 14], []), (3, [2, 8, 9, 14], []), (6, [0, 15, 16, 17], [])] Try.f55 = some (ac55, [.tmp 2], 18) := by kernel_rfl
-- 39 loop.example/prologserver/impl.FrameValid params 1 ntmps 35
-- loop head live: [1, 7, 8]
def ac39 : Cd := .seq (.region [⟨(some 1), .box (.t 0), none⟩,
      ⟨(some 2), .mv (.k (.c (.d (.bool false)))), none⟩] [0, 2])
  (.seq (.seq (.region [⟨(some 5), .fieldAddr 1 (.t 1), none⟩,
        ⟨(some 6), .load none (.t 5), none⟩,
        ⟨(some 7), .len 0 (.t 6), none⟩,
        ⟨(some 8), .mv (.k (.c (.d (.int .i64 0)))), none⟩] [5, 6])
    (.block 0 (.loop (.seq (.region [⟨(some 9), .bin .lss (.t 8) (.t 7), none⟩] [])
        (.seq (.cond (.t 9)
            (.skip)
            (.exit 0))
        (.seq (.block 1 (.seq (.region [⟨(some 10), .mv (.t 8), none⟩,
                ⟨(some 3), .mv (.t 10), none⟩] [9, 10])
            (.seq (.region [⟨(some 11), .fieldAddr 1 (.t 1), none⟩,
                ⟨(some 12), .load none (.t 11), none⟩,
                ⟨(some 13), .mv (.t 3), none⟩,
                ⟨(some 14), .index (.t 12) (.t 13), none⟩,
                ⟨(some 4), .mv (.t 14), none⟩] [3, 11, 12, 13, 14])
            (.seq (.region [⟨(some 15), .mv (.t 4), none⟩,
                ⟨(some 16), .bin .neq (.t 15) (.k (.c (.d (.int .u8 10)))), none⟩,
                ⟨(some 17), .mv (.t 16), none⟩,
                ⟨(some 18), .mv (.t 4), some (17, true)⟩,
                ⟨(some 19), .bin .lss (.t 18) (.k (.c (.d (.int .u8 32)))), some (17, true)⟩,
                ⟨(some 20), .mv (.t 19), some (17, true)⟩,
                ⟨(some 21), .mv (.t 4), some (20, false)⟩,
                ⟨(some 22), .bin .gtr (.t 21) (.k (.c (.d (.int .u8 126)))), some (20, false)⟩,
                ⟨(some 23), .pick (.t 20) (.k (.c (.d (.bool true)))) (.t 22), some (17, true)⟩,
                ⟨(some 24), .pick (.t 17) (.t 23) (.k (.c (.d (.bool false)))), none⟩] [4, 15, 16, 17, 18, 19, 20, 21, 22, 23])
            (.cond (.t 24)
              (.seq (.region [⟨(some 2), .mv (.k (.c (.d (.bool false)))), none⟩] [1, 7, 8, 24])
              (.ret))
              (.skip))))))
        (.region [⟨(some 25), .bin .add (.t 8) (.k (.c (.d (.int .i64 1)))), none⟩,
          ⟨(some 8), .mv (.t 25), none⟩] [2, 24, 25])))))))
  (.seq (.region [⟨(some 26), .fieldAddr 0 (.t 1), none⟩,
      ⟨(some 27), .load none (.t 26), none⟩,
      ⟨(some 28), .qcall 51 [(.t 27), (.k (.c (.d (.int .i64 1)))), (.k (.c (.d (.int .i64 7))))], none⟩,
      ⟨(some 29), .mv (.t 28), none⟩,
      ⟨(some 30), .fieldAddr 1 (.t 1), some (29, true)⟩,
      ⟨(some 31), .load none (.t 30), some (29, true)⟩,
      ⟨(some 32), .len 0 (.t 31), some (29, true)⟩,
      ⟨(some 33), .bin .leq (.t 32) (.k (.c (.d (.int .i64 2000)))), some (29, true)⟩,
      ⟨(some 34), .pick (.t 29) (.t 33) (.k (.c (.d (.bool false)))), none⟩,
      ⟨(some 2), .mv (.t 34), none⟩] [1, 26, 27, 28, 29, 30, 31, 32, 33, 34])
  (.ret)))
theorem ac39_ok : cFunc Try.prog [1000051] [(0, [0, 2], []), (1, [5, 6], []), (2, [], []), (3, [9, 10], []), (4, [3, 11, 12, 13, 14], []), (5, [4, 15, 16, 17, 18, 19, 20, 21, 22, 23], []), (6, [1, 7, 8, 24], []), (7, [2, 24, 25], []), (8, [1, 26, 27, 28, 29, 30, 31, 32, 33, 34], [])] Try.f39 = some (ac39, [.tmp 2], 35) := by kernel_rfl
-- 37 loop.example/prologserver/spec.FrameValid params 1 ntmps 16
def ac37 : Cd := .seq (.region [⟨(some 1), .box (.t 0), none⟩,
      ⟨(some 2), .mv (.k (.c (.d (.bool false)))), none⟩] [0, 2])
  (.seq (.region [⟨(some 3), .fieldAddr 0 (.t 1), none⟩,
      ⟨(some 4), .load none (.t 3), none⟩,
      ⟨(some 5), .bin .geq (.t 4) (.k (.c (.d (.int .i64 1)))), none⟩,
      ⟨(some 6), .mv (.t 5), none⟩,
      ⟨(some 7), .fieldAddr 0 (.t 1), some (6, true)⟩,
      ⟨(some 8), .load none (.t 7), some (6, true)⟩,
      ⟨(some 9), .bin .leq (.t 8) (.k (.c (.d (.int .i64 7)))), some (6, true)⟩,
      ⟨(some 10), .pick (.t 6) (.t 9) (.k (.c (.d (.bool false)))), none⟩,
      ⟨(some 11), .mv (.t 10), none⟩,
      ⟨(some 12), .fieldAddr 1 (.t 1), some (11, true)⟩,
      ⟨(some 13), .load none (.t 12), some (11, true)⟩,
      ⟨(some 14), .qcall 55 [(.t 13)], some (11, true)⟩,
      ⟨(some 15), .pick (.t 11) (.t 14) (.k (.c (.d (.bool false)))), none⟩,
      ⟨(some 2), .mv (.t 15), none⟩] [1, 3, 4, 5, 6, 7, 8, 9, 10, 11, 12, 13, 14, 15])
  (.ret))
theorem ac37_ok : cFunc Try.prog [1000055] [(0, [0, 2], []), (1, [1, 3, 4, 5, 6, 7, 8, 9, 10, 11, 12, 13, 14, 15], [])] Try.f37 = some (ac37, [.tmp 2], 16) := by kernel_rfl
-- 41 loop.example/prologserver/impl.encode params 1 ntmps 20
def ac41 : Cd := .seq (.region [⟨(some 1), .box (.t 0), none⟩,
      ⟨(some 2), .mv (.k (.c (.full []))), none⟩] [0, 2])
  (.seq (.region [⟨(some 4), .fieldAddr 1 (.t 1), none⟩,
      ⟨(some 5), .load none (.t 4), none⟩,
      ⟨(some 6), .len 0 (.t 5), none⟩,
      ⟨(some 7), .bin .add (.t 6) (.k (.c (.d (.int .i64 1)))), none⟩,
      ⟨(some 3), .mv (.t 7), none⟩] [4, 5, 6, 7])
  (.seq (.region [⟨(some 8), .mv (.t 3), none⟩,
      ⟨(some 9), .bin .shr (.t 8) (.k (.c (.d (.int .u64 8)))), none⟩,
      ⟨(some 10), .cvInt .u8 (.t 9), none⟩,
      ⟨(some 11), .mv (.t 3), none⟩,
      ⟨(some 12), .cvInt .u8 (.t 11), none⟩,
      ⟨(some 13), .fieldAddr 0 (.t 1), none⟩,
      ⟨(some 14), .load none (.t 13), none⟩,
      ⟨(some 15), .cvInt .u8 (.t 14), none⟩,
      ⟨(some 16), .buildSlice 1 3 [(.int .u8 0)] [(0, (.t 10)), (1, (.t 12)), (2, (.t 15))], none⟩,
      ⟨(some 17), .fieldAddr 1 (.t 1), none⟩,
      ⟨(some 18), .load none (.t 17), none⟩,
      ⟨(some 19), .append true 1 (.t 16) (.t 18), none⟩,
      ⟨(some 2), .mv (.t 19), none⟩] [1, 3, 8, 9, 10, 11, 12, 13, 14, 15, 16, 17, 18, 19])
  (.ret)))
theorem ac41_ok : cFunc Try.prog [] [(0, [0, 2], []), (1, [4, 5, 6, 7], []), (2, [1, 3, 8, 9, 10, 11, 12, 13, 14, 15, 16, 17, 18, 19], [])] Try.f41 = some (ac41, [.tmp 2], 20) := by kernel_rfl
-- 38 loop.example/prologserver/spec.l11Encode params 1 ntmps 23
def ac38 : Cd := .seq (.region [⟨(some 1), .box (.t 0), none⟩,
      ⟨(some 2), .mv (.k (.c (.full []))), none⟩] [0, 2])
  (.seq (.region [⟨(some 5), .fieldAddr 1 (.t 1), none⟩,
      ⟨(some 6), .load none (.t 5), none⟩,
      ⟨(some 7), .len 0 (.t 6), none⟩,
      ⟨(some 8), .bin .add (.t 7) (.k (.c (.d (.int .i64 1)))), none⟩,
      ⟨(some 3), .mv (.t 8), none⟩] [5, 6, 7, 8])
  (.seq (.region [⟨(some 9), .mv (.t 3), none⟩,
      ⟨(some 10), .bin .quo (.t 9) (.k (.c (.d (.int .i64 256)))), none⟩,
      ⟨(some 11), .cvInt .u8 (.t 10), none⟩,
      ⟨(some 12), .mv (.t 3), none⟩,
      ⟨(some 13), .bin .rem (.t 12) (.k (.c (.d (.int .i64 256)))), none⟩,
      ⟨(some 14), .cvInt .u8 (.t 13), none⟩,
      ⟨(some 15), .fieldAddr 0 (.t 1), none⟩,
      ⟨(some 16), .load none (.t 15), none⟩,
      ⟨(some 17), .cvInt .u8 (.t 16), none⟩,
      ⟨(some 18), .buildSlice 1 3 [(.int .u8 0)] [(0, (.t 11)), (1, (.t 14)), (2, (.t 17))], none⟩,
      ⟨(some 4), .mv (.t 18), none⟩] [3, 9, 10, 11, 12, 13, 14, 15, 16, 17, 18])
  (.seq (.region [⟨(some 19), .mv (.t 4), none⟩,
      ⟨(some 20), .fieldAddr 1 (.t 1), none⟩,
      ⟨(some 21), .load none (.t 20), none⟩,
      ⟨(some 22), .append true 1 (.t 19) (.t 21), none⟩,
      ⟨(some 2), .mv (.t 22), none⟩] [1, 4, 19, 20, 21, 22])
  (.ret))))
theorem ac38_ok : cFunc Try.prog [] [(0, [0, 2], []), (1, [5, 6, 7, 8], []), (2, [3, 9, 10, 11, 12, 13, 14, 15, 16, 17, 18], []), (3, [1, 4, 19, 20, 21, 22], [])] Try.f38 = some (ac38, [.tmp 2], 23) := by kernel_rfl
-- 40 slices.Clip[[]byte,byte] params 1 ntmps 9
def ac40 : Cd := .seq (.region [⟨(some 2), .mv (.k (.c (.full []))), none⟩] [2])
  (.seq (.region [⟨(some 3), .mv (.t 0), none⟩,
      ⟨(some 4), .mv (.t 0), none⟩,
      ⟨(some 5), .len 1 (.t 4), none⟩,
      ⟨(some 6), .mv (.t 0), none⟩,
      ⟨(some 7), .len 1 (.t 6), none⟩,
      ⟨(some 8), .slice 1 (.t 3) none (some (.t 5)) (some (.t 7)), none⟩,
      ⟨(some 2), .mv (.t 8), none⟩] [0, 3, 4, 5, 6, 7, 8])
  (.ret))
theorem ac40_ok : cFunc Try.prog [] [(0, [2], []), (1, [0, 3, 4, 5, 6, 7, 8], [])] Try.f40 = some (ac40, [.tmp 2], 9) := by kernel_rfl
def okByte (b : UInt8) : Bool := (b.toNat : Int) == 10 || decide ((32 : Int) ≤ b.toNat) && decide ((b.toNat : Int) ≤ 126)
def Frame.ok (f : Frame) : Bool := decide (1 ≤ f.k) && decide (f.k ≤ 7) && f.s.all okByte && decide (f.s.length ≤ 2000)
theorem l11Byte_calls (b : UInt8) (H : Heap) : ACalls Try.prog 63 [.c (.d (.int .u8 b.toNat))] H (fun r H' => H' = H ∧ r = .c (.d (.bool (okByte b)))) := by
  refine acalls Try.func63 (by kernel_rfl) ac63_ok fun hf => ?_
  simp -implicitDefEqProofs [ac63, okByte, aw_skip, aw_region, aw_seq, aw_block, aw_cond, aw_exit, aw_ret, kq_nil, kq_seq, kq_seq_ret, kq_seq_exit, kq_block, kq_block_ret, kq_block_exit, kq_loop, kq_loop_ret, kq_loop_exit, awOps_nil, awOps_cons, awOps_guardE, nx_eq, awOp, ev_k, ev_0, ev_1, ev_2, ev_3, ev_4, ev_5, ev_6, ev_7, ev_8, set_0, set_1, set_2, set_3, set_4, set_5, set_6, set_7, set_8, -List.set_cons_succ, -List.set_cons_zero, A.ok, A.val, setSl, wrapG, guardB, getB, pickA, binA, binC, binD, cmpD, isCmp, unA, unD, lenA, AOp.total, kills, litB, FinQ, resOks, resOk, resA, resList, resOne, A.thaw, C.thaw, A.fits, As.fits, C.fits, evs, oks, callArgs, A.pure, C.pure, A.re, C.re, fieldAddrA, loadC, cut, A.cells, C.rows?, getOb, newOb, setOb, storeC, splice, Ob.re, Cs.fits, partsA, partsOk, parts2A, parts2Ok, fillC, fillRows, optInt, optOk, sliceA, clipC, optK_some, storeK_some, Option.map_some, toDs, C.toD, spliceD, appendA, capsOf, srcRows, allLen_nil_iff, allLen_cons_iff, allLen_append_iff, dropC, Obs.fits, eqCs, eqD]
theorem all_take_succ {s : List UInt8} {i : Nat} (h : i < s.length) (ha : ∀ b ∈ s.take i, okByte b = true) (hb : okByte s[i] = true) : ∀ b ∈ s.take (i + 1), okByte b = true := by
  intro b h'
  rw [List.take_add_one, List.mem_append] at h'
  rcases h' with h' | h'
  · exact ha b h'
  · rw [List.getElem?_eq_getElem h] at h'
    simp at h'; subst h'; exact hb
theorem l11Text_calls (s : List UInt8) (hs : s.length ≤ reachBytes) (H : Heap) : ACalls Try.prog 55 [.c (.d (.str s))] H (fun r H' => H' = H ∧ r = .c (.d (.bool (s.all okByte && decide (s.length ≤ 2000))))) := by
  refine acalls Try.func55 (by kernel_rfl) ac55_ok fun hf => ?_
  have hlen := reach_i64 hs
  have hsm := reach_small hs
  simp -implicitDefEqProofs [ac55, hlen, aw_skip, aw_region, aw_seq, aw_block, aw_cond, aw_exit, aw_ret, kq_nil, kq_seq, kq_seq_ret, kq_seq_exit, kq_block, kq_block_ret, kq_block_exit, kq_loop, kq_loop_ret, kq_loop_exit, awOps_nil, awOps_cons, awOps_guardE, nx_eq, awOp, ev_k, ev_0, ev_1, ev_2, ev_3, ev_4, ev_5, ev_6, ev_7, ev_8, set_0, set_1, set_2, set_3, set_4, set_5, set_6, set_7, set_8, -List.set_cons_succ, -List.set_cons_zero, A.ok, A.val, setSl, wrapG, guardB, getB, pickA, binA, binC, binD, cmpD, isCmp, unA, unD, lenA, AOp.total, kills, litB, FinQ, resOks, resOk, resA, resList, resOne, A.thaw, C.thaw, A.fits, As.fits, C.fits, evs, oks, callArgs, A.pure, C.pure, A.re, C.re, fieldAddrA, loadC, cut, A.cells, C.rows?, getOb, newOb, setOb, storeC, splice, Ob.re, Cs.fits, partsA, partsOk, parts2A, parts2Ok, fillC, fillRows, optInt, optOk, sliceA, clipC, optK_some, storeK_some, Option.map_some, toDs, C.toD, spliceD, appendA, capsOf, srcRows, allLen_nil_iff, allLen_cons_iff, allLen_append_iff, dropC, Obs.fits, eqCs, eqD]
  refine loop_set (σ := Nat) (fun i => [(3, .c (.d (.int .i64 i)))]) (fun _ => H) (fun _ => []) (fun i => i ≤ s.length ∧ ∀ b ∈ s.take i, okByte b = true) (fun i => s.length - i) 0 rfl ⟨Nat.zero_le _, by simp⟩ ?_
  rintro i ⟨hi, hall⟩
  simp -implicitDefEqProofs [setAll, hlen, aw_skip, aw_region, aw_seq, aw_block, aw_cond, aw_exit, aw_ret, kq_nil, kq_seq, kq_seq_ret, kq_seq_exit, kq_block, kq_block_ret, kq_block_exit, kq_loop, kq_loop_ret, kq_loop_exit, awOps_nil, awOps_cons, awOps_guardE, nx_eq, awOp, ev_k, ev_0, ev_1, ev_2, ev_3, ev_4, ev_5, ev_6, ev_7, ev_8, set_0, set_1, set_2, set_3, set_4, set_5, set_6, set_7, set_8, -List.set_cons_succ, -List.set_cons_zero, A.ok, A.val, setSl, wrapG, guardB, getB, pickA, binA, binC, binD, cmpD, isCmp, unA, unD, lenA, AOp.total, kills, litB, FinQ, resOks, resOk, resA, resList, resOne, A.thaw, C.thaw, A.fits, As.fits, C.fits, evs, oks, callArgs, A.pure, C.pure, A.re, C.re, fieldAddrA, loadC, cut, A.cells, C.rows?, getOb, newOb, setOb, storeC, splice, Ob.re, Cs.fits, partsA, partsOk, parts2A, parts2Ok, fillC, fillRows, optInt, optOk, sliceA, clipC, optK_some, storeK_some, Option.map_some, toDs, C.toD, spliceD, appendA, capsOf, srcRows, allLen_nil_iff, allLen_cons_iff, allLen_append_iff, dropC, Obs.fits, eqCs, eqD]
  refine ⟨fun hlt => byte_nat hlt ?_, fun hge => ?_⟩
  · simp -implicitDefEqProofs [aw_skip, aw_region, aw_seq, aw_block, aw_cond, aw_exit, aw_ret, kq_nil, kq_seq, kq_seq_ret, kq_seq_exit, kq_block, kq_block_ret, kq_block_exit, kq_loop, kq_loop_ret, kq_loop_exit, awOps_nil, awOps_cons, awOps_guardE, nx_eq, awOp, ev_k, ev_0, ev_1, ev_2, ev_3, ev_4, ev_5, ev_6, ev_7, ev_8, set_0, set_1, set_2, set_3, set_4, set_5, set_6, set_7, set_8, -List.set_cons_succ, -List.set_cons_zero, A.ok, A.val, setSl, wrapG, guardB, getB, pickA, binA, binC, binD, cmpD, isCmp, unA, unD, lenA, AOp.total, kills, litB, FinQ, resOks, resOk, resA, resList, resOne, A.thaw, C.thaw, A.fits, As.fits, C.fits, evs, oks, callArgs, A.pure, C.pure, A.re, C.re, fieldAddrA, loadC, cut, A.cells, C.rows?, getOb, newOb, setOb, storeC, splice, Ob.re, Cs.fits, partsA, partsOk, parts2A, parts2Ok, fillC, fillRows, optInt, optOk, sliceA, clipC, optK_some, storeK_some, Option.map_some, toDs, C.toD, spliceD, appendA, capsOf, srcRows, allLen_nil_iff, allLen_cons_iff, allLen_append_iff, dropC, Obs.fits, eqCs, eqD]
    refine qcall_pure (l11Byte_calls s[i]) hf rfl ?_
    have hadd : inR .i64 ((i : Int) + 1) := small_i64 (by omega) (by omega)
    simp -implicitDefEqProofs [hadd, aw_skip, aw_region, aw_seq, aw_block, aw_cond, aw_exit, aw_ret, kq_nil, kq_seq, kq_seq_ret, kq_seq_exit, kq_block, kq_block_ret, kq_block_exit, kq_loop, kq_loop_ret, kq_loop_exit, awOps_nil, awOps_cons, awOps_guardE, nx_eq, awOp, ev_k, ev_0, ev_1, ev_2, ev_3, ev_4, ev_5, ev_6, ev_7, ev_8, set_0, set_1, set_2, set_3, set_4, set_5, set_6, set_7, set_8, -List.set_cons_succ, -List.set_cons_zero, A.ok, A.val, setSl, wrapG, guardB, getB, pickA, binA, binC, binD, cmpD, isCmp, unA, unD, lenA, AOp.total, kills, litB, FinQ, resOks, resOk, resA, resList, resOne, A.thaw, C.thaw, A.fits, As.fits, C.fits, evs, oks, callArgs, A.pure, C.pure, A.re, C.re, fieldAddrA, loadC, cut, A.cells, C.rows?, getOb, newOb, setOb, storeC, splice, Ob.re, Cs.fits, partsA, partsOk, parts2A, parts2Ok, fillC, fillRows, optInt, optOk, sliceA, clipC, optK_some, storeK_some, Option.map_some, toDs, C.toD, spliceD, appendA, capsOf, srcRows, allLen_nil_iff, allLen_cons_iff, allLen_append_iff, dropC, Obs.fits, eqCs, eqD]
    refine ⟨fun hno hh => absurd (hh _ (List.getElem_mem hlt)) (by simp [hno]), fun hok => ?_⟩
    exact loop_back (i + 1) (by simp [setAll]) ⟨hlt, all_take_succ hlt hall hok⟩ (by show s.length - (i + 1) < s.length - i; omega)
  · have hil : i = s.length := by omega
    subst hil
    rw [List.take_length] at hall
    have : s.all okByte = true := List.all_eq_true.2 hall
    rw [this, Bool.true_and]
    congr 1
    simp
    omega
theorem fvSpec_calls (f : Frame) (hs : f.s.length ≤ reachBytes) (H : Heap) : ACalls Try.prog 37 [.agg (f.row.map .d)] H (fun r H' => H' = H ∧ r = .c (.d (.bool f.ok))) := by
  refine acalls Try.func37 (by kernel_rfl) ac37_ok fun hf => ?_
  simp -implicitDefEqProofs [ac37, Frame.row, aw_skip, aw_region, aw_seq, aw_block, aw_cond, aw_exit, aw_ret, kq_nil, kq_seq, kq_seq_ret, kq_seq_exit, kq_block, kq_block_ret, kq_block_exit, kq_loop, kq_loop_ret, kq_loop_exit, awOps_nil, awOps_cons, awOps_guardE, nx_eq, awOp, ev_k, ev_0, ev_1, ev_2, ev_3, ev_4, ev_5, ev_6, ev_7, ev_8, set_0, set_1, set_2, set_3, set_4, set_5, set_6, set_7, set_8, -List.set_cons_succ, -List.set_cons_zero, A.ok, A.val, setSl, wrapG, guardB, getB, pickA, binA, binC, binD, cmpD, isCmp, unA, unD, lenA, AOp.total, kills, litB, FinQ, resOks, resOk, resA, resList, resOne, A.thaw, C.thaw, A.fits, As.fits, C.fits, evs, oks, callArgs, A.pure, C.pure, A.re, C.re, fieldAddrA, loadC, cut, A.cells, C.rows?, getOb, newOb, setOb, storeC, splice, Ob.re, Cs.fits, partsA, partsOk, parts2A, parts2Ok, fillC, fillRows, optInt, optOk, sliceA, clipC, optK_some, storeK_some, Option.map_some, toDs, C.toD, spliceD, appendA, capsOf, srcRows, allLen_nil_iff, allLen_cons_iff, allLen_append_iff, dropC, Obs.fits, eqCs, eqD]
  refine ⟨fun h1 h2 => ⟨⟨h1, h2⟩, ?_⟩, fun h => ?_⟩
  · refine qcall_pure (l11Text_calls f.s hs) hf rfl ?_
    simp -implicitDefEqProofs [h1, h2, Frame.ok, aw_skip, aw_region, aw_seq, aw_block, aw_cond, aw_exit, aw_ret, kq_nil, kq_seq, kq_seq_ret, kq_seq_exit, kq_block, kq_block_ret, kq_block_exit, kq_loop, kq_loop_ret, kq_loop_exit, awOps_nil, awOps_cons, awOps_guardE, nx_eq, awOp, ev_k, ev_0, ev_1, ev_2, ev_3, ev_4, ev_5, ev_6, ev_7, ev_8, set_0, set_1, set_2, set_3, set_4, set_5, set_6, set_7, set_8, -List.set_cons_succ, -List.set_cons_zero, A.ok, A.val, setSl, wrapG, guardB, getB, pickA, binA, binC, binD, cmpD, isCmp, unA, unD, lenA, AOp.total, kills, litB, FinQ, resOks, resOk, resA, resList, resOne, A.thaw, C.thaw, A.fits, As.fits, C.fits, evs, oks, callArgs, A.pure, C.pure, A.re, C.re, fieldAddrA, loadC, cut, A.cells, C.rows?, getOb, newOb, setOb, storeC, splice, Ob.re, Cs.fits, partsA, partsOk, parts2A, parts2Ok, fillC, fillRows, optInt, optOk, sliceA, clipC, optK_some, storeK_some, Option.map_some, toDs, C.toD, spliceD, appendA, capsOf, srcRows, allLen_nil_iff, allLen_cons_iff, allLen_append_iff, dropC, Obs.fits, eqCs, eqD]
  · simp only [Frame.ok]
    by_cases h1 : 1 ≤ f.k
    · have := h h1
      have h3 : ¬ f.k ≤ 7 := by omega
      simp [h3]
    · simp [h1]
theorem fvImpl_calls (f : Frame) (hs : f.s.length ≤ reachBytes) (H : Heap) : ACalls Try.prog 39 [.agg (f.row.map .d)] H (fun r H' => H' = H ∧ r = .c (.d (.bool f.ok))) := by
  refine acalls Try.func39 (by kernel_rfl) ac39_ok fun hf => ?_
  obtain ⟨k, s⟩ := f
  have hlen := reach_i64 hs
  have hsm := reach_small hs
  simp -implicitDefEqProofs [ac39, Frame.row, hlen, aw_skip, aw_region, aw_seq, aw_block, aw_cond, aw_exit, aw_ret, kq_nil, kq_seq, kq_seq_ret, kq_seq_exit, kq_block, kq_block_ret, kq_block_exit, kq_loop, kq_loop_ret, kq_loop_exit, awOps_nil, awOps_cons, awOps_guardE, nx_eq, awOp, ev_k, ev_0, ev_1, ev_2, ev_3, ev_4, ev_5, ev_6, ev_7, ev_8, set_0, set_1, set_2, set_3, set_4, set_5, set_6, set_7, set_8, -List.set_cons_succ, -List.set_cons_zero, A.ok, A.val, setSl, wrapG, guardB, getB, pickA, binA, binC, binD, cmpD, isCmp, unA, unD, lenA, AOp.total, kills, litB, FinQ, resOks, resOk, resA, resList, resOne, A.thaw, C.thaw, A.fits, As.fits, C.fits, evs, oks, callArgs, A.pure, C.pure, A.re, C.re, fieldAddrA, loadC, cut, A.cells, C.rows?, getOb, newOb, setOb, storeC, splice, Ob.re, Cs.fits, partsA, partsOk, parts2A, parts2Ok, fillC, fillRows, optInt, optOk, sliceA, clipC, optK_some, storeK_some, Option.map_some, toDs, C.toD, spliceD, appendA, capsOf, srcRows, allLen_nil_iff, allLen_cons_iff, allLen_append_iff, dropC, Obs.fits, eqCs, eqD]
  refine loop_set (σ := Nat) (fun i => [(8, .c (.d (.int .i64 i)))]) (fun _ => H) (fun _ => [.cells [.d (.int .i64 k), .d (.str s)]]) (fun i => i ≤ s.length ∧ ∀ b ∈ s.take i, okByte b = true) (fun i => s.length - i) 0 rfl ⟨Nat.zero_le _, by simp⟩ ?_
  rintro i ⟨hi, hall⟩
  simp -implicitDefEqProofs [setAll, hlen, aw_skip, aw_region, aw_seq, aw_block, aw_cond, aw_exit, aw_ret, kq_nil, kq_seq, kq_seq_ret, kq_seq_exit, kq_block, kq_block_ret, kq_block_exit, kq_loop, kq_loop_ret, kq_loop_exit, awOps_nil, awOps_cons, awOps_guardE, nx_eq, awOp, ev_k, ev_0, ev_1, ev_2, ev_3, ev_4, ev_5, ev_6, ev_7, ev_8, set_0, set_1, set_2, set_3, set_4, set_5, set_6, set_7, set_8, -List.set_cons_succ, -List.set_cons_zero, A.ok, A.val, setSl, wrapG, guardB, getB, pickA, binA, binC, binD, cmpD, isCmp, unA, unD, lenA, AOp.total, kills, litB, FinQ, resOks, resOk, resA, resList, resOne, A.thaw, C.thaw, A.fits, As.fits, C.fits, evs, oks, callArgs, A.pure, C.pure, A.re, C.re, fieldAddrA, loadC, cut, A.cells, C.rows?, getOb, newOb, setOb, storeC, splice, Ob.re, Cs.fits, partsA, partsOk, parts2A, parts2Ok, fillC, fillRows, optInt, optOk, sliceA, clipC, optK_some, storeK_some, Option.map_some, toDs, C.toD, spliceD, appendA, capsOf, srcRows, allLen_nil_iff, allLen_cons_iff, allLen_append_iff, dropC, Obs.fits, eqCs, eqD]
  refine ⟨fun hlt => byte_nat hlt ?_, fun hge => ?_⟩
  · simp only at hsm
    have hadd : inR .i64 ((i : Int) + 1) := small_i64 (by omega) (by omega)
    simp -implicitDefEqProofs [hadd, aw_skip, aw_region, aw_seq, aw_block, aw_cond, aw_exit, aw_ret, kq_nil, kq_seq, kq_seq_ret, kq_seq_exit, kq_block, kq_block_ret, kq_block_exit, kq_loop, kq_loop_ret, kq_loop_exit, awOps_nil, awOps_cons, awOps_guardE, nx_eq, awOp, ev_k, ev_0, ev_1, ev_2, ev_3, ev_4, ev_5, ev_6, ev_7, ev_8, set_0, set_1, set_2, set_3, set_4, set_5, set_6, set_7, set_8, -List.set_cons_succ, -List.set_cons_zero, A.ok, A.val, setSl, wrapG, guardB, getB, pickA, binA, binC, binD, cmpD, isCmp, unA, unD, lenA, AOp.total, kills, litB, FinQ, resOks, resOk, resA, resList, resOne, A.thaw, C.thaw, A.fits, As.fits, C.fits, evs, oks, callArgs, A.pure, C.pure, A.re, C.re, fieldAddrA, loadC, cut, A.cells, C.rows?, getOb, newOb, setOb, storeC, splice, Ob.re, Cs.fits, partsA, partsOk, parts2A, parts2Ok, fillC, fillRows, optInt, optOk, sliceA, clipC, optK_some, storeK_some, Option.map_some, toDs, C.toD, spliceD, appendA, capsOf, srcRows, allLen_nil_iff, allLen_cons_iff, allLen_append_iff, dropC, Obs.fits, eqCs, eqD]
    refine ⟨fun h1 h2 => ?_, fun h => ?_⟩
    · have hno : okByte s[i] = false := by
        simp [okByte, h1]
        omega
      have : s.all okByte = false := by
        rw [List.all_eq_false]
        exact ⟨s[i], List.getElem_mem hlt, by simp [hno]⟩
      simp [Frame.ok, this]
    · have hok : okByte s[i] = true := by
        simp [okByte]
        by_cases h1 : ((s[i].toNat : Int) = 10)
        · exact .inl h1
        · exact .inr (h h1)
      exact loop_back (i + 1) (by simp [setAll]) ⟨hlt, all_take_succ hlt hall hok⟩ (by show s.length - (i + 1) < s.length - i; omega)
  · have hil : i = s.length := by omega
    subst hil
    rw [List.take_length] at hall
    have hok : s.all okByte = true := List.all_eq_true.2 hall
    refine qcall_pure (within_calls k 1 7) hf rfl ?_
    simp -implicitDefEqProofs [hlen, Frame.ok, hok, aw_skip, aw_region, aw_seq, aw_block, aw_cond, aw_exit, aw_ret, kq_nil, kq_seq, kq_seq_ret, kq_seq_exit, kq_block, kq_block_ret, kq_block_exit, kq_loop, kq_loop_ret, kq_loop_exit, awOps_nil, awOps_cons, awOps_guardE, nx_eq, awOp, ev_k, ev_0, ev_1, ev_2, ev_3, ev_4, ev_5, ev_6, ev_7, ev_8, set_0, set_1, set_2, set_3, set_4, set_5, set_6, set_7, set_8, -List.set_cons_succ, -List.set_cons_zero, A.ok, A.val, setSl, wrapG, guardB, getB, pickA, binA, binC, binD, cmpD, isCmp, unA, unD, lenA, AOp.total, kills, litB, FinQ, resOks, resOk, resA, resList, resOne, A.thaw, C.thaw, A.fits, As.fits, C.fits, evs, oks, callArgs, A.pure, C.pure, A.re, C.re, fieldAddrA, loadC, cut, A.cells, C.rows?, getOb, newOb, setOb, storeC, splice, Ob.re, Cs.fits, partsA, partsOk, parts2A, parts2Ok, fillC, fillRows, optInt, optOk, sliceA, clipC, optK_some, storeK_some, Option.map_some, toDs, C.toD, spliceD, appendA, capsOf, srcRows, allLen_nil_iff, allLen_cons_iff, allLen_append_iff, dropC, Obs.fits, eqCs, eqD]
    have e : ((s.length : Int) ≤ 2000) = (s.length ≤ 2000) := propext (by omega)
    simp [e]
/-- the bytes of a frame -/
def Frame.bytes (f : Frame) : List UInt8 := UInt8.ofNat ((f.s.length + 1) / 256) :: UInt8.ofNat ((f.s.length + 1) % 256) :: UInt8.ofNat f.k.toNat :: f.s
theorem bytesRows_cons {b : UInt8} {s : List UInt8} : bytesRows (b :: s) = [.int .u8 b.toNat] :: bytesRows s := rfl
theorem u8_wrap (n : Nat) : IntKind.wrap .u8 (n : Int) = ((UInt8.ofNat n).toNat : Int) := by
  rw [UInt8.toNat_ofNat']
  simp [IntKind.wrap, IntKind.signed, IntKind.bits]
theorem clip_calls (s : List UInt8) (hs : s.length ≤ 140737488355328) (H : Heap) : ACalls Try.prog 40 [.c (.d (.sl (bytesRows s)))] H (fun r H' => H' = H ∧ r = .c (.d (.sl (bytesRows s)))) := by
  refine acalls Try.func40 (by kernel_rfl) ac40_ok fun hf => ?_
  have hl : inR .i64 (s.length : Int) := small_i64 (by omega) (by omega)
  simp -implicitDefEqProofs [ac40, hl, bytesRows_len, allLen_bytes, take_bytes, aw_skip, aw_region, aw_seq, aw_block, aw_cond, aw_exit, aw_ret, kq_nil, kq_seq, kq_seq_ret, kq_seq_exit, kq_block, kq_block_ret, kq_block_exit, kq_loop, kq_loop_ret, kq_loop_exit, awOps_nil, awOps_cons, awOps_guardE, nx_eq, awOp, ev_k, ev_0, ev_1, ev_2, ev_3, ev_4, ev_5, ev_6, ev_7, ev_8, set_0, set_1, set_2, set_3, set_4, set_5, set_6, set_7, set_8, -List.set_cons_succ, -List.set_cons_zero, A.ok, A.val, setSl, wrapG, guardB, getB, pickA, binA, binC, binD, cmpD, isCmp, unA, unD, lenA, AOp.total, kills, litB, FinQ, resOks, resOk, resA, resList, resOne, A.thaw, C.thaw, A.fits, As.fits, C.fits, evs, oks, callArgs, A.pure, C.pure, A.re, C.re, fieldAddrA, loadC, cut, A.cells, C.rows?, getOb, newOb, setOb, storeC, splice, Ob.re, Cs.fits, partsA, partsOk, parts2A, parts2Ok, fillC, fillRows, optInt, optOk, sliceA, clipC, optK_some, storeK_some, Option.map_some, toDs, C.toD, spliceD, appendA, capsOf, srcRows, allLen_nil_iff, allLen_cons_iff, allLen_append_iff, dropC, Obs.fits, eqCs, eqD]
theorem enc_rows (f : Frame) (hk : 1 ≤ f.k) : [D.int .u8 (IntKind.wrap .u8 (((f.s.length : Int) + 1).fdiv 256))] :: [D.int .u8 (IntKind.wrap .u8 ((f.s.length : Int) + 1))] :: [D.int .u8 (IntKind.wrap .u8 f.k)] :: bytesRows f.s = bytesRows f.bytes := by
  have e1 : ((f.s.length : Int) + 1).fdiv 256 = (((f.s.length + 1) / 256 : Nat) : Int) := by
    rw [Int.fdiv_eq_ediv_of_nonneg _ (by omega)]
    omega
  have e2 : ((f.s.length : Int) + 1) = ((f.s.length + 1 : Nat) : Int) := by omega
  have e3 : f.k = ((f.k.toNat : Nat) : Int) := by omega
  rw [e1, e2, u8_wrap, u8_wrap]
  conv => lhs; rw [e3, u8_wrap]
  have e4 : (UInt8.ofNat (f.s.length + 1)) = UInt8.ofNat ((f.s.length + 1) % 256) := by
    apply UInt8.toNat_inj.1
    simp only [UInt8.toNat_ofNat']
    omega
  rw [e4]
  rfl
theorem encImpl_calls (f : Frame) (hk : f.ok = true) (H : Heap) : ACalls Try.prog 41 [.agg (f.row.map .d)] H (fun r H' => H' = H ∧ r = .c (.d (.sl (bytesRows f.bytes)))) := by
  refine acalls Try.func41 (by kernel_rfl) ac41_ok fun hf => ?_
  simp only [Frame.ok, Bool.and_eq_true, decide_eq_true_eq] at hk
  obtain ⟨⟨⟨h1, h2⟩, _⟩, h3⟩ := hk
  have hl : inR .i64 (f.s.length : Int) := small_i64 (by omega) (by omega)
  have hl1 : inR .i64 ((f.s.length : Int) + 1) := small_i64 (by omega) (by omega)
  have hb : (8 : Int) < ((IntKind.i64.bits : Nat) : Int) := by decide
  simp -implicitDefEqProofs [ac41, Frame.row, hl, hl1, hb, bytesRows_len, allLen_bytes, aw_skip, aw_region, aw_seq, aw_block, aw_cond, aw_exit, aw_ret, kq_nil, kq_seq, kq_seq_ret, kq_seq_exit, kq_block, kq_block_ret, kq_block_exit, kq_loop, kq_loop_ret, kq_loop_exit, awOps_nil, awOps_cons, awOps_guardE, nx_eq, awOp, ev_k, ev_0, ev_1, ev_2, ev_3, ev_4, ev_5, ev_6, ev_7, ev_8, set_0, set_1, set_2, set_3, set_4, set_5, set_6, set_7, set_8, -List.set_cons_succ, -List.set_cons_zero, A.ok, A.val, setSl, wrapG, guardB, getB, pickA, binA, binC, binD, cmpD, isCmp, unA, unD, lenA, AOp.total, kills, litB, FinQ, resOks, resOk, resA, resList, resOne, A.thaw, C.thaw, A.fits, As.fits, C.fits, evs, oks, callArgs, A.pure, C.pure, A.re, C.re, fieldAddrA, loadC, cut, A.cells, C.rows?, getOb, newOb, setOb, storeC, splice, Ob.re, Cs.fits, partsA, partsOk, parts2A, parts2Ok, fillC, fillRows, optInt, optOk, sliceA, clipC, optK_some, storeK_some, Option.map_some, toDs, C.toD, spliceD, appendA, capsOf, srcRows, allLen_nil_iff, allLen_cons_iff, allLen_append_iff, dropC, Obs.fits, eqCs, eqD]
  refine ⟨by unfold maxApp; omega, ?_⟩
  exact enc_rows f h1
theorem encSpec_calls (f : Frame) (hk : f.ok = true) (H : Heap) : ACalls Try.prog 38 [.agg (f.row.map .d)] H (fun r H' => H' = H ∧ r = .c (.d (.sl (bytesRows f.bytes)))) := by
  refine acalls Try.func38 (by kernel_rfl) ac38_ok fun hf => ?_
  simp only [Frame.ok, Bool.and_eq_true, decide_eq_true_eq] at hk
  obtain ⟨⟨⟨h1, h2⟩, _⟩, h3⟩ := hk
  have hl : inR .i64 (f.s.length : Int) := small_i64 (by omega) (by omega)
  have hl1 : inR .i64 ((f.s.length : Int) + 1) := small_i64 (by omega) (by omega)
  have hl2 : inR .i64 (((f.s.length : Int) + 1).tdiv 256) := by
    rw [Int.tdiv_eq_ediv_of_nonneg (by omega)]
    exact small_i64 (by omega) (by omega)
  simp -implicitDefEqProofs [ac38, Frame.row, hl, hl1, hl2, bytesRows_len, allLen_bytes, aw_skip, aw_region, aw_seq, aw_block, aw_cond, aw_exit, aw_ret, kq_nil, kq_seq, kq_seq_ret, kq_seq_exit, kq_block, kq_block_ret, kq_block_exit, kq_loop, kq_loop_ret, kq_loop_exit, awOps_nil, awOps_cons, awOps_guardE, nx_eq, awOp, ev_k, ev_0, ev_1, ev_2, ev_3, ev_4, ev_5, ev_6, ev_7, ev_8, set_0, set_1, set_2, set_3, set_4, set_5, set_6, set_7, set_8, -List.set_cons_succ, -List.set_cons_zero, A.ok, A.val, setSl, wrapG, guardB, getB, pickA, binA, binC, binD, cmpD, isCmp, unA, unD, lenA, AOp.total, kills, litB, FinQ, resOks, resOk, resA, resList, resOne, A.thaw, C.thaw, A.fits, As.fits, C.fits, evs, oks, callArgs, A.pure, C.pure, A.re, C.re, fieldAddrA, loadC, cut, A.cells, C.rows?, getOb, newOb, setOb, storeC, splice, Ob.re, Cs.fits, partsA, partsOk, parts2A, parts2Ok, fillC, fillRows, optInt, optOk, sliceA, clipC, optK_some, storeK_some, Option.map_some, toDs, C.toD, spliceD, appendA, capsOf, srcRows, allLen_nil_iff, allLen_cons_iff, allLen_append_iff, dropC, Obs.fits, eqCs, eqD]
  refine ⟨by unfold maxApp; omega, ?_⟩
  rw [← enc_rows f h1]
  have e1 : ((f.s.length : Int) + 1).tdiv 256 = ((f.s.length : Int) + 1).fdiv 256 := by
    rw [Int.tdiv_eq_ediv_of_nonneg (by omega), Int.fdiv_eq_ediv_of_nonneg _ (by omega)]
  have e2 : IntKind.wrap .u8 (((f.s.length : Int) + 1).tmod 256) = IntKind.wrap .u8 ((f.s.length : Int) + 1) := by
    rw [Int.tmod_eq_emod_of_nonneg (by omega)]
    simp [IntKind.wrap, IntKind.signed, IntKind.bits]
  rw [e1, e2]
end Go.Proofs.Ytamaaiabbganjaa
