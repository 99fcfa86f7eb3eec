/-
  The functions that FnExactFrameValid reaches, each by what it answers.
  Conditions: none.
-/
import Derived.Test.YtokgioccfeebkaaRows
import Derived.KernelRfl
import Derived.Test.YtokgioccfeebkaaAbsI
open Go Go.AM Go.Proofs
namespace Go.Proofs.Ytokgioccfeebkaa
open Go.ChangeShapes Go.WideShapes Go.ChangeAt Go.RowKit
set_option linter.unusedVariables false
set_option linter.unusedSimpArgs false
set_option maxRecDepth 100000
def ac59 : Cd := .seq (.region [⟨(some 6), .mv (.k (.c (.d (.bool false)))), none⟩] [6])
  (.seq (.region [⟨(some 7), .mv (.t 1), none⟩,
      ⟨(some 8), .mv (.t 0), none⟩,
      ⟨(some 9), .bin .leq (.t 7) (.t 8), none⟩,
      ⟨(some 10), .mv (.t 9), none⟩,
      ⟨(some 11), .mv (.t 0), some (10, true)⟩,
      ⟨(some 12), .mv (.t 2), some (10, true)⟩,
      ⟨(some 13), .bin .leq (.t 11) (.t 12), some (10, true)⟩,
      ⟨(some 14), .pick (.t 10) (.t 13) (.k (.c (.d (.bool false)))), none⟩,
      ⟨(some 6), .mv (.t 14), none⟩] [0, 1, 2, 7, 8, 9, 10, 11, 12, 13, 14])
  (.ret))
theorem ac59_ok : cFunc Try.prog [] [(0, [6]), (1, [0, 1, 2, 7, 8, 9, 10, 11, 12, 13, 14])] Try.f59 = some (ac59, [.tmp 6], 15) := by kernel_rfl
def ac85 : Cd := .seq (.region [⟨(some 2), .mv (.k (.c (.d (.bool false)))), none⟩] [2])
  (.seq (.region [⟨(some 3), .mv (.t 0), none⟩,
      ⟨(some 4), .bin .eql (.t 3) (.k (.c (.d (.int .u8 10)))), none⟩,
      ⟨(some 5), .mv (.t 4), none⟩,
      ⟨(some 6), .mv (.t 0), some (5, false)⟩,
      ⟨(some 7), .bin .geq (.t 6) (.k (.c (.d (.int .u8 32)))), some (5, false)⟩,
      ⟨(some 8), .mv (.t 7), some (5, false)⟩,
      ⟨(some 9), .mv (.t 0), some (8, true)⟩,
      ⟨(some 10), .bin .leq (.t 9) (.k (.c (.d (.int .u8 126)))), some (8, true)⟩,
      ⟨(some 11), .pick (.t 8) (.t 10) (.k (.c (.d (.bool false)))), some (5, false)⟩,
      ⟨(some 12), .pick (.t 5) (.k (.c (.d (.bool true)))) (.t 11), none⟩,
      ⟨(some 2), .mv (.t 12), none⟩] [0, 3, 4, 5, 6, 7, 8, 9, 10, 11, 12])
  (.ret))
theorem ac85_ok : cFunc Try.prog [] [(0, [2]), (1, [0, 3, 4, 5, 6, 7, 8, 9, 10, 11, 12])] Try.f85 = some (ac85, [.tmp 2], 13) := by kernel_rfl
def ac58 : Cd := .seq (.region [⟨(some 2), .mv (.k (.c (.d (.bool false)))), none⟩] [2])
  (.seq (.seq (.region [⟨(some 3), .mv (.k (.c (.d (.int .i64 0)))), none⟩] [])
    (.block 0 (.loop (.seq (.seq (.region [⟨(some 4), .mv (.t 3), none⟩,
              ⟨(some 5), .mv (.t 0), none⟩,
              ⟨(some 6), .len 0 (.t 5), none⟩,
              ⟨(some 7), .bin .lss (.t 4) (.t 6), none⟩] [4, 5, 6])
          (.cond (.t 7)
            (.skip)
            (.exit 0)))
        (.seq (.block 1 (.seq (.region [⟨(some 10), .mv (.t 0), none⟩,
                ⟨(some 11), .mv (.t 3), none⟩,
                ⟨(some 12), .index (.t 10) (.t 11), none⟩,
                ⟨(some 13), .call false 85 [(.t 12)], none⟩,
                ⟨(some 14), .un .not (.t 13), none⟩] [7, 10, 11, 12, 13])
            (.cond (.t 14)
              (.seq (.region [⟨(some 2), .mv (.k (.c (.d (.bool false)))), none⟩] [0, 3, 14])
              (.ret))
              (.skip))))
        (.region [⟨(some 8), .mv (.t 3), none⟩,
          ⟨(some 9), .bin .add (.t 8) (.k (.c (.d (.int .i64 1)))), none⟩,
          ⟨(some 3), .mv (.t 9), none⟩] [2, 8, 9, 14]))))))
  (.seq (.region [⟨(some 15), .mv (.t 0), none⟩,
      ⟨(some 16), .len 0 (.t 15), none⟩,
      ⟨(some 17), .bin .leq (.t 16) (.k (.c (.d (.int .i64 2000)))), none⟩,
      ⟨(some 2), .mv (.t 17), none⟩] [0, 15, 16, 17])
  (.ret)))
theorem ac58_ok : cFunc Try.prog [] [(0, [2]), (1, []), (2, [4, 5, 6]), (4, [7, 10, 11, 12, 13]), (5, [0, 3, 14]), (3, [2, 8, 9, 14]), (6, [0, 15, 16, 17])] Try.f58 = some (ac58, [.tmp 2], 18) := by kernel_rfl
def ac18 : Cd := .seq (.region [⟨(some 1), .box (.t 0), none⟩,
      ⟨(some 2), .mv (.k (.c (.d (.bool false)))), none⟩] [0, 2])
  (.seq (.region [⟨(some 3), .fieldAddr 0 (.t 1), none⟩,
      ⟨(some 4), .load none (.t 3), none⟩,
      ⟨(some 5), .bin .geq (.t 4) (.k (.c (.d (.int .i64 1)))), none⟩,
      ⟨(some 6), .mv (.t 5), none⟩,
      ⟨(some 7), .fieldAddr 0 (.t 1), some (6, true)⟩,
      ⟨(some 8), .load none (.t 7), some (6, true)⟩,
      ⟨(some 9), .bin .leq (.t 8) (.k (.c (.d (.int .i64 7)))), some (6, true)⟩,
      ⟨(some 10), .pick (.t 6) (.t 9) (.k (.c (.d (.bool false)))), none⟩,
      ⟨(some 11), .mv (.t 10), none⟩,
      ⟨(some 12), .fieldAddr 1 (.t 1), some (11, true)⟩,
      ⟨(some 13), .load none (.t 12), some (11, true)⟩,
      ⟨(some 14), .call false 58 [(.t 13)], some (11, true)⟩,
      ⟨(some 15), .pick (.t 11) (.t 14) (.k (.c (.d (.bool false)))), none⟩,
      ⟨(some 2), .mv (.t 15), none⟩] [1, 3, 4, 5, 6, 7, 8, 9, 10, 11, 12, 13, 14, 15])
  (.ret))
theorem ac18_ok : cFunc Try.prog [] [(0, [0, 2]), (1, [1, 3, 4, 5, 6, 7, 8, 9, 10, 11, 12, 13, 14, 15])] Try.f18 = some (ac18, [.tmp 2], 16) := by kernel_rfl
def ac20 : Cd := .seq (.region [⟨(some 1), .box (.t 0), none⟩,
      ⟨(some 2), .mv (.k (.c (.d (.bool false)))), none⟩] [0, 2])
  (.seq (.seq (.region [⟨(some 5), .fieldAddr 1 (.t 1), none⟩,
        ⟨(some 6), .load none (.t 5), none⟩,
        ⟨(some 7), .len 0 (.t 6), none⟩,
        ⟨(some 8), .mv (.k (.c (.d (.int .i64 0)))), none⟩] [5, 6])
    (.block 0 (.loop (.seq (.region [⟨(some 9), .bin .lss (.t 8) (.t 7), none⟩] [])
        (.seq (.cond (.t 9)
            (.skip)
            (.exit 0))
        (.seq (.block 1 (.seq (.region [⟨(some 10), .mv (.t 8), none⟩,
                ⟨(some 3), .mv (.t 10), none⟩] [9, 10])
            (.seq (.region [⟨(some 11), .fieldAddr 1 (.t 1), none⟩,
                ⟨(some 12), .load none (.t 11), none⟩,
                ⟨(some 13), .mv (.t 3), none⟩,
                ⟨(some 14), .index (.t 12) (.t 13), none⟩,
                ⟨(some 4), .mv (.t 14), none⟩] [3, 11, 12, 13, 14])
            (.seq (.region [⟨(some 15), .mv (.t 4), none⟩,
                ⟨(some 16), .bin .neq (.t 15) (.k (.c (.d (.int .u8 10)))), none⟩,
                ⟨(some 17), .mv (.t 16), none⟩,
                ⟨(some 18), .mv (.t 4), some (17, true)⟩,
                ⟨(some 19), .bin .lss (.t 18) (.k (.c (.d (.int .u8 32)))), some (17, true)⟩,
                ⟨(some 20), .mv (.t 19), some (17, true)⟩,
                ⟨(some 21), .mv (.t 4), some (20, false)⟩,
                ⟨(some 22), .bin .gtr (.t 21) (.k (.c (.d (.int .u8 126)))), some (20, false)⟩,
                ⟨(some 23), .pick (.t 20) (.k (.c (.d (.bool true)))) (.t 22), some (17, true)⟩,
                ⟨(some 24), .pick (.t 17) (.t 23) (.k (.c (.d (.bool false)))), none⟩] [4, 15, 16, 17, 18, 19, 20, 21, 22, 23])
            (.cond (.t 24)
              (.seq (.region [⟨(some 2), .mv (.k (.c (.d (.bool false)))), none⟩] [1, 7, 8, 24])
              (.ret))
              (.skip))))))
        (.region [⟨(some 25), .bin .add (.t 8) (.k (.c (.d (.int .i64 1)))), none⟩,
          ⟨(some 8), .mv (.t 25), none⟩] [2, 24, 25])))))))
  (.seq (.region [⟨(some 26), .fieldAddr 0 (.t 1), none⟩,
      ⟨(some 27), .load none (.t 26), none⟩,
      ⟨(some 28), .call false 59 [(.t 27), (.k (.c (.d (.int .i64 1)))), (.k (.c (.d (.int .i64 7))))], none⟩,
      ⟨(some 29), .mv (.t 28), none⟩,
      ⟨(some 30), .fieldAddr 1 (.t 1), some (29, true)⟩,
      ⟨(some 31), .load none (.t 30), some (29, true)⟩,
      ⟨(some 32), .len 0 (.t 31), some (29, true)⟩,
      ⟨(some 33), .bin .leq (.t 32) (.k (.c (.d (.int .i64 2000)))), some (29, true)⟩,
      ⟨(some 34), .pick (.t 29) (.t 33) (.k (.c (.d (.bool false)))), none⟩,
      ⟨(some 2), .mv (.t 34), none⟩] [1, 26, 27, 28, 29, 30, 31, 32, 33, 34])
  (.ret)))
theorem ac20_ok : cFunc Try.prog [] [(0, [0, 2]), (1, [5, 6]), (2, []), (3, [9, 10]), (4, [3, 11, 12, 13, 14]), (5, [4, 15, 16, 17, 18, 19, 20, 21, 22, 23]), (6, [1, 7, 8, 24]), (7, [2, 24, 25]), (8, [1, 26, 27, 28, 29, 30, 31, 32, 33, 34])] Try.f20 = some (ac20, [.tmp 2], 35) := by kernel_rfl
def ac17 : Cd := .seq (.region [⟨(some 2), .box (.t 0), none⟩,
      ⟨(some 4), .mv (.k (.c (.d (.int .i64 0)))), none⟩] [0, 4])
  (.seq (.region [⟨(some 5), .mv (.t 1), none⟩,
      ⟨(some 6), .fieldAddr 1 (.t 2), none⟩,
      ⟨(some 7), .load none (.t 6), none⟩,
      ⟨(some 8), .len 0 (.t 7), none⟩,
      ⟨(some 9), .bin .sub (.t 5) (.t 8), none⟩,
      ⟨(some 1), .mv (.t 9), none⟩] [2, 5, 6, 7, 8, 9])
  (.seq (.seq (.region [⟨(some 10), .mv (.t 1), none⟩,
        ⟨(some 11), .bin .lss (.t 10) (.k (.c (.d (.int .i64 0)))), none⟩] [10])
    (.cond (.t 11)
      (.seq (.region [⟨(some 4), .mv (.k (.c (.d (.int .i64 (-1))))), none⟩] [1, 11])
      (.ret))
      (.skip)))
  (.seq (.region [⟨(some 12), .mv (.t 1), none⟩,
      ⟨(some 4), .mv (.t 12), none⟩] [1, 11, 12])
  (.ret))))
theorem ac17_ok : cFunc Try.prog [] [(0, [0, 4]), (1, [2, 5, 6, 7, 8, 9]), (2, [10]), (3, [1, 11]), (4, [1, 11, 12])] Try.f17 = some (ac17, [.tmp 4], 13) := by kernel_rfl
def ac19 : Cd := .seq (.region [⟨(some 1), .box (.t 0), none⟩,
      ⟨(some 2), .alloc [(.d (.int .i64 0)), (.d (.str []))], none⟩] [0])
  (.seq (.region [⟨(some 3), .alloc [(.d (.int .i64 0)), (.d (.str []))], none⟩] [])
  (.seq (.region [⟨(some 4), .fieldAddr 0 (.t 1), none⟩,
      ⟨(some 5), .load none (.t 4), none⟩,
      ⟨(some 6), .fieldAddr 0 (.t 3), none⟩,
      ⟨none, .store 1 (.t 6) (.t 5), none⟩] [4, 5, 6])
  (.seq (.region [⟨(some 7), .fieldAddr 1 (.t 1), none⟩,
      ⟨(some 8), .load none (.t 7), none⟩,
      ⟨(some 9), .fieldAddr 1 (.t 3), none⟩,
      ⟨none, .store 1 (.t 9) (.t 8), none⟩] [1, 7, 8, 9])
  (.seq (.region [⟨(some 10), .load (some 2) (.t 3), none⟩,
      ⟨none, .store 2 (.t 2) (.t 10), none⟩] [3, 10])
  (.ret)))))
theorem ac19_ok : cFunc Try.prog [] [(0, [0]), (1, []), (2, [4, 5, 6]), (3, [1, 7, 8, 9]), (4, [3, 10])] Try.f19 = some (ac19, [.cell 2 (some 2)], 11) := by kernel_rfl
def ac5 : Cd := .seq (.region [⟨(some 1), .box (.t 0), none⟩,
      ⟨(some 2), .mv (.k (.c (.d (.bool false)))), none⟩] [0, 2])
  (.seq (.region [⟨(some 3), .mv (.k (.c (.d (.int .i64 1048576)))), none⟩] [])
  (.seq (.region [⟨(some 6), .load (some 2) (.t 1), none⟩,
      ⟨(some 7), .mv (.t 3), none⟩,
      ⟨(some 8), .call false 17 [(.t 6), (.t 7)], none⟩,
      ⟨(some 3), .mv (.t 8), none⟩] [6, 7, 8])
  (.seq (.seq (.region [⟨(some 9), .mv (.t 3), none⟩,
        ⟨(some 10), .bin .lss (.t 9) (.k (.c (.d (.int .i64 0)))), none⟩] [3, 9])
    (.cond (.t 10)
      (.seq (.region [⟨(some 2), .mv (.k (.c (.d (.bool true)))), none⟩] [1, 10])
      (.ret))
      (.skip)))
  (.seq (.region [⟨(some 11), .load (some 2) (.t 1), none⟩,
      ⟨(some 12), .call false 19 [(.t 11)], none⟩,
      ⟨(some 13), .call false 18 [(.t 12)], none⟩,
      ⟨(some 4), .mv (.t 13), none⟩] [2, 10, 11, 12, 13])
  (.seq (.region [⟨(some 14), .load (some 2) (.t 1), none⟩,
      ⟨(some 15), .call false 19 [(.t 14)], none⟩,
      ⟨(some 16), .call false 20 [(.t 15)], none⟩,
      ⟨(some 5), .mv (.t 16), none⟩] [1, 14, 15, 16])
  (.seq (.seq (.region [⟨(some 17), .mv (.t 5), none⟩,
        ⟨(some 18), .mv (.t 4), none⟩,
        ⟨(some 19), .binB true (.t 17) (.t 18), none⟩] [4, 5, 17, 18])
    (.cond (.t 19)
      (.seq (.region [⟨(some 2), .mv (.k (.c (.d (.bool false)))), none⟩] [19])
      (.ret))
      (.skip)))
  (.seq (.region [⟨(some 2), .mv (.k (.c (.d (.bool true)))), none⟩] [19])
  (.ret))))))))
theorem ac5_ok : cFunc Try.prog [] [(0, [0, 2]), (1, []), (2, [6, 7, 8]), (3, [3, 9]), (4, [1, 10]), (5, [2, 10, 11, 12, 13]), (6, [1, 14, 15, 16]), (7, [4, 5, 17, 18]), (8, [19]), (9, [19])] Try.f5 = some (ac5, [.tmp 2], 20) := by kernel_rfl
def okByte (b : UInt8) : Bool := (b.toNat : Int) == 10 || decide ((32 : Int) ≤ b.toNat) && decide ((b.toNat : Int) ≤ 126)
theorem reach_i64 {n : Nat} (h : n ≤ reachBytes) : inR .i64 (n : Int) := by simp only [inR, IntKind.min, IntKind.max, IntKind.signed, IntKind.bits, reachBytes] at *; omega
theorem small_i64 {n : Int} (h : -1000000000000000 ≤ n) (h' : n ≤ 1000000000000000) : inR .i64 n := by
  unfold inR
  simp [IntKind.min, IntKind.max, IntKind.signed, IntKind.bits]
  omega
theorem reach_small {n : Nat} (h : n ≤ reachBytes) : (n : Int) ≤ 140737488355328 := by simp only [reachBytes] at *; omega
theorem f59_calls (x lo hi : Int) (H : Heap) : ACalls Try.prog 59 [.c (.d (.int .i64 x)), .c (.d (.int .i64 lo)), .c (.d (.int .i64 hi))] H (fun r H' => H' = H ∧ r = .c (.d (.bool (decide (lo ≤ x) && decide (x ≤ hi))))) := by
  refine acalls Try.func59 (by kernel_rfl) ac59_ok fun hf => ?_
  simp [ac59, aw_skip, aw_region, aw_seq, aw_block, aw_cond, aw_exit, aw_ret, kq_nil, kq_seq, kq_seq_ret, kq_seq_exit, kq_block, kq_block_ret, kq_block_exit, kq_loop, kq_loop_ret, kq_loop_exit, awOps_nil, awOps_cons, awOps_guard, nx_eq, awOp, Opd.ev, A.ok, A.val, setSl, wrapG, guardB, getB, pickA, binA, binC, binD, cmpD, isCmp, unA, unD, lenA, AOp.total, kills, litB, FinQ, resOks, resOk, resA, resList, resOne, A.thaw, C.thaw, A.fits, C.fits, evs, oks, callArgs, A.pure, C.pure, A.re, C.re, fieldAddrA, loadC, cut, A.cells, C.rows?, getOb, newOb, setOb, storeC, splice, Ob.re, Cs.fits, partsA, partsOk, parts2A, parts2Ok, fillC, fillRows, optInt, optOk, sliceA]
theorem f85_calls (b : UInt8) (H : Heap) : ACalls Try.prog 85 [.c (.d (.int .u8 b.toNat))] H (fun r H' => H' = H ∧ r = .c (.d (.bool (okByte b)))) := by
  refine acalls Try.func85 (by kernel_rfl) ac85_ok fun hf => ?_
  simp [ac85, okByte, aw_skip, aw_region, aw_seq, aw_block, aw_cond, aw_exit, aw_ret, kq_nil, kq_seq, kq_seq_ret, kq_seq_exit, kq_block, kq_block_ret, kq_block_exit, kq_loop, kq_loop_ret, kq_loop_exit, awOps_nil, awOps_cons, awOps_guard, nx_eq, awOp, Opd.ev, A.ok, A.val, setSl, wrapG, guardB, getB, pickA, binA, binC, binD, cmpD, isCmp, unA, unD, lenA, AOp.total, kills, litB, FinQ, resOks, resOk, resA, resList, resOne, A.thaw, C.thaw, A.fits, C.fits, evs, oks, callArgs, A.pure, C.pure, A.re, C.re, fieldAddrA, loadC, cut, A.cells, C.rows?, getOb, newOb, setOb, storeC, splice, Ob.re, Cs.fits, partsA, partsOk, parts2A, parts2Ok, fillC, fillRows, optInt, optOk, sliceA]
theorem f58_calls (s : List UInt8) (hs : s.length ≤ reachBytes) (H : Heap) : ACalls Try.prog 58 [.c (.d (.str s))] H (fun r H' => H' = H ∧ r = .c (.d (.bool (s.all okByte && decide (s.length ≤ 2000))))) := by
  refine acalls Try.func58 (by kernel_rfl) ac58_ok fun hf => ?_
  have hlen := reach_i64 hs
  have hsm := reach_small hs
  simp [ac58, hlen, aw_skip, aw_region, aw_seq, aw_block, aw_cond, aw_exit, aw_ret, kq_nil, kq_seq, kq_seq_ret, kq_seq_exit, kq_block, kq_block_ret, kq_block_exit, kq_loop, kq_loop_ret, kq_loop_exit, awOps_nil, awOps_cons, awOps_guard, nx_eq, awOp, Opd.ev, A.ok, A.val, setSl, wrapG, guardB, getB, pickA, binA, binC, binD, cmpD, isCmp, unA, unD, lenA, AOp.total, kills, litB, FinQ, resOks, resOk, resA, resList, resOne, A.thaw, C.thaw, A.fits, C.fits, evs, oks, callArgs, A.pure, C.pure, A.re, C.re, fieldAddrA, loadC, cut, A.cells, C.rows?, getOb, newOb, setOb, storeC, splice, Ob.re, Cs.fits, partsA, partsOk, parts2A, parts2Ok, fillC, fillRows, optInt, optOk, sliceA]
  refine loop_set (σ := Nat) (fun i => [(3, .c (.d (.int .i64 i)))]) (fun _ => H) (fun _ => []) (fun i => i ≤ s.length ∧ ∀ b ∈ s.take i, okByte b = true) (fun i => s.length - i) 0 rfl ⟨Nat.zero_le _, by simp⟩ ?_
  rintro i ⟨hi, hall⟩
  simp [setAll, hlen, aw_skip, aw_region, aw_seq, aw_block, aw_cond, aw_exit, aw_ret, kq_nil, kq_seq, kq_seq_ret, kq_seq_exit, kq_block, kq_block_ret, kq_block_exit, kq_loop, kq_loop_ret, kq_loop_exit, awOps_nil, awOps_cons, awOps_guard, nx_eq, awOp, Opd.ev, A.ok, A.val, setSl, wrapG, guardB, getB, pickA, binA, binC, binD, cmpD, isCmp, unA, unD, lenA, AOp.total, kills, litB, FinQ, resOks, resOk, resA, resList, resOne, A.thaw, C.thaw, A.fits, C.fits, evs, oks, callArgs, A.pure, C.pure, A.re, C.re, fieldAddrA, loadC, cut, A.cells, C.rows?, getOb, newOb, setOb, storeC, splice, Ob.re, Cs.fits, partsA, partsOk, parts2A, parts2Ok, fillC, fillRows, optInt, optOk, sliceA]
  refine ⟨fun hlt => ⟨s[i], List.getElem?_eq_getElem hlt, ?_⟩, fun hge => ?_⟩
  · refine call_same (f85_calls s[i] _) (by simp) rfl hf ?_
    have hadd : inR .i64 ((i : Int) + 1) := small_i64 (by omega) (by omega)
    simp [hadd, aw_skip, aw_region, aw_seq, aw_block, aw_cond, aw_exit, aw_ret, kq_nil, kq_seq, kq_seq_ret, kq_seq_exit, kq_block, kq_block_ret, kq_block_exit, kq_loop, kq_loop_ret, kq_loop_exit, awOps_nil, awOps_cons, awOps_guard, nx_eq, awOp, Opd.ev, A.ok, A.val, setSl, wrapG, guardB, getB, pickA, binA, binC, binD, cmpD, isCmp, unA, unD, lenA, AOp.total, kills, litB, FinQ, resOks, resOk, resA, resList, resOne, A.thaw, C.thaw, A.fits, C.fits, evs, oks, callArgs, A.pure, C.pure, A.re, C.re, fieldAddrA, loadC, cut, A.cells, C.rows?, getOb, newOb, setOb, storeC, splice, Ob.re, Cs.fits, partsA, partsOk, parts2A, parts2Ok, fillC, fillRows, optInt, optOk, sliceA]
    refine ⟨fun hno hh => absurd (hh _ (List.getElem_mem hlt)) (by simp [hno]), fun hok => ?_⟩
    refine loop_back (i + 1) (by simp [setAll]) ⟨hlt, fun b hb => ?_⟩ (by show s.length - (i + 1) < s.length - i; omega)
    rw [List.take_add_one, List.mem_append] at hb
    rcases hb with hb | hb
    · exact hall b hb
    · rw [List.getElem?_eq_getElem hlt] at hb
      simp at hb; subst hb; exact hok
  · have hil : i = s.length := by omega
    subst hil
    rw [List.take_length] at hall
    have : s.all okByte = true := List.all_eq_true.2 hall
    rw [this, Bool.true_and]
    congr 1
    simp
    omega
def frameOk (k : Int) (s : List UInt8) : Bool := decide (1 ≤ k) && decide (k ≤ 7) && s.all okByte && decide (s.length ≤ 2000)
theorem f18_calls (k : Int) (s : List UInt8) (hs : s.length ≤ reachBytes) (H : Heap) : ACalls Try.prog 18 [.agg [.d (.int .i64 k), .d (.str s)]] H (fun r H' => H' = H ∧ r = .c (.d (.bool (frameOk k s)))) := by
  refine acalls Try.func18 (by kernel_rfl) ac18_ok fun hf => ?_
  simp [ac18, aw_skip, aw_region, aw_seq, aw_block, aw_cond, aw_exit, aw_ret, kq_nil, kq_seq, kq_seq_ret, kq_seq_exit, kq_block, kq_block_ret, kq_block_exit, kq_loop, kq_loop_ret, kq_loop_exit, awOps_nil, awOps_cons, awOps_guard, nx_eq, awOp, Opd.ev, A.ok, A.val, setSl, wrapG, guardB, getB, pickA, binA, binC, binD, cmpD, isCmp, unA, unD, lenA, AOp.total, kills, litB, FinQ, resOks, resOk, resA, resList, resOne, A.thaw, C.thaw, A.fits, C.fits, evs, oks, callArgs, A.pure, C.pure, A.re, C.re, fieldAddrA, loadC, cut, A.cells, C.rows?, getOb, newOb, setOb, storeC, splice, Ob.re, Cs.fits, partsA, partsOk, parts2A, parts2Ok, fillC, fillRows, optInt, optOk, sliceA]
  refine ⟨fun h1 h2 => ⟨⟨h1, h2⟩, ?_⟩, fun h => ?_⟩
  · refine call_same (f58_calls s hs _) (by simp [Ob.re, C.re]) rfl hf ?_
    simp [h1, h2, frameOk, aw_skip, aw_region, aw_seq, aw_block, aw_cond, aw_exit, aw_ret, kq_nil, kq_seq, kq_seq_ret, kq_seq_exit, kq_block, kq_block_ret, kq_block_exit, kq_loop, kq_loop_ret, kq_loop_exit, awOps_nil, awOps_cons, awOps_guard, nx_eq, awOp, Opd.ev, A.ok, A.val, setSl, wrapG, guardB, getB, pickA, binA, binC, binD, cmpD, isCmp, unA, unD, lenA, AOp.total, kills, litB, FinQ, resOks, resOk, resA, resList, resOne, A.thaw, C.thaw, A.fits, C.fits, evs, oks, callArgs, A.pure, C.pure, A.re, C.re, fieldAddrA, loadC, cut, A.cells, C.rows?, getOb, newOb, setOb, storeC, splice, Ob.re, Cs.fits, partsA, partsOk, parts2A, parts2Ok, fillC, fillRows, optInt, optOk, sliceA]
  · simp only [frameOk]
    by_cases h1 : 1 ≤ k
    · have := h h1
      have h3 : ¬ k ≤ 7 := by omega
      simp [h3]
    · simp [h1]
theorem f20_calls (k : Int) (s : List UInt8) (hs : s.length ≤ reachBytes) (H : Heap) : ACalls Try.prog 20 [.agg [.d (.int .i64 k), .d (.str s)]] H (fun r H' => H' = H ∧ r = .c (.d (.bool (frameOk k s)))) := by
  refine acalls Try.func20 (by kernel_rfl) ac20_ok fun hf => ?_
  have hlen := reach_i64 hs
  have hsm := reach_small hs
  simp [ac20, hlen, aw_skip, aw_region, aw_seq, aw_block, aw_cond, aw_exit, aw_ret, kq_nil, kq_seq, kq_seq_ret, kq_seq_exit, kq_block, kq_block_ret, kq_block_exit, kq_loop, kq_loop_ret, kq_loop_exit, awOps_nil, awOps_cons, awOps_guard, nx_eq, awOp, Opd.ev, A.ok, A.val, setSl, wrapG, guardB, getB, pickA, binA, binC, binD, cmpD, isCmp, unA, unD, lenA, AOp.total, kills, litB, FinQ, resOks, resOk, resA, resList, resOne, A.thaw, C.thaw, A.fits, C.fits, evs, oks, callArgs, A.pure, C.pure, A.re, C.re, fieldAddrA, loadC, cut, A.cells, C.rows?, getOb, newOb, setOb, storeC, splice, Ob.re, Cs.fits, partsA, partsOk, parts2A, parts2Ok, fillC, fillRows, optInt, optOk, sliceA]
  refine loop_set (σ := Nat) (fun i => [(8, .c (.d (.int .i64 i)))]) (fun _ => H) (fun _ => [.cells [.d (.int .i64 k), .d (.str s)]]) (fun i => i ≤ s.length ∧ ∀ b ∈ s.take i, okByte b = true) (fun i => s.length - i) 0 rfl ⟨Nat.zero_le _, by simp⟩ ?_
  rintro i ⟨hi, hall⟩
  simp [setAll, hlen, aw_skip, aw_region, aw_seq, aw_block, aw_cond, aw_exit, aw_ret, kq_nil, kq_seq, kq_seq_ret, kq_seq_exit, kq_block, kq_block_ret, kq_block_exit, kq_loop, kq_loop_ret, kq_loop_exit, awOps_nil, awOps_cons, awOps_guard, nx_eq, awOp, Opd.ev, A.ok, A.val, setSl, wrapG, guardB, getB, pickA, binA, binC, binD, cmpD, isCmp, unA, unD, lenA, AOp.total, kills, litB, FinQ, resOks, resOk, resA, resList, resOne, A.thaw, C.thaw, A.fits, C.fits, evs, oks, callArgs, A.pure, C.pure, A.re, C.re, fieldAddrA, loadC, cut, A.cells, C.rows?, getOb, newOb, setOb, storeC, splice, Ob.re, Cs.fits, partsA, partsOk, parts2A, parts2Ok, fillC, fillRows, optInt, optOk, sliceA]
  refine ⟨fun hlt => ⟨s[i], List.getElem?_eq_getElem hlt, fun h1 h2 => ?_, fun h => ⟨small_i64 (by omega) (by omega), ?_⟩⟩, fun hge => ?_⟩
  · have hno : okByte s[i] = false := by
      simp [okByte, h1]
      omega
    have : s.all okByte = false := by
      rw [List.all_eq_false]
      exact ⟨s[i], List.getElem_mem hlt, by simp [hno]⟩
    simp [frameOk, this]
  · have hok : okByte s[i] = true := by
      simp [okByte]
      by_cases h1 : ((s[i].toNat : Int) = 10)
      · exact .inl h1
      · exact .inr (h h1)
    refine loop_back (i + 1) (by simp [setAll]) ⟨hlt, fun b hb => ?_⟩ (by show s.length - (i + 1) < s.length - i; omega)
    rw [List.take_add_one, List.mem_append] at hb
    rcases hb with hb | hb
    · exact hall b hb
    · rw [List.getElem?_eq_getElem hlt] at hb
      simp at hb; subst hb; exact hok
  · have hil : i = s.length := by omega
    subst hil
    rw [List.take_length] at hall
    have hok : s.all okByte = true := List.all_eq_true.2 hall
    refine call_same (f59_calls k 1 7 _) (by simp [Ob.re, C.re]) rfl hf ?_
    simp [hlen, frameOk, hok, aw_skip, aw_region, aw_seq, aw_block, aw_cond, aw_exit, aw_ret, kq_nil, kq_seq, kq_seq_ret, kq_seq_exit, kq_block, kq_block_ret, kq_block_exit, kq_loop, kq_loop_ret, kq_loop_exit, awOps_nil, awOps_cons, awOps_guard, nx_eq, awOp, Opd.ev, A.ok, A.val, setSl, wrapG, guardB, getB, pickA, binA, binC, binD, cmpD, isCmp, unA, unD, lenA, AOp.total, kills, litB, FinQ, resOks, resOk, resA, resList, resOne, A.thaw, C.thaw, A.fits, C.fits, evs, oks, callArgs, A.pure, C.pure, A.re, C.re, fieldAddrA, loadC, cut, A.cells, C.rows?, getOb, newOb, setOb, storeC, splice, Ob.re, Cs.fits, partsA, partsOk, parts2A, parts2Ok, fillC, fillRows, optInt, optOk, sliceA]
    have e : ((s.length : Int) ≤ 2000) = (s.length ≤ 2000) := propext (by omega)
    simp [e]
theorem f17_calls (k : Int) (s : List UInt8) (hs : s.length ≤ reachBytes) (H : Heap) : ACalls Try.prog 17 [.agg [.d (.int .i64 k), .d (.str s)], .c (.d (.int .i64 1048576))] H (fun r H' => H' = H ∧ r = .c (.d (.int .i64 (if 1048576 - (s.length : Int) < 0 then -1 else 1048576 - (s.length : Int))))) := by
  refine acalls Try.func17 (by kernel_rfl) ac17_ok fun hf => ?_
  have hlen := reach_i64 hs
  have hsm := reach_small hs
  have hsub : inR .i64 (1048576 - (s.length : Int)) := small_i64 (by omega) (by omega)
  simp [ac17, hlen, hsub, aw_skip, aw_region, aw_seq, aw_block, aw_cond, aw_exit, aw_ret, kq_nil, kq_seq, kq_seq_ret, kq_seq_exit, kq_block, kq_block_ret, kq_block_exit, kq_loop, kq_loop_ret, kq_loop_exit, awOps_nil, awOps_cons, awOps_guard, nx_eq, awOp, Opd.ev, A.ok, A.val, setSl, wrapG, guardB, getB, pickA, binA, binC, binD, cmpD, isCmp, unA, unD, lenA, AOp.total, kills, litB, FinQ, resOks, resOk, resA, resList, resOne, A.thaw, C.thaw, A.fits, C.fits, evs, oks, callArgs, A.pure, C.pure, A.re, C.re, fieldAddrA, loadC, cut, A.cells, C.rows?, getOb, newOb, setOb, storeC, splice, Ob.re, Cs.fits, partsA, partsOk, parts2A, parts2Ok, fillC, fillRows, optInt, optOk, sliceA]
  omega
theorem f19_calls (k : Int) (s : List UInt8) (H : Heap) : ACalls Try.prog 19 [.agg [.d (.int .i64 k), .d (.str s)]] H (fun r H' => H' = H ∧ r = .agg [.d (.int .i64 k), .d (.str s)]) := by
  refine acalls Try.func19 (by kernel_rfl) ac19_ok fun hf => ?_
  simp [ac19, aw_skip, aw_region, aw_seq, aw_block, aw_cond, aw_exit, aw_ret, kq_nil, kq_seq, kq_seq_ret, kq_seq_exit, kq_block, kq_block_ret, kq_block_exit, kq_loop, kq_loop_ret, kq_loop_exit, awOps_nil, awOps_cons, awOps_guard, nx_eq, awOp, Opd.ev, A.ok, A.val, setSl, wrapG, guardB, getB, pickA, binA, binC, binD, cmpD, isCmp, unA, unD, lenA, AOp.total, kills, litB, FinQ, resOks, resOk, resA, resList, resOne, A.thaw, C.thaw, A.fits, C.fits, evs, oks, callArgs, A.pure, C.pure, A.re, C.re, fieldAddrA, loadC, cut, A.cells, C.rows?, getOb, newOb, setOb, storeC, splice, Ob.re, Cs.fits, partsA, partsOk, parts2A, parts2Ok, fillC, fillRows, optInt, optOk, sliceA]
  exact hf
theorem f5_calls (k : Int) (s : List UInt8) (hs : s.length ≤ reachBytes) : ACalls Try.prog 5 [.agg [.d (.int .i64 k), .d (.str s)]] [] (fun r _ => r = .c (.d (.bool true))) := by
  refine acalls Try.func5 (by kernel_rfl) ac5_ok fun hf => ?_
  simp [ac5, aw_skip, aw_region, aw_seq, aw_block, aw_cond, aw_exit, aw_ret, kq_nil, kq_seq, kq_seq_ret, kq_seq_exit, kq_block, kq_block_ret, kq_block_exit, kq_loop, kq_loop_ret, kq_loop_exit, awOps_nil, awOps_cons, awOps_guard, nx_eq, awOp, Opd.ev, A.ok, A.val, setSl, wrapG, guardB, getB, pickA, binA, binC, binD, cmpD, isCmp, unA, unD, lenA, AOp.total, kills, litB, FinQ, resOks, resOk, resA, resList, resOne, A.thaw, C.thaw, A.fits, C.fits, evs, oks, callArgs, A.pure, C.pure, A.re, C.re, fieldAddrA, loadC, cut, A.cells, C.rows?, getOb, newOb, setOb, storeC, splice, Ob.re, Cs.fits, partsA, partsOk, parts2A, parts2Ok, fillC, fillRows, optInt, optOk, sliceA]
  refine call_same (f17_calls k s hs _) (by simp [Ob.re, C.re]) rfl hf ?_
  simp [aw_skip, aw_region, aw_seq, aw_block, aw_cond, aw_exit, aw_ret, kq_nil, kq_seq, kq_seq_ret, kq_seq_exit, kq_block, kq_block_ret, kq_block_exit, kq_loop, kq_loop_ret, kq_loop_exit, awOps_nil, awOps_cons, awOps_guard, nx_eq, awOp, Opd.ev, A.ok, A.val, setSl, wrapG, guardB, getB, pickA, binA, binC, binD, cmpD, isCmp, unA, unD, lenA, AOp.total, kills, litB, FinQ, resOks, resOk, resA, resList, resOne, A.thaw, C.thaw, A.fits, C.fits, evs, oks, callArgs, A.pure, C.pure, A.re, C.re, fieldAddrA, loadC, cut, A.cells, C.rows?, getOb, newOb, setOb, storeC, splice, Ob.re, Cs.fits, partsA, partsOk, parts2A, parts2Ok, fillC, fillRows, optInt, optOk, sliceA]
  intro h0
  refine call_same (f19_calls k s _) (by simp [Ob.re, C.re]) rfl hf ?_
  simp [aw_skip, aw_region, aw_seq, aw_block, aw_cond, aw_exit, aw_ret, kq_nil, kq_seq, kq_seq_ret, kq_seq_exit, kq_block, kq_block_ret, kq_block_exit, kq_loop, kq_loop_ret, kq_loop_exit, awOps_nil, awOps_cons, awOps_guard, nx_eq, awOp, Opd.ev, A.ok, A.val, setSl, wrapG, guardB, getB, pickA, binA, binC, binD, cmpD, isCmp, unA, unD, lenA, AOp.total, kills, litB, FinQ, resOks, resOk, resA, resList, resOne, A.thaw, C.thaw, A.fits, C.fits, evs, oks, callArgs, A.pure, C.pure, A.re, C.re, fieldAddrA, loadC, cut, A.cells, C.rows?, getOb, newOb, setOb, storeC, splice, Ob.re, Cs.fits, partsA, partsOk, parts2A, parts2Ok, fillC, fillRows, optInt, optOk, sliceA]
  refine call_same (f18_calls k s hs _) (by simp [Ob.re, C.re]) rfl hf ?_
  simp [aw_skip, aw_region, aw_seq, aw_block, aw_cond, aw_exit, aw_ret, kq_nil, kq_seq, kq_seq_ret, kq_seq_exit, kq_block, kq_block_ret, kq_block_exit, kq_loop, kq_loop_ret, kq_loop_exit, awOps_nil, awOps_cons, awOps_guard, nx_eq, awOp, Opd.ev, A.ok, A.val, setSl, wrapG, guardB, getB, pickA, binA, binC, binD, cmpD, isCmp, unA, unD, lenA, AOp.total, kills, litB, FinQ, resOks, resOk, resA, resList, resOne, A.thaw, C.thaw, A.fits, C.fits, evs, oks, callArgs, A.pure, C.pure, A.re, C.re, fieldAddrA, loadC, cut, A.cells, C.rows?, getOb, newOb, setOb, storeC, splice, Ob.re, Cs.fits, partsA, partsOk, parts2A, parts2Ok, fillC, fillRows, optInt, optOk, sliceA]
  refine call_same (f19_calls k s _) (by simp [Ob.re, C.re]) rfl hf ?_
  simp [aw_skip, aw_region, aw_seq, aw_block, aw_cond, aw_exit, aw_ret, kq_nil, kq_seq, kq_seq_ret, kq_seq_exit, kq_block, kq_block_ret, kq_block_exit, kq_loop, kq_loop_ret, kq_loop_exit, awOps_nil, awOps_cons, awOps_guard, nx_eq, awOp, Opd.ev, A.ok, A.val, setSl, wrapG, guardB, getB, pickA, binA, binC, binD, cmpD, isCmp, unA, unD, lenA, AOp.total, kills, litB, FinQ, resOks, resOk, resA, resList, resOne, A.thaw, C.thaw, A.fits, C.fits, evs, oks, callArgs, A.pure, C.pure, A.re, C.re, fieldAddrA, loadC, cut, A.cells, C.rows?, getOb, newOb, setOb, storeC, splice, Ob.re, Cs.fits, partsA, partsOk, parts2A, parts2Ok, fillC, fillRows, optInt, optOk, sliceA]
  refine call_same (f20_calls k s hs _) (by simp [Ob.re, C.re]) rfl hf ?_
  simp [aw_skip, aw_region, aw_seq, aw_block, aw_cond, aw_exit, aw_ret, kq_nil, kq_seq, kq_seq_ret, kq_seq_exit, kq_block, kq_block_ret, kq_block_exit, kq_loop, kq_loop_ret, kq_loop_exit, awOps_nil, awOps_cons, awOps_guard, nx_eq, awOp, Opd.ev, A.ok, A.val, setSl, wrapG, guardB, getB, pickA, binA, binC, binD, cmpD, isCmp, unA, unD, lenA, AOp.total, kills, litB, FinQ, resOks, resOk, resA, resList, resOne, A.thaw, C.thaw, A.fits, C.fits, evs, oks, callArgs, A.pure, C.pure, A.re, C.re, fieldAddrA, loadC, cut, A.cells, C.rows?, getOb, newOb, setOb, storeC, splice, Ob.re, Cs.fits, partsA, partsOk, parts2A, parts2Ok, fillC, fillRows, optInt, optOk, sliceA]
end Go.Proofs.Ytokgioccfeebkaa
