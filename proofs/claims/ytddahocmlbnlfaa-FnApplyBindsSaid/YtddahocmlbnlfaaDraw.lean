/-
  The source of draws: its first functions, each by what it answers.
  Conditions: none.
-/
import Derived.Test.YtddahocmlbnlfaaBytes
open Go Go.AM Go.Proofs
namespace Go.Proofs.Ytddahocmlbnlfaa
open Go.ChangeShapes Go.WideShapes Go.ChangeAt Go.RowKit
set_option linter.unusedVariables false
set_option linter.unusedSimpArgs false
set_option maxRecDepth 100000
-- 49 (*loop.example/prologserver/spec.l18Rd).pick params 2 ntmps 99
def ac49 : Cd := .seq (.region [⟨(some 4), .mv (.k (.c (.d (.int .i64 0)))), none⟩] [4])
  (.seq (.region [⟨(some 7), .mv (.t 0), none⟩,
      ⟨(some 8), .mv (.t 0), none⟩,
      ⟨(some 9), .nilCheck (.t 8), none⟩,
      ⟨(some 10), .fieldAddr 1 (.t 9), none⟩,
      ⟨(some 11), .load none (.t 10), none⟩,
      ⟨(some 12), .bin .add (.t 11) (.k (.c (.d (.int .i64 1)))), none⟩,
      ⟨(some 13), .nilCheck (.t 7), none⟩,
      ⟨(some 14), .fieldAddr 1 (.t 13), none⟩,
      ⟨none, .store 1 (.t 14) (.t 12), none⟩] [7, 8, 9, 10, 11, 12, 13, 14])
  (.seq (.seq (.region [⟨(some 15), .mv (.t 1), none⟩,
        ⟨(some 16), .bin .lss (.t 15) (.k (.c (.d (.int .i64 1)))), none⟩,
        ⟨(some 17), .mv (.t 16), none⟩,
        ⟨(some 18), .mv (.t 0), some (17, false)⟩,
        ⟨(some 19), .nilCheck (.t 18), some (17, false)⟩,
        ⟨(some 20), .fieldAddr 0 (.t 19), some (17, false)⟩,
        ⟨(some 21), .load none (.t 20), some (17, false)⟩,
        ⟨(some 22), .len 1 (.t 21), some (17, false)⟩,
        ⟨(some 23), .bin .eql (.t 22) (.k (.c (.d (.int .i64 0)))), some (17, false)⟩,
        ⟨(some 24), .pick (.t 17) (.k (.c (.d (.bool true)))) (.t 23), none⟩] [15, 16, 17, 18, 19, 20, 21, 22, 23])
    (.cond (.t 24)
      (.seq (.region [⟨(some 4), .mv (.k (.c (.d (.int .i64 0)))), none⟩] [0, 1, 24])
      (.ret))
      (.skip)))
  (.seq (.region [⟨(some 25), .mv (.t 0), none⟩,
      ⟨(some 26), .nilCheck (.t 25), none⟩,
      ⟨(some 27), .fieldAddr 1 (.t 26), none⟩,
      ⟨(some 28), .load none (.t 27), none⟩,
      ⟨(some 29), .bin .sub (.t 28) (.k (.c (.d (.int .i64 1)))), none⟩,
      ⟨(some 5), .mv (.t 29), none⟩] [4, 24, 25, 26, 27, 28, 29])
  (.seq (.seq (.region [⟨(some 30), .mv (.t 5), none⟩,
        ⟨(some 31), .mv (.t 0), none⟩,
        ⟨(some 32), .nilCheck (.t 31), none⟩,
        ⟨(some 33), .fieldAddr 0 (.t 32), none⟩,
        ⟨(some 34), .load none (.t 33), none⟩,
        ⟨(some 35), .len 1 (.t 34), none⟩,
        ⟨(some 36), .bin .lss (.t 30) (.t 35), none⟩] [30, 31, 32, 33, 34, 35])
    (.cond (.t 36)
      (.seq (.region [⟨(some 37), .mv (.t 0), none⟩,
          ⟨(some 38), .nilCheck (.t 37), none⟩,
          ⟨(some 39), .fieldAddr 0 (.t 38), none⟩,
          ⟨(some 40), .load none (.t 39), none⟩,
          ⟨(some 41), .mv (.t 5), none⟩,
          ⟨(some 42), .indexAddr 1 (.t 40) (.t 41), none⟩,
          ⟨(some 43), .load none (.t 42), none⟩,
          ⟨(some 44), .cvInt .i64 (.t 43), none⟩,
          ⟨(some 45), .mv (.t 1), none⟩,
          ⟨(some 46), .bin .rem (.t 44) (.t 45), none⟩,
          ⟨(some 4), .mv (.t 46), none⟩] [0, 1, 5, 36, 37, 38, 39, 40, 41, 42, 43, 44, 45, 46])
      (.ret))
      (.skip)))
  (.seq (.region [⟨(some 47), .mv (.t 0), none⟩,
      ⟨(some 48), .nilCheck (.t 47), none⟩,
      ⟨(some 49), .fieldAddr 0 (.t 48), none⟩,
      ⟨(some 51), .mv (.t 5), none⟩,
      ⟨(some 52), .mv (.t 0), none⟩,
      ⟨(some 53), .nilCheck (.t 52), none⟩,
      ⟨(some 54), .fieldAddr 0 (.t 53), none⟩,
      ⟨(some 62), .mv (.t 0), none⟩,
      ⟨(some 63), .nilCheck (.t 62), none⟩,
      ⟨(some 64), .fieldAddr 0 (.t 63), none⟩,
      ⟨(some 66), .mv (.t 5), none⟩,
      ⟨(some 67), .bin .mul (.t 66) (.k (.c (.d (.int .i64 7)))), none⟩,
      ⟨(some 68), .bin .add (.t 67) (.k (.c (.d (.int .i64 3)))), none⟩,
      ⟨(some 69), .mv (.t 0), none⟩,
      ⟨(some 70), .nilCheck (.t 69), none⟩,
      ⟨(some 71), .fieldAddr 0 (.t 70), none⟩,
      ⟨(some 80), .mv (.t 5), none⟩,
      ⟨(some 81), .bin .mul (.t 80) (.k (.c (.d (.int .i64 29)))), none⟩,
      ⟨(some 83), .mv (.t 5), none⟩,
      ⟨(some 84), .mv (.t 0), none⟩,
      ⟨(some 85), .nilCheck (.t 84), none⟩,
      ⟨(some 86), .fieldAddr 0 (.t 85), none⟩,
      ⟨(some 50), .load none (.t 49), none⟩,
      ⟨(some 55), .load none (.t 54), none⟩,
      ⟨(some 56), .len 1 (.t 55), none⟩,
      ⟨(some 57), .bin .rem (.t 51) (.t 56), none⟩,
      ⟨(some 58), .indexAddr 1 (.t 50) (.t 57), none⟩,
      ⟨(some 59), .load none (.t 58), none⟩,
      ⟨(some 60), .cvInt .i64 (.t 59), none⟩,
      ⟨(some 61), .bin .mul (.t 60) (.k (.c (.d (.int .i64 131)))), none⟩,
      ⟨(some 65), .load none (.t 64), none⟩,
      ⟨(some 72), .load none (.t 71), none⟩,
      ⟨(some 73), .len 1 (.t 72), none⟩,
      ⟨(some 74), .bin .rem (.t 68) (.t 73), none⟩,
      ⟨(some 75), .indexAddr 1 (.t 65) (.t 74), none⟩,
      ⟨(some 76), .load none (.t 75), none⟩,
      ⟨(some 77), .cvInt .i64 (.t 76), none⟩,
      ⟨(some 78), .bin .mul (.t 77) (.k (.c (.d (.int .i64 1117)))), none⟩,
      ⟨(some 79), .bin .add (.t 61) (.t 78), none⟩,
      ⟨(some 82), .bin .add (.t 79) (.t 81), none⟩,
      ⟨(some 87), .load none (.t 86), none⟩,
      ⟨(some 88), .len 1 (.t 87), none⟩,
      ⟨(some 89), .bin .quo (.t 83) (.t 88), none⟩,
      ⟨(some 90), .bin .mul (.t 89) (.k (.c (.d (.int .i64 53)))), none⟩,
      ⟨(some 91), .bin .add (.t 82) (.t 90), none⟩,
      ⟨(some 6), .mv (.t 91), none⟩] [0, 4, 5, 36, 47, 48, 49, 50, 51, 52, 53, 54, 55, 56, 57, 58, 59, 60, 61, 62, 63, 64, 65, 66, 67, 68, 69, 70, 71, 72, 73, 74, 75, 76, 77, 78, 79, 80, 81, 82, 83, 84, 85, 86, 87, 88, 89, 90, 91])
  (.seq (.region [⟨(some 92), .mv (.t 6), none⟩,
      ⟨(some 93), .mv (.t 6), none⟩,
      ⟨(some 94), .bin .quo (.t 93) (.k (.c (.d (.int .i64 64)))), none⟩,
      ⟨(some 95), .bin .xor (.t 92) (.t 94), none⟩,
      ⟨(some 6), .mv (.t 95), none⟩] [92, 93, 94, 95])
  (.seq (.region [⟨(some 96), .mv (.t 6), none⟩,
      ⟨(some 97), .mv (.t 1), none⟩,
      ⟨(some 98), .bin .rem (.t 96) (.t 97), none⟩,
      ⟨(some 4), .mv (.t 98), none⟩] [1, 6, 96, 97, 98])
  (.ret))))))))
theorem ac49_ok : cFunc Try.prog [] [(0, [4], []), (1, [7, 8, 9, 10, 11, 12, 13, 14], []), (2, [15, 16, 17, 18, 19, 20, 21, 22, 23], []), (3, [0, 1, 24], []), (4, [4, 24, 25, 26, 27, 28, 29], []), (5, [30, 31, 32, 33, 34, 35], []), (6, [0, 1, 5, 36, 37, 38, 39, 40, 41, 42, 43, 44, 45, 46], []), (7, [0, 4, 5, 36, 47, 48, 49, 50, 51, 52, 53, 54, 55, 56, 57, 58, 59, 60, 61, 62, 63, 64, 65, 66, 67, 68, 69, 70, 71, 72, 73, 74, 75, 76, 77, 78, 79, 80, 81, 82, 83, 84, 85, 86, 87, 88, 89, 90, 91], [0, 1, 2, 4, 5, 6, 7, 15, 16, 17, 19, 20, 21, 22, 23, 24, 33, 34, 36, 37, 38, 39, 3, 8, 9, 10, 11, 12, 13, 14, 18, 25, 26, 27, 28, 29, 30, 31, 32, 35, 40, 41, 42, 43, 44, 45]), (8, [92, 93, 94, 95], []), (9, [1, 6, 96, 97, 98], [])] Try.f49 = some (ac49, [.tmp 4], 99) := by kernel_rfl
-- 20 loop.example/prologserver/spec.l18Open params 1 ntmps 11
def ac20 : Cd := .seq (.region [⟨(some 2), .mv (.k (.c (.d (.v (.pointer none))))), none⟩] [2])
  (.seq (.seq (.region [⟨(some 3), .mv (.t 0), none⟩,
        ⟨(some 4), .len 1 (.t 3), none⟩,
        ⟨(some 5), .bin .gtr (.t 4) (.k (.c (.d (.int .i64 2000)))), none⟩] [3, 4])
    (.cond (.t 5)
      (.region [⟨(some 6), .mv (.t 0), none⟩,
        ⟨(some 7), .slice 1 (.t 6) none (some (.k (.c (.d (.int .i64 2000))))) none, none⟩,
        ⟨(some 0), .mv (.t 7), none⟩] [5, 6, 7])
      (.skip)))
  (.seq (.region [⟨(some 8), .mv (.t 0), none⟩,
      ⟨(some 9), .build [(.full []), (.d (.int .i64 0))] [(0, 1, (.t 8))], none⟩,
      ⟨(some 10), .box (.t 9), none⟩,
      ⟨(some 2), .mv (.t 10), none⟩] [0, 5, 8, 9, 10])
  (.ret)))
theorem ac20_ok : cFunc Try.prog [] [(0, [2], []), (1, [3, 4], []), (2, [5, 6, 7], []), (3, [0, 5, 8, 9, 10], [])] Try.f20 = some (ac20, [.tmp 2], 11) := by kernel_rfl
-- 23 (*loop.example/prologserver/spec.l18Rd).num params 2 ntmps 12
def ac23 : Cd := .seq (.region [⟨(some 4), .mv (.k (.c (.d (.int .i64 0)))), none⟩] [4])
  (.seq (.region [⟨(some 5), .mv (.t 1), none⟩,
      ⟨(some 6), .mv (.t 0), none⟩,
      ⟨(some 7), .mv (.t 1), none⟩,
      ⟨(some 8), .len 1 (.t 7), none⟩,
      ⟨(some 9), .call false 49 [(.t 6), (.t 8)], none⟩,
      ⟨(some 10), .indexAddr 1 (.t 5) (.t 9), none⟩,
      ⟨(some 11), .load none (.t 10), none⟩,
      ⟨(some 4), .mv (.t 11), none⟩] [0, 1, 5, 6, 7, 8, 9, 10, 11])
  (.ret))
theorem ac23_ok : cFunc Try.prog [] [(0, [4], []), (1, [0, 1, 5, 6, 7, 8, 9, 10, 11], [])] Try.f23 = some (ac23, [.tmp 4], 12) := by kernel_rfl
/-- a source of draws, at a place -/
def Rd (c : List UInt8) (p : Int) : Ob := .cells [.d (.sl (bytesRows c)), .d (.int .i64 p)]
theorem xor_small {x y : Int} (hx : 0 ≤ x) (hx1 : x < 1099511627776) (hy : 0 ≤ y) (hy1 : y < 1099511627776) : 0 ≤ bitsVal .xor .i64 x y ∧ bitsVal .xor .i64 x y < 1099511627776 := by
  obtain ⟨a, rfl⟩ := Int.eq_ofNat_of_zero_le hx
  obtain ⟨b, rfl⟩ := Int.eq_ofNat_of_zero_le hy
  have hx : a < 2 ^ 40 := by omega
  have hy : b < 2 ^ 40 := by omega
  have hxor : a ^^^ b < 2 ^ 40 := Nat.xor_lt_two_pow hx hy
  have e : ((BitVec.ofInt 64 (a : Int)) ^^^ (BitVec.ofInt 64 (b : Int))).toNat = a ^^^ b := by
    rw [BitVec.toNat_xor]
    have h1 : (BitVec.ofInt 64 (a : Int)).toNat = a := by rw [BitVec.ofInt_natCast, BitVec.toNat_ofNat, Nat.mod_eq_of_lt (by omega)]
    have h2 : (BitVec.ofInt 64 (b : Int)).toNat = b := by rw [BitVec.ofInt_natCast, BitVec.toNat_ofNat, Nat.mod_eq_of_lt (by omega)]
    rw [h1, h2]
  have : bitsVal .xor .i64 (a : Int) (b : Int) = ((a ^^^ b : Nat) : Int) := by
    show IntKind.wrap .i64 (((BitVec.ofInt 64 (a : Int)) ^^^ (BitVec.ofInt 64 (b : Int))).toNat : Int) = _
    rw [e, IntKind.wrap_i64]
    omega
  rw [this]
  omega
theorem pick_calls (c : List UInt8) (hc : c.length ≤ 2000) (p m : Int) (hp : 0 ≤ p) (hp1 : p ≤ 1000000) (hm : -1000000000 ≤ m ∧ m ≤ 1000000000) (H : Heap) (i : Nat) (hi : i < H.length) :
    ACalls Try.prog 49 [.c (.ptr (.e i) 0), .c (.d (.int .i64 m))] (H.set i (Rd c p)) (fun r H' => ∃ k : Int, r = .c (.d (.int .i64 k)) ∧ 0 ≤ k ∧ (0 < m → k < m) ∧ H' = H.set i (Rd c (p + 1))) := by
  refine acalls Try.func49 (by kernel_rfl) ac49_ok fun hf => ?_
  have hadd : inR .i64 (p + 1) := small_i64 (by omega) (by omega)
  have hl : inR .i64 (c.length : Int) := small_i64 (by omega) (by omega)
  have hi64 : inR .i64 p := small_i64 (by omega) (by omega)
  simp only [List.length_set] at hf
  simp -implicitDefEqProofs [ac49, Rd, hadd, hl, hi64, hi, List.getElem?_set, bytesRows_len, aw_skip, aw_region, aw_seq, aw_block, aw_cond, aw_exit, aw_ret, kq_nil, kq_seq, kq_seq_ret, kq_seq_exit, kq_block, kq_block_ret, kq_block_exit, kq_loop, kq_loop_ret, kq_loop_exit, awOps_nil, awOps_cons, awOps_guardE, nx_eq, awOp, ev_k, ev_0, ev_1, ev_2, ev_3, ev_4, ev_5, ev_6, ev_7, ev_8, set_0, set_1, set_2, set_3, set_4, set_5, set_6, set_7, set_8, -List.set_cons_succ, -List.set_cons_zero, A.ok, A.val, setSl, wrapG, guardB, getB, pickA, binA, binC, binD, cmpD, isCmp, unA, unD, lenA, AOp.total, kills, litB, FinQ, resOks, resOk, resA, resList, resOne, A.thaw, C.thaw, A.fits, As.fits, C.fits, evs, oks, callArgs, A.pure, C.pure, A.re, C.re, fieldAddrA, loadC, cut, A.cells, C.rows?, getOb, newOb, setOb, storeC, splice, Ob.re, Cs.fits, partsA, partsOk, parts2A, parts2Ok, fillC, fillRows, optInt, optOk, sliceA, clipC, optK_some, storeK_some, Option.map_some, toDs, C.toD, spliceD, appendA, capsOf, srcRows, allLen_nil_iff, allLen_cons_iff, allLen_append_iff, dropC, Obs.fits, eqCs, eqD, mapRow, mapPut, mapVal, mapOne, mapCells]
  have hfit : Obs.fits H.length 0 (H.set i (.cells [.d (.sl (bytesRows c)), .d (.int .i64 (p + 1))])) := fits_reset hf ⟨trivial, trivial, trivial⟩
  refine ⟨hfit, fun h1 hc0 => ⟨fun h2 => ?_, fun h2 => ?_⟩⟩
  · refine byteRow hp (by omega) ?_
    simp -implicitDefEqProofs [u8_i64, aw_skip, aw_region, aw_seq, aw_block, aw_cond, aw_exit, aw_ret, kq_nil, kq_seq, kq_seq_ret, kq_seq_exit, kq_block, kq_block_ret, kq_block_exit, kq_loop, kq_loop_ret, kq_loop_exit, awOps_nil, awOps_cons, awOps_guardE, nx_eq, awOp, ev_k, ev_0, ev_1, ev_2, ev_3, ev_4, ev_5, ev_6, ev_7, ev_8, set_0, set_1, set_2, set_3, set_4, set_5, set_6, set_7, set_8, -List.set_cons_succ, -List.set_cons_zero, A.ok, A.val, setSl, wrapG, guardB, getB, pickA, binA, binC, binD, cmpD, isCmp, unA, unD, lenA, AOp.total, kills, litB, FinQ, resOks, resOk, resA, resList, resOne, A.thaw, C.thaw, A.fits, As.fits, C.fits, evs, oks, callArgs, A.pure, C.pure, A.re, C.re, fieldAddrA, loadC, cut, A.cells, C.rows?, getOb, newOb, setOb, storeC, splice, Ob.re, Cs.fits, partsA, partsOk, parts2A, parts2Ok, fillC, fillRows, optInt, optOk, sliceA, clipC, optK_some, storeK_some, Option.map_some, toDs, C.toD, spliceD, appendA, capsOf, srcRows, allLen_nil_iff, allLen_cons_iff, allLen_append_iff, dropC, Obs.fits, eqCs, eqD, mapRow, mapPut, mapVal, mapOne, mapCells]
    refine ⟨by omega, Int.tmod_nonneg _ (by omega), fun h => Int.tmod_lt_of_pos _ h⟩
  · have hcl : 0 < c.length := by cases c with | nil => exact absurd rfl hc0 | cons a l => simp
    refine ⟨small_i64 (by omega) (by omega), small_i64 (by omega) (by omega), small_i64 (by omega) (by omega), hc0, ?_⟩
    have hm1 := Int.tmod_nonneg (a := p) (c.length : Int) hp
    have hm2 := Int.tmod_lt_of_pos p (b := (c.length : Int)) (by omega)
    refine byteRow hm1 (by omega) ?_
    have hb1 := (c[(p.tmod ↑c.length).toNat]'(by omega)).toNat_lt
    have hq : 0 ≤ (p * 7 + 3).tmod (c.length : Int) := Int.tmod_nonneg _ (by omega)
    have hq2 := Int.tmod_lt_of_pos (p * 7 + 3) (b := (c.length : Int)) (by omega)
    simp -implicitDefEqProofs [u8_i64, hcl, hi, hl, bytesRows_len, bytesRows_nil, hc0, List.getElem?_set, aw_skip, aw_region, aw_seq, aw_block, aw_cond, aw_exit, aw_ret, kq_nil, kq_seq, kq_seq_ret, kq_seq_exit, kq_block, kq_block_ret, kq_block_exit, kq_loop, kq_loop_ret, kq_loop_exit, awOps_nil, awOps_cons, awOps_guardE, nx_eq, awOp, ev_k, ev_0, ev_1, ev_2, ev_3, ev_4, ev_5, ev_6, ev_7, ev_8, set_0, set_1, set_2, set_3, set_4, set_5, set_6, set_7, set_8, -List.set_cons_succ, -List.set_cons_zero, A.ok, A.val, setSl, wrapG, guardB, getB, pickA, binA, binC, binD, cmpD, isCmp, unA, unD, lenA, AOp.total, kills, litB, FinQ, resOks, resOk, resA, resList, resOne, A.thaw, C.thaw, A.fits, As.fits, C.fits, evs, oks, callArgs, A.pure, C.pure, A.re, C.re, fieldAddrA, loadC, cut, A.cells, C.rows?, getOb, newOb, setOb, storeC, splice, Ob.re, Cs.fits, partsA, partsOk, parts2A, parts2Ok, fillC, fillRows, optInt, optOk, sliceA, clipC, optK_some, storeK_some, Option.map_some, toDs, C.toD, spliceD, appendA, capsOf, srcRows, allLen_nil_iff, allLen_cons_iff, allLen_append_iff, dropC, Obs.fits, eqCs, eqD, mapRow, mapPut, mapVal, mapOne, mapCells]
    refine ⟨small_i64 (by omega) (by omega), byteRow hq (by omega) ?_⟩
    have hb2 := (c[((p * 7 + 3).tmod ↑c.length).toNat]'(by omega)).toNat_lt
    have hd0 : 0 ≤ p.tdiv (c.length : Int) := Int.tdiv_nonneg hp (by omega)
    have hd1 : p.tdiv (c.length : Int) ≤ p := Int.tdiv_le_self _ hp
    generalize ((c[(p.tmod ↑c.length).toNat]'(by omega)).toNat : Nat) = b1 at hb1
    generalize ((c[((p * 7 + 3).tmod ↑c.length).toNat]'(by omega)).toNat : Nat) = b2 at hb2
    generalize hdd : p.tdiv (c.length : Int) = d at hd0 hd1
    have i1 : inR .i64 ((b2 : Int) * 1117) := small_i64 (by omega) (by omega)
    have i2 : inR .i64 ((b1 : Int) * 131 + (b2 : Int) * 1117) := small_i64 (by omega) (by omega)
    have i3 : inR .i64 ((b1 : Int) * 131 + (b2 : Int) * 1117 + p * 29) := small_i64 (by omega) (by omega)
    have i4 : inR .i64 d := small_i64 (by omega) (by omega)
    have i5 : inR .i64 (d * 53) := small_i64 (by omega) (by omega)
    have i6 : inR .i64 ((b1 : Int) * 131 + (b2 : Int) * 1117 + p * 29 + d * 53) := small_i64 (by omega) (by omega)
    have hw : IntKind.wrap .i64 (b2 : Int) = b2 := by rw [IntKind.wrap_i64]; omega
    generalize hX : (b1 : Int) * 131 + (b2 : Int) * 1117 + p * 29 + d * 53 = X at i6
    have hx0 : 0 ≤ X := by omega
    have hx1 : X < 1099511627776 := by omega
    have j1 : 0 ≤ X.tdiv 64 := Int.tdiv_nonneg hx0 (by omega)
    have j2 : X.tdiv 64 ≤ X := Int.tdiv_le_self _ hx0
    obtain ⟨k1, k2⟩ := xor_small hx0 hx1 j1 (by omega)
    have i7 : inR .i64 (X.tdiv 64) := small_i64 (by omega) (by omega)
    simp -implicitDefEqProofs [hw, hcl, hi, hl, hdd, i1, i2, i3, i4, i5, hX, i6, i7, bytesRows_len, bytesRows_nil, hc0, List.getElem?_set, aw_skip, aw_region, aw_seq, aw_block, aw_cond, aw_exit, aw_ret, kq_nil, kq_seq, kq_seq_ret, kq_seq_exit, kq_block, kq_block_ret, kq_block_exit, kq_loop, kq_loop_ret, kq_loop_exit, awOps_nil, awOps_cons, awOps_guardE, nx_eq, awOp, ev_k, ev_0, ev_1, ev_2, ev_3, ev_4, ev_5, ev_6, ev_7, ev_8, set_0, set_1, set_2, set_3, set_4, set_5, set_6, set_7, set_8, -List.set_cons_succ, -List.set_cons_zero, A.ok, A.val, setSl, wrapG, guardB, getB, pickA, binA, binC, binD, cmpD, isCmp, unA, unD, lenA, AOp.total, kills, litB, FinQ, resOks, resOk, resA, resList, resOne, A.thaw, C.thaw, A.fits, As.fits, C.fits, evs, oks, callArgs, A.pure, C.pure, A.re, C.re, fieldAddrA, loadC, cut, A.cells, C.rows?, getOb, newOb, setOb, storeC, splice, Ob.re, Cs.fits, partsA, partsOk, parts2A, parts2Ok, fillC, fillRows, optInt, optOk, sliceA, clipC, optK_some, storeK_some, Option.map_some, toDs, C.toD, spliceD, appendA, capsOf, srcRows, allLen_nil_iff, allLen_cons_iff, allLen_append_iff, dropC, Obs.fits, eqCs, eqD, mapRow, mapPut, mapVal, mapOne, mapCells]
    exact ⟨by omega, Int.tmod_nonneg _ k1, fun h => Int.tmod_lt_of_pos _ h⟩

/-- what a function that draws gives: its source stands behind where it stood -/
def Drew (R : A → Prop) (N : Int) (c : List UInt8) (p : Int) (H : Heap) (i : Nat) (r : A) (H' : Heap) : Prop := R r ∧ ∃ p', p ≤ p' ∧ p' ≤ p + N ∧ H' = H.set i (Rd c p')
/-- what a function that draws is shown to give -/
def Draws (f : FuncId) (xs : List A) (N : Int) (R : A → Prop) : Prop :=
  ∀ (c : List UInt8) (p : Int) (H : Heap) (i : Nat), c.length ≤ 2000 → 0 ≤ p → p + N ≤ 1000000 → i < H.length → ACalls Try.prog f (.c (.ptr (.e i) 0) :: xs) (H.set i (Rd c p)) (Drew R N c p H i)
/-- an integer in a range -/
def IntIn (lo hi : Int) (r : A) : Prop := ∃ k : Int, r = .c (.d (.int .i64 k)) ∧ lo ≤ k ∧ k < hi
theorem pick_draws (m : Int) (hm : 1 ≤ m ∧ m ≤ 1000000000) : Draws 49 [.c (.d (.int .i64 m))] 1 (IntIn 0 m) := fun c p H i hc hp hp1 hi =>
  (pick_calls c hc p m hp (by omega) ⟨by omega, hm.2⟩ H i hi).mono fun r H' ⟨k, h1, h2, h3, h4⟩ => ⟨⟨k, h1, h2, h3 (by omega)⟩, p + 1, by omega, by omega, h4⟩

/-- a call that draws from a source that was handed in -/
theorem call_drawE {f : FuncId} {xs : List A} {N : Int} {R : A → Prop} (hd : Draws f xs N R) {c : List UInt8} {p : Int} {H : Heap} {i : Nat} {sl : List A} {loc H₂ : Heap} {K : A → St → Prop} (hc : c.length ≤ 2000) (hp : 0 ≤ p) (hp1 : p + N ≤ 1000000) (hi : i < H.length)
    (hH : H₂ = H.set i (Rd c p) ++ loc.map (Ob.re H.length)) (hr : ∀ r, R r → A.re H.length r = r) (hf : Obs.fits H.length 0 (H.set i (Rd c p))) (hk : ∀ r p', R r → p ≤ p' → p' ≤ p + N → K r ⟨sl, H.set i (Rd c p'), loc⟩) :
    ACalls Try.prog f (.c (.ptr (.e i) 0) :: xs) H₂ (CallK K ⟨sl, H.set i (Rd c p), loc⟩) := by
  subst hH
  have h := hd c p (H ++ loc.map (Ob.re H.length)) i hc hp hp1 (by simp; omega)
  rw [List.set_append_left _ _ hi] at h
  refine h.mono fun r H' ⟨h1, p', h2, h3, h4⟩ => ?_
  rw [List.set_append_left _ _ hi] at h4
  exact ⟨H.set i (Rd c p'), loc, r, by simpa using h4, by simp, Nat.le_refl _, by simpa using fits_reset (b := Rd c p') hf ⟨trivial, trivial, trivial⟩, by simpa using (hr r h1).symm, hk r p' h1 h2 h3⟩
/-- a call that draws from an own source, the first own object -/
theorem call_drawL {f : FuncId} {xs : List A} {N : Int} {R : A → Prop} (hd : Draws f xs N R) {c : List UInt8} {p : Int} {H : Heap} {sl : List A} {loc H₂ : Heap} {j : Nat} {K : A → St → Prop} (hc : c.length ≤ 2000) (hp : 0 ≤ p) (hp1 : p + N ≤ 1000000) (hj : loc[j]? = some (Rd c p))
    (hH : H₂ = H ++ loc.map (Ob.re H.length)) (hr : ∀ r, R r → A.re H.length r = r) (hf : Obs.fits H.length 0 H) (hk : ∀ r p', R r → p ≤ p' → p' ≤ p + N → K r ⟨sl, H, loc.set j (Rd c p')⟩) :
    ACalls Try.prog f (.c (.ptr (.e (H.length + j)) 0) :: xs) H₂ (CallK K ⟨sl, H, loc⟩) := by
  subst hH
  have hjl : j < loc.length := (List.getElem?_eq_some_iff.1 hj).1
  have h := hd c p (H ++ loc.map (Ob.re H.length)) (H.length + j) hc hp hp1 (by simp; omega)
  have e : ∀ q, (H ++ loc.map (Ob.re H.length)).set (H.length + j) (Rd c q) = H ++ (loc.set j (Rd c q)).map (Ob.re H.length) := fun q => by
    rw [List.set_append_right _ _ (by omega), Nat.add_sub_cancel_left, List.map_set]
    rfl
  have e0 : loc.set j (Rd c p) = loc := by
    apply List.ext_getElem?
    intro k
    rw [List.getElem?_set]
    split
    · rename_i h; subst h; rw [hj]
    · rfl
  rw [e, e0] at h
  refine h.mono fun r H' ⟨h1, p', h2, h3, h4⟩ => ?_
  rw [e] at h4
  exact ⟨H, loc.set j (Rd c p'), r, h4, rfl, by simp, hf, (hr r h1).symm, hk r p' h1 h2 h3⟩
theorem IntIn.re {lo hi : Int} {n : Nat} {r : A} (h : IntIn lo hi r) : A.re n r = r := by
  obtain ⟨k, rfl, _⟩ := h
  rfl

theorem num_draws (l : List Int) (hl : 1 ≤ l.length ∧ l.length ≤ 1000) : Draws 23 [.c (.d (.sl (l.map fun n => [.int .i64 n])))] 1 (fun r => ∃ n ∈ l, r = .c (.d (.int .i64 n))) := fun c p H i hc hp hp1 hi => by
  refine acalls Try.func23 (by kernel_rfl) ac23_ok fun hf => ?_
  simp only [List.length_set] at hf
  have hll : inR .i64 (l.length : Int) := small_i64 (by omega) (by omega)
  simp -implicitDefEqProofs [ac23, hll, aw_skip, aw_region, aw_seq, aw_block, aw_cond, aw_exit, aw_ret, kq_nil, kq_seq, kq_seq_ret, kq_seq_exit, kq_block, kq_block_ret, kq_block_exit, kq_loop, kq_loop_ret, kq_loop_exit, awOps_nil, awOps_cons, awOps_guardE, nx_eq, awOp, ev_k, ev_0, ev_1, ev_2, ev_3, ev_4, ev_5, ev_6, ev_7, ev_8, set_0, set_1, set_2, set_3, set_4, set_5, set_6, set_7, set_8, -List.set_cons_succ, -List.set_cons_zero, A.ok, A.val, setSl, wrapG, guardB, getB, pickA, binA, binC, binD, cmpD, isCmp, unA, unD, lenA, AOp.total, kills, litB, FinQ, resOks, resOk, resA, resList, resOne, A.thaw, C.thaw, A.fits, As.fits, C.fits, evs, oks, callArgs, A.pure, C.pure, A.re, C.re, fieldAddrA, loadC, cut, A.cells, C.rows?, getOb, newOb, setOb, storeC, splice, Ob.re, Cs.fits, partsA, partsOk, parts2A, parts2Ok, fillC, fillRows, optInt, optOk, sliceA, clipC, optK_some, storeK_some, Option.map_some, toDs, C.toD, spliceD, appendA, capsOf, srcRows, allLen_nil_iff, allLen_cons_iff, allLen_append_iff, dropC, Obs.fits, eqCs, eqD, mapRow, mapPut, mapVal, mapOne, mapCells]
  refine call_drawE (pick_draws l.length ⟨by omega, by omega⟩) hc hp hp1 hi (by simp) (fun r => IntIn.re) hf ?_
  rintro _ p' ⟨k, rfl, h1, h2⟩ h3 h4
  simp -implicitDefEqProofs [aw_skip, aw_region, aw_seq, aw_block, aw_cond, aw_exit, aw_ret, kq_nil, kq_seq, kq_seq_ret, kq_seq_exit, kq_block, kq_block_ret, kq_block_exit, kq_loop, kq_loop_ret, kq_loop_exit, awOps_nil, awOps_cons, awOps_guardE, nx_eq, awOp, ev_k, ev_0, ev_1, ev_2, ev_3, ev_4, ev_5, ev_6, ev_7, ev_8, set_0, set_1, set_2, set_3, set_4, set_5, set_6, set_7, set_8, -List.set_cons_succ, -List.set_cons_zero, A.ok, A.val, setSl, wrapG, guardB, getB, pickA, binA, binC, binD, cmpD, isCmp, unA, unD, lenA, AOp.total, kills, litB, FinQ, resOks, resOk, resA, resList, resOne, A.thaw, C.thaw, A.fits, As.fits, C.fits, evs, oks, callArgs, A.pure, C.pure, A.re, C.re, fieldAddrA, loadC, cut, A.cells, C.rows?, getOb, newOb, setOb, storeC, splice, Ob.re, Cs.fits, partsA, partsOk, parts2A, parts2Ok, fillC, fillRows, optInt, optOk, sliceA, clipC, optK_some, storeK_some, Option.map_some, toDs, C.toD, spliceD, appendA, capsOf, srcRows, allLen_nil_iff, allLen_cons_iff, allLen_append_iff, dropC, Obs.fits, eqCs, eqD, mapRow, mapPut, mapVal, mapOne, mapCells]
  have hk : k.toNat < l.length := by omega
  refine row_int [.int .i64 l[k.toNat]] h1 (by simp [hk]) rfl ?_
  simp -implicitDefEqProofs [aw_skip, aw_region, aw_seq, aw_block, aw_cond, aw_exit, aw_ret, kq_nil, kq_seq, kq_seq_ret, kq_seq_exit, kq_block, kq_block_ret, kq_block_exit, kq_loop, kq_loop_ret, kq_loop_exit, awOps_nil, awOps_cons, awOps_guardE, nx_eq, awOp, ev_k, ev_0, ev_1, ev_2, ev_3, ev_4, ev_5, ev_6, ev_7, ev_8, set_0, set_1, set_2, set_3, set_4, set_5, set_6, set_7, set_8, -List.set_cons_succ, -List.set_cons_zero, A.ok, A.val, setSl, wrapG, guardB, getB, pickA, binA, binC, binD, cmpD, isCmp, unA, unD, lenA, AOp.total, kills, litB, FinQ, resOks, resOk, resA, resList, resOne, A.thaw, C.thaw, A.fits, As.fits, C.fits, evs, oks, callArgs, A.pure, C.pure, A.re, C.re, fieldAddrA, loadC, cut, A.cells, C.rows?, getOb, newOb, setOb, storeC, splice, Ob.re, Cs.fits, partsA, partsOk, parts2A, parts2Ok, fillC, fillRows, optInt, optOk, sliceA, clipC, optK_some, storeK_some, Option.map_some, toDs, C.toD, spliceD, appendA, capsOf, srcRows, allLen_nil_iff, allLen_cons_iff, allLen_append_iff, dropC, Obs.fits, eqCs, eqD, mapRow, mapPut, mapVal, mapOne, mapCells]
  exact ⟨⟨_, List.getElem_mem hk, rfl⟩, p', h3, h4, rfl⟩
theorem open_calls (c : List UInt8) (hc : c.length ≤ 1048576) (H : Heap) : ACalls Try.prog 20 [.c (.d (.sl (bytesRows c)))] H (fun r H' => r = .c (.ptr (.e H.length) 0) ∧ ∃ c' : List UInt8, c'.length ≤ 2000 ∧ H' = H ++ [Rd c' 0]) := by
  refine acallsK Try.func20 (by kernel_rfl) ac20_ok fun hf => ?_
  have hl : inR .i64 (c.length : Int) := small_i64 (by omega) (by omega)
  simp -implicitDefEqProofs [ac20, hl, bytesRows_len, aw_skip, aw_region, aw_seq, aw_block, aw_cond, aw_exit, aw_ret, kq_nil, kq_seq, kq_seq_ret, kq_seq_exit, kq_block, kq_block_ret, kq_block_exit, kq_loop, kq_loop_ret, kq_loop_exit, awOps_nil, awOps_cons, awOps_guardE, nx_eq, awOp, ev_k, ev_0, ev_1, ev_2, ev_3, ev_4, ev_5, ev_6, ev_7, ev_8, set_0, set_1, set_2, set_3, set_4, set_5, set_6, set_7, set_8, -List.set_cons_succ, -List.set_cons_zero, A.ok, A.val, setSl, wrapG, guardB, getB, pickA, binA, binC, binD, cmpD, isCmp, unA, unD, lenA, AOp.total, kills, litB, FinQ, resOks, resOk, resA, resList, resOne, A.thaw, C.thaw, A.fits, As.fits, C.fits, evs, oks, callArgs, A.pure, C.pure, A.re, C.re, fieldAddrA, loadC, cut, A.cells, C.rows?, getOb, newOb, setOb, storeC, splice, Ob.re, Cs.fits, partsA, partsOk, parts2A, parts2Ok, fillC, fillRows, optInt, optOk, sliceA, clipC, optK_some, storeK_some, Option.map_some, toDs, C.toD, spliceD, appendA, capsOf, srcRows, allLen_nil_iff, allLen_cons_iff, allLen_append_iff, dropC, Obs.fits, eqCs, eqD, mapRow, mapPut, mapVal, mapOne, mapCells]
  refine ⟨fun h => ⟨?_, by omega, ?_⟩, fun h => ?_⟩
  · intro r hr
    simp only [bytesRows, List.mem_map] at hr
    obtain ⟨b, _, rfl⟩ := hr
    rfl
  · refine finK_ret _ ⟨trivial, trivial⟩ rfl ⟨rfl, c.take 2000, by simp; omega, ?_⟩
    simp [Rd, bytesRows, Ob.re, C.re]
  · refine finK_ret _ ⟨trivial, trivial⟩ rfl ⟨rfl, c, by omega, ?_⟩
    simp [Rd, Ob.re, C.re]
end Go.Proofs.Ytddahocmlbnlfaa
