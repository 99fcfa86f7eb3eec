/-
  Numerals and first keys, of the program and of the reference.
  Conditions: none.
-/
import Derived.Test.YtdjbahilmcokeaaDoorItoa
import Derived.Test.YtdjbahilmcokeaaDoorValid2
open Go Go.AM Go.Proofs
namespace Go.Proofs.YtdjbahilmcokeaaDoor
open Go.ChangeShapes Go.WideShapes Go.ChangeAt Go.RowKit
set_option linter.unusedVariables false
set_option linter.unusedSimpArgs false
set_option maxRecDepth 100000
-- 69 loop.example/prologserver/spec.l18Dec params 1 ntmps 31
-- loop head live: [0, 3]
def ac69 : Cd := .seq (.region [⟨(some 2), .mv (.k (.c (.d (.str [])))), none⟩] [2])
  (.seq (.seq (.region [⟨(some 4), .mv (.t 0), none⟩,
        ⟨(some 5), .bin .lss (.t 4) (.k (.c (.d (.int .i64 (-9223372036854775807))))), none⟩] [4])
    (.cond (.t 5)
      (.seq (.region [⟨(some 2), .mv (.k (.c (.d (.str [45, 57, 50, 50, 51, 51, 55, 50, 48, 51, 54, 56, 53, 52, 55, 55, 53, 56, 48, 56])))), none⟩] [0, 5])
      (.ret))
      (.skip)))
  (.seq (.seq (.region [⟨(some 6), .mv (.t 0), none⟩,
        ⟨(some 7), .bin .lss (.t 6) (.k (.c (.d (.int .i64 0)))), none⟩] [2, 5, 6])
    (.cond (.t 7)
      (.seq (.region [⟨(some 8), .mv (.t 0), none⟩,
          ⟨(some 9), .un .neg (.t 8), none⟩,
          ⟨(some 10), .qcall 69 [(.t 9)], none⟩,
          ⟨(some 11), .bin .add (.k (.c (.d (.str [45])))) (.t 10), none⟩,
          ⟨(some 2), .mv (.t 11), none⟩] [0, 7, 8, 9, 10, 11])
      (.ret))
      (.skip)))
  (.seq (.region [⟨(some 3), .mv (.k (.c (.d (.str [])))), none⟩] [2, 7])
  (.seq (.block 0 (.loop (.seq (.seq (.region [⟨(some 12), .mv (.t 0), none⟩,
              ⟨(some 13), .bin .gtr (.t 12) (.k (.c (.d (.int .i64 9)))), none⟩] [12])
          (.cond (.t 13)
            (.skip)
            (.exit 0)))
        (.block 1 (.seq (.region [⟨(some 14), .mv (.t 0), none⟩,
              ⟨(some 15), .bin .rem (.t 14) (.k (.c (.d (.int .i64 10)))), none⟩,
              ⟨(some 16), .bin .add (.k (.c (.d (.int .i64 48)))) (.t 15), none⟩,
              ⟨(some 17), .cvInt .u8 (.t 16), none⟩,
              ⟨(some 18), .buildSlice 1 1 [(.int .u8 0)] [(0, (.t 17))], none⟩,
              ⟨(some 19), .cvB2S (.t 18), none⟩,
              ⟨(some 20), .mv (.t 3), none⟩,
              ⟨(some 21), .bin .add (.t 19) (.t 20), none⟩,
              ⟨(some 3), .mv (.t 21), none⟩] [13, 14, 15, 16, 17, 18, 19, 20, 21])
          (.region [⟨(some 22), .mv (.t 0), none⟩,
            ⟨(some 23), .bin .quo (.t 22) (.k (.c (.d (.int .i64 10)))), none⟩,
            ⟨(some 0), .mv (.t 23), none⟩] [22, 23]))))))
  (.seq (.region [⟨(some 24), .mv (.t 0), none⟩,
      ⟨(some 25), .bin .add (.k (.c (.d (.int .i64 48)))) (.t 24), none⟩,
      ⟨(some 26), .cvInt .u8 (.t 25), none⟩,
      ⟨(some 27), .buildSlice 1 1 [(.int .u8 0)] [(0, (.t 26))], none⟩,
      ⟨(some 28), .cvB2S (.t 27), none⟩,
      ⟨(some 29), .mv (.t 3), none⟩,
      ⟨(some 30), .bin .add (.t 28) (.t 29), none⟩,
      ⟨(some 2), .mv (.t 30), none⟩] [0, 3, 24, 25, 26, 27, 28, 29, 30])
  (.ret))))))
theorem ac69_ok : cFunc Tryd.prog [1000069] [(0, [2], []), (1, [4], []), (2, [0, 5], []), (3, [2, 5, 6], []), (4, [0, 7, 8, 9, 10, 11], []), (5, [2, 7], []), (6, [12], []), (7, [13, 14, 15, 16, 17, 18, 19, 20, 21], []), (8, [22, 23], []), (9, [0, 3, 24, 25, 26, 27, 28, 29, 30], [])] Tryd.f69 = some (ac69, [.tmp 2], 31) := by kernel_rfl
-- 44 loop.example/prologserver/spec.l1Dec params 1 ntmps 11
def ac44 : Cd := .seq (.region [⟨(some 2), .mv (.k (.c (.d (.str [])))), none⟩] [2])
  (.seq (.seq (.region [⟨(some 3), .mv (.t 0), none⟩,
        ⟨(some 4), .bin .lss (.t 3) (.k (.c (.d (.int .i64 0)))), none⟩] [3])
    (.cond (.t 4)
      (.seq (.region [⟨(some 5), .mv (.t 0), none⟩,
          ⟨(some 6), .un .neg (.t 5), none⟩,
          ⟨(some 7), .qcall 69 [(.t 6)], none⟩,
          ⟨(some 8), .bin .add (.k (.c (.d (.str [45])))) (.t 7), none⟩,
          ⟨(some 2), .mv (.t 8), none⟩] [0, 4, 5, 6, 7, 8])
      (.ret))
      (.skip)))
  (.seq (.region [⟨(some 9), .mv (.t 0), none⟩,
      ⟨(some 10), .qcall 69 [(.t 9)], none⟩,
      ⟨(some 2), .mv (.t 10), none⟩] [0, 4, 9, 10])
  (.ret)))
theorem ac44_ok : cFunc Tryd.prog [1000069] [(0, [2], []), (1, [3], []), (2, [0, 4, 5, 6, 7, 8], []), (3, [0, 4, 9, 10], [])] Tryd.f44 = some (ac44, [.tmp 2], 11) := by kernel_rfl
theorem dd_small {n : Nat} (h : n < 10) : Lib.decDigits n = [UInt8.ofNat (48 + n)] := by rw [Lib.decDigits, dif_pos h]
theorem dd_big {n : Nat} (h : 10 ≤ n) : Lib.decDigits n = Lib.decDigits (n / 10) ++ [UInt8.ofNat (48 + n % 10)] := by rw [Lib.decDigits, dif_neg (by omega)]
theorem dd_wrap {m : Nat} (h : m < 10) : UInt8.ofNat (IntKind.wrap .u8 (48 + (m : Int))).toNat = UInt8.ofNat (48 + m) := by
  have : m = 0 ∨ m = 1 ∨ m = 2 ∨ m = 3 ∨ m = 4 ∨ m = 5 ∨ m = 6 ∨ m = 7 ∨ m = 8 ∨ m = 9 := by omega
  rcases this with rfl | rfl | rfl | rfl | rfl | rfl | rfl | rfl | rfl | rfl <;> rfl
theorem b2s_one {m : Nat} {K : A → St → Prop} {st : St} (h : m < 10) (hk : K (.c (.d (.str [UInt8.ofNat (48 + m)]))) st) : B2SK true [[.int .u8 (IntKind.wrap .u8 (48 + (m : Int)))]] K st := by
  refine ⟨[UInt8.ofNat (48 + m)], fun _ => ?_, hk⟩
  have : m = 0 ∨ m = 1 ∨ m = 2 ∨ m = 3 ∨ m = 4 ∨ m = 5 ∨ m = 6 ∨ m = 7 ∨ m = 8 ∨ m = 9 := by omega
  rcases this with rfl | rfl | rfl | rfl | rfl | rfl | rfl | rfl | rfl | rfl <;> rfl
theorem dec_pos (n : Nat) (hn : (n : Int) ≤ 9223372036854775807) (H : Heap) : ACalls Tryd.prog 69 [.c (.d (.int .i64 n))] H (fun r H' => H' = H ∧ r = .c (.d (.str (Lib.itoa n)))) := by
  refine acalls Tryd.func69 (by kernel_rfl) ac69_ok fun hf => ?_
  have h0 : ¬ ((n : Int) < -9223372036854775807) := by omega
  have h1 : ¬ ((n : Int) < 0) := by omega
  simp -implicitDefEqProofs [ac69, h0, h1, aw_skip, aw_region, aw_seq, aw_block, aw_cond, aw_exit, aw_ret, kq_nil, kq_seq, kq_seq_ret, kq_seq_exit, kq_block, kq_block_ret, kq_block_exit, kq_loop, kq_loop_ret, kq_loop_exit, awOps_nil, awOps_cons, awOps_guardE, nx_eq, awOp, ev_k, ev_0, ev_1, ev_2, ev_3, ev_4, ev_5, ev_6, ev_7, ev_8, set_0, set_1, set_2, set_3, set_4, set_5, set_6, set_7, set_8, -List.set_cons_succ, -List.set_cons_zero, A.ok, A.val, setSl, wrapG, guardB, getB, pickA, binA, binC, binD, cmpD, isCmp, unA, unD, lenA, AOp.total, kills, litB, FinQ, resOks, resOk, resA, resList, resOne, A.thaw, C.thaw, A.fits, As.fits, C.fits, evs, oks, callArgs, A.pure, C.pure, A.re, C.re, fieldAddrA, loadC, cut, A.cells, C.rows?, getOb, newOb, setOb, storeC, splice, Ob.re, Cs.fits, partsA, partsOk, parts2A, parts2Ok, fillC, fillRows, optInt, optOk, sliceA, clipC, optK_some, storeK_some, Option.map_some, toDs, C.toD, spliceD, appendA, capsOf, srcRows, allLen_nil_iff, allLen_cons_iff, allLen_append_iff, dropC, Obs.fits, eqCs, eqD]
  have hlen : (Lib.decDigits n).length ≤ 1000000 := by
    have := itoa_len n (by omega) (by omega)
    rwa [Lib.itoa_nonneg] at this
  rw [Lib.itoa_nonneg]
  refine loop_set (σ := Nat × List UInt8) (fun x => [(0, .c (.d (.int .i64 x.1))), (3, .c (.d (.str x.2)))]) (fun _ => H) (fun _ => []) (fun x => x.1 ≤ n ∧ Lib.decDigits n = Lib.decDigits x.1 ++ x.2) (fun x => x.1) (n, []) rfl ⟨Nat.le_refl _, by simp⟩ ?_
  rintro ⟨m, out⟩ ⟨hm, hd⟩
  have hm1 : inR .i64 ((m : Int)) := i64_def.2 (by simp at hm; omega)
  have hol : out.length ≤ 1000000 := by rw [hd] at hlen; simp at hlen; omega
  simp only at hm hd
  simp -implicitDefEqProofs [setAll, aw_skip, aw_region, aw_seq, aw_block, aw_cond, aw_exit, aw_ret, kq_nil, kq_seq, kq_seq_ret, kq_seq_exit, kq_block, kq_block_ret, kq_block_exit, kq_loop, kq_loop_ret, kq_loop_exit, awOps_nil, awOps_cons, awOps_guardE, nx_eq, awOp, ev_k, ev_0, ev_1, ev_2, ev_3, ev_4, ev_5, ev_6, ev_7, ev_8, set_0, set_1, set_2, set_3, set_4, set_5, set_6, set_7, set_8, -List.set_cons_succ, -List.set_cons_zero, A.ok, A.val, setSl, wrapG, guardB, getB, pickA, binA, binC, binD, cmpD, isCmp, unA, unD, lenA, AOp.total, kills, litB, FinQ, resOks, resOk, resA, resList, resOne, A.thaw, C.thaw, A.fits, As.fits, C.fits, evs, oks, callArgs, A.pure, C.pure, A.re, C.re, fieldAddrA, loadC, cut, A.cells, C.rows?, getOb, newOb, setOb, storeC, splice, Ob.re, Cs.fits, partsA, partsOk, parts2A, parts2Ok, fillC, fillRows, optInt, optOk, sliceA, clipC, optK_some, storeK_some, Option.map_some, toDs, C.toD, spliceD, appendA, capsOf, srcRows, allLen_nil_iff, allLen_cons_iff, allLen_append_iff, dropC, Obs.fits, eqCs, eqD]
  have hmod : (m : Int).tmod 10 = ((m % 10 : Nat) : Int) := by rw [Int.tmod_eq_emod_of_nonneg (by omega)]; omega
  have hquo : (m : Int).tdiv 10 = ((m / 10 : Nat) : Int) := by rw [Int.tdiv_eq_ediv_of_nonneg (by omega)]; omega
  have hq : inR .i64 ((m / 10 : Nat) : Int) := i64_def.2 (by omega)
  refine ⟨fun hgt => ?_, fun hle => ?_⟩
  · rw [hmod]
    refine ⟨small_i64 (by omega) (by omega), b2s_one (by omega) ?_⟩
    simp -implicitDefEqProofs [setAll, hquo, hq, maxStr, aw_skip, aw_region, aw_seq, aw_block, aw_cond, aw_exit, aw_ret, kq_nil, kq_seq, kq_seq_ret, kq_seq_exit, kq_block, kq_block_ret, kq_block_exit, kq_loop, kq_loop_ret, kq_loop_exit, awOps_nil, awOps_cons, awOps_guardE, nx_eq, awOp, ev_k, ev_0, ev_1, ev_2, ev_3, ev_4, ev_5, ev_6, ev_7, ev_8, set_0, set_1, set_2, set_3, set_4, set_5, set_6, set_7, set_8, -List.set_cons_succ, -List.set_cons_zero, A.ok, A.val, setSl, wrapG, guardB, getB, pickA, binA, binC, binD, cmpD, isCmp, unA, unD, lenA, AOp.total, kills, litB, FinQ, resOks, resOk, resA, resList, resOne, A.thaw, C.thaw, A.fits, As.fits, C.fits, evs, oks, callArgs, A.pure, C.pure, A.re, C.re, fieldAddrA, loadC, cut, A.cells, C.rows?, getOb, newOb, setOb, storeC, splice, Ob.re, Cs.fits, partsA, partsOk, parts2A, parts2Ok, fillC, fillRows, optInt, optOk, sliceA, clipC, optK_some, storeK_some, Option.map_some, toDs, C.toD, spliceD, appendA, capsOf, srcRows, allLen_nil_iff, allLen_cons_iff, allLen_append_iff, dropC, Obs.fits, eqCs, eqD]
    refine ⟨by omega, ?_⟩
    refine ⟨by simpa using hq, ?_⟩
    refine loop_back (m / 10, UInt8.ofNat (48 + m % 10) :: out) (by simp [setAll]) ⟨by simp only; omega, ?_⟩ (by show m / 10 < m; omega)
    rw [hd, dd_big (n := m) (by omega)]
    simp
  · refine ⟨small_i64 (by omega) (by omega), b2s_one (by omega) ?_⟩
    simp -implicitDefEqProofs [setAll, maxStr, aw_skip, aw_region, aw_seq, aw_block, aw_cond, aw_exit, aw_ret, kq_nil, kq_seq, kq_seq_ret, kq_seq_exit, kq_block, kq_block_ret, kq_block_exit, kq_loop, kq_loop_ret, kq_loop_exit, awOps_nil, awOps_cons, awOps_guardE, nx_eq, awOp, ev_k, ev_0, ev_1, ev_2, ev_3, ev_4, ev_5, ev_6, ev_7, ev_8, set_0, set_1, set_2, set_3, set_4, set_5, set_6, set_7, set_8, -List.set_cons_succ, -List.set_cons_zero, A.ok, A.val, setSl, wrapG, guardB, getB, pickA, binA, binC, binD, cmpD, isCmp, unA, unD, lenA, AOp.total, kills, litB, FinQ, resOks, resOk, resA, resList, resOne, A.thaw, C.thaw, A.fits, As.fits, C.fits, evs, oks, callArgs, A.pure, C.pure, A.re, C.re, fieldAddrA, loadC, cut, A.cells, C.rows?, getOb, newOb, setOb, storeC, splice, Ob.re, Cs.fits, partsA, partsOk, parts2A, parts2Ok, fillC, fillRows, optInt, optOk, sliceA, clipC, optK_some, storeK_some, Option.map_some, toDs, C.toD, spliceD, appendA, capsOf, srcRows, allLen_nil_iff, allLen_cons_iff, allLen_append_iff, dropC, Obs.fits, eqCs, eqD]
    rw [hd, dd_small (n := m) (by omega)]
    simp
    omega
theorem dec_calls (n : Int) (hn : inR .i64 n) (H : Heap) : ACalls Tryd.prog 69 [.c (.d (.int .i64 n))] H (fun r H' => H' = H ∧ r = .c (.d (.str (Lib.itoa n)))) := by
  obtain ⟨hn1, hn2⟩ := i64_def.1 hn
  rcases Int.lt_or_le n 0 with hneg | hpos
  · refine acalls Tryd.func69 (by kernel_rfl) ac69_ok fun hf => ?_
    simp -implicitDefEqProofs [ac69, aw_skip, aw_region, aw_seq, aw_block, aw_cond, aw_exit, aw_ret, kq_nil, kq_seq, kq_seq_ret, kq_seq_exit, kq_block, kq_block_ret, kq_block_exit, kq_loop, kq_loop_ret, kq_loop_exit, awOps_nil, awOps_cons, awOps_guardE, nx_eq, awOp, ev_k, ev_0, ev_1, ev_2, ev_3, ev_4, ev_5, ev_6, ev_7, ev_8, set_0, set_1, set_2, set_3, set_4, set_5, set_6, set_7, set_8, -List.set_cons_succ, -List.set_cons_zero, A.ok, A.val, setSl, wrapG, guardB, getB, pickA, binA, binC, binD, cmpD, isCmp, unA, unD, lenA, AOp.total, kills, litB, FinQ, resOks, resOk, resA, resList, resOne, A.thaw, C.thaw, A.fits, As.fits, C.fits, evs, oks, callArgs, A.pure, C.pure, A.re, C.re, fieldAddrA, loadC, cut, A.cells, C.rows?, getOb, newOb, setOb, storeC, splice, Ob.re, Cs.fits, partsA, partsOk, parts2A, parts2Ok, fillC, fillRows, optInt, optOk, sliceA, clipC, optK_some, storeK_some, Option.map_some, toDs, C.toD, spliceD, appendA, capsOf, srcRows, allLen_nil_iff, allLen_cons_iff, allLen_append_iff, dropC, Obs.fits, eqCs, eqD]
    refine ⟨fun h => ?_, fun h => ?_⟩
    · have : n = -9223372036854775808 := by omega
      subst this
      decide +kernel
    · refine ⟨fun _ => ?_, fun h => by omega⟩
      have hi : inR .i64 (-n) := i64_def.2 (by omega)
      have h2 := dec_pos n.natAbs (by omega)
      have e : ((n.natAbs : Nat) : Int) = -n := by omega
      have e2 : Lib.itoa n = 45 :: Lib.itoa (-n) := by
        rw [← e, Lib.itoa_nonneg]
        unfold Lib.itoa
        rw [if_pos hneg]
      rw [e] at h2
      have h3 := itoa_len (-n) (by omega) (by omega)
      refine ⟨hi, qcall_pure h2 hf rfl ?_⟩
      simp -implicitDefEqProofs [e2, maxStr, aw_skip, aw_region, aw_seq, aw_block, aw_cond, aw_exit, aw_ret, kq_nil, kq_seq, kq_seq_ret, kq_seq_exit, kq_block, kq_block_ret, kq_block_exit, kq_loop, kq_loop_ret, kq_loop_exit, awOps_nil, awOps_cons, awOps_guardE, nx_eq, awOp, ev_k, ev_0, ev_1, ev_2, ev_3, ev_4, ev_5, ev_6, ev_7, ev_8, set_0, set_1, set_2, set_3, set_4, set_5, set_6, set_7, set_8, -List.set_cons_succ, -List.set_cons_zero, A.ok, A.val, setSl, wrapG, guardB, getB, pickA, binA, binC, binD, cmpD, isCmp, unA, unD, lenA, AOp.total, kills, litB, FinQ, resOks, resOk, resA, resList, resOne, A.thaw, C.thaw, A.fits, As.fits, C.fits, evs, oks, callArgs, A.pure, C.pure, A.re, C.re, fieldAddrA, loadC, cut, A.cells, C.rows?, getOb, newOb, setOb, storeC, splice, Ob.re, Cs.fits, partsA, partsOk, parts2A, parts2Ok, fillC, fillRows, optInt, optOk, sliceA, clipC, optK_some, storeK_some, Option.map_some, toDs, C.toD, spliceD, appendA, capsOf, srcRows, allLen_nil_iff, allLen_cons_iff, allLen_append_iff, dropC, Obs.fits, eqCs, eqD]
      omega
  · have := dec_pos n.toNat (by omega) H
    rwa [Int.toNat_of_nonneg hpos] at this
theorem dec1_calls (n : Int) (hn1 : -9223372036854775807 ≤ n) (hn2 : n ≤ 9223372036854775807) (H : Heap) : ACalls Tryd.prog 44 [.c (.d (.int .i64 n))] H (fun r H' => H' = H ∧ r = .c (.d (.str (Lib.itoa n)))) := by
  refine acalls Tryd.func44 (by kernel_rfl) ac44_ok fun hf => ?_
  simp -implicitDefEqProofs [ac44, aw_skip, aw_region, aw_seq, aw_block, aw_cond, aw_exit, aw_ret, kq_nil, kq_seq, kq_seq_ret, kq_seq_exit, kq_block, kq_block_ret, kq_block_exit, kq_loop, kq_loop_ret, kq_loop_exit, awOps_nil, awOps_cons, awOps_guardE, nx_eq, awOp, ev_k, ev_0, ev_1, ev_2, ev_3, ev_4, ev_5, ev_6, ev_7, ev_8, set_0, set_1, set_2, set_3, set_4, set_5, set_6, set_7, set_8, -List.set_cons_succ, -List.set_cons_zero, A.ok, A.val, setSl, wrapG, guardB, getB, pickA, binA, binC, binD, cmpD, isCmp, unA, unD, lenA, AOp.total, kills, litB, FinQ, resOks, resOk, resA, resList, resOne, A.thaw, C.thaw, A.fits, As.fits, C.fits, evs, oks, callArgs, A.pure, C.pure, A.re, C.re, fieldAddrA, loadC, cut, A.cells, C.rows?, getOb, newOb, setOb, storeC, splice, Ob.re, Cs.fits, partsA, partsOk, parts2A, parts2Ok, fillC, fillRows, optInt, optOk, sliceA, clipC, optK_some, storeK_some, Option.map_some, toDs, C.toD, spliceD, appendA, capsOf, srcRows, allLen_nil_iff, allLen_cons_iff, allLen_append_iff, dropC, Obs.fits, eqCs, eqD]
  refine ⟨fun hneg => ?_, fun hpos => ?_⟩
  · have e2 : Lib.itoa n = 45 :: Lib.itoa (-n) := by
      have e : ((n.natAbs : Nat) : Int) = -n := by omega
      rw [← e, Lib.itoa_nonneg]
      unfold Lib.itoa
      rw [if_pos hneg]
    have h3 := itoa_len (-n) (by omega) (by omega)
    refine ⟨i64_def.2 (by omega), qcall_pure (dec_calls (-n) (i64_def.2 (by omega))) hf rfl ?_⟩
    simp -implicitDefEqProofs [e2, maxStr, aw_skip, aw_region, aw_seq, aw_block, aw_cond, aw_exit, aw_ret, kq_nil, kq_seq, kq_seq_ret, kq_seq_exit, kq_block, kq_block_ret, kq_block_exit, kq_loop, kq_loop_ret, kq_loop_exit, awOps_nil, awOps_cons, awOps_guardE, nx_eq, awOp, ev_k, ev_0, ev_1, ev_2, ev_3, ev_4, ev_5, ev_6, ev_7, ev_8, set_0, set_1, set_2, set_3, set_4, set_5, set_6, set_7, set_8, -List.set_cons_succ, -List.set_cons_zero, A.ok, A.val, setSl, wrapG, guardB, getB, pickA, binA, binC, binD, cmpD, isCmp, unA, unD, lenA, AOp.total, kills, litB, FinQ, resOks, resOk, resA, resList, resOne, A.thaw, C.thaw, A.fits, As.fits, C.fits, evs, oks, callArgs, A.pure, C.pure, A.re, C.re, fieldAddrA, loadC, cut, A.cells, C.rows?, getOb, newOb, setOb, storeC, splice, Ob.re, Cs.fits, partsA, partsOk, parts2A, parts2Ok, fillC, fillRows, optInt, optOk, sliceA, clipC, optK_some, storeK_some, Option.map_some, toDs, C.toD, spliceD, appendA, capsOf, srcRows, allLen_nil_iff, allLen_cons_iff, allLen_append_iff, dropC, Obs.fits, eqCs, eqD]
    omega
  · refine qcall_pure (dec_calls n (i64_def.2 (by omega))) hf rfl ?_
    simp -implicitDefEqProofs [aw_skip, aw_region, aw_seq, aw_block, aw_cond, aw_exit, aw_ret, kq_nil, kq_seq, kq_seq_ret, kq_seq_exit, kq_block, kq_block_ret, kq_block_exit, kq_loop, kq_loop_ret, kq_loop_exit, awOps_nil, awOps_cons, awOps_guardE, nx_eq, awOp, ev_k, ev_0, ev_1, ev_2, ev_3, ev_4, ev_5, ev_6, ev_7, ev_8, set_0, set_1, set_2, set_3, set_4, set_5, set_6, set_7, set_8, -List.set_cons_succ, -List.set_cons_zero, A.ok, A.val, setSl, wrapG, guardB, getB, pickA, binA, binC, binD, cmpD, isCmp, unA, unD, lenA, AOp.total, kills, litB, FinQ, resOks, resOk, resA, resList, resOne, A.thaw, C.thaw, A.fits, As.fits, C.fits, evs, oks, callArgs, A.pure, C.pure, A.re, C.re, fieldAddrA, loadC, cut, A.cells, C.rows?, getOb, newOb, setOb, storeC, splice, Ob.re, Cs.fits, partsA, partsOk, parts2A, parts2Ok, fillC, fillRows, optInt, optOk, sliceA, clipC, optK_some, storeK_some, Option.map_some, toDs, C.toD, spliceD, appendA, capsOf, srcRows, allLen_nil_iff, allLen_cons_iff, allLen_append_iff, dropC, Obs.fits, eqCs, eqD]
/-- the key of a term -/
def Tm.key (t : Tm) : List UInt8 :=
  match t.kids with
  | [] => []
  | x :: _ => if x.k = 1 then [] else if x.k = 2 then Lib.itoa x.n else x.s ++ 47 :: Lib.itoa x.kids.length
-- 36 loop.example/prologserver/spec.l7Key params 1 ntmps 29
def ac36 : Cd := .seq (.region [⟨(some 1), .box (.t 0), none⟩,
      ⟨(some 2), .mv (.k (.c (.d (.str [])))), none⟩] [0, 2])
  (.seq (.seq (.region [⟨(some 4), .fieldAddr 3 (.t 1), none⟩,
        ⟨(some 5), .load none (.t 4), none⟩,
        ⟨(some 6), .len 1 (.t 5), none⟩,
        ⟨(some 7), .bin .eql (.t 6) (.k (.c (.d (.int .i64 0)))), none⟩] [4, 5, 6])
    (.cond (.t 7)
      (.seq (.region [⟨(some 2), .mv (.k (.c (.d (.str [])))), none⟩] [1, 7])
      (.ret))
      (.skip)))
  (.seq (.region [⟨(some 8), .fieldAddr 3 (.t 1), none⟩,
      ⟨(some 9), .load none (.t 8), none⟩,
      ⟨(some 10), .indexAddr 4 (.t 9) (.k (.c (.d (.int .i64 0)))), none⟩,
      ⟨(some 11), .load (some 4) (.t 10), none⟩,
      ⟨(some 3), .alloc [(.d (.int .i64 0)), (.d (.int .i64 0)), (.d (.str [])), (.full [])], none⟩,
      ⟨none, .store 4 (.t 3) (.t 11), none⟩] [1, 2, 7, 8, 9, 10, 11])
  (.seq (.seq (.region [⟨(some 12), .fieldAddr 0 (.t 3), none⟩,
        ⟨(some 13), .load none (.t 12), none⟩] [12])
    (.block 0 (.seq (.region [⟨(some 15), .bin .eql (.t 13) (.k (.c (.d (.int .i64 1)))), none⟩,
          ⟨(some 14), .mv (.t 15), none⟩] [15])
      (.cond (.t 14)
        (.seq (.region [⟨(some 2), .mv (.k (.c (.d (.str [])))), none⟩] [3, 13, 14])
        (.ret))
        (.seq (.region [⟨(some 17), .bin .eql (.t 13) (.k (.c (.d (.int .i64 2)))), none⟩,
            ⟨(some 16), .mv (.t 17), none⟩] [13, 14, 17])
        (.cond (.t 16)
          (.seq (.region [⟨(some 18), .fieldAddr 1 (.t 3), none⟩,
              ⟨(some 19), .load none (.t 18), none⟩,
              ⟨(some 20), .qcall 44 [(.t 19)], none⟩,
              ⟨(some 2), .mv (.t 20), none⟩] [3, 16, 18, 19, 20])
          (.ret))
          (.skip)))))))
  (.seq (.region [⟨(some 21), .fieldAddr 2 (.t 3), none⟩,
      ⟨(some 24), .fieldAddr 3 (.t 3), none⟩,
      ⟨(some 22), .load none (.t 21), none⟩,
      ⟨(some 23), .bin .add (.t 22) (.k (.c (.d (.str [47])))), none⟩,
      ⟨(some 25), .load none (.t 24), none⟩,
      ⟨(some 26), .len 1 (.t 25), none⟩,
      ⟨(some 27), .qcall 69 [(.t 26)], none⟩,
      ⟨(some 28), .bin .add (.t 23) (.t 27), none⟩,
      ⟨(some 2), .mv (.t 28), none⟩] [3, 16, 21, 22, 23, 24, 25, 26, 27, 28])
  (.ret)))))
theorem ac36_ok : cFunc Tryd.prog [1000044, 1000069] [(0, [0, 2], []), (1, [4, 5, 6], []), (2, [1, 7], []), (3, [1, 2, 7, 8, 9, 10, 11], []), (4, [12], []), (5, [15], []), (6, [3, 13, 14], []), (7, [13, 14, 17], []), (8, [3, 16, 18, 19, 20], []), (9, [3, 16, 21, 22, 23, 24, 25, 26, 27, 28], [0, 3, 1, 2, 4, 5, 6, 7, 8])] Tryd.f36 = some (ac36, [.tmp 2], 29) := by kernel_rfl
-- 39 loop.example/prologserver/impl.firstKey params 1 ntmps 29
def ac39 : Cd := .seq (.region [⟨(some 1), .box (.t 0), none⟩,
      ⟨(some 2), .mv (.k (.c (.d (.str [])))), none⟩] [0, 2])
  (.seq (.seq (.region [⟨(some 4), .fieldAddr 3 (.t 1), none⟩,
        ⟨(some 5), .load none (.t 4), none⟩,
        ⟨(some 6), .len 1 (.t 5), none⟩,
        ⟨(some 7), .bin .eql (.t 6) (.k (.c (.d (.int .i64 0)))), none⟩] [4, 5, 6])
    (.cond (.t 7)
      (.seq (.region [⟨(some 2), .mv (.k (.c (.d (.str [])))), none⟩] [1, 7])
      (.ret))
      (.skip)))
  (.seq (.region [⟨(some 8), .fieldAddr 3 (.t 1), none⟩,
      ⟨(some 9), .load none (.t 8), none⟩,
      ⟨(some 10), .indexAddr 4 (.t 9) (.k (.c (.d (.int .i64 0)))), none⟩,
      ⟨(some 11), .load (some 4) (.t 10), none⟩,
      ⟨(some 3), .alloc [(.d (.int .i64 0)), (.d (.int .i64 0)), (.d (.str [])), (.full [])], none⟩,
      ⟨none, .store 4 (.t 3) (.t 11), none⟩] [1, 2, 7, 8, 9, 10, 11])
  (.seq (.region [⟨(some 12), .fieldAddr 0 (.t 3), none⟩,
      ⟨(some 13), .load none (.t 12), none⟩] [12])
  (.block 0 (.seq (.region [⟨(some 23), .bin .eql (.t 13) (.k (.c (.d (.int .i64 1)))), none⟩,
        ⟨(some 22), .mv (.t 23), none⟩] [23])
    (.cond (.t 22)
      (.seq (.region [⟨(some 2), .mv (.k (.c (.d (.str [])))), none⟩] [3, 13, 22])
      (.ret))
      (.seq (.region [⟨(some 25), .bin .eql (.t 13) (.k (.c (.d (.int .i64 2)))), none⟩,
          ⟨(some 24), .mv (.t 25), none⟩] [13, 22, 25])
      (.cond (.t 24)
        (.seq (.region [⟨(some 26), .fieldAddr 1 (.t 3), none⟩,
            ⟨(some 27), .load none (.t 26), none⟩,
            ⟨(some 28), .qcall 48 [(.t 27)], none⟩,
            ⟨(some 2), .mv (.t 28), none⟩] [3, 24, 26, 27, 28])
        (.ret))
        (.seq (.region [⟨(some 14), .fieldAddr 2 (.t 3), none⟩,
            ⟨(some 17), .fieldAddr 3 (.t 3), none⟩,
            ⟨(some 15), .load none (.t 14), none⟩,
            ⟨(some 16), .bin .add (.t 15) (.k (.c (.d (.str [47])))), none⟩,
            ⟨(some 18), .load none (.t 17), none⟩,
            ⟨(some 19), .len 1 (.t 18), none⟩,
            ⟨(some 20), .qcall 48 [(.t 19)], none⟩,
            ⟨(some 21), .bin .add (.t 16) (.t 20), none⟩,
            ⟨(some 2), .mv (.t 21), none⟩] [3, 14, 15, 16, 17, 18, 19, 20, 21, 24])
        (.ret))))))))))
theorem ac39_ok : cFunc Tryd.prog [1000048] [(0, [0, 2], []), (1, [4, 5, 6], []), (2, [1, 7], []), (3, [1, 2, 7, 8, 9, 10, 11], []), (4, [12], []), (6, [23], []), (7, [3, 13, 22], []), (8, [13, 22, 25], []), (9, [3, 24, 26, 27, 28], []), (5, [3, 14, 15, 16, 17, 18, 19, 20, 21, 24], [0, 3, 1, 2, 4, 5, 6, 7, 8])] Tryd.f39 = some (ac39, [.tmp 2], 29) := by kernel_rfl
-- 9 loop.example/prologserver/spec.FirstKey params 1 ntmps 8
def ac9 : Cd := .seq (.region [⟨(some 1), .box (.t 0), none⟩,
      ⟨(some 2), .mv (.k (.c (.d (.str [])))), none⟩] [0, 2])
  (.seq (.seq (.region [⟨(some 3), .load (some 4) (.t 1), none⟩,
        ⟨(some 4), .qcall 35 [(.t 3)], none⟩,
        ⟨(some 5), .un .not (.t 4), none⟩] [3, 4])
    (.cond (.t 5)
      (.seq (.region [⟨(some 2), .mv (.k (.c (.d (.str [])))), none⟩] [1, 5])
      (.ret))
      (.skip)))
  (.seq (.region [⟨(some 6), .load (some 4) (.t 1), none⟩,
      ⟨(some 7), .qcall 36 [(.t 6)], none⟩,
      ⟨(some 2), .mv (.t 7), none⟩] [1, 5, 6, 7])
  (.ret)))
theorem ac9_ok : cFunc Tryd.prog [1000035, 1000036] [(0, [0, 2], []), (1, [3, 4], []), (2, [1, 5], []), (3, [1, 5, 6, 7], [])] Tryd.f9 = some (ac9, [.tmp 2], 8) := by kernel_rfl
-- 11 loop.example/prologserver/impl.FirstKey params 1 ntmps 8
def ac11 : Cd := .seq (.region [⟨(some 1), .box (.t 0), none⟩,
      ⟨(some 2), .mv (.k (.c (.d (.str [])))), none⟩] [0, 2])
  (.seq (.seq (.region [⟨(some 3), .load (some 4) (.t 1), none⟩,
        ⟨(some 4), .qcall 38 [(.t 3)], none⟩,
        ⟨(some 5), .un .not (.t 4), none⟩] [3, 4])
    (.cond (.t 5)
      (.seq (.region [⟨(some 2), .mv (.k (.c (.d (.str [])))), none⟩] [1, 5])
      (.ret))
      (.skip)))
  (.seq (.region [⟨(some 6), .load (some 4) (.t 1), none⟩,
      ⟨(some 7), .qcall 39 [(.t 6)], none⟩,
      ⟨(some 2), .mv (.t 7), none⟩] [1, 5, 6, 7])
  (.ret)))
theorem ac11_ok : cFunc Tryd.prog [1000038, 1000039] [(0, [0, 2], []), (1, [3, 4], []), (2, [1, 5], []), (3, [1, 5, 6, 7], [])] Tryd.f11 = some (ac11, [.tmp 2], 8) := by kernel_rfl
theorem l7Key_calls (t : Tm) (ht : t.fits) (hv : ∀ x ∈ t.kids, -9223372036854775807 ≤ x.n) (H : Heap) : ACalls Tryd.prog 36 [.agg (t.row.map .d)] H (fun r H' => H' = H ∧ r = .c (.d (.str t.key))) := by
  obtain ⟨k, n, s, l⟩ := t
  obtain ⟨_, _, _, hl, hk⟩ := ht
  refine acalls Tryd.func36 (by kernel_rfl) ac36_ok fun hf => ?_
  have hli : inR .i64 (l.length : Int) := small_i64 (by omega) (by omega)
  cases l with
  | nil =>
    have h00 : inR .i64 0 := small_i64 (by omega) (by omega)
    simp -implicitDefEqProofs [ac36, row_mk, h00, Tm.key, Tm.kids, aw_skip, aw_region, aw_seq, aw_block, aw_cond, aw_exit, aw_ret, kq_nil, kq_seq, kq_seq_ret, kq_seq_exit, kq_block, kq_block_ret, kq_block_exit, kq_loop, kq_loop_ret, kq_loop_exit, awOps_nil, awOps_cons, awOps_guardE, nx_eq, awOp, ev_k, ev_0, ev_1, ev_2, ev_3, ev_4, ev_5, ev_6, ev_7, ev_8, set_0, set_1, set_2, set_3, set_4, set_5, set_6, set_7, set_8, -List.set_cons_succ, -List.set_cons_zero, A.ok, A.val, setSl, wrapG, guardB, getB, pickA, binA, binC, binD, cmpD, isCmp, unA, unD, lenA, AOp.total, kills, litB, FinQ, resOks, resOk, resA, resList, resOne, A.thaw, C.thaw, A.fits, As.fits, C.fits, evs, oks, callArgs, A.pure, C.pure, A.re, C.re, fieldAddrA, loadC, cut, A.cells, C.rows?, getOb, newOb, setOb, storeC, splice, Ob.re, Cs.fits, partsA, partsOk, parts2A, parts2Ok, fillC, fillRows, optInt, optOk, sliceA, clipC, optK_some, storeK_some, Option.map_some, toDs, C.toD, spliceD, appendA, capsOf, srcRows, allLen_nil_iff, allLen_cons_iff, allLen_append_iff, dropC, Obs.fits, eqCs, eqD]
  | cons x l =>
    obtain ⟨xk, xn, xs, xl⟩ := x
    have hx := hk _ (List.mem_cons_self ..)
    obtain ⟨hx1, hx2, hx3, hx4, _⟩ := hx
    have hxl : inR .i64 (xl.length : Int) := small_i64 (by omega) (by omega)
    have hxn := hv _ (List.mem_cons_self ..)
    have hxn2 := (i64_def.1 hx2).2
    have hd := itoa_len (xl.length : Int) (by omega) (by omega)
    simp -implicitDefEqProofs [ac36, row_mk, hli, aw_skip, aw_region, aw_seq, aw_block, aw_cond, aw_exit, aw_ret, kq_nil, kq_seq, kq_seq_ret, kq_seq_exit, kq_block, kq_block_ret, kq_block_exit, kq_loop, kq_loop_ret, kq_loop_exit, awOps_nil, awOps_cons, awOps_guardE, nx_eq, awOp, ev_k, ev_0, ev_1, ev_2, ev_3, ev_4, ev_5, ev_6, ev_7, ev_8, set_0, set_1, set_2, set_3, set_4, set_5, set_6, set_7, set_8, -List.set_cons_succ, -List.set_cons_zero, A.ok, A.val, setSl, wrapG, guardB, getB, pickA, binA, binC, binD, cmpD, isCmp, unA, unD, lenA, AOp.total, kills, litB, FinQ, resOks, resOk, resA, resList, resOne, A.thaw, C.thaw, A.fits, As.fits, C.fits, evs, oks, callArgs, A.pure, C.pure, A.re, C.re, fieldAddrA, loadC, cut, A.cells, C.rows?, getOb, newOb, setOb, storeC, splice, Ob.re, Cs.fits, partsA, partsOk, parts2A, parts2Ok, fillC, fillRows, optInt, optOk, sliceA, clipC, optK_some, storeK_some, Option.map_some, toDs, C.toD, spliceD, appendA, capsOf, srcRows, allLen_nil_iff, allLen_cons_iff, allLen_append_iff, dropC, Obs.fits, eqCs, eqD]
    refine ⟨by simpa using hli, fun h => by omega, fun _ => ?_⟩
    refine row_int (i := 0) (Tm.mk xk xn xs xl).row (by omega) (by simp [row_mk]) (row_len _) ?_
    simp -implicitDefEqProofs [row_mk, aw_skip, aw_region, aw_seq, aw_block, aw_cond, aw_exit, aw_ret, kq_nil, kq_seq, kq_seq_ret, kq_seq_exit, kq_block, kq_block_ret, kq_block_exit, kq_loop, kq_loop_ret, kq_loop_exit, awOps_nil, awOps_cons, awOps_guardE, nx_eq, awOp, ev_k, ev_0, ev_1, ev_2, ev_3, ev_4, ev_5, ev_6, ev_7, ev_8, set_0, set_1, set_2, set_3, set_4, set_5, set_6, set_7, set_8, -List.set_cons_succ, -List.set_cons_zero, A.ok, A.val, setSl, wrapG, guardB, getB, pickA, binA, binC, binD, cmpD, isCmp, unA, unD, lenA, AOp.total, kills, litB, FinQ, resOks, resOk, resA, resList, resOne, A.thaw, C.thaw, A.fits, As.fits, C.fits, evs, oks, callArgs, A.pure, C.pure, A.re, C.re, fieldAddrA, loadC, cut, A.cells, C.rows?, getOb, newOb, setOb, storeC, splice, Ob.re, Cs.fits, partsA, partsOk, parts2A, parts2Ok, fillC, fillRows, optInt, optOk, sliceA, clipC, optK_some, storeK_some, Option.map_some, toDs, C.toD, spliceD, appendA, capsOf, srcRows, allLen_nil_iff, allLen_cons_iff, allLen_append_iff, dropC, Obs.fits, eqCs, eqD]
    refine ⟨hf, fun h1 => by simp [h1, Tm.key, Tm.kids, Tm.k], fun h1 => ⟨fun h2 => ?_, fun h2 => ⟨by unfold maxStr; omega, hxl, ?_⟩⟩⟩
    · refine qcall_pure (dec1_calls xn hxn hxn2) hf rfl ?_
      simp -implicitDefEqProofs [h1, h2, Tm.key, Tm.kids, Tm.k, Tm.n, aw_skip, aw_region, aw_seq, aw_block, aw_cond, aw_exit, aw_ret, kq_nil, kq_seq, kq_seq_ret, kq_seq_exit, kq_block, kq_block_ret, kq_block_exit, kq_loop, kq_loop_ret, kq_loop_exit, awOps_nil, awOps_cons, awOps_guardE, nx_eq, awOp, ev_k, ev_0, ev_1, ev_2, ev_3, ev_4, ev_5, ev_6, ev_7, ev_8, set_0, set_1, set_2, set_3, set_4, set_5, set_6, set_7, set_8, -List.set_cons_succ, -List.set_cons_zero, A.ok, A.val, setSl, wrapG, guardB, getB, pickA, binA, binC, binD, cmpD, isCmp, unA, unD, lenA, AOp.total, kills, litB, FinQ, resOks, resOk, resA, resList, resOne, A.thaw, C.thaw, A.fits, As.fits, C.fits, evs, oks, callArgs, A.pure, C.pure, A.re, C.re, fieldAddrA, loadC, cut, A.cells, C.rows?, getOb, newOb, setOb, storeC, splice, Ob.re, Cs.fits, partsA, partsOk, parts2A, parts2Ok, fillC, fillRows, optInt, optOk, sliceA, clipC, optK_some, storeK_some, Option.map_some, toDs, C.toD, spliceD, appendA, capsOf, srcRows, allLen_nil_iff, allLen_cons_iff, allLen_append_iff, dropC, Obs.fits, eqCs, eqD]
    · refine qcall_pure (dec_calls _ hxl) hf rfl ?_
      simp -implicitDefEqProofs [h1, h2, Tm.key, Tm.kids, Tm.k, Tm.s, maxStr, aw_skip, aw_region, aw_seq, aw_block, aw_cond, aw_exit, aw_ret, kq_nil, kq_seq, kq_seq_ret, kq_seq_exit, kq_block, kq_block_ret, kq_block_exit, kq_loop, kq_loop_ret, kq_loop_exit, awOps_nil, awOps_cons, awOps_guardE, nx_eq, awOp, ev_k, ev_0, ev_1, ev_2, ev_3, ev_4, ev_5, ev_6, ev_7, ev_8, set_0, set_1, set_2, set_3, set_4, set_5, set_6, set_7, set_8, -List.set_cons_succ, -List.set_cons_zero, A.ok, A.val, setSl, wrapG, guardB, getB, pickA, binA, binC, binD, cmpD, isCmp, unA, unD, lenA, AOp.total, kills, litB, FinQ, resOks, resOk, resA, resList, resOne, A.thaw, C.thaw, A.fits, As.fits, C.fits, evs, oks, callArgs, A.pure, C.pure, A.re, C.re, fieldAddrA, loadC, cut, A.cells, C.rows?, getOb, newOb, setOb, storeC, splice, Ob.re, Cs.fits, partsA, partsOk, parts2A, parts2Ok, fillC, fillRows, optInt, optOk, sliceA, clipC, optK_some, storeK_some, Option.map_some, toDs, C.toD, spliceD, appendA, capsOf, srcRows, allLen_nil_iff, allLen_cons_iff, allLen_append_iff, dropC, Obs.fits, eqCs, eqD]
      omega
theorem key_calls {g : Nat} {o : Obj} (hT : Tab g o) (t : Tm) (ht : t.fits) (H : Heap) (hH : H[0]? = some (.tab g o)) : ACalls Tryd.prog 39 [.agg (t.row.map .d)] H (fun r H' => H' = H ∧ r = .c (.d (.str t.key))) := by
  obtain ⟨k, n, s, l⟩ := t
  obtain ⟨_, _, _, hl, hk⟩ := ht
  refine acalls Tryd.func39 (by kernel_rfl) ac39_ok fun hf => ?_
  have hli : inR .i64 (l.length : Int) := small_i64 (by omega) (by omega)
  cases l with
  | nil =>
    have h00 : inR .i64 0 := small_i64 (by omega) (by omega)
    simp -implicitDefEqProofs [ac39, row_mk, h00, Tm.key, Tm.kids, aw_skip, aw_region, aw_seq, aw_block, aw_cond, aw_exit, aw_ret, kq_nil, kq_seq, kq_seq_ret, kq_seq_exit, kq_block, kq_block_ret, kq_block_exit, kq_loop, kq_loop_ret, kq_loop_exit, awOps_nil, awOps_cons, awOps_guardE, nx_eq, awOp, ev_k, ev_0, ev_1, ev_2, ev_3, ev_4, ev_5, ev_6, ev_7, ev_8, set_0, set_1, set_2, set_3, set_4, set_5, set_6, set_7, set_8, -List.set_cons_succ, -List.set_cons_zero, A.ok, A.val, setSl, wrapG, guardB, getB, pickA, binA, binC, binD, cmpD, isCmp, unA, unD, lenA, AOp.total, kills, litB, FinQ, resOks, resOk, resA, resList, resOne, A.thaw, C.thaw, A.fits, As.fits, C.fits, evs, oks, callArgs, A.pure, C.pure, A.re, C.re, fieldAddrA, loadC, cut, A.cells, C.rows?, getOb, newOb, setOb, storeC, splice, Ob.re, Cs.fits, partsA, partsOk, parts2A, parts2Ok, fillC, fillRows, optInt, optOk, sliceA, clipC, optK_some, storeK_some, Option.map_some, toDs, C.toD, spliceD, appendA, capsOf, srcRows, allLen_nil_iff, allLen_cons_iff, allLen_append_iff, dropC, Obs.fits, eqCs, eqD]
  | cons x l =>
    obtain ⟨xk, xn, xs, xl⟩ := x
    have hx := hk _ (List.mem_cons_self ..)
    obtain ⟨hx1, hx2, hx3, hx4, _⟩ := hx
    have hxl : inR .i64 (xl.length : Int) := small_i64 (by omega) (by omega)
    have hxn2 := (i64_def.1 hx2).2
    have hd := itoa_len (xl.length : Int) (by omega) (by omega)
    simp -implicitDefEqProofs [ac39, row_mk, hli, aw_skip, aw_region, aw_seq, aw_block, aw_cond, aw_exit, aw_ret, kq_nil, kq_seq, kq_seq_ret, kq_seq_exit, kq_block, kq_block_ret, kq_block_exit, kq_loop, kq_loop_ret, kq_loop_exit, awOps_nil, awOps_cons, awOps_guardE, nx_eq, awOp, ev_k, ev_0, ev_1, ev_2, ev_3, ev_4, ev_5, ev_6, ev_7, ev_8, set_0, set_1, set_2, set_3, set_4, set_5, set_6, set_7, set_8, -List.set_cons_succ, -List.set_cons_zero, A.ok, A.val, setSl, wrapG, guardB, getB, pickA, binA, binC, binD, cmpD, isCmp, unA, unD, lenA, AOp.total, kills, litB, FinQ, resOks, resOk, resA, resList, resOne, A.thaw, C.thaw, A.fits, As.fits, C.fits, evs, oks, callArgs, A.pure, C.pure, A.re, C.re, fieldAddrA, loadC, cut, A.cells, C.rows?, getOb, newOb, setOb, storeC, splice, Ob.re, Cs.fits, partsA, partsOk, parts2A, parts2Ok, fillC, fillRows, optInt, optOk, sliceA, clipC, optK_some, storeK_some, Option.map_some, toDs, C.toD, spliceD, appendA, capsOf, srcRows, allLen_nil_iff, allLen_cons_iff, allLen_append_iff, dropC, Obs.fits, eqCs, eqD]
    refine ⟨by simpa using hli, fun h => by omega, fun _ => ?_⟩
    refine row_int (i := 0) (Tm.mk xk xn xs xl).row (by omega) (by simp [row_mk]) (row_len _) ?_
    simp -implicitDefEqProofs [row_mk, aw_skip, aw_region, aw_seq, aw_block, aw_cond, aw_exit, aw_ret, kq_nil, kq_seq, kq_seq_ret, kq_seq_exit, kq_block, kq_block_ret, kq_block_exit, kq_loop, kq_loop_ret, kq_loop_exit, awOps_nil, awOps_cons, awOps_guardE, nx_eq, awOp, ev_k, ev_0, ev_1, ev_2, ev_3, ev_4, ev_5, ev_6, ev_7, ev_8, set_0, set_1, set_2, set_3, set_4, set_5, set_6, set_7, set_8, -List.set_cons_succ, -List.set_cons_zero, A.ok, A.val, setSl, wrapG, guardB, getB, pickA, binA, binC, binD, cmpD, isCmp, unA, unD, lenA, AOp.total, kills, litB, FinQ, resOks, resOk, resA, resList, resOne, A.thaw, C.thaw, A.fits, As.fits, C.fits, evs, oks, callArgs, A.pure, C.pure, A.re, C.re, fieldAddrA, loadC, cut, A.cells, C.rows?, getOb, newOb, setOb, storeC, splice, Ob.re, Cs.fits, partsA, partsOk, parts2A, parts2Ok, fillC, fillRows, optInt, optOk, sliceA, clipC, optK_some, storeK_some, Option.map_some, toDs, C.toD, spliceD, appendA, capsOf, srcRows, allLen_nil_iff, allLen_cons_iff, allLen_append_iff, dropC, Obs.fits, eqCs, eqD]
    refine ⟨hf, fun h1 => by simp [h1, Tm.key, Tm.kids, Tm.k], fun h1 => ⟨fun h2 => ?_, fun h2 => ⟨by unfold maxStr; omega, hxl, ?_⟩⟩⟩
    · refine qcall_tab (itoa_call hT xn hx2) hf hH rfl ?_
      simp -implicitDefEqProofs [h1, h2, Tm.key, Tm.kids, Tm.k, Tm.n, aw_skip, aw_region, aw_seq, aw_block, aw_cond, aw_exit, aw_ret, kq_nil, kq_seq, kq_seq_ret, kq_seq_exit, kq_block, kq_block_ret, kq_block_exit, kq_loop, kq_loop_ret, kq_loop_exit, awOps_nil, awOps_cons, awOps_guardE, nx_eq, awOp, ev_k, ev_0, ev_1, ev_2, ev_3, ev_4, ev_5, ev_6, ev_7, ev_8, set_0, set_1, set_2, set_3, set_4, set_5, set_6, set_7, set_8, -List.set_cons_succ, -List.set_cons_zero, A.ok, A.val, setSl, wrapG, guardB, getB, pickA, binA, binC, binD, cmpD, isCmp, unA, unD, lenA, AOp.total, kills, litB, FinQ, resOks, resOk, resA, resList, resOne, A.thaw, C.thaw, A.fits, As.fits, C.fits, evs, oks, callArgs, A.pure, C.pure, A.re, C.re, fieldAddrA, loadC, cut, A.cells, C.rows?, getOb, newOb, setOb, storeC, splice, Ob.re, Cs.fits, partsA, partsOk, parts2A, parts2Ok, fillC, fillRows, optInt, optOk, sliceA, clipC, optK_some, storeK_some, Option.map_some, toDs, C.toD, spliceD, appendA, capsOf, srcRows, allLen_nil_iff, allLen_cons_iff, allLen_append_iff, dropC, Obs.fits, eqCs, eqD]
    · refine qcall_tab (itoa_call hT _ hxl) hf hH rfl ?_
      simp -implicitDefEqProofs [h1, h2, Tm.key, Tm.kids, Tm.k, Tm.s, maxStr, aw_skip, aw_region, aw_seq, aw_block, aw_cond, aw_exit, aw_ret, kq_nil, kq_seq, kq_seq_ret, kq_seq_exit, kq_block, kq_block_ret, kq_block_exit, kq_loop, kq_loop_ret, kq_loop_exit, awOps_nil, awOps_cons, awOps_guardE, nx_eq, awOp, ev_k, ev_0, ev_1, ev_2, ev_3, ev_4, ev_5, ev_6, ev_7, ev_8, set_0, set_1, set_2, set_3, set_4, set_5, set_6, set_7, set_8, -List.set_cons_succ, -List.set_cons_zero, A.ok, A.val, setSl, wrapG, guardB, getB, pickA, binA, binC, binD, cmpD, isCmp, unA, unD, lenA, AOp.total, kills, litB, FinQ, resOks, resOk, resA, resList, resOne, A.thaw, C.thaw, A.fits, As.fits, C.fits, evs, oks, callArgs, A.pure, C.pure, A.re, C.re, fieldAddrA, loadC, cut, A.cells, C.rows?, getOb, newOb, setOb, storeC, splice, Ob.re, Cs.fits, partsA, partsOk, parts2A, parts2Ok, fillC, fillRows, optInt, optOk, sliceA, clipC, optK_some, storeK_some, Option.map_some, toDs, C.toD, spliceD, appendA, capsOf, srcRows, allLen_nil_iff, allLen_cons_iff, allLen_append_iff, dropC, Obs.fits, eqCs, eqD]
      omega
theorem valid_kids {t : Tm} (h : t.valid = true) : ∀ x ∈ t.kids, -9223372036854775807 ≤ x.n := by
  obtain ⟨k, n, s, l⟩ := t
  intro x hx
  simp only [Tm.valid, Tm.shape, shapes_all, Bool.and_eq_true, List.all_eq_true] at h
  have h1 := h.1.2.2 x hx
  obtain ⟨xk, xn, xs, xl⟩ := x
  simp only [Tm.shape, Bool.and_eq_true] at h1
  have h2 := h1.2.1
  simp only [Tm.ownB] at h2
  simp only [Tm.n]
  split at h2
  · simp at h2; omega
  · split at h2
    · simp at h2; omega
    · split at h2
      · simp at h2; omega
      · simp at h2
end Go.Proofs.YtdjbahilmcokeaaDoor
