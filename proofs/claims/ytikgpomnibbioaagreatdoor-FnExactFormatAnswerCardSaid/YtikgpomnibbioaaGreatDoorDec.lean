/-
  Numerals of the reference.
  Conditions: none.
-/
import Derived.Test.YtikgpomnibbioaaGreatDoorItoa
open Go Go.AM Go.Proofs
namespace Go.Proofs.YtikgpomnibbioaaGreatDoor
open Go.ChangeShapes Go.WideShapes Go.ChangeAt Go.RowKit
set_option linter.unusedVariables false
set_option linter.unusedSimpArgs false
set_option maxRecDepth 100000
-- 86 loop.example/prologserver/spec.l18Dec params 1 ntmps 31
-- loop head live: [0, 3]
def ac86 : Cd := .seq (.region [⟨(some 2), .mv (.k (.c (.d (.str [])))), none⟩] [2])
  (.seq (.seq (.region [⟨(some 4), .mv (.t 0), none⟩,
        ⟨(some 5), .bin .lss (.t 4) (.k (.c (.d (.int .i64 (-9223372036854775807))))), none⟩] [4])
    (.cond (.t 5)
      (.seq (.region [⟨(some 2), .mv (.k (.c (.d (.str [45, 57, 50, 50, 51, 51, 55, 50, 48, 51, 54, 56, 53, 52, 55, 55, 53, 56, 48, 56])))), none⟩] [0, 5])
      (.ret))
      (.skip)))
  (.seq (.seq (.region [⟨(some 6), .mv (.t 0), none⟩,
        ⟨(some 7), .bin .lss (.t 6) (.k (.c (.d (.int .i64 0)))), none⟩] [2, 5, 6])
    (.cond (.t 7)
      (.seq (.region [⟨(some 8), .mv (.t 0), none⟩,
          ⟨(some 9), .un .neg (.t 8), none⟩,
          ⟨(some 10), .qcall 86 [(.t 9)], none⟩,
          ⟨(some 11), .bin .add (.k (.c (.d (.str [45])))) (.t 10), none⟩,
          ⟨(some 2), .mv (.t 11), none⟩] [0, 7, 8, 9, 10, 11])
      (.ret))
      (.skip)))
  (.seq (.region [⟨(some 3), .mv (.k (.c (.d (.str [])))), none⟩] [2, 7])
  (.seq (.block 0 (.loop (.seq (.seq (.region [⟨(some 12), .mv (.t 0), none⟩,
              ⟨(some 13), .bin .gtr (.t 12) (.k (.c (.d (.int .i64 9)))), none⟩] [12])
          (.cond (.t 13)
            (.skip)
            (.exit 0)))
        (.block 1 (.seq (.region [⟨(some 14), .mv (.t 0), none⟩,
              ⟨(some 15), .bin .rem (.t 14) (.k (.c (.d (.int .i64 10)))), none⟩,
              ⟨(some 16), .bin .add (.k (.c (.d (.int .i64 48)))) (.t 15), none⟩,
              ⟨(some 17), .cvInt .u8 (.t 16), none⟩,
              ⟨(some 18), .buildSlice 1 1 [(.int .u8 0)] [(0, (.t 17))], none⟩,
              ⟨(some 19), .cvB2S (.t 18), none⟩,
              ⟨(some 20), .mv (.t 3), none⟩,
              ⟨(some 21), .bin .add (.t 19) (.t 20), none⟩,
              ⟨(some 3), .mv (.t 21), none⟩] [13, 14, 15, 16, 17, 18, 19, 20, 21])
          (.region [⟨(some 22), .mv (.t 0), none⟩,
            ⟨(some 23), .bin .quo (.t 22) (.k (.c (.d (.int .i64 10)))), none⟩,
            ⟨(some 0), .mv (.t 23), none⟩] [22, 23]))))))
  (.seq (.region [⟨(some 24), .mv (.t 0), none⟩,
      ⟨(some 25), .bin .add (.k (.c (.d (.int .i64 48)))) (.t 24), none⟩,
      ⟨(some 26), .cvInt .u8 (.t 25), none⟩,
      ⟨(some 27), .buildSlice 1 1 [(.int .u8 0)] [(0, (.t 26))], none⟩,
      ⟨(some 28), .cvB2S (.t 27), none⟩,
      ⟨(some 29), .mv (.t 3), none⟩,
      ⟨(some 30), .bin .add (.t 28) (.t 29), none⟩,
      ⟨(some 2), .mv (.t 30), none⟩] [0, 3, 24, 25, 26, 27, 28, 29, 30])
  (.ret))))))
theorem ac86_ok : cFunc Tryz.prog [1000086] [(0, [2], []), (1, [4], []), (2, [0, 5], []), (3, [2, 5, 6], []), (4, [0, 7, 8, 9, 10, 11], []), (5, [2, 7], []), (6, [12], []), (7, [13, 14, 15, 16, 17, 18, 19, 20, 21], []), (8, [22, 23], []), (9, [0, 3, 24, 25, 26, 27, 28, 29, 30], [])] Tryz.f86 = some (ac86, [.tmp 2], 31) := by kernel_rfl
-- 67 loop.example/prologserver/spec.l1Dec params 1 ntmps 11
def ac67 : Cd := .seq (.region [⟨(some 2), .mv (.k (.c (.d (.str [])))), none⟩] [2])
  (.seq (.seq (.region [⟨(some 3), .mv (.t 0), none⟩,
        ⟨(some 4), .bin .lss (.t 3) (.k (.c (.d (.int .i64 0)))), none⟩] [3])
    (.cond (.t 4)
      (.seq (.region [⟨(some 5), .mv (.t 0), none⟩,
          ⟨(some 6), .un .neg (.t 5), none⟩,
          ⟨(some 7), .qcall 86 [(.t 6)], none⟩,
          ⟨(some 8), .bin .add (.k (.c (.d (.str [45])))) (.t 7), none⟩,
          ⟨(some 2), .mv (.t 8), none⟩] [0, 4, 5, 6, 7, 8])
      (.ret))
      (.skip)))
  (.seq (.region [⟨(some 9), .mv (.t 0), none⟩,
      ⟨(some 10), .qcall 86 [(.t 9)], none⟩,
      ⟨(some 2), .mv (.t 10), none⟩] [0, 4, 9, 10])
  (.ret)))
theorem ac67_ok : cFunc Tryz.prog [1000086] [(0, [2], []), (1, [3], []), (2, [0, 4, 5, 6, 7, 8], []), (3, [0, 4, 9, 10], [])] Tryz.f67 = some (ac67, [.tmp 2], 11) := by kernel_rfl
theorem dd_small {n : Nat} (h : n < 10) : Lib.decDigits n = [UInt8.ofNat (48 + n)] := by rw [Lib.decDigits, dif_pos h]
theorem dd_big {n : Nat} (h : 10 ≤ n) : Lib.decDigits n = Lib.decDigits (n / 10) ++ [UInt8.ofNat (48 + n % 10)] := by rw [Lib.decDigits, dif_neg (by omega)]
theorem dd_wrap {m : Nat} (h : m < 10) : UInt8.ofNat (IntKind.wrap .u8 (48 + (m : Int))).toNat = UInt8.ofNat (48 + m) := by
  have : m = 0 ∨ m = 1 ∨ m = 2 ∨ m = 3 ∨ m = 4 ∨ m = 5 ∨ m = 6 ∨ m = 7 ∨ m = 8 ∨ m = 9 := by omega
  rcases this with rfl | rfl | rfl | rfl | rfl | rfl | rfl | rfl | rfl | rfl <;> rfl
theorem b2s_one {m : Nat} {K : A → St → Prop} {st : St} (h : m < 10) (hk : K (.c (.d (.str [UInt8.ofNat (48 + m)]))) st) : B2SK true [[.int .u8 (IntKind.wrap .u8 (48 + (m : Int)))]] K st := by
  refine ⟨[UInt8.ofNat (48 + m)], fun _ => ?_, hk⟩
  have : m = 0 ∨ m = 1 ∨ m = 2 ∨ m = 3 ∨ m = 4 ∨ m = 5 ∨ m = 6 ∨ m = 7 ∨ m = 8 ∨ m = 9 := by omega
  rcases this with rfl | rfl | rfl | rfl | rfl | rfl | rfl | rfl | rfl | rfl <;> rfl
theorem dec_pos (n : Nat) (hn : (n : Int) ≤ 9223372036854775807) (H : Heap) : ACalls Tryz.prog 86 [.c (.d (.int .i64 n))] H (fun r H' => H' = H ∧ r = .c (.d (.str (Lib.itoa n)))) := by
  refine acalls Tryz.func86 (by kernel_rfl) ac86_ok fun hf => ?_
  have h0 : ¬ ((n : Int) < -9223372036854775807) := by omega
  have h1 : ¬ ((n : Int) < 0) := by omega
  simp -implicitDefEqProofs [ac86, h0, h1, kw, ew, sw, aw_cond, awOps_nil, awOps_cons, awOps_guardE, nx_eq, awOp, -List.set_cons_succ, -List.set_cons_zero, A.ok, A.val, setSl, wrapG, guardB, getB, pickA, binA, binC, binD, cmpD, isCmp, unA, unD, lenA, AOp.total, kills, litB, FinQ, resOks, resOk, resA, resList, resOne, A.thaw, C.thaw, A.fits, As.fits, C.fits, evs, oks, callArgs, A.pure, C.pure, A.re, C.re, fieldAddrA, loadC, cut, A.cells, C.rows?, getOb, newOb, setOb, storeC, splice, Ob.re, Cs.fits, partsA, partsOk, parts2A, parts2Ok, fillC, fillRows, optInt, optOk, sliceA, clipC, optK_some, storeK_some, Option.map_some, toDs, C.toD, spliceD, appendA, capsOf, srcRows, allLen_nil_iff, allLen_cons_iff, allLen_append_iff, dropC, Obs.fits, eqCs, eqD, mapRow, mapPut, mapVal, mapOne, mapCells]
  have hlen : (Lib.decDigits n).length ≤ 1000000 := by
    have := itoa_len n (by omega) (by omega)
    rwa [Lib.itoa_nonneg] at this
  rw [Lib.itoa_nonneg]
  refine loop_set (σ := Nat × List UInt8) (fun x => [(0, .c (.d (.int .i64 x.1))), (3, .c (.d (.str x.2)))]) (fun _ => H) (fun _ => []) (fun x => x.1 ≤ n ∧ Lib.decDigits n = Lib.decDigits x.1 ++ x.2) (fun x => x.1) (n, []) rfl ⟨Nat.le_refl _, by simp⟩ ?_
  rintro ⟨m, out⟩ ⟨hm, hd⟩
  have hm1 : inR .i64 ((m : Int)) := i64_def.2 (by simp at hm; omega)
  have hol : out.length ≤ 1000000 := by rw [hd] at hlen; simp at hlen; omega
  simp only at hm hd
  simp -implicitDefEqProofs [setAll, kw, ew, sw, aw_cond, awOps_nil, awOps_cons, awOps_guardE, nx_eq, awOp, -List.set_cons_succ, -List.set_cons_zero, A.ok, A.val, setSl, wrapG, guardB, getB, pickA, binA, binC, binD, cmpD, isCmp, unA, unD, lenA, AOp.total, kills, litB, FinQ, resOks, resOk, resA, resList, resOne, A.thaw, C.thaw, A.fits, As.fits, C.fits, evs, oks, callArgs, A.pure, C.pure, A.re, C.re, fieldAddrA, loadC, cut, A.cells, C.rows?, getOb, newOb, setOb, storeC, splice, Ob.re, Cs.fits, partsA, partsOk, parts2A, parts2Ok, fillC, fillRows, optInt, optOk, sliceA, clipC, optK_some, storeK_some, Option.map_some, toDs, C.toD, spliceD, appendA, capsOf, srcRows, allLen_nil_iff, allLen_cons_iff, allLen_append_iff, dropC, Obs.fits, eqCs, eqD, mapRow, mapPut, mapVal, mapOne, mapCells]
  have hmod : (m : Int).tmod 10 = ((m % 10 : Nat) : Int) := by rw [Int.tmod_eq_emod_of_nonneg (by omega)]; omega
  have hquo : (m : Int).tdiv 10 = ((m / 10 : Nat) : Int) := by rw [Int.tdiv_eq_ediv_of_nonneg (by omega)]; omega
  have hq : inR .i64 ((m / 10 : Nat) : Int) := i64_def.2 (by omega)
  refine ⟨fun hgt => ?_, fun hle => ?_⟩
  · rw [hmod]
    refine ⟨small_i64 (by omega) (by omega), b2s_one (by omega) ?_⟩
    simp -implicitDefEqProofs [setAll, hquo, hq, maxStr, kw, ew, sw, aw_cond, awOps_nil, awOps_cons, awOps_guardE, nx_eq, awOp, -List.set_cons_succ, -List.set_cons_zero, A.ok, A.val, setSl, wrapG, guardB, getB, pickA, binA, binC, binD, cmpD, isCmp, unA, unD, lenA, AOp.total, kills, litB, FinQ, resOks, resOk, resA, resList, resOne, A.thaw, C.thaw, A.fits, As.fits, C.fits, evs, oks, callArgs, A.pure, C.pure, A.re, C.re, fieldAddrA, loadC, cut, A.cells, C.rows?, getOb, newOb, setOb, storeC, splice, Ob.re, Cs.fits, partsA, partsOk, parts2A, parts2Ok, fillC, fillRows, optInt, optOk, sliceA, clipC, optK_some, storeK_some, Option.map_some, toDs, C.toD, spliceD, appendA, capsOf, srcRows, allLen_nil_iff, allLen_cons_iff, allLen_append_iff, dropC, Obs.fits, eqCs, eqD, mapRow, mapPut, mapVal, mapOne, mapCells]
    refine ⟨by omega, ?_⟩
    refine ⟨by simpa using hq, ?_⟩
    refine loop_back (m / 10, UInt8.ofNat (48 + m % 10) :: out) (by simp [setAll]) ⟨by simp only; omega, ?_⟩ (by show m / 10 < m; omega)
    rw [hd, dd_big (n := m) (by omega)]
    simp
  · refine ⟨small_i64 (by omega) (by omega), b2s_one (by omega) ?_⟩
    simp -implicitDefEqProofs [setAll, maxStr, kw, ew, sw, aw_cond, awOps_nil, awOps_cons, awOps_guardE, nx_eq, awOp, -List.set_cons_succ, -List.set_cons_zero, A.ok, A.val, setSl, wrapG, guardB, getB, pickA, binA, binC, binD, cmpD, isCmp, unA, unD, lenA, AOp.total, kills, litB, FinQ, resOks, resOk, resA, resList, resOne, A.thaw, C.thaw, A.fits, As.fits, C.fits, evs, oks, callArgs, A.pure, C.pure, A.re, C.re, fieldAddrA, loadC, cut, A.cells, C.rows?, getOb, newOb, setOb, storeC, splice, Ob.re, Cs.fits, partsA, partsOk, parts2A, parts2Ok, fillC, fillRows, optInt, optOk, sliceA, clipC, optK_some, storeK_some, Option.map_some, toDs, C.toD, spliceD, appendA, capsOf, srcRows, allLen_nil_iff, allLen_cons_iff, allLen_append_iff, dropC, Obs.fits, eqCs, eqD, mapRow, mapPut, mapVal, mapOne, mapCells]
    rw [hd, dd_small (n := m) (by omega)]
    simp
    omega
theorem dec_calls (n : Int) (hn : inR .i64 n) (H : Heap) : ACalls Tryz.prog 86 [.c (.d (.int .i64 n))] H (fun r H' => H' = H ∧ r = .c (.d (.str (Lib.itoa n)))) := by
  obtain ⟨hn1, hn2⟩ := i64_def.1 hn
  rcases Int.lt_or_le n 0 with hneg | hpos
  · refine acalls Tryz.func86 (by kernel_rfl) ac86_ok fun hf => ?_
    simp -implicitDefEqProofs [ac86, kw, ew, sw, aw_cond, awOps_nil, awOps_cons, awOps_guardE, nx_eq, awOp, -List.set_cons_succ, -List.set_cons_zero, A.ok, A.val, setSl, wrapG, guardB, getB, pickA, binA, binC, binD, cmpD, isCmp, unA, unD, lenA, AOp.total, kills, litB, FinQ, resOks, resOk, resA, resList, resOne, A.thaw, C.thaw, A.fits, As.fits, C.fits, evs, oks, callArgs, A.pure, C.pure, A.re, C.re, fieldAddrA, loadC, cut, A.cells, C.rows?, getOb, newOb, setOb, storeC, splice, Ob.re, Cs.fits, partsA, partsOk, parts2A, parts2Ok, fillC, fillRows, optInt, optOk, sliceA, clipC, optK_some, storeK_some, Option.map_some, toDs, C.toD, spliceD, appendA, capsOf, srcRows, allLen_nil_iff, allLen_cons_iff, allLen_append_iff, dropC, Obs.fits, eqCs, eqD, mapRow, mapPut, mapVal, mapOne, mapCells]
    refine ⟨fun h => ?_, fun h => ?_⟩
    · have : n = -9223372036854775808 := by omega
      subst this
      decide +kernel
    · refine ⟨fun _ => ?_, fun h => by omega⟩
      have hi : inR .i64 (-n) := i64_def.2 (by omega)
      have h2 := dec_pos n.natAbs (by omega)
      have e : ((n.natAbs : Nat) : Int) = -n := by omega
      have e2 : Lib.itoa n = 45 :: Lib.itoa (-n) := by
        rw [← e, Lib.itoa_nonneg]
        unfold Lib.itoa
        rw [if_pos hneg]
      rw [e] at h2
      have h3 := itoa_len (-n) (by omega) (by omega)
      refine ⟨hi, qcall_pure h2 hf rfl ?_⟩
      simp -implicitDefEqProofs [e2, maxStr, kw, ew, sw, aw_cond, awOps_nil, awOps_cons, awOps_guardE, nx_eq, awOp, -List.set_cons_succ, -List.set_cons_zero, A.ok, A.val, setSl, wrapG, guardB, getB, pickA, binA, binC, binD, cmpD, isCmp, unA, unD, lenA, AOp.total, kills, litB, FinQ, resOks, resOk, resA, resList, resOne, A.thaw, C.thaw, A.fits, As.fits, C.fits, evs, oks, callArgs, A.pure, C.pure, A.re, C.re, fieldAddrA, loadC, cut, A.cells, C.rows?, getOb, newOb, setOb, storeC, splice, Ob.re, Cs.fits, partsA, partsOk, parts2A, parts2Ok, fillC, fillRows, optInt, optOk, sliceA, clipC, optK_some, storeK_some, Option.map_some, toDs, C.toD, spliceD, appendA, capsOf, srcRows, allLen_nil_iff, allLen_cons_iff, allLen_append_iff, dropC, Obs.fits, eqCs, eqD, mapRow, mapPut, mapVal, mapOne, mapCells]
      omega
  · have := dec_pos n.toNat (by omega) H
    rwa [Int.toNat_of_nonneg hpos] at this
theorem dec1_calls (n : Int) (hn1 : -9223372036854775807 ≤ n) (hn2 : n ≤ 9223372036854775807) (H : Heap) : ACalls Tryz.prog 67 [.c (.d (.int .i64 n))] H (fun r H' => H' = H ∧ r = .c (.d (.str (Lib.itoa n)))) := by
  refine acalls Tryz.func67 (by kernel_rfl) ac67_ok fun hf => ?_
  simp -implicitDefEqProofs [ac67, kw, ew, sw, aw_cond, awOps_nil, awOps_cons, awOps_guardE, nx_eq, awOp, -List.set_cons_succ, -List.set_cons_zero, A.ok, A.val, setSl, wrapG, guardB, getB, pickA, binA, binC, binD, cmpD, isCmp, unA, unD, lenA, AOp.total, kills, litB, FinQ, resOks, resOk, resA, resList, resOne, A.thaw, C.thaw, A.fits, As.fits, C.fits, evs, oks, callArgs, A.pure, C.pure, A.re, C.re, fieldAddrA, loadC, cut, A.cells, C.rows?, getOb, newOb, setOb, storeC, splice, Ob.re, Cs.fits, partsA, partsOk, parts2A, parts2Ok, fillC, fillRows, optInt, optOk, sliceA, clipC, optK_some, storeK_some, Option.map_some, toDs, C.toD, spliceD, appendA, capsOf, srcRows, allLen_nil_iff, allLen_cons_iff, allLen_append_iff, dropC, Obs.fits, eqCs, eqD, mapRow, mapPut, mapVal, mapOne, mapCells]
  refine ⟨fun hneg => ?_, fun hpos => ?_⟩
  · have e2 : Lib.itoa n = 45 :: Lib.itoa (-n) := by
      have e : ((n.natAbs : Nat) : Int) = -n := by omega
      rw [← e, Lib.itoa_nonneg]
      unfold Lib.itoa
      rw [if_pos hneg]
    have h3 := itoa_len (-n) (by omega) (by omega)
    refine ⟨i64_def.2 (by omega), qcall_pure (dec_calls (-n) (i64_def.2 (by omega))) hf rfl ?_⟩
    simp -implicitDefEqProofs [e2, maxStr, kw, ew, sw, aw_cond, awOps_nil, awOps_cons, awOps_guardE, nx_eq, awOp, -List.set_cons_succ, -List.set_cons_zero, A.ok, A.val, setSl, wrapG, guardB, getB, pickA, binA, binC, binD, cmpD, isCmp, unA, unD, lenA, AOp.total, kills, litB, FinQ, resOks, resOk, resA, resList, resOne, A.thaw, C.thaw, A.fits, As.fits, C.fits, evs, oks, callArgs, A.pure, C.pure, A.re, C.re, fieldAddrA, loadC, cut, A.cells, C.rows?, getOb, newOb, setOb, storeC, splice, Ob.re, Cs.fits, partsA, partsOk, parts2A, parts2Ok, fillC, fillRows, optInt, optOk, sliceA, clipC, optK_some, storeK_some, Option.map_some, toDs, C.toD, spliceD, appendA, capsOf, srcRows, allLen_nil_iff, allLen_cons_iff, allLen_append_iff, dropC, Obs.fits, eqCs, eqD, mapRow, mapPut, mapVal, mapOne, mapCells]
    omega
  · refine qcall_pure (dec_calls n (i64_def.2 (by omega))) hf rfl ?_
    simp -implicitDefEqProofs [kw, ew, sw, aw_cond, awOps_nil, awOps_cons, awOps_guardE, nx_eq, awOp, -List.set_cons_succ, -List.set_cons_zero, A.ok, A.val, setSl, wrapG, guardB, getB, pickA, binA, binC, binD, cmpD, isCmp, unA, unD, lenA, AOp.total, kills, litB, FinQ, resOks, resOk, resA, resList, resOne, A.thaw, C.thaw, A.fits, As.fits, C.fits, evs, oks, callArgs, A.pure, C.pure, A.re, C.re, fieldAddrA, loadC, cut, A.cells, C.rows?, getOb, newOb, setOb, storeC, splice, Ob.re, Cs.fits, partsA, partsOk, parts2A, parts2Ok, fillC, fillRows, optInt, optOk, sliceA, clipC, optK_some, storeK_some, Option.map_some, toDs, C.toD, spliceD, appendA, capsOf, srcRows, allLen_nil_iff, allLen_cons_iff, allLen_append_iff, dropC, Obs.fits, eqCs, eqD, mapRow, mapPut, mapVal, mapOne, mapCells]
end Go.Proofs.YtikgpomnibbioaaGreatDoor
