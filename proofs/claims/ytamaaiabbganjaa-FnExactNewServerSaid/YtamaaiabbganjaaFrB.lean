/-
  Frames: bytes are taken apart.
  Conditions: none.
-/
import Derived.Test.YtamaaiabbganjaaFrA
open Go Go.AM Go.Proofs
namespace Go.Proofs.Ytamaaiabbganjaa
open Go.ChangeShapes Go.WideShapes Go.ChangeAt Go.RowKit
set_option linter.unusedVariables false
set_option linter.unusedSimpArgs false
set_option maxRecDepth 100000
-- 50 loop.example/prologserver/impl.lengthOf params 1 ntmps 16
def ac50 : Cd := .seq (.region [⟨(some 2), .mv (.k (.c (.d (.int .i64 0)))), none⟩] [2])
  (.seq (.seq (.region [⟨(some 3), .mv (.t 0), none⟩,
        ⟨(some 4), .len 1 (.t 3), none⟩,
        ⟨(some 5), .bin .lss (.t 4) (.k (.c (.d (.int .i64 2)))), none⟩] [3, 4])
    (.cond (.t 5)
      (.seq (.region [⟨(some 2), .mv (.k (.c (.d (.int .i64 (-1))))), none⟩] [0, 5])
      (.ret))
      (.skip)))
  (.seq (.region [⟨(some 6), .mv (.t 0), none⟩,
      ⟨(some 7), .indexAddr 1 (.t 6) (.k (.c (.d (.int .i64 0)))), none⟩,
      ⟨(some 11), .mv (.t 0), none⟩,
      ⟨(some 12), .indexAddr 1 (.t 11) (.k (.c (.d (.int .i64 1)))), none⟩,
      ⟨(some 8), .load none (.t 7), none⟩,
      ⟨(some 9), .cvInt .i64 (.t 8), none⟩,
      ⟨(some 10), .bin .shl (.t 9) (.k (.c (.d (.int .u64 8)))), none⟩,
      ⟨(some 13), .load none (.t 12), none⟩,
      ⟨(some 14), .cvInt .i64 (.t 13), none⟩,
      ⟨(some 15), .bin .or (.t 10) (.t 14), none⟩,
      ⟨(some 2), .mv (.t 15), none⟩] [0, 5, 6, 7, 8, 9, 10, 11, 12, 13, 14, 15])
  (.ret)))
theorem ac50_ok : cFunc Try.prog [] [(0, [2], []), (1, [3, 4], []), (2, [0, 5], []), (3, [0, 5, 6, 7, 8, 9, 10, 11, 12, 13, 14, 15], [0, 1, 5, 6, 2, 3, 4, 7, 8, 9, 10])] Try.f50 = some (ac50, [.tmp 2], 16) := by kernel_rfl
-- 47 loop.example/prologserver/impl.DecoderValid params 1 ntmps 27
def ac47 : Cd := .seq (.region [⟨(some 1), .box (.t 0), none⟩,
      ⟨(some 2), .mv (.k (.c (.d (.bool false)))), none⟩] [0, 2])
  (.seq (.seq (.region [⟨(some 4), .fieldAddr 1 (.t 1), none⟩,
        ⟨(some 5), .load none (.t 4), none⟩] [4])
    (.cond (.t 5)
      (.seq (.region [⟨(some 6), .fieldAddr 0 (.t 1), none⟩,
          ⟨(some 7), .load none (.t 6), none⟩,
          ⟨(some 8), .len 1 (.t 7), none⟩,
          ⟨(some 9), .bin .eql (.t 8) (.k (.c (.d (.int .i64 0)))), none⟩,
          ⟨(some 2), .mv (.t 9), none⟩] [1, 5, 6, 7, 8, 9])
      (.ret))
      (.skip)))
  (.seq (.region [⟨(some 10), .fieldAddr 0 (.t 1), none⟩,
      ⟨(some 11), .load none (.t 10), none⟩,
      ⟨(some 12), .qcall 50 [(.t 11)], none⟩,
      ⟨(some 3), .mv (.t 12), none⟩] [2, 5, 10, 11, 12])
  (.seq (.region [⟨(some 13), .mv (.t 3), none⟩,
      ⟨(some 14), .bin .lss (.t 13) (.k (.c (.d (.int .i64 0)))), none⟩,
      ⟨(some 15), .mv (.t 14), none⟩,
      ⟨(some 16), .mv (.t 3), some (15, false)⟩,
      ⟨(some 17), .qcall 51 [(.t 16), (.k (.c (.d (.int .i64 1)))), (.k (.c (.d (.int .i64 2001))))], some (15, false)⟩,
      ⟨(some 18), .mv (.t 17), some (15, false)⟩,
      ⟨(some 19), .fieldAddr 0 (.t 1), some (18, true)⟩,
      ⟨(some 20), .load none (.t 19), some (18, true)⟩,
      ⟨(some 21), .len 1 (.t 20), some (18, true)⟩,
      ⟨(some 22), .mv (.t 3), some (18, true)⟩,
      ⟨(some 23), .bin .add (.t 22) (.k (.c (.d (.int .i64 2)))), some (18, true)⟩,
      ⟨(some 24), .bin .lss (.t 21) (.t 23), some (18, true)⟩,
      ⟨(some 25), .pick (.t 18) (.t 24) (.k (.c (.d (.bool false)))), some (15, false)⟩,
      ⟨(some 26), .pick (.t 15) (.k (.c (.d (.bool true)))) (.t 25), none⟩,
      ⟨(some 2), .mv (.t 26), none⟩] [1, 3, 13, 14, 15, 16, 17, 18, 19, 20, 21, 22, 23, 24, 25, 26])
  (.ret))))
theorem ac47_ok : cFunc Try.prog [1000050, 1000051] [(0, [0, 2], []), (1, [4], []), (2, [1, 5, 6, 7, 8, 9], []), (3, [2, 5, 10, 11, 12], []), (4, [1, 3, 13, 14, 15, 16, 17, 18, 19, 20, 21, 22, 23, 24, 25, 26], [])] Try.f47 = some (ac47, [.tmp 2], 27) := by kernel_rfl
-- 46 loop.example/prologserver/spec.DecoderValid params 1 ntmps 19
def ac46 : Cd := .seq (.region [⟨(some 1), .box (.t 0), none⟩,
      ⟨(some 2), .mv (.k (.c (.d (.bool false)))), none⟩] [0, 2])
  (.seq (.seq (.region [⟨(some 5), .fieldAddr 1 (.t 1), none⟩,
        ⟨(some 6), .load none (.t 5), none⟩] [5])
    (.cond (.t 6)
      (.seq (.region [⟨(some 7), .fieldAddr 0 (.t 1), none⟩,
          ⟨(some 8), .load none (.t 7), none⟩,
          ⟨(some 9), .len 1 (.t 8), none⟩,
          ⟨(some 10), .bin .eql (.t 9) (.k (.c (.d (.int .i64 0)))), none⟩,
          ⟨(some 2), .mv (.t 10), none⟩] [1, 6, 7, 8, 9, 10])
      (.ret))
      (.skip)))
  (.seq (.region [⟨(some 12), .fieldAddr 0 (.t 1), none⟩,
      ⟨(some 13), .load none (.t 12), none⟩,
      ⟨(some 14), .qcall 56 [(.t 13)], none⟩,
      ⟨(some 11), .mv (.t 14), none⟩,
      ⟨(some 15), .extract 0 (.t 11), none⟩,
      ⟨(some 16), .extract 1 (.t 11), none⟩,
      ⟨(some 3), .alloc [(.d (.int .i64 0)), (.d (.str []))], none⟩,
      ⟨none, .store 2 (.t 3) (.t 15), none⟩,
      ⟨(some 4), .mv (.t 16), none⟩] [1, 2, 3, 6, 11, 12, 13, 14, 15, 16])
  (.seq (.region [⟨(some 17), .mv (.t 4), none⟩,
      ⟨(some 18), .bin .eql (.t 17) (.k (.c (.d (.int .i64 0)))), none⟩,
      ⟨(some 2), .mv (.t 18), none⟩] [4, 17, 18])
  (.ret))))
theorem ac46_ok : cFunc Try.prog [1000056] [(0, [0, 2], []), (1, [5], []), (2, [1, 6, 7, 8, 9, 10], []), (3, [1, 2, 3, 6, 11, 12, 13, 14, 15, 16], []), (4, [4, 17, 18], [])] Try.f46 = some (ac46, [.tmp 2], 19) := by kernel_rfl
-- 56 loop.example/prologserver/spec.l11Next params 1 ntmps 50
def ac56 : Cd := .seq (.region [⟨(some 2), .alloc [(.d (.int .i64 0)), (.d (.str []))], none⟩,
      ⟨(some 3), .mv (.k (.c (.d (.int .i64 0)))), none⟩] [3])
  (.seq (.seq (.region [⟨(some 6), .mv (.t 0), none⟩,
        ⟨(some 7), .len 1 (.t 6), none⟩,
        ⟨(some 8), .bin .lss (.t 7) (.k (.c (.d (.int .i64 2)))), none⟩] [6, 7])
    (.cond (.t 8)
      (.seq (.region [⟨(some 9), .build [(.d (.int .i64 0)), (.d (.str []))] [], none⟩,
          ⟨none, .store 2 (.t 2) (.t 9), none⟩,
          ⟨(some 3), .mv (.k (.c (.d (.int .i64 0)))), none⟩] [0, 8, 9])
      (.ret))
      (.skip)))
  (.seq (.region [⟨(some 10), .mv (.t 0), none⟩,
      ⟨(some 11), .indexAddr 1 (.t 10) (.k (.c (.d (.int .i64 0)))), none⟩,
      ⟨(some 15), .mv (.t 0), none⟩,
      ⟨(some 16), .indexAddr 1 (.t 15) (.k (.c (.d (.int .i64 1)))), none⟩,
      ⟨(some 12), .load none (.t 11), none⟩,
      ⟨(some 13), .cvInt .i64 (.t 12), none⟩,
      ⟨(some 14), .bin .mul (.t 13) (.k (.c (.d (.int .i64 256)))), none⟩,
      ⟨(some 17), .load none (.t 16), none⟩,
      ⟨(some 18), .cvInt .i64 (.t 17), none⟩,
      ⟨(some 19), .bin .add (.t 14) (.t 18), none⟩,
      ⟨(some 4), .mv (.t 19), none⟩] [3, 8, 10, 11, 12, 13, 14, 15, 16, 17, 18, 19])
  (.seq (.seq (.region [⟨(some 20), .mv (.t 4), none⟩,
        ⟨(some 21), .bin .lss (.t 20) (.k (.c (.d (.int .i64 1)))), none⟩,
        ⟨(some 22), .mv (.t 21), none⟩,
        ⟨(some 23), .mv (.t 4), some (22, false)⟩,
        ⟨(some 24), .bin .gtr (.t 23) (.k (.c (.d (.int .i64 2001)))), some (22, false)⟩,
        ⟨(some 25), .pick (.t 22) (.k (.c (.d (.bool true)))) (.t 24), none⟩] [20, 21, 22, 23, 24])
    (.cond (.t 25)
      (.seq (.region [⟨(some 26), .build [(.d (.int .i64 0)), (.d (.str []))] [], none⟩,
          ⟨none, .store 2 (.t 2) (.t 26), none⟩,
          ⟨(some 3), .mv (.k (.c (.d (.int .i64 (-1))))), none⟩] [0, 4, 25, 26])
      (.ret))
      (.skip)))
  (.seq (.seq (.region [⟨(some 27), .mv (.t 0), none⟩,
        ⟨(some 28), .len 1 (.t 27), none⟩,
        ⟨(some 29), .mv (.t 4), none⟩,
        ⟨(some 30), .bin .add (.k (.c (.d (.int .i64 2)))) (.t 29), none⟩,
        ⟨(some 31), .bin .lss (.t 28) (.t 30), none⟩] [3, 25, 27, 28, 29, 30])
    (.cond (.t 31)
      (.seq (.region [⟨(some 32), .build [(.d (.int .i64 0)), (.d (.str []))] [], none⟩,
          ⟨none, .store 2 (.t 2) (.t 32), none⟩,
          ⟨(some 3), .mv (.k (.c (.d (.int .i64 0)))), none⟩] [0, 4, 31, 32])
      (.ret))
      (.skip)))
  (.seq (.region [⟨(some 33), .mv (.t 0), none⟩,
      ⟨(some 34), .indexAddr 1 (.t 33) (.k (.c (.d (.int .i64 2)))), none⟩,
      ⟨(some 37), .mv (.t 0), none⟩,
      ⟨(some 38), .mv (.t 4), none⟩,
      ⟨(some 39), .bin .add (.k (.c (.d (.int .i64 2)))) (.t 38), none⟩,
      ⟨(some 40), .slice 1 (.t 37) (some (.k (.c (.d (.int .i64 3))))) (some (.t 39)) none, none⟩,
      ⟨(some 41), .cvB2S (.t 40), none⟩,
      ⟨(some 35), .load none (.t 34), none⟩,
      ⟨(some 36), .cvInt .i64 (.t 35), none⟩,
      ⟨(some 42), .build [(.d (.int .i64 0)), (.d (.str []))] [(0, 1, (.t 36)), (1, 1, (.t 41))], none⟩,
      ⟨(some 5), .alloc [(.d (.int .i64 0)), (.d (.str []))], none⟩,
      ⟨none, .store 2 (.t 5) (.t 42), none⟩] [0, 3, 31, 33, 34, 35, 36, 37, 38, 39, 40, 41, 42])
  (.seq (.seq (.region [⟨(some 43), .load (some 2) (.t 5), none⟩,
        ⟨(some 44), .qcall 37 [(.t 43)], none⟩,
        ⟨(some 45), .un .not (.t 44), none⟩] [43, 44])
    (.cond (.t 45)
      (.seq (.region [⟨(some 46), .build [(.d (.int .i64 0)), (.d (.str []))] [], none⟩,
          ⟨none, .store 2 (.t 2) (.t 46), none⟩,
          ⟨(some 3), .mv (.k (.c (.d (.int .i64 (-1))))), none⟩] [4, 5, 45, 46])
      (.ret))
      (.skip)))
  (.seq (.region [⟨(some 47), .load (some 2) (.t 5), none⟩,
      ⟨(some 48), .mv (.t 4), none⟩,
      ⟨(some 49), .bin .add (.k (.c (.d (.int .i64 2)))) (.t 48), none⟩,
      ⟨none, .store 2 (.t 2) (.t 47), none⟩,
      ⟨(some 3), .mv (.t 49), none⟩] [4, 5, 45, 47, 48, 49])
  (.ret))))))))
theorem ac56_ok : cFunc Try.prog [1000037] [(0, [3], []), (1, [6, 7], []), (2, [0, 8, 9], []), (3, [3, 8, 10, 11, 12, 13, 14, 15, 16, 17, 18, 19], [0, 1, 5, 6, 2, 3, 4, 7, 8, 9, 10]), (4, [20, 21, 22, 23, 24], []), (5, [0, 4, 25, 26], []), (6, [3, 25, 27, 28, 29, 30], []), (7, [0, 4, 31, 32], []), (8, [0, 3, 31, 33, 34, 35, 36, 37, 38, 39, 40, 41, 42], [0, 1, 4, 5, 6, 7, 8, 2, 3, 9, 10, 11]), (9, [43, 44], []), (10, [4, 5, 45, 46], []), (11, [4, 5, 45, 47, 48, 49], [])] Try.f56 = some (ac56, [.cell 2 (some 2), .tmp 3], 50) := by kernel_rfl
/-- a byte of a list, 0 behind its end -/
def byteAt (s : List UInt8) (k : Nat) : UInt8 := s.getD k 0
theorem byteRowD {s : List UInt8} {i : Int} (k : Nat) {K : A → St → Prop} {st : St} (hi : i = k) (h : k < s.length) (hk : K (.c (.el [.int .u8 (byteAt s k).toNat] 0)) st) : RowK true (bytesRows s) i 1 K st := by
  subst hi
  refine row_nat _ ?_ rfl hk
  rw [bytesRows_get h]
  simp [byteAt, List.getD, h]
def hd2 (b : List UInt8) : Nat := (byteAt b 0).toNat * 256 + (byteAt b 1).toNat
def lenOf (b : List UInt8) : Int := if b.length < 2 then -1 else hd2 b
def frameAt (b : List UInt8) : Frame := ⟨(byteAt b 2).toNat, (b.take (hd2 b + 2)).drop 3⟩
/-- how many bytes a frame takes: 0 if more are needed, -1 if there can be none -/
def nextN (b : List UInt8) : Int :=
  if b.length < 2 then 0 else if hd2 b < 1 ∨ 2001 < hd2 b then -1 else if b.length < 2 + hd2 b then 0 else if (frameAt b).ok then 2 + hd2 b else -1
def nextF (b : List UInt8) : Frame := if 0 < nextN b then frameAt b else ⟨0, []⟩
theorem hd2_lt (b : List UInt8) : hd2 b < 65536 := by
  unfold hd2
  have h1 := (byteAt b 0).toNat_lt
  have h2 := (byteAt b 1).toNat_lt
  omega
theorem or_bytes (x y : UInt8) : bitsVal .or .i64 ((x.toNat : Int) * 256) (y.toNat : Int) = ((x.toNat * 256 + y.toNat : Nat) : Int) := by
  have hx := x.toNat_lt
  have hy := y.toNat_lt
  have e : ((BitVec.ofInt 64 ((x.toNat : Int) * 256)) ||| (BitVec.ofInt 64 (y.toNat : Int))).toNat = x.toNat * 256 + y.toNat := by
    rw [BitVec.toNat_or]
    have h1 : (BitVec.ofInt 64 ((x.toNat : Int) * 256)).toNat = x.toNat * 256 := by
      rw [show ((x.toNat : Int) * 256) = ((x.toNat * 256 : Nat) : Int) by omega, BitVec.ofInt_natCast, BitVec.toNat_ofNat, Nat.mod_eq_of_lt (by omega)]
    have h2 : (BitVec.ofInt 64 (y.toNat : Int)).toNat = y.toNat := by rw [BitVec.ofInt_natCast, BitVec.toNat_ofNat, Nat.mod_eq_of_lt (by omega)]
    rw [h1, h2]
    have := Nat.shiftLeft_add_eq_or_of_lt (b := y.toNat) (i := 8) (by omega) x.toNat
    rw [Nat.shiftLeft_eq, show (2 : Nat) ^ 8 = 256 from rfl] at this
    omega
  show IntKind.wrap .i64 (((BitVec.ofInt 64 ((x.toNat : Int) * 256)) ||| (BitVec.ofInt 64 (y.toNat : Int))).toNat : Int) = _
  rw [e, IntKind.wrap_i64]
  omega
theorem lengthOf_calls (b : List UInt8) (hb : b.length ≤ 140737488355328) (H : Heap) : ACalls Try.prog 50 [.c (.d (.sl (bytesRows b)))] H (fun r H' => H' = H ∧ r = .c (.d (.int .i64 (lenOf b)))) := by
  refine acalls Try.func50 (by kernel_rfl) ac50_ok fun hf => ?_
  have hl : inR .i64 (b.length : Int) := small_i64 (by omega) (by omega)
  have hbit : (8 : Int) < ((IntKind.i64.bits : Nat) : Int) := by decide
  simp -implicitDefEqProofs [ac50, hl, bytesRows_len, aw_skip, aw_region, aw_seq, aw_block, aw_cond, aw_exit, aw_ret, kq_nil, kq_seq, kq_seq_ret, kq_seq_exit, kq_block, kq_block_ret, kq_block_exit, kq_loop, kq_loop_ret, kq_loop_exit, awOps_nil, awOps_cons, awOps_guardE, nx_eq, awOp, ev_k, ev_0, ev_1, ev_2, ev_3, ev_4, ev_5, ev_6, ev_7, ev_8, set_0, set_1, set_2, set_3, set_4, set_5, set_6, set_7, set_8, -List.set_cons_succ, -List.set_cons_zero, A.ok, A.val, setSl, wrapG, guardB, getB, pickA, binA, binC, binD, cmpD, isCmp, unA, unD, lenA, AOp.total, kills, litB, FinQ, resOks, resOk, resA, resList, resOne, A.thaw, C.thaw, A.fits, As.fits, C.fits, evs, oks, callArgs, A.pure, C.pure, A.re, C.re, fieldAddrA, loadC, cut, A.cells, C.rows?, getOb, newOb, setOb, storeC, splice, Ob.re, Cs.fits, partsA, partsOk, parts2A, parts2Ok, fillC, fillRows, optInt, optOk, sliceA, clipC, optK_some, storeK_some, Option.map_some, toDs, C.toD, spliceD, appendA, capsOf, srcRows, allLen_nil_iff, allLen_cons_iff, allLen_append_iff, dropC, Obs.fits, eqCs, eqD]
  refine ⟨fun h => by rw [lenOf, if_pos (by omega)], fun h => ?_⟩
  refine byteRowD 0 rfl (by omega) ?_
  simp -implicitDefEqProofs [aw_skip, aw_region, aw_seq, aw_block, aw_cond, aw_exit, aw_ret, kq_nil, kq_seq, kq_seq_ret, kq_seq_exit, kq_block, kq_block_ret, kq_block_exit, kq_loop, kq_loop_ret, kq_loop_exit, awOps_nil, awOps_cons, awOps_guardE, nx_eq, awOp, ev_k, ev_0, ev_1, ev_2, ev_3, ev_4, ev_5, ev_6, ev_7, ev_8, set_0, set_1, set_2, set_3, set_4, set_5, set_6, set_7, set_8, -List.set_cons_succ, -List.set_cons_zero, A.ok, A.val, setSl, wrapG, guardB, getB, pickA, binA, binC, binD, cmpD, isCmp, unA, unD, lenA, AOp.total, kills, litB, FinQ, resOks, resOk, resA, resList, resOne, A.thaw, C.thaw, A.fits, As.fits, C.fits, evs, oks, callArgs, A.pure, C.pure, A.re, C.re, fieldAddrA, loadC, cut, A.cells, C.rows?, getOb, newOb, setOb, storeC, splice, Ob.re, Cs.fits, partsA, partsOk, parts2A, parts2Ok, fillC, fillRows, optInt, optOk, sliceA, clipC, optK_some, storeK_some, Option.map_some, toDs, C.toD, spliceD, appendA, capsOf, srcRows, allLen_nil_iff, allLen_cons_iff, allLen_append_iff, dropC, Obs.fits, eqCs, eqD]
  refine byteRowD 1 rfl (by omega) ?_
  have h0 := (byteAt b 0).toNat_lt
  have hm : inR .i64 (((byteAt b 0).toNat : Int) * 256) := small_i64 (by omega) (by omega)
  have hor := or_bytes (byteAt b 0) (byteAt b 1)
  simp -implicitDefEqProofs [u8_i64, hm, hbit, hor, aw_skip, aw_region, aw_seq, aw_block, aw_cond, aw_exit, aw_ret, kq_nil, kq_seq, kq_seq_ret, kq_seq_exit, kq_block, kq_block_ret, kq_block_exit, kq_loop, kq_loop_ret, kq_loop_exit, awOps_nil, awOps_cons, awOps_guardE, nx_eq, awOp, ev_k, ev_0, ev_1, ev_2, ev_3, ev_4, ev_5, ev_6, ev_7, ev_8, set_0, set_1, set_2, set_3, set_4, set_5, set_6, set_7, set_8, -List.set_cons_succ, -List.set_cons_zero, A.ok, A.val, setSl, wrapG, guardB, getB, pickA, binA, binC, binD, cmpD, isCmp, unA, unD, lenA, AOp.total, kills, litB, FinQ, resOks, resOk, resA, resList, resOne, A.thaw, C.thaw, A.fits, As.fits, C.fits, evs, oks, callArgs, A.pure, C.pure, A.re, C.re, fieldAddrA, loadC, cut, A.cells, C.rows?, getOb, newOb, setOb, storeC, splice, Ob.re, Cs.fits, partsA, partsOk, parts2A, parts2Ok, fillC, fillRows, optInt, optOk, sliceA, clipC, optK_some, storeK_some, Option.map_some, toDs, C.toD, spliceD, appendA, capsOf, srcRows, allLen_nil_iff, allLen_cons_iff, allLen_append_iff, dropC, Obs.fits, eqCs, eqD]
  rw [lenOf, if_neg (by omega), hd2]
  omega
theorem next_calls (b : List UInt8) (hb : b.length ≤ 140737488355328) (H : Heap) : ACalls Try.prog 56 [.c (.d (.sl (bytesRows b)))] H (fun r H' => H' = H ∧ r = .tup [.agg ((nextF b).row.map .d), .c (.d (.int .i64 (nextN b)))]) := by
  refine acalls Try.func56 (by kernel_rfl) ac56_ok fun hf => ?_
  have hl : inR .i64 (b.length : Int) := small_i64 (by omega) (by omega)
  have hb0 := (byteAt b 0).toNat_lt
  have hb1 := (byteAt b 1).toNat_lt
  have hm : inR .i64 (((byteAt b 0).toNat : Int) * 256) := small_i64 (by omega) (by omega)
  have hh : ((byteAt b 0).toNat : Int) * 256 + ((byteAt b 1).toNat : Int) = (hd2 b : Int) := by simp [hd2]
  have hh1 : inR .i64 (hd2 b : Int) := small_i64 (by omega) (by have := hd2_lt b; omega)
  have hh2 : inR .i64 (2 + (hd2 b : Int)) := small_i64 (by omega) (by have := hd2_lt b; omega)
  simp -implicitDefEqProofs [ac56, hl, bytesRows_len, aw_skip, aw_region, aw_seq, aw_block, aw_cond, aw_exit, aw_ret, kq_nil, kq_seq, kq_seq_ret, kq_seq_exit, kq_block, kq_block_ret, kq_block_exit, kq_loop, kq_loop_ret, kq_loop_exit, awOps_nil, awOps_cons, awOps_guardE, nx_eq, awOp, ev_k, ev_0, ev_1, ev_2, ev_3, ev_4, ev_5, ev_6, ev_7, ev_8, set_0, set_1, set_2, set_3, set_4, set_5, set_6, set_7, set_8, -List.set_cons_succ, -List.set_cons_zero, A.ok, A.val, setSl, wrapG, guardB, getB, pickA, binA, binC, binD, cmpD, isCmp, unA, unD, lenA, AOp.total, kills, litB, FinQ, resOks, resOk, resA, resList, resOne, A.thaw, C.thaw, A.fits, As.fits, C.fits, evs, oks, callArgs, A.pure, C.pure, A.re, C.re, fieldAddrA, loadC, cut, A.cells, C.rows?, getOb, newOb, setOb, storeC, splice, Ob.re, Cs.fits, partsA, partsOk, parts2A, parts2Ok, fillC, fillRows, optInt, optOk, sliceA, clipC, optK_some, storeK_some, Option.map_some, toDs, C.toD, spliceD, appendA, capsOf, srcRows, allLen_nil_iff, allLen_cons_iff, allLen_append_iff, dropC, Obs.fits, eqCs, eqD]
  have z : ∀ n : Int, ¬ 0 < n → n = nextN b → [C.d (D.int IntKind.i64 0), C.d (D.str [])] = List.map C.d (nextF b).row ∧ n = nextN b := fun n h e => ⟨by rw [nextF, if_neg (by omega)]; rfl, e⟩
  refine ⟨fun h => ⟨hf, z 0 (by omega) (by rw [nextN, if_pos (by omega)])⟩, fun h => ?_⟩
  refine byteRowD 0 rfl (by omega) ?_
  simp -implicitDefEqProofs [aw_skip, aw_region, aw_seq, aw_block, aw_cond, aw_exit, aw_ret, kq_nil, kq_seq, kq_seq_ret, kq_seq_exit, kq_block, kq_block_ret, kq_block_exit, kq_loop, kq_loop_ret, kq_loop_exit, awOps_nil, awOps_cons, awOps_guardE, nx_eq, awOp, ev_k, ev_0, ev_1, ev_2, ev_3, ev_4, ev_5, ev_6, ev_7, ev_8, set_0, set_1, set_2, set_3, set_4, set_5, set_6, set_7, set_8, -List.set_cons_succ, -List.set_cons_zero, A.ok, A.val, setSl, wrapG, guardB, getB, pickA, binA, binC, binD, cmpD, isCmp, unA, unD, lenA, AOp.total, kills, litB, FinQ, resOks, resOk, resA, resList, resOne, A.thaw, C.thaw, A.fits, As.fits, C.fits, evs, oks, callArgs, A.pure, C.pure, A.re, C.re, fieldAddrA, loadC, cut, A.cells, C.rows?, getOb, newOb, setOb, storeC, splice, Ob.re, Cs.fits, partsA, partsOk, parts2A, parts2Ok, fillC, fillRows, optInt, optOk, sliceA, clipC, optK_some, storeK_some, Option.map_some, toDs, C.toD, spliceD, appendA, capsOf, srcRows, allLen_nil_iff, allLen_cons_iff, allLen_append_iff, dropC, Obs.fits, eqCs, eqD]
  refine byteRowD 1 rfl (by omega) ?_
  simp -implicitDefEqProofs [u8_i64, hm, hh, hh1, hh2, hl, bytesRows_len, aw_skip, aw_region, aw_seq, aw_block, aw_cond, aw_exit, aw_ret, kq_nil, kq_seq, kq_seq_ret, kq_seq_exit, kq_block, kq_block_ret, kq_block_exit, kq_loop, kq_loop_ret, kq_loop_exit, awOps_nil, awOps_cons, awOps_guardE, nx_eq, awOp, ev_k, ev_0, ev_1, ev_2, ev_3, ev_4, ev_5, ev_6, ev_7, ev_8, set_0, set_1, set_2, set_3, set_4, set_5, set_6, set_7, set_8, -List.set_cons_succ, -List.set_cons_zero, A.ok, A.val, setSl, wrapG, guardB, getB, pickA, binA, binC, binD, cmpD, isCmp, unA, unD, lenA, AOp.total, kills, litB, FinQ, resOks, resOk, resA, resList, resOne, A.thaw, C.thaw, A.fits, As.fits, C.fits, evs, oks, callArgs, A.pure, C.pure, A.re, C.re, fieldAddrA, loadC, cut, A.cells, C.rows?, getOb, newOb, setOb, storeC, splice, Ob.re, Cs.fits, partsA, partsOk, parts2A, parts2Ok, fillC, fillRows, optInt, optOk, sliceA, clipC, optK_some, storeK_some, Option.map_some, toDs, C.toD, spliceD, appendA, capsOf, srcRows, allLen_nil_iff, allLen_cons_iff, allLen_append_iff, dropC, Obs.fits, eqCs, eqD]
  refine ⟨fun h1 => ⟨hf, z _ (by omega) (by rw [nextN, if_neg (by omega), if_pos (by omega)])⟩, fun h1 h2 => ⟨fun h3 => ⟨hf, z _ (by omega) (by rw [nextN, if_neg (by omega), if_neg (by omega), if_pos (by omega)])⟩, fun h3 => ?_⟩⟩
  refine byteRowD 2 rfl (by omega) ?_
  have hs3 : ((2 + (hd2 b : Int)).toNat) = hd2 b + 2 := by omega
  simp -implicitDefEqProofs [hs3, hh2, hl, bytesRows_len, allLen_bytes, take_bytes, drop_bytes, aw_skip, aw_region, aw_seq, aw_block, aw_cond, aw_exit, aw_ret, kq_nil, kq_seq, kq_seq_ret, kq_seq_exit, kq_block, kq_block_ret, kq_block_exit, kq_loop, kq_loop_ret, kq_loop_exit, awOps_nil, awOps_cons, awOps_guardE, nx_eq, awOp, ev_k, ev_0, ev_1, ev_2, ev_3, ev_4, ev_5, ev_6, ev_7, ev_8, set_0, set_1, set_2, set_3, set_4, set_5, set_6, set_7, set_8, -List.set_cons_succ, -List.set_cons_zero, A.ok, A.val, setSl, wrapG, guardB, getB, pickA, binA, binC, binD, cmpD, isCmp, unA, unD, lenA, AOp.total, kills, litB, FinQ, resOks, resOk, resA, resList, resOne, A.thaw, C.thaw, A.fits, As.fits, C.fits, evs, oks, callArgs, A.pure, C.pure, A.re, C.re, fieldAddrA, loadC, cut, A.cells, C.rows?, getOb, newOb, setOb, storeC, splice, Ob.re, Cs.fits, partsA, partsOk, parts2A, parts2Ok, fillC, fillRows, optInt, optOk, sliceA, clipC, optK_some, storeK_some, Option.map_some, toDs, C.toD, spliceD, appendA, capsOf, srcRows, allLen_nil_iff, allLen_cons_iff, allLen_append_iff, dropC, Obs.fits, eqCs, eqD]
  refine ⟨by omega, ?_⟩
  refine b2s_of ?_
  have hwf : ((b.take (hd2 b + 2)).drop 3).length ≤ reachBytes := by simp [reachBytes]; omega
  simp -implicitDefEqProofs [u8_i64, aw_skip, aw_region, aw_seq, aw_block, aw_cond, aw_exit, aw_ret, kq_nil, kq_seq, kq_seq_ret, kq_seq_exit, kq_block, kq_block_ret, kq_block_exit, kq_loop, kq_loop_ret, kq_loop_exit, awOps_nil, awOps_cons, awOps_guardE, nx_eq, awOp, ev_k, ev_0, ev_1, ev_2, ev_3, ev_4, ev_5, ev_6, ev_7, ev_8, set_0, set_1, set_2, set_3, set_4, set_5, set_6, set_7, set_8, -List.set_cons_succ, -List.set_cons_zero, A.ok, A.val, setSl, wrapG, guardB, getB, pickA, binA, binC, binD, cmpD, isCmp, unA, unD, lenA, AOp.total, kills, litB, FinQ, resOks, resOk, resA, resList, resOne, A.thaw, C.thaw, A.fits, As.fits, C.fits, evs, oks, callArgs, A.pure, C.pure, A.re, C.re, fieldAddrA, loadC, cut, A.cells, C.rows?, getOb, newOb, setOb, storeC, splice, Ob.re, Cs.fits, partsA, partsOk, parts2A, parts2Ok, fillC, fillRows, optInt, optOk, sliceA, clipC, optK_some, storeK_some, Option.map_some, toDs, C.toD, spliceD, appendA, capsOf, srcRows, allLen_nil_iff, allLen_cons_iff, allLen_append_iff, dropC, Obs.fits, eqCs, eqD]
  refine ⟨hf, ?_⟩
  refine qcall_pure (fvSpec_calls (frameAt b) hwf) hf rfl ?_
  simp -implicitDefEqProofs [hh2, aw_skip, aw_region, aw_seq, aw_block, aw_cond, aw_exit, aw_ret, kq_nil, kq_seq, kq_seq_ret, kq_seq_exit, kq_block, kq_block_ret, kq_block_exit, kq_loop, kq_loop_ret, kq_loop_exit, awOps_nil, awOps_cons, awOps_guardE, nx_eq, awOp, ev_k, ev_0, ev_1, ev_2, ev_3, ev_4, ev_5, ev_6, ev_7, ev_8, set_0, set_1, set_2, set_3, set_4, set_5, set_6, set_7, set_8, -List.set_cons_succ, -List.set_cons_zero, A.ok, A.val, setSl, wrapG, guardB, getB, pickA, binA, binC, binD, cmpD, isCmp, unA, unD, lenA, AOp.total, kills, litB, FinQ, resOks, resOk, resA, resList, resOne, A.thaw, C.thaw, A.fits, As.fits, C.fits, evs, oks, callArgs, A.pure, C.pure, A.re, C.re, fieldAddrA, loadC, cut, A.cells, C.rows?, getOb, newOb, setOb, storeC, splice, Ob.re, Cs.fits, partsA, partsOk, parts2A, parts2Ok, fillC, fillRows, optInt, optOk, sliceA, clipC, optK_some, storeK_some, Option.map_some, toDs, C.toD, spliceD, appendA, capsOf, srcRows, allLen_nil_iff, allLen_cons_iff, allLen_append_iff, dropC, Obs.fits, eqCs, eqD]
  have hn : nextN b = if (frameAt b).ok then 2 + (hd2 b : Int) else -1 := by rw [nextN, if_neg (by omega), if_neg (by omega), if_neg (by omega)]
  refine ⟨fun e => ⟨hf, z _ (by omega) (by rw [hn, if_neg (by simp [e])])⟩, fun e => ⟨hf, ?_, by rw [hn, if_pos e]⟩⟩
  rw [nextF, if_pos (by rw [hn, if_pos e]; omega)]
  rfl
/-- a decoder -/
def Dec.ok (d : Dec) : Bool := if d.broken then d.rest.length == 0 else nextN d.rest == 0
theorem next_zero (b : List UInt8) : nextN b = 0 ↔ (b.length < 2 ∨ (1 ≤ hd2 b ∧ hd2 b ≤ 2001 ∧ b.length < 2 + hd2 b)) := by
  unfold nextN
  (repeat' split) <;> omega
theorem dvSpec_calls (d : Dec) (hb : d.rest.length ≤ 140737488355328) (H : Heap) : ACalls Try.prog 46 [.agg (d.row.map .d)] H (fun r H' => H' = H ∧ r = .c (.d (.bool d.ok))) := by
  refine acalls Try.func46 (by kernel_rfl) ac46_ok fun hf => ?_
  have hl : inR .i64 (d.rest.length : Int) := small_i64 (by omega) (by omega)
  simp -implicitDefEqProofs [ac46, Dec.row, hl, bytesRows_len, aw_skip, aw_region, aw_seq, aw_block, aw_cond, aw_exit, aw_ret, kq_nil, kq_seq, kq_seq_ret, kq_seq_exit, kq_block, kq_block_ret, kq_block_exit, kq_loop, kq_loop_ret, kq_loop_exit, awOps_nil, awOps_cons, awOps_guardE, nx_eq, awOp, ev_k, ev_0, ev_1, ev_2, ev_3, ev_4, ev_5, ev_6, ev_7, ev_8, set_0, set_1, set_2, set_3, set_4, set_5, set_6, set_7, set_8, -List.set_cons_succ, -List.set_cons_zero, A.ok, A.val, setSl, wrapG, guardB, getB, pickA, binA, binC, binD, cmpD, isCmp, unA, unD, lenA, AOp.total, kills, litB, FinQ, resOks, resOk, resA, resList, resOne, A.thaw, C.thaw, A.fits, As.fits, C.fits, evs, oks, callArgs, A.pure, C.pure, A.re, C.re, fieldAddrA, loadC, cut, A.cells, C.rows?, getOb, newOb, setOb, storeC, splice, Ob.re, Cs.fits, partsA, partsOk, parts2A, parts2Ok, fillC, fillRows, optInt, optOk, sliceA, clipC, optK_some, storeK_some, Option.map_some, toDs, C.toD, spliceD, appendA, capsOf, srcRows, allLen_nil_iff, allLen_cons_iff, allLen_append_iff, dropC, Obs.fits, eqCs, eqD]
  refine ⟨fun h => ?_, fun h => ?_⟩
  · simp [Dec.ok, h]
    exact Bool.eq_iff_iff.2 (by simp)
  · refine qcall_pure (next_calls d.rest hb) hf rfl ?_
    simp -implicitDefEqProofs [Frame.row, hf, Dec.ok, h, aw_skip, aw_region, aw_seq, aw_block, aw_cond, aw_exit, aw_ret, kq_nil, kq_seq, kq_seq_ret, kq_seq_exit, kq_block, kq_block_ret, kq_block_exit, kq_loop, kq_loop_ret, kq_loop_exit, awOps_nil, awOps_cons, awOps_guardE, nx_eq, awOp, ev_k, ev_0, ev_1, ev_2, ev_3, ev_4, ev_5, ev_6, ev_7, ev_8, set_0, set_1, set_2, set_3, set_4, set_5, set_6, set_7, set_8, -List.set_cons_succ, -List.set_cons_zero, A.ok, A.val, setSl, wrapG, guardB, getB, pickA, binA, binC, binD, cmpD, isCmp, unA, unD, lenA, AOp.total, kills, litB, FinQ, resOks, resOk, resA, resList, resOne, A.thaw, C.thaw, A.fits, As.fits, C.fits, evs, oks, callArgs, A.pure, C.pure, A.re, C.re, fieldAddrA, loadC, cut, A.cells, C.rows?, getOb, newOb, setOb, storeC, splice, Ob.re, Cs.fits, partsA, partsOk, parts2A, parts2Ok, fillC, fillRows, optInt, optOk, sliceA, clipC, optK_some, storeK_some, Option.map_some, toDs, C.toD, spliceD, appendA, capsOf, srcRows, allLen_nil_iff, allLen_cons_iff, allLen_append_iff, dropC, Obs.fits, eqCs, eqD]
theorem dvImpl_calls (d : Dec) (hb : d.rest.length ≤ 140737488355328) (H : Heap) : ACalls Try.prog 47 [.agg (d.row.map .d)] H (fun r H' => H' = H ∧ r = .c (.d (.bool d.ok))) := by
  refine acalls Try.func47 (by kernel_rfl) ac47_ok fun hf => ?_
  have hl : inR .i64 (d.rest.length : Int) := small_i64 (by omega) (by omega)
  simp -implicitDefEqProofs [ac47, Dec.row, hl, bytesRows_len, aw_skip, aw_region, aw_seq, aw_block, aw_cond, aw_exit, aw_ret, kq_nil, kq_seq, kq_seq_ret, kq_seq_exit, kq_block, kq_block_ret, kq_block_exit, kq_loop, kq_loop_ret, kq_loop_exit, awOps_nil, awOps_cons, awOps_guardE, nx_eq, awOp, ev_k, ev_0, ev_1, ev_2, ev_3, ev_4, ev_5, ev_6, ev_7, ev_8, set_0, set_1, set_2, set_3, set_4, set_5, set_6, set_7, set_8, -List.set_cons_succ, -List.set_cons_zero, A.ok, A.val, setSl, wrapG, guardB, getB, pickA, binA, binC, binD, cmpD, isCmp, unA, unD, lenA, AOp.total, kills, litB, FinQ, resOks, resOk, resA, resList, resOne, A.thaw, C.thaw, A.fits, As.fits, C.fits, evs, oks, callArgs, A.pure, C.pure, A.re, C.re, fieldAddrA, loadC, cut, A.cells, C.rows?, getOb, newOb, setOb, storeC, splice, Ob.re, Cs.fits, partsA, partsOk, parts2A, parts2Ok, fillC, fillRows, optInt, optOk, sliceA, clipC, optK_some, storeK_some, Option.map_some, toDs, C.toD, spliceD, appendA, capsOf, srcRows, allLen_nil_iff, allLen_cons_iff, allLen_append_iff, dropC, Obs.fits, eqCs, eqD]
  refine ⟨fun h => ?_, fun h => ?_⟩
  · simp [Dec.ok, h]
    exact Bool.eq_iff_iff.2 (by simp)
  · refine qcall_pure (lengthOf_calls d.rest hb) hf rfl ?_
    have h2 := hd2_lt d.rest
    have hadd : inR .i64 (lenOf d.rest + 2) := by
      unfold lenOf
      split <;> exact small_i64 (by omega) (by omega)
    simp -implicitDefEqProofs [aw_skip, aw_region, aw_seq, aw_block, aw_cond, aw_exit, aw_ret, kq_nil, kq_seq, kq_seq_ret, kq_seq_exit, kq_block, kq_block_ret, kq_block_exit, kq_loop, kq_loop_ret, kq_loop_exit, awOps_nil, awOps_cons, awOps_guardE, nx_eq, awOp, ev_k, ev_0, ev_1, ev_2, ev_3, ev_4, ev_5, ev_6, ev_7, ev_8, set_0, set_1, set_2, set_3, set_4, set_5, set_6, set_7, set_8, -List.set_cons_succ, -List.set_cons_zero, A.ok, A.val, setSl, wrapG, guardB, getB, pickA, binA, binC, binD, cmpD, isCmp, unA, unD, lenA, AOp.total, kills, litB, FinQ, resOks, resOk, resA, resList, resOne, A.thaw, C.thaw, A.fits, As.fits, C.fits, evs, oks, callArgs, A.pure, C.pure, A.re, C.re, fieldAddrA, loadC, cut, A.cells, C.rows?, getOb, newOb, setOb, storeC, splice, Ob.re, Cs.fits, partsA, partsOk, parts2A, parts2Ok, fillC, fillRows, optInt, optOk, sliceA, clipC, optK_some, storeK_some, Option.map_some, toDs, C.toD, spliceD, appendA, capsOf, srcRows, allLen_nil_iff, allLen_cons_iff, allLen_append_iff, dropC, Obs.fits, eqCs, eqD]
    have hzero := next_zero d.rest
    have hle : lenOf d.rest = if d.rest.length < 2 then -1 else (hd2 d.rest : Int) := rfl
    refine ⟨fun h0 => ⟨h0, ?_⟩, fun h0 => ?_⟩
    · refine qcall_pure (within_calls (lenOf d.rest) 1 2001) hf rfl ?_
      simp -implicitDefEqProofs [hadd, hl, bytesRows_len, Dec.ok, h, aw_skip, aw_region, aw_seq, aw_block, aw_cond, aw_exit, aw_ret, kq_nil, kq_seq, kq_seq_ret, kq_seq_exit, kq_block, kq_block_ret, kq_block_exit, kq_loop, kq_loop_ret, kq_loop_exit, awOps_nil, awOps_cons, awOps_guardE, nx_eq, awOp, ev_k, ev_0, ev_1, ev_2, ev_3, ev_4, ev_5, ev_6, ev_7, ev_8, set_0, set_1, set_2, set_3, set_4, set_5, set_6, set_7, set_8, -List.set_cons_succ, -List.set_cons_zero, A.ok, A.val, setSl, wrapG, guardB, getB, pickA, binA, binC, binD, cmpD, isCmp, unA, unD, lenA, AOp.total, kills, litB, FinQ, resOks, resOk, resA, resList, resOne, A.thaw, C.thaw, A.fits, As.fits, C.fits, evs, oks, callArgs, A.pure, C.pure, A.re, C.re, fieldAddrA, loadC, cut, A.cells, C.rows?, getOb, newOb, setOb, storeC, splice, Ob.re, Cs.fits, partsA, partsOk, parts2A, parts2Ok, fillC, fillRows, optInt, optOk, sliceA, clipC, optK_some, storeK_some, Option.map_some, toDs, C.toD, spliceD, appendA, capsOf, srcRows, allLen_nil_iff, allLen_cons_iff, allLen_append_iff, dropC, Obs.fits, eqCs, eqD]
      have h4 : ¬ d.rest.length < 2 := by intro h5; rw [hle, if_pos h5] at h0; omega
      rw [if_neg h4] at hle
      rw [hle, Bool.eq_iff_iff]
      simp [hzero]
      omega
    · have h4 : d.rest.length < 2 := by
        rw [hle] at h0
        split at h0 <;> omega
      simp [Dec.ok, h, hzero, h4]
end Go.Proofs.Ytamaaiabbganjaa
