/-
  Contracts of functions that the law reaches, and plain lemmas: several texts in one.
  Conditions: none.
-/
import Derived.Test.YtcapnainldlnjaaGreatBundC
import Derived.Shelf.Strconv.Itoa3
import Derived.Test.YtcapnainldlnjaaGreatBundB
open Go Go.AM Go.Proofs
attribute [local go_sem] kw ew sw tw a_ b_ c_ A.ok A.val d_ e_ f_ g_ h_ i_ j_ k_ l_ m_ unA unD n_ AOp.total o_ p_ q_ r_ s_ t_ u_ v_ A.thaw C.thaw A.fits As.fits C.fits evs oks w_ A.pure C.pure A.re C.re x_ y_ cut A.cells C.rows? z_ A_ B_ C_ a0_ b0_ D_ Ob.re Cs.fits E_ F_ G_ H_ I_ J_ K_ L_ M_ N_ O_ C.toD P_ Q_ R_ S_ T_ Obs.fits U_ eqD V_ W_ X_ Y_ Z_ oa oc ki
open Go Go.AM Go.Proofs
namespace Go.Proofs.YtcapnainldlnjaaGreat
open Go.ChangeShapes Go.WideShapes Go.ChangeAt Go.RowKit
set_option linter.unusedVariables false
set_option linter.unusedSimpArgs false
set_option maxRecDepth 100000
-- 150 loop.example/prologserver/spec.l18Dec params 1 ntmps 31
-- loop head live: [0,3]
def ac150 : Cd := .seq (.region [oc 2 (.mv (.k (.c (.d (.str [])))))] [2])
 (.seq (.seq (.region [oa 4 0,
 oc 5 (.bin .lss (.t 4) (ki (-9223372036854775807)))] [4])
 (.cond (.t 5)
 (.seq (.region [oc 2 (.mv (.k (.c (.d (.str [45,57,50,50,51,51,55,50,48,51,54,56,53,52,55,55,53,56,48,56])))))] [0,5])
 (.ret))
 (.skip)))
 (.seq (.seq (.region [oa 6 0,
 oc 7 (.bin .lss (.t 6) (ki 0))] [2,5,6])
 (.cond (.t 7)
 (.seq (.region [oa 8 0,
 oc 9 (.un .neg (.t 8)),
 oc 10 (.qcall 150 [(.t 9)]),
 oc 11 (.bin .add (.k (.c (.d (.str [45])))) (.t 10)),
 oa 2 11] [0,7,8,9,10,11])
 (.ret))
 (.skip)))
 (.seq (.region [oc 3 (.mv (.k (.c (.d (.str [])))))] [2,7])
 (.seq (.block 0 (.loop (.seq (.seq (.region [oa 12 0,
 oc 13 (.bin .gtr (.t 12) (ki 9))] [12])
 (.cond (.t 13)
 (.skip)
 (.exit 0)))
 (.block 1 (.seq (.region [oa 14 0,
 oc 15 (.bin .rem (.t 14) (ki 10)),
 oc 16 (.bin .add (ki 48) (.t 15)),
 oc 17 (.cvInt .u8 (.t 16)),
 oc 18 (.buildSlice 1 1 [(.int .u8 0)] [(0,(.t 17))]),
 oc 19 (.cvB2S (.t 18)),
 oa 20 3,
 oc 21 (.bin .add (.t 19) (.t 20)),
 oa 3 21] [13,14,15,16,17,18,19,20,21])
 (.region [oa 22 0,
 oc 23 (.bin .quo (.t 22) (ki 10)),
 oa 0 23] [22,23]))))))
 (.seq (.region [oa 24 0,
 oc 25 (.bin .add (ki 48) (.t 24)),
 oc 26 (.cvInt .u8 (.t 25)),
 oc 27 (.buildSlice 1 1 [(.int .u8 0)] [(0,(.t 26))]),
 oc 28 (.cvB2S (.t 27)),
 oa 29 3,
 oc 30 (.bin .add (.t 28) (.t 29)),
 oa 2 30] [0,3,24,25,26,27,28,29,30])
 (.ret))))))
theorem ac150_ok : cFunc Tryz.prog [1000150] [(0,[2],[]),(1,[4],[]),(2,[0,5],[]),(3,[2,5,6],[]),(4,[0,7,8,9,10,11],[]),(5,[2,7],[]),(6,[12],[]),(7,[13,14,15,16,17,18,19,20,21],[]),(8,[22,23],[]),(9,[0,3,24,25,26,27,28,29,30],[])] Tryz.f150 = some (ac150,[.tmp 2],31) := by kernel_rfl
-- 148 loop.example/prologserver/spec.l1Dec params 1 ntmps 11
def ac148 : Cd := .seq (.region [oc 2 (.mv (.k (.c (.d (.str [])))))] [2])
 (.seq (.seq (.region [oa 3 0,
 oc 4 (.bin .lss (.t 3) (ki 0))] [3])
 (.cond (.t 4)
 (.seq (.region [oa 5 0,
 oc 6 (.un .neg (.t 5)),
 oc 7 (.qcall 150 [(.t 6)]),
 oc 8 (.bin .add (.k (.c (.d (.str [45])))) (.t 7)),
 oa 2 8] [0,4,5,6,7,8])
 (.ret))
 (.skip)))
 (.seq (.region [oa 9 0,
 oc 10 (.qcall 150 [(.t 9)]),
 oa 2 10] [0,4,9,10])
 (.ret)))
theorem ac148_ok : cFunc Tryz.prog [1000150] [(0,[2],[]),(1,[3],[]),(2,[0,4,5,6,7,8],[]),(3,[0,4,9,10],[])] Tryz.f148 = some (ac148,[.tmp 2],11) := by kernel_rfl
theorem dd_small {n : Nat} (h : n < 10) : Lib.decDigits n = [UInt8.ofNat (48 + n)] := by rw [Lib.decDigits, dif_pos h]
theorem dd_big {n : Nat} (h : 10 ≤ n) : Lib.decDigits n = Lib.decDigits (n / 10) ++ [UInt8.ofNat (48 + n % 10)] := by rw [Lib.decDigits, dif_neg (by omega)]
theorem b2s_one {m : Nat} {K : A → St → Prop} {st : St} (h : m < 10) (hk : K (.c (.d (.str [UInt8.ofNat (48 + m)]))) st) : B2SK true [[.int .u8 (IntKind.wrap .u8 (48 + (m : Int)))]] K st := by
  refine ⟨[UInt8.ofNat (48 + m)], fun _ => ?_, hk⟩
  have : m = 0 ∨ m = 1 ∨ m = 2 ∨ m = 3 ∨ m = 4 ∨ m = 5 ∨ m = 6 ∨ m = 7 ∨ m = 8 ∨ m = 9 := by omega
  rcases this with rfl | rfl | rfl | rfl | rfl | rfl | rfl | rfl | rfl | rfl <;> rfl
theorem dec_pos (n : Nat) (hn : (n : Int) ≤ 9223372036854775807) (H : Heap) : ACalls Tryz.prog 150 [.c (.d (.int .i64 n))] H (fun r H' => H' = H ∧ r = .c (.d (.str (Lib.itoa n)))) := by
  refine acalls Tryz.func150 (by kernel_rfl) ac150_ok fun hf => ?_
  have h0 : ¬ ((n : Int) < -9223372036854775807) := by omega
  have h1 : ¬ ((n : Int) < 0) := by omega
  simp -implicitDefEqProofs [ac150, h0, h1, go_sem, -List.set_cons_succ, -List.set_cons_zero]
  have hlen : (Lib.decDigits n).length ≤ 1000000 := by
    have := itoa_len n (by omega) (by omega)
    rwa [Lib.itoa_nonneg] at this
  rw [Lib.itoa_nonneg]
  refine loop_set (σ := Nat × List UInt8) (fun x => [(0, .c (.d (.int .i64 x.1))), (3, .c (.d (.str x.2)))]) (fun _ => H) (fun _ => []) (fun x => x.1 ≤ n ∧ Lib.decDigits n = Lib.decDigits x.1 ++ x.2) (fun x => x.1) (n, []) rfl ⟨Nat.le_refl _, by simp⟩ ?_
  rintro ⟨m, out⟩ ⟨hm, hd⟩
  have hm1 : inR .i64 ((m : Int)) := i64_def.2 (by simp at hm; omega)
  have hol : out.length ≤ 1000000 := by rw [hd] at hlen; simp at hlen; omega
  simp only at hm hd
  simp -implicitDefEqProofs [setAll, go_sem, -List.set_cons_succ, -List.set_cons_zero]
  have hmod : (m : Int).tmod 10 = ((m % 10 : Nat) : Int) := by rw [Int.tmod_eq_emod_of_nonneg (by omega)]; omega
  have hquo : (m : Int).tdiv 10 = ((m / 10 : Nat) : Int) := by rw [Int.tdiv_eq_ediv_of_nonneg (by omega)]; omega
  have hq : inR .i64 ((m / 10 : Nat) : Int) := i64_def.2 (by omega)
  refine ⟨fun hgt => ?_, fun hle => ?_⟩
  · rw [hmod]
    refine ⟨small_i64 (by omega) (by omega), b2s_one (by omega) ?_⟩
    simp -implicitDefEqProofs [setAll, hquo, hq, maxStr, go_sem, -List.set_cons_succ, -List.set_cons_zero]
    refine ⟨by omega, ?_⟩
    refine ⟨by simpa using hq, ?_⟩
    refine loop_back (m / 10, UInt8.ofNat (48 + m % 10) :: out) (by simp [setAll]) ⟨by simp only; omega, ?_⟩ (by show m / 10 < m; omega)
    rw [hd, dd_big (n := m) (by omega)]
    simp
  · refine ⟨small_i64 (by omega) (by omega), b2s_one (by omega) ?_⟩
    simp -implicitDefEqProofs [setAll, maxStr, go_sem, -List.set_cons_succ, -List.set_cons_zero]
    rw [hd, dd_small (n := m) (by omega)]
    simp
    omega
theorem dec_calls (n : Int) (hn : inR .i64 n) (H : Heap) : ACalls Tryz.prog 150 [.c (.d (.int .i64 n))] H (fun r H' => H' = H ∧ r = .c (.d (.str (Lib.itoa n)))) := by
  obtain ⟨hn1, hn2⟩ := i64_def.1 hn
  rcases Int.lt_or_le n 0 with hneg | hpos
  · refine acalls Tryz.func150 (by kernel_rfl) ac150_ok fun hf => ?_
    simp -implicitDefEqProofs [ac150, go_sem, -List.set_cons_succ, -List.set_cons_zero]
    refine ⟨fun h => ?_, fun h => ?_⟩
    · have : n = -9223372036854775808 := by omega
      subst this
      decide +kernel
    · refine ⟨fun _ => ?_, fun h => by omega⟩
      have hi : inR .i64 (-n) := i64_def.2 (by omega)
      have h2 := dec_pos n.natAbs (by omega)
      have e : ((n.natAbs : Nat) : Int) = -n := by omega
      have e2 : Lib.itoa n = 45 :: Lib.itoa (-n) := by
        rw [← e, Lib.itoa_nonneg]
        unfold Lib.itoa
        rw [if_pos hneg]
      rw [e] at h2
      have h3 := itoa_len (-n) (by omega) (by omega)
      refine ⟨hi, qcall_pure h2 hf rfl ?_⟩
      simp -implicitDefEqProofs [e2, maxStr, go_sem, -List.set_cons_succ, -List.set_cons_zero]
      omega
  · have := dec_pos n.toNat (by omega) H
    rwa [Int.toNat_of_nonneg hpos] at this
theorem dec1_calls (n : Int) (hn1 : -9223372036854775807 ≤ n) (hn2 : n ≤ 9223372036854775807) (H : Heap) : ACalls Tryz.prog 148 [.c (.d (.int .i64 n))] H (fun r H' => H' = H ∧ r = .c (.d (.str (Lib.itoa n)))) := by
  refine acalls Tryz.func148 (by kernel_rfl) ac148_ok fun hf => ?_
  simp -implicitDefEqProofs [ac148, go_sem, -List.set_cons_succ, -List.set_cons_zero]
  refine ⟨fun hneg => ?_, fun hpos => ?_⟩
  · have e2 : Lib.itoa n = 45 :: Lib.itoa (-n) := by
      have e : ((n.natAbs : Nat) : Int) = -n := by omega
      rw [← e, Lib.itoa_nonneg]
      unfold Lib.itoa
      rw [if_pos hneg]
    have h3 := itoa_len (-n) (by omega) (by omega)
    refine ⟨i64_def.2 (by omega), qcall_pure (dec_calls (-n) (i64_def.2 (by omega))) hf rfl ?_⟩
    simp -implicitDefEqProofs [e2, maxStr, go_sem, -List.set_cons_succ, -List.set_cons_zero]
    omega
  · refine qcall_pure (dec_calls n (i64_def.2 (by omega))) hf rfl ?_
    simp -implicitDefEqProofs [go_sem, -List.set_cons_succ, -List.set_cons_zero]
-- 147 loop.example/prologserver/spec.l1Letter params 1 ntmps 8
def ac147 : Cd := .seq (.region [oc 2 (.mv (.k (.c (.d (.str [])))))] [2])
 (.seq (.region [oa 3 0,
 oc 4 (.cvInt .u8 (.t 3)),
 oc 5 (.bin .add (.k (.c (.d (.int .u8 65)))) (.t 4)),
 oc 6 (.buildSlice 1 1 [(.int .u8 0)] [(0,(.t 5))]),
 oc 7 (.cvB2S (.t 6)),
 oa 2 7] [0,3,4,5,6,7])
 (.ret))
theorem ac147_ok : cFunc Tryz.prog [] [(0,[2],[]),(1,[0,3,4,5,6,7],[])] Tryz.f147 = some (ac147,[.tmp 2],8) := by kernel_rfl
-- 142 loop.example/prologserver/spec.l1Text params 1 ntmps 51
-- loop head live: [1,3,4]
def ac142 : Cd := .seq (.region [oc 1 (.box (.t 0)),
 oc 2 (.mv (.k (.c (.d (.str [])))))] [0,2])
 (.seq (.seq (.region [oc 5 (.fieldAddr 0 (.t 1)),
 oc 6 (.load none (.t 5))] [5])
 (.block 0 (.seq (.region [oc 8 (.bin .eql (.t 6) (ki 1)),
 oa 7 8] [8])
 (.cond (.t 7)
 (.seq (.region [oc 9 (.fieldAddr 1 (.t 1)),
 oc 10 (.load none (.t 9)),
 oc 11 (.qcall 147 [(.t 10)]),
 oa 2 11] [1,6,7,9,10,11])
 (.ret))
 (.seq (.region [oc 13 (.bin .eql (.t 6) (ki 2)),
 oa 12 13] [6,7,13])
 (.cond (.t 12)
 (.seq (.region [oc 14 (.fieldAddr 1 (.t 1)),
 oc 15 (.load none (.t 14)),
 oc 16 (.qcall 148 [(.t 15)]),
 oa 2 16] [1,12,14,15,16])
 (.ret))
 (.skip)))))))
 (.seq (.seq (.region [oc 17 (.load (some 4) (.t 1)),
 oc 18 (.qcall 135 [(.t 17)])] [2,12,17])
 (.cond (.t 18)
 (.seq (.region [oc 19 (.load (some 4) (.t 1)),
 oc 20 (.qcall 149 [(.t 19)]),
 oa 2 20] [1,18,19,20])
 (.ret))
 (.skip)))
 (.seq (.region [oc 21 (.fieldAddr 2 (.t 1)),
 oc 22 (.load none (.t 21)),
 oa 3 22] [2,18,21,22])
 (.seq (.seq (.region [oc 4 (.mv (ki 0))] [])
 (.block 1 (.loop (.seq (.seq (.region [oa 23 4,
 oc 24 (.fieldAddr 3 (.t 1)),
 oc 25 (.load none (.t 24)),
 oc 26 (.len 1 (.t 25)),
 oc 27 (.bin .lss (.t 23) (.t 26))] [23,24,25,26])
 (.cond (.t 27)
 (.skip)
 (.exit 1)))
 (.seq (.block 2 (.seq (.seq (.region [oa 30 4,
 oc 31 (.bin .eql (.t 30) (ki 0))] [27,30])
 (.cond (.t 31)
 (.region [oa 32 3,
 oc 33 (.bin .add (.t 32) (.k (.c (.d (.str [40]))))),
 oa 3 33] [31,32,33])
 (.region [oa 34 3,
 oc 35 (.bin .add (.t 34) (.k (.c (.d (.str [44]))))),
 oa 3 35] [31,34,35])))
 (.region [oa 36 3,
 oc 37 (.fieldAddr 3 (.t 1)),
 oc 38 (.load none (.t 37)),
 oa 39 4,
 oc 40 (.indexAddr 4 (.t 38) (.t 39)),
 oc 41 (.load (some 4) (.t 40)),
 oc 42 (.qcall 142 [(.t 41)]),
 oc 43 (.bin .add (.t 36) (.t 42)),
 oa 3 43] [36,37,38,39,40,41,42,43])))
 (.region [oa 28 4,
 oc 29 (.bin .add (.t 28) (ki 1)),
 oa 4 29] [28,29]))))))
 (.seq (.seq (.region [oc 44 (.fieldAddr 3 (.t 1)),
 oc 45 (.load none (.t 44)),
 oc 46 (.len 1 (.t 45)),
 oc 47 (.bin .gtr (.t 46) (ki 0))] [1,44,45,46])
 (.cond (.t 47)
 (.region [oa 48 3,
 oc 49 (.bin .add (.t 48) (.k (.c (.d (.str [41]))))),
 oa 3 49] [47,48,49])
 (.skip)))
 (.seq (.region [oa 50 3,
 oa 2 50] [3,47,50])
 (.ret)))))))
theorem ac142_ok : cFunc Tryz.prog [1000135,1000142,1000147,1000148,1000149] [(0,[0,2],[]),(1,[5],[]),(2,[8],[]),(3,[1,6,7,9,10,11],[]),(4,[6,7,13],[]),(5,[1,12,14,15,16],[]),(6,[2,12,17],[]),(7,[1,18,19,20],[]),(8,[2,18,21,22],[]),(9,[],[]),(10,[23,24,25,26],[]),(12,[27,30],[]),(13,[31,32,33],[]),(14,[31,34,35],[]),(15,[36,37,38,39,40,41,42,43],[]),(11,[28,29],[]),(16,[1,44,45,46],[]),(17,[47,48,49],[]),(18,[3,47,50],[])] Tryz.f142 = some (ac142,[.tmp 2],51) := by kernel_rfl
-- 137 loop.example/prologserver/spec.l2Infix params 1 ntmps 18
def ac137 : Cd := .seq (.region [oc 1 (.box (.t 0)),
 oc 2 (.mv (.k (.c (.d (.bool false)))))] [0,2])
 (.seq (.region [oc 3 (.fieldAddr 0 (.t 1)),
 oc 4 (.load none (.t 3)),
 oc 5 (.bin .eql (.t 4) (ki 3)),
 oa 6 5,
 ⟨some 7,.fieldAddr 3 (.t 1),some (6,true)⟩,
 ⟨some 8,.load none (.t 7),some (6,true)⟩,
 ⟨some 9,.len 1 (.t 8),some (6,true)⟩,
 ⟨some 10,.bin .eql (.t 9) (ki 2),some (6,true)⟩,
 oc 11 (.pick (.t 6) (.t 10) (.k (.c (.d (.bool false))))),
 oa 12 11,
 ⟨some 13,.fieldAddr 2 (.t 1),some (12,true)⟩,
 ⟨some 14,.load none (.t 13),some (12,true)⟩,
 ⟨some 15,.qcall 50 [(.t 14)],some (12,true)⟩,
 ⟨some 16,.bin .gtr (.t 15) (ki 0),some (12,true)⟩,
 oc 17 (.pick (.t 12) (.t 16) (.k (.c (.d (.bool false))))),
 oa 2 17] [1,3,4,5,6,7,8,9,10,11,12,13,14,15,16,17])
 (.ret))
theorem ac137_ok : cFunc Tryz.prog [1000050] [(0,[0,2],[]),(1,[1,3,4,5,6,7,8,9,10,11,12,13,14,15,16,17],[])] Tryz.f137 = some (ac137,[.tmp 2],18) := by kernel_rfl
-- 139 loop.example/prologserver/spec.l2Spaced params 1 ntmps 13
def ac139 : Cd := .seq (.region [oc 2 (.mv (.k (.c (.d (.str [])))))] [2])
 (.seq (.seq (.region [oa 3 0,
 oc 4 (.bin .eql (.t 3) (.k (.c (.d (.str [105,115]))))),
 oa 5 4,
 ⟨some 6,.mv (.t 0),some (5,false)⟩,
 ⟨some 7,.bin .eql (.t 6) (.k (.c (.d (.str [109,111,100])))),some (5,false)⟩,
 oc 8 (.pick (.t 5) (.k (.c (.d (.bool true)))) (.t 7))] [3,4,5,6,7])
 (.cond (.t 8)
 (.seq (.region [oa 9 0,
 oc 10 (.bin .add (.k (.c (.d (.str [32])))) (.t 9)),
 oc 11 (.bin .add (.t 10) (.k (.c (.d (.str [32]))))),
 oa 2 11] [0,8,9,10,11])
 (.ret))
 (.skip)))
 (.seq (.region [oa 12 0,
 oa 2 12] [0,8,12])
 (.ret)))
theorem ac139_ok : cFunc Tryz.prog [] [(0,[2],[]),(1,[3,4,5,6,7],[]),(2,[0,8,9,10,11],[]),(3,[0,8,12],[])] Tryz.f139 = some (ac139,[.tmp 2],13) := by kernel_rfl
-- 145 loop.example/prologserver/spec.l2Bracket params 2 ntmps 20
def ac145 : Cd := .seq (.region [oc 2 (.box (.t 0)),
 oc 4 (.mv (.k (.c (.d (.str [])))))] [0,4])
 (.seq (.seq (.region [oc 5 (.load (some 4) (.t 2)),
 oc 6 (.qcall 137 [(.t 5)]),
 oa 7 6,
 ⟨some 8,.fieldAddr 2 (.t 2),some (7,true)⟩,
 ⟨some 9,.load none (.t 8),some (7,true)⟩,
 ⟨some 10,.qcall 50 [(.t 9)],some (7,true)⟩,
 ⟨some 11,.mv (.t 1),some (7,true)⟩,
 ⟨some 12,.bin .gtr (.t 10) (.t 11),some (7,true)⟩,
 oc 13 (.pick (.t 7) (.t 12) (.k (.c (.d (.bool false)))))] [1,5,6,7,8,9,10,11,12])
 (.cond (.t 13)
 (.seq (.region [oc 14 (.load (some 4) (.t 2)),
 oc 15 (.qcall 126 [(.t 14)]),
 oc 16 (.bin .add (.k (.c (.d (.str [40])))) (.t 15)),
 oc 17 (.bin .add (.t 16) (.k (.c (.d (.str [41]))))),
 oa 4 17] [2,13,14,15,16,17])
 (.ret))
 (.skip)))
 (.seq (.region [oc 18 (.load (some 4) (.t 2)),
 oc 19 (.qcall 126 [(.t 18)]),
 oa 4 19] [2,13,18,19])
 (.ret)))
theorem ac145_ok : cFunc Tryz.prog [1000050,1000126,1000137] [(0,[0,4],[]),(1,[1,5,6,7,8,9,10,11,12],[]),(2,[2,13,14,15,16,17],[]),(3,[2,13,18,19],[])] Tryz.f145 = some (ac145,[.tmp 4],20) := by kernel_rfl
-- 141 loop.example/prologserver/spec.l2Args params 1 ntmps 23
-- loop head live: [0,3,4]
def ac141 : Cd := .seq (.region [oc 2 (.mv (.k (.c (.d (.str [])))))] [2])
 (.seq (.region [oc 3 (.mv (.k (.c (.d (.str [])))))] [])
 (.seq (.seq (.region [oc 4 (.mv (ki 0))] [])
 (.block 0 (.loop (.seq (.seq (.region [oa 5 4,
 oa 6 0,
 oc 7 (.len 1 (.t 6)),
 oc 8 (.bin .lss (.t 5) (.t 7))] [5,6,7])
 (.cond (.t 8)
 (.skip)
 (.exit 0)))
 (.seq (.block 1 (.seq (.seq (.region [oa 11 4,
 oc 12 (.bin .gtr (.t 11) (ki 0))] [8,11])
 (.cond (.t 12)
 (.region [oa 13 3,
 oc 14 (.bin .add (.t 13) (.k (.c (.d (.str [44]))))),
 oa 3 14] [12,13,14])
 (.skip)))
 (.region [oa 15 3,
 oa 16 0,
 oa 17 4,
 oc 18 (.indexAddr 4 (.t 16) (.t 17)),
 oc 19 (.load (some 4) (.t 18)),
 oc 20 (.qcall 126 [(.t 19)]),
 oc 21 (.bin .add (.t 15) (.t 20)),
 oa 3 21] [12,15,16,17,18,19,20,21])))
 (.region [oa 9 4,
 oc 10 (.bin .add (.t 9) (ki 1)),
 oa 4 10] [9,10]))))))
 (.seq (.region [oa 22 3,
 oa 2 22] [3,22])
 (.ret))))
theorem ac141_ok : cFunc Tryz.prog [1000126] [(0,[2],[]),(1,[],[]),(2,[],[]),(3,[5,6,7],[]),(5,[8,11],[]),(6,[12,13,14],[]),(7,[12,15,16,17,18,19,20,21],[]),(4,[9,10],[]),(8,[3,22],[])] Tryz.f141 = some (ac141,[.tmp 2],23) := by kernel_rfl
-- 136 loop.example/prologserver/spec.l2List params 1 ntmps 32
-- loop head live: [1,3]
def ac136 : Cd := .seq (.region [oc 1 (.box (.t 0)),
 oc 2 (.mv (.k (.c (.d (.str [])))))] [0,2])
 (.seq (.region [oc 4 (.buildSlice 4 0 [(.int .i64 0),(.int .i64 0),(.str []),(.sl [])] []),
 oa 3 4] [4])
 (.seq (.block 0 (.loop (.seq (.seq (.region [oc 5 (.load (some 4) (.t 1)),
 oc 6 (.qcall 135 [(.t 5)])] [5])
 (.cond (.t 6)
 (.skip)
 (.exit 0)))
 (.block 1 (.seq (.region [oa 7 3,
 oc 8 (.fieldAddr 3 (.t 1)),
 oc 9 (.load none (.t 8)),
 oc 10 (.indexAddr 4 (.t 9) (ki 0)),
 oc 11 (.load (some 4) (.t 10)),
 oc 12 (.buildSlice 4 1 [(.int .i64 0),(.int .i64 0),(.str []),(.sl [])] [(0,(.t 11))]),
 oc 13 (.append false 4 (.t 7) (.t 12)),
 oa 3 13] [6,7,8,9,10,11,12,13])
 (.region [oc 14 (.fieldAddr 3 (.t 1)),
 oc 15 (.load none (.t 14)),
 oc 16 (.indexAddr 4 (.t 15) (ki 1)),
 oc 17 (.load (some 4) (.t 16)),
 ⟨none,.store 4 (.t 1) (.t 17),none⟩] [14,15,16,17]))))))
 (.seq (.seq (.region [oc 18 (.load (some 4) (.t 1)),
 oc 19 (.qcall 143 [(.t 18)])] [18])
 (.cond (.t 19)
 (.seq (.region [oa 20 3,
 oc 21 (.qcall 141 [(.t 20)]),
 oc 22 (.bin .add (.k (.c (.d (.str [91])))) (.t 21)),
 oc 23 (.bin .add (.t 22) (.k (.c (.d (.str [93]))))),
 oa 2 23] [1,3,19,20,21,22,23])
 (.ret))
 (.skip)))
 (.seq (.region [oa 24 3,
 oc 25 (.qcall 141 [(.t 24)]),
 oc 26 (.bin .add (.k (.c (.d (.str [91])))) (.t 25)),
 oc 27 (.bin .add (.t 26) (.k (.c (.d (.str [124]))))),
 oc 28 (.load (some 4) (.t 1)),
 oc 29 (.qcall 126 [(.t 28)]),
 oc 30 (.bin .add (.t 27) (.t 29)),
 oc 31 (.bin .add (.t 30) (.k (.c (.d (.str [93]))))),
 oa 2 31] [1,3,19,24,25,26,27,28,29,30,31])
 (.ret)))))
theorem ac136_ok : cFunc Tryz.prog [1000126,1000135,1000141,1000143] [(0,[0,2],[]),(1,[4],[]),(2,[5],[]),(3,[6,7,8,9,10,11,12,13],[]),(4,[14,15,16,17],[]),(5,[18],[]),(6,[1,3,19,20,21,22,23],[]),(7,[1,3,19,24,25,26,27,28,29,30,31],[0,1,2,3,4,5,6,7,8])] Tryz.f136 = some (ac136,[.tmp 2],32) := by kernel_rfl
-- 144 loop.example/prologserver/spec.l2Sole params 1 ntmps 18
def ac144 : Cd := .seq (.region [oc 1 (.box (.t 0)),
 oc 2 (.mv (.k (.c (.d (.bool false)))))] [0,2])
 (.seq (.region [oc 3 (.fieldAddr 0 (.t 1)),
 oc 4 (.load none (.t 3)),
 oc 5 (.bin .eql (.t 4) (ki 3)),
 oa 6 5,
 ⟨some 7,.fieldAddr 3 (.t 1),some (6,true)⟩,
 ⟨some 8,.load none (.t 7),some (6,true)⟩,
 ⟨some 9,.len 1 (.t 8),some (6,true)⟩,
 ⟨some 10,.bin .eql (.t 9) (ki 0),some (6,true)⟩,
 oc 11 (.pick (.t 6) (.t 10) (.k (.c (.d (.bool false))))),
 oa 12 11,
 ⟨some 13,.fieldAddr 2 (.t 1),some (12,true)⟩,
 ⟨some 14,.load none (.t 13),some (12,true)⟩,
 ⟨some 15,.qcall 50 [(.t 14)],some (12,true)⟩,
 ⟨some 16,.bin .gtr (.t 15) (ki 0),some (12,true)⟩,
 oc 17 (.pick (.t 12) (.t 16) (.k (.c (.d (.bool false))))),
 oa 2 17] [1,3,4,5,6,7,8,9,10,11,12,13,14,15,16,17])
 (.ret))
theorem ac144_ok : cFunc Tryz.prog [1000050] [(0,[0,2],[]),(1,[1,3,4,5,6,7,8,9,10,11,12,13,14,15,16,17],[])] Tryz.f144 = some (ac144,[.tmp 2],18) := by kernel_rfl
-- 146 loop.example/prologserver/spec.l2Plain params 1 ntmps 29
def ac146 : Cd := .seq (.region [oc 2 (.mv (.k (.c (.d (.bool false)))))] [2])
 (.seq (.region [oa 3 0,
 oc 4 (.qcall 134 [(.t 3),(ki 0)]),
 oa 5 4,
 ⟨some 6,.mv (.t 0),some (5,false)⟩,
 ⟨some 7,.qcall 122 [(.t 6),(ki 0)],some (5,false)⟩,
 oc 8 (.pick (.t 5) (.k (.c (.d (.bool true)))) (.t 7)),
 oa 9 8,
 ⟨some 10,.mv (.t 0),some (9,false)⟩,
 ⟨some 11,.index (.t 10) (ki 0),some (9,false)⟩,
 ⟨some 12,.bin .geq (.t 11) (.k (.c (.d (.int .u8 65)))),some (9,false)⟩,
 ⟨some 13,.mv (.t 12),some (9,false)⟩,
 ⟨some 14,.mv (.t 0),some (13,true)⟩,
 ⟨some 15,.index (.t 14) (ki 0),some (13,true)⟩,
 ⟨some 16,.bin .leq (.t 15) (.k (.c (.d (.int .u8 90)))),some (13,true)⟩,
 ⟨some 17,.pick (.t 13) (.t 16) (.k (.c (.d (.bool false)))),some (9,false)⟩,
 oc 18 (.pick (.t 9) (.k (.c (.d (.bool true)))) (.t 17)),
 oa 19 18,
 ⟨some 20,.mv (.t 0),some (19,false)⟩,
 ⟨some 21,.index (.t 20) (ki 0),some (19,false)⟩,
 ⟨some 22,.bin .eql (.t 21) (.k (.c (.d (.int .u8 91)))),some (19,false)⟩,
 oc 23 (.pick (.t 19) (.k (.c (.d (.bool true)))) (.t 22)),
 oa 24 23,
 ⟨some 25,.mv (.t 0),some (24,false)⟩,
 ⟨some 26,.index (.t 25) (ki 0),some (24,false)⟩,
 ⟨some 27,.bin .eql (.t 26) (.k (.c (.d (.int .u8 40)))),some (24,false)⟩,
 oc 28 (.pick (.t 24) (.k (.c (.d (.bool true)))) (.t 27)),
 oa 2 28] [0,3,4,5,6,7,8,9,10,11,12,13,14,15,16,17,18,19,20,21,22,23,24,25,26,27,28])
 (.ret))
theorem ac146_ok : cFunc Tryz.prog [1000122,1000134] [(0,[2],[]),(1,[0,3,4,5,6,7,8,9,10,11,12,13,14,15,16,17,18,19,20,21,22,23,24,25,26,27,28],[])] Tryz.f146 = some (ac146,[.tmp 2],29) := by kernel_rfl
-- 138 loop.example/prologserver/spec.l2Left params 2 ntmps 14
def ac138 : Cd := .seq (.region [oc 2 (.box (.t 0)),
 oc 4 (.mv (.k (.c (.d (.str [])))))] [0,4])
 (.seq (.seq (.region [oc 5 (.load (some 4) (.t 2)),
 oc 6 (.qcall 144 [(.t 5)])] [5])
 (.cond (.t 6)
 (.seq (.region [oc 7 (.load (some 4) (.t 2)),
 oc 8 (.qcall 126 [(.t 7)]),
 oc 9 (.bin .add (.k (.c (.d (.str [40])))) (.t 8)),
 oc 10 (.bin .add (.t 9) (.k (.c (.d (.str [41]))))),
 oa 4 10] [1,2,6,7,8,9,10])
 (.ret))
 (.skip)))
 (.seq (.region [oc 11 (.load (some 4) (.t 2)),
 oa 12 1,
 oc 13 (.qcall 145 [(.t 11),(.t 12)]),
 oa 4 13] [1,2,6,11,12,13])
 (.ret)))
theorem ac138_ok : cFunc Tryz.prog [1000126,1000144,1000145] [(0,[0,4],[]),(1,[5],[]),(2,[1,2,6,7,8,9,10],[]),(3,[1,2,6,11,12,13],[])] Tryz.f138 = some (ac138,[.tmp 4],14) := by kernel_rfl
-- 140 loop.example/prologserver/spec.l2Right params 2 ntmps 20
def ac140 : Cd := .seq (.region [oc 2 (.box (.t 0)),
 oc 4 (.mv (.k (.c (.d (.str [])))))] [0,4])
 (.seq (.region [oc 6 (.load (some 4) (.t 2)),
 oa 7 1,
 oc 8 (.qcall 145 [(.t 6),(.t 7)]),
 oa 5 8] [1,6,7,8])
 (.seq (.seq (.region [oc 9 (.load (some 4) (.t 2)),
 oc 10 (.qcall 144 [(.t 9)]),
 oa 11 10,
 ⟨some 12,.mv (.t 5),some (11,false)⟩,
 ⟨some 13,.qcall 146 [(.t 12)],some (11,false)⟩,
 ⟨some 14,.un .not (.t 13),some (11,false)⟩,
 oc 15 (.pick (.t 11) (.k (.c (.d (.bool true)))) (.t 14))] [2,9,10,11,12,13,14])
 (.cond (.t 15)
 (.seq (.region [oa 16 5,
 oc 17 (.bin .add (.k (.c (.d (.str [40])))) (.t 16)),
 oc 18 (.bin .add (.t 17) (.k (.c (.d (.str [41]))))),
 oa 4 18] [5,15,16,17,18])
 (.ret))
 (.skip)))
 (.seq (.region [oa 19 5,
 oa 4 19] [5,15,19])
 (.ret))))
theorem ac140_ok : cFunc Tryz.prog [1000144,1000145,1000146] [(0,[0,4],[]),(1,[1,6,7,8],[]),(2,[2,9,10,11,12,13,14],[]),(3,[5,15,16,17,18],[]),(4,[5,15,19],[])] Tryz.f140 = some (ac140,[.tmp 4],20) := by kernel_rfl
-- 126 loop.example/prologserver/spec.l2Text params 1 ntmps 57
def ac126 : Cd := .seq (.region [oc 1 (.box (.t 0)),
 oc 2 (.mv (.k (.c (.d (.str [])))))] [0,2])
 (.seq (.block 0 (.seq (.region [oc 6 (.load (some 4) (.t 1)),
 oc 7 (.qcall 135 [(.t 6)]),
 oa 5 7] [6,7])
 (.cond (.t 5)
 (.seq (.region [oc 8 (.load (some 4) (.t 1)),
 oc 9 (.qcall 136 [(.t 8)]),
 oa 2 9] [1,5,8,9])
 (.ret))
 (.seq (.region [oc 11 (.load (some 4) (.t 1)),
 oc 12 (.qcall 137 [(.t 11)]),
 oa 10 12] [5,11,12])
 (.cond (.t 10)
 (.seq (.region [oc 13 (.fieldAddr 2 (.t 1)),
 oc 14 (.load none (.t 13)),
 oc 15 (.qcall 50 [(.t 14)]),
 oa 3 15] [10,13,14,15])
 (.seq (.region [oa 16 3,
 oa 4 16] [16])
 (.seq (.seq (.region [oa 17 3,
 oc 18 (.bin .eql (.t 17) (ki 3))] [17])
 (.cond (.t 18)
 (.region [oc 4 (.mv (ki 2))] [18])
 (.skip)))
 (.seq (.region [oc 19 (.fieldAddr 3 (.t 1)),
 oa 23 4,
 oc 25 (.fieldAddr 2 (.t 1)),
 oc 29 (.fieldAddr 3 (.t 1)),
 oa 33 3,
 oc 34 (.bin .sub (.t 33) (ki 1)),
 oc 20 (.load none (.t 19)),
 oc 21 (.indexAddr 4 (.t 20) (ki 0)),
 oc 22 (.load (some 4) (.t 21)),
 oc 24 (.qcall 138 [(.t 22),(.t 23)]),
 oc 26 (.load none (.t 25)),
 oc 27 (.qcall 139 [(.t 26)]),
 oc 28 (.bin .add (.t 24) (.t 27)),
 oc 30 (.load none (.t 29)),
 oc 31 (.indexAddr 4 (.t 30) (ki 1)),
 oc 32 (.load (some 4) (.t 31)),
 oc 35 (.qcall 140 [(.t 32),(.t 34)]),
 oc 36 (.bin .add (.t 28) (.t 35)),
 oa 2 36] [1,3,4,18,19,20,21,22,23,24,25,26,27,28,29,30,31,32,33,34,35,36])
 (.ret)))))
 (.seq (.region [oc 38 (.fieldAddr 0 (.t 1)),
 oc 39 (.load none (.t 38)),
 oc 40 (.bin .eql (.t 39) (ki 3)),
 oa 41 40,
 ⟨some 42,.fieldAddr 3 (.t 1),some (41,true)⟩,
 ⟨some 43,.load none (.t 42),some (41,true)⟩,
 ⟨some 44,.len 1 (.t 43),some (41,true)⟩,
 ⟨some 45,.bin .gtr (.t 44) (ki 0),some (41,true)⟩,
 oc 46 (.pick (.t 41) (.t 45) (.k (.c (.d (.bool false))))),
 oa 37 46] [10,38,39,40,41,42,43,44,45,46])
 (.cond (.t 37)
 (.seq (.region [oc 47 (.fieldAddr 2 (.t 1)),
 oc 50 (.fieldAddr 3 (.t 1)),
 oc 48 (.load none (.t 47)),
 oc 49 (.bin .add (.t 48) (.k (.c (.d (.str [40]))))),
 oc 51 (.load none (.t 50)),
 oc 52 (.qcall 141 [(.t 51)]),
 oc 53 (.bin .add (.t 49) (.t 52)),
 oc 54 (.bin .add (.t 53) (.k (.c (.d (.str [41]))))),
 oa 2 54] [1,37,47,48,49,50,51,52,53,54])
 (.ret))
 (.skip))))))))
 (.seq (.region [oc 55 (.load (some 4) (.t 1)),
 oc 56 (.qcall 142 [(.t 55)]),
 oa 2 56] [1,37,55,56])
 (.ret)))
theorem ac126_ok : cFunc Tryz.prog [1000050,1000135,1000136,1000137,1000138,1000139,1000140,1000141,1000142] [(0,[0,2],[]),(1,[6,7],[]),(2,[1,5,8,9],[]),(3,[5,11,12],[]),(4,[10,13,14,15],[]),(5,[16],[]),(6,[17],[]),(7,[18],[]),(8,[1,3,4,18,19,20,21,22,23,24,25,26,27,28,29,30,31,32,33,34,35,36],[0,4,6,10,14,15,1,2,3,5,7,8,9,11,12,13,16,17,18]),(9,[10,38,39,40,41,42,43,44,45,46],[]),(10,[1,37,47,48,49,50,51,52,53,54],[0,3,1,2,4,5,6,7,8]),(11,[1,37,55,56],[])] Tryz.f126 = some (ac126,[.tmp 2],57) := by kernel_rfl
theorem u8_nat {m : Nat} (h : m < 256) : ((UInt8.ofNat m).toNat : Int) = m := by simp; omega
theorem b2s_byte {m : Nat} {K : A → St → Prop} {st : St} (h : m < 256) (hk : K (.c (.d (.str [UInt8.ofNat m]))) st) : B2SK true [[.int .u8 (m : Int)]] K st :=
  ⟨[UInt8.ofNat m], fun _ => by simp only [bytesRows, List.map_cons, List.map_nil, u8_nat h], hk⟩
theorem letter_calls (n : Nat) (h : n ≤ 25) (H : Heap) : ACalls Tryz.prog 147 [.c (.d (.int .i64 n))] H (fun r H' => H' = H ∧ r = .c (.d (.str [UInt8.ofNat (65 + n)]))) := by
  refine acalls Tryz.func147 (by kernel_rfl) ac147_ok fun hf => ?_
  have hw : IntKind.wrap .u8 (n : Int) = n := by simp [IntKind.wrap, IntKind.bits, IntKind.signed]; omega
  have hi : inR .u8 (65 + (n : Int)) := by simp [inR, IntKind.min, IntKind.max, IntKind.signed, IntKind.bits]; omega
  simp -implicitDefEqProofs [ac147, hw, hi, go_sem, -List.set_cons_succ, -List.set_cons_zero]
  have e : 65 + (n : Int) = ((65 + n : Nat) : Int) := by omega
  simp only [e]
  refine b2s_byte (by omega) ?_
  simp -implicitDefEqProofs [go_sem, -List.set_cons_succ, -List.set_cons_zero]
def infixB (t : Tm) : Bool := (decide (t.k = 3) && decide ((t.kids.length : Int) = 2)) && decide (0 < levelN t.s)
def soleB (t : Tm) : Bool := (decide (t.k = 3) && decide ((t.kids.length : Int) = 0)) && decide (0 < levelN t.s)
theorem infix_calls (t : Tm) (ht : t.fits) (H : Heap) : ACalls Tryz.prog 137 [.agg (t.row.map .d)] H (fun r H' => H' = H ∧ r = .c (.d (.bool (infixB t)))) := by
  obtain ⟨k, n, s, l⟩ := t
  obtain ⟨_, _, hs, hl, _⟩ := ht
  refine acalls Tryz.func137 (by kernel_rfl) ac137_ok fun hf => ?_
  have hli : inR .i64 (l.length : Int) := small_i64 (by omega) (by omega)
  by_cases hk : k = 3
  · by_cases h2 : l.length = 2
    · match l, h2 with
      | [a, b], _ =>
        have h22 : inR .i64 2 := small_i64 (by omega) (by omega)
        simp -implicitDefEqProofs [ac137, row_mk, hk, h22, go_sem, -List.set_cons_succ, -List.set_cons_zero]
        refine qcall_pure (level_calls s) hf rfl ?_
        simp -implicitDefEqProofs [infixB, Tm.k, Tm.kids, Tm.s, go_sem, -List.set_cons_succ, -List.set_cons_zero]
        exact decide_eq_decide.2 Iff.rfl
    · have h3 : ((l.length : Int) == 2) = false := by simpa using fun h => h2 (by omega)
      have h4 : ¬ (l.length : Int) = 2 := fun h => h2 (by omega)
      simp -implicitDefEqProofs [ac137, row_mk, hk, hli, h3, h4, infixB, Tm.k, Tm.kids, Tm.s, go_sem, -List.set_cons_succ, -List.set_cons_zero]
  · simp -implicitDefEqProofs [ac137, row_mk, hk, hli, infixB, Tm.k, Tm.kids, Tm.s, go_sem, -List.set_cons_succ, -List.set_cons_zero]
theorem sole_calls (t : Tm) (ht : t.fits) (H : Heap) : ACalls Tryz.prog 144 [.agg (t.row.map .d)] H (fun r H' => H' = H ∧ r = .c (.d (.bool (soleB t)))) := by
  obtain ⟨k, n, s, l⟩ := t
  obtain ⟨_, _, hs, hl, _⟩ := ht
  refine acalls Tryz.func144 (by kernel_rfl) ac144_ok fun hf => ?_
  have hli : inR .i64 (l.length : Int) := small_i64 (by omega) (by omega)
  by_cases hk : k = 3
  · cases l with
    | nil =>
      have h00 : inR .i64 0 := small_i64 (by omega) (by omega)
      simp -implicitDefEqProofs [ac144, row_mk, hk, h00, go_sem, -List.set_cons_succ, -List.set_cons_zero]
      refine qcall_pure (level_calls s) hf rfl ?_
      simp -implicitDefEqProofs [soleB, Tm.k, Tm.kids, Tm.s, go_sem, -List.set_cons_succ, -List.set_cons_zero]
      exact decide_eq_decide.2 Iff.rfl
    | cons a l =>
      have h3 : (((l.length : Int) + 1) == 0) = false := by simp; omega
      have h4 : ¬ (l.length : Int) + 1 = 0 := by omega
      have hl2 : inR .i64 ((l.length : Int) + 1) := by simpa using hli
      simp -implicitDefEqProofs [ac144, row_mk, hk, hl2, h3, h4, soleB, Tm.k, Tm.kids, Tm.s, go_sem, -List.set_cons_succ, -List.set_cons_zero]
  · simp -implicitDefEqProofs [ac144, row_mk, hk, hli, soleB, Tm.k, Tm.kids, Tm.s, go_sem, -List.set_cons_succ, -List.set_cons_zero]
theorem spaced_calls (s : List UInt8) (hl : 0 < levelN s) (H : Heap) : ACalls Tryz.prog 139 [.c (.d (.str s))] H (fun r H' => H' = H ∧ r = .c (.d (.str (opSp s)))) := by
  have hm : s ∈ [[61], [92, 61], [61, 61], [60], [62], [61, 60], [62, 61], [61, 58, 61], [105, 115], [43], [45], [42], [47, 47], [109, 111, 100]] := by
    unfold levelN at hl
    split at hl
    · rename_i h; simp [ops3] at h; rcases h with rfl | rfl | rfl | rfl | rfl | rfl | rfl | rfl | rfl <;> simp
    · split at hl
      · rename_i h; simp at h; rcases h with rfl | rfl <;> simp
      · split at hl
        · rename_i h; simp at h; rcases h with rfl | rfl | rfl <;> simp
        · omega
  refine acalls Tryz.func139 (by kernel_rfl) ac139_ok fun hf => ?_
  simp at hm
  rcases hm with rfl | rfl | rfl | rfl | rfl | rfl | rfl | rfl | rfl | rfl | rfl | rfl | rfl | rfl <;> simp -implicitDefEqProofs [ac139, opSp, lettersB, lowB, maxStr, go_sem, -List.set_cons_succ, -List.set_cons_zero]
/-- the text of a term is as it is said -/
def TxS (t : Tm) : Prop := ∀ H, ACalls Tryz.prog 126 [.agg (t.row.map .d)] H (fun r H' => H' = H ∧ r = .c (.d (.str t.wr)))
/-- a text, in brackets if its operator's level is above another one -/
def brk (t : Tm) (m : Int) : List UInt8 := if infixB t && decide (m < levelN t.s) then 40 :: t.wr ++ [41] else t.wr
theorem brk_len (t : Tm) (m : Int) : (brk t m).length ≤ t.wr.length + 2 := by
  unfold brk
  split <;> simp
theorem bracket_calls (t : Tm) (ht : t.fits) (hT : TxS t) (hw : t.wr.length ≤ 1000000) (m : Int) (H : Heap) : ACalls Tryz.prog 145 [.agg (t.row.map .d), .c (.d (.int .i64 m))] H (fun r H' => H' = H ∧ r = .c (.d (.str (brk t m)))) := by
  have c1 := infix_calls t ht
  unfold TxS at hT
  rw [row_eq] at c1 hT ⊢
  simp only [List.map_cons, List.map_nil] at c1 hT ⊢
  refine acalls Tryz.func145 (by kernel_rfl) ac145_ok fun hf => ?_
  simp -implicitDefEqProofs [ac145, go_sem, -List.set_cons_succ, -List.set_cons_zero]
  refine qcall_pure c1 hf rfl ?_
  cases hi : infixB t with
  | false =>
    simp -implicitDefEqProofs [go_sem, -List.set_cons_succ, -List.set_cons_zero]
    refine qcall_pure hT hf rfl ?_
    simp -implicitDefEqProofs [brk, hi, go_sem, -List.set_cons_succ, -List.set_cons_zero]
  | true =>
    simp -implicitDefEqProofs [go_sem, -List.set_cons_succ, -List.set_cons_zero]
    refine qcall_pure (level_calls t.s) hf rfl ?_
    simp -implicitDefEqProofs [go_sem, -List.set_cons_succ, -List.set_cons_zero]
    refine ⟨fun h => qcall_pure hT hf rfl ?_, fun h => qcall_pure hT hf rfl ?_⟩
    · simp -implicitDefEqProofs [brk, hi, h, maxStr, go_sem, -List.set_cons_succ, -List.set_cons_zero]
      omega
    · simp -implicitDefEqProofs [brk, hi, Int.not_lt.2 h, go_sem, -List.set_cons_succ, -List.set_cons_zero]
theorem left_calls (t : Tm) (ht : t.fits) (hT : TxS t) (hw : t.wr.length ≤ 1000000) (m : Int) (H : Heap) : ACalls Tryz.prog 138 [.agg (t.row.map .d), .c (.d (.int .i64 m))] H
    (fun r H' => H' = H ∧ r = .c (.d (.str (if soleB t then 40 :: t.wr ++ [41] else brk t m)))) := by
  have c1 := sole_calls t ht
  have c2 := bracket_calls t ht hT hw m
  unfold TxS at hT
  rw [row_eq] at c1 c2 hT ⊢
  simp only [List.map_cons, List.map_nil] at c1 c2 hT ⊢
  refine acalls Tryz.func138 (by kernel_rfl) ac138_ok fun hf => ?_
  simp -implicitDefEqProofs [ac138, go_sem, -List.set_cons_succ, -List.set_cons_zero]
  refine qcall_pure c1 hf rfl ?_
  cases hi : soleB t with
  | false =>
    simp -implicitDefEqProofs [go_sem, -List.set_cons_succ, -List.set_cons_zero]
    refine qcall_pure c2 hf rfl ?_
    simp -implicitDefEqProofs [go_sem, -List.set_cons_succ, -List.set_cons_zero]
  | true =>
    simp -implicitDefEqProofs [go_sem, -List.set_cons_succ, -List.set_cons_zero]
    refine qcall_pure hT hf rfl ?_
    simp -implicitDefEqProofs [maxStr, go_sem, -List.set_cons_succ, -List.set_cons_zero]
    omega
theorem byte_off {s : List UInt8} {i : Int} (b : UInt8) {K : A → St → Prop} {st : St} (hk : K (.c (.d (.int .u8 b.toNat))) st) : ByteK false s i K st := ⟨b, fun h => (by cases h), hk⟩
theorem small_at (b : UInt8) (r : List UInt8) (hl : r.length ≤ 4000000) (H : Heap) : ACalls Tryz.prog 134 [.c (.d (.str (b :: r))), .c (.d (.int .i64 0))] H (fun r H' => H' = H ∧ r = .c (.d (.bool (decide (97 ≤ b.toNat ∧ b.toNat ≤ 122))))) := by
  refine acalls Tryz.func134 (by kernel_rfl) ac134_ok fun hf => ?_
  have hli : inR .i64 ((r.length : Int) + 1) := small_i64 (by omega) (by omega)
  have hp : (0 : Int) < (r.length : Int) + 1 := by omega
  simp -implicitDefEqProofs [ac134, hli, hp, go_sem, -List.set_cons_succ, -List.set_cons_zero]
  refine byte_int b (by omega) (by simp) ?_
  by_cases h1 : (97 : Int) ≤ b.toNat
  · have h1' : 97 ≤ b.toNat := by omega
    simp -implicitDefEqProofs [h1, h1', go_sem, -List.set_cons_succ, -List.set_cons_zero]
    refine byte_int b (by omega) (by simp) ?_
    simp -implicitDefEqProofs [h1', go_sem, -List.set_cons_succ, -List.set_cons_zero]
    omega
  · have h1' : ¬ 97 ≤ b.toNat := by omega
    simp -implicitDefEqProofs [h1, h1', go_sem, -List.set_cons_succ, -List.set_cons_zero]
    refine byte_off b ?_
    simp -implicitDefEqProofs [h1', go_sem, -List.set_cons_succ, -List.set_cons_zero]
theorem digit_at (b : UInt8) (r : List UInt8) (hl : r.length ≤ 4000000) (H : Heap) : ACalls Tryz.prog 122 [.c (.d (.str (b :: r))), .c (.d (.int .i64 0))] H (fun r H' => H' = H ∧ r = .c (.d (.bool (decide (48 ≤ b.toNat ∧ b.toNat ≤ 57))))) := by
  refine acalls Tryz.func122 (by kernel_rfl) ac122_ok fun hf => ?_
  have hli : inR .i64 ((r.length : Int) + 1) := small_i64 (by omega) (by omega)
  have hp : (0 : Int) < (r.length : Int) + 1 := by omega
  simp -implicitDefEqProofs [ac122, hli, hp, go_sem, -List.set_cons_succ, -List.set_cons_zero]
  refine byte_int b (by omega) (by simp) ?_
  by_cases h1 : (48 : Int) ≤ b.toNat
  · have h1' : 48 ≤ b.toNat := by omega
    simp -implicitDefEqProofs [h1, h1', go_sem, -List.set_cons_succ, -List.set_cons_zero]
    refine byte_int b (by omega) (by simp) ?_
    simp -implicitDefEqProofs [h1', go_sem, -List.set_cons_succ, -List.set_cons_zero]
    omega
  · have h1' : ¬ 48 ≤ b.toNat := by omega
    simp -implicitDefEqProofs [h1, h1', go_sem, -List.set_cons_succ, -List.set_cons_zero]
    refine byte_off b ?_
    simp -implicitDefEqProofs [h1', go_sem, -List.set_cons_succ, -List.set_cons_zero]
theorem plain_calls (b : UInt8) (r : List UInt8) (hl : r.length ≤ 4000000) (H : Heap) : ACalls Tryz.prog 146 [.c (.d (.str (b :: r)))] H (fun r' H' => H' = H ∧ r' = .c (.d (.bool (plainC b)))) := by
  refine acalls Tryz.func146 (by kernel_rfl) ac146_ok fun hf => ?_
  simp -implicitDefEqProofs [ac146, go_sem, -List.set_cons_succ, -List.set_cons_zero]
  refine qcall_pure (small_at b r hl) hf rfl ?_
  have on : ∀ {K : A → St → Prop} {st : St}, K (.c (.d (.int .u8 b.toNat))) st → ByteK true (b :: r) 0 K st := fun hk => byte_int b (by omega) (by simp) hk
  by_cases h1 : 97 ≤ b.toNat ∧ b.toNat ≤ 122
  · have hp : plainC b = true := by simp [plainC, h1]
    simp -implicitDefEqProofs [h1, hp, go_sem, -List.set_cons_succ, -List.set_cons_zero]
    refine byte_off b ?_
    simp -implicitDefEqProofs [go_sem, -List.set_cons_succ, -List.set_cons_zero]
    refine byte_off b ?_
    simp -implicitDefEqProofs [go_sem, -List.set_cons_succ, -List.set_cons_zero]
    refine byte_off b ?_
    simp -implicitDefEqProofs [go_sem, -List.set_cons_succ, -List.set_cons_zero]
    refine byte_off b ?_
    simp -implicitDefEqProofs [go_sem, -List.set_cons_succ, -List.set_cons_zero]
  · simp -implicitDefEqProofs [h1, go_sem, -List.set_cons_succ, -List.set_cons_zero]
    refine qcall_pure (digit_at b r hl) hf rfl ?_
    by_cases h2 : 48 ≤ b.toNat ∧ b.toNat ≤ 57
    · have hp : plainC b = true := by simp [plainC, h2]
      simp -implicitDefEqProofs [h2, hp, go_sem, -List.set_cons_succ, -List.set_cons_zero]
      refine byte_off b ?_
      simp -implicitDefEqProofs [go_sem, -List.set_cons_succ, -List.set_cons_zero]
      refine byte_off b ?_
      simp -implicitDefEqProofs [go_sem, -List.set_cons_succ, -List.set_cons_zero]
      refine byte_off b ?_
      simp -implicitDefEqProofs [go_sem, -List.set_cons_succ, -List.set_cons_zero]
      refine byte_off b ?_
      simp -implicitDefEqProofs [go_sem, -List.set_cons_succ, -List.set_cons_zero]
    · simp -implicitDefEqProofs [h2, go_sem, -List.set_cons_succ, -List.set_cons_zero]
      refine on ?_
      by_cases h3 : (65 : Int) ≤ b.toNat
      · simp -implicitDefEqProofs [h3, go_sem, -List.set_cons_succ, -List.set_cons_zero]
        refine on ?_
        by_cases h4 : (b.toNat : Int) ≤ 90
        · have hp : plainC b = true := by
            have : 65 ≤ b.toNat ∧ b.toNat ≤ 90 := by omega
            simp [plainC, this]
          simp -implicitDefEqProofs [h4, hp, go_sem, -List.set_cons_succ, -List.set_cons_zero]
          refine byte_off b ?_
          simp -implicitDefEqProofs [go_sem, -List.set_cons_succ, -List.set_cons_zero]
          refine byte_off b ?_
          simp -implicitDefEqProofs [go_sem, -List.set_cons_succ, -List.set_cons_zero]
        · simp -implicitDefEqProofs [h4, go_sem, -List.set_cons_succ, -List.set_cons_zero]
          refine on ?_
          by_cases h5 : (b.toNat : Int) = 91
          · have h6 : b = 91 := UInt8.toNat_inj.1 (by simp; omega)
            have hp : plainC b = true := by simp [plainC, h6]
            simp -implicitDefEqProofs [h5, hp, go_sem, -List.set_cons_succ, -List.set_cons_zero]
            refine byte_off b ?_
            simp -implicitDefEqProofs [go_sem, -List.set_cons_succ, -List.set_cons_zero]
          · have h6 : b ≠ 91 := fun h => h5 (by rw [h]; rfl)
            have hp : plainC b = decide ((b.toNat : Int) = 40) := by
              have h7 : ¬ (65 ≤ b.toNat ∧ b.toNat ≤ 90) := by omega
              have h8 : (b = 40) ↔ ((b.toNat : Int) = 40) := ⟨fun h => by rw [h]; rfl, fun h => UInt8.toNat_inj.1 (by simp; omega)⟩
              simp [plainC, h1, h2, h6, h7, beq_dec, h8]
            have h9 : ((b.toNat : Int) == 91) = false := by simpa using h5
            simp -implicitDefEqProofs [h5, h9, hp, go_sem, -List.set_cons_succ, -List.set_cons_zero]
            refine on ?_
            simp -implicitDefEqProofs [go_sem, -List.set_cons_succ, -List.set_cons_zero]
            try (simp [beq_dec]; done)
      · simp -implicitDefEqProofs [h3, go_sem, -List.set_cons_succ, -List.set_cons_zero]
        refine byte_off b ?_
        simp -implicitDefEqProofs [go_sem, -List.set_cons_succ, -List.set_cons_zero]
        refine on ?_
        by_cases h5 : (b.toNat : Int) = 91
        · have h6 : b = 91 := UInt8.toNat_inj.1 (by simp; omega)
          have hp : plainC b = true := by simp [plainC, h6]
          simp -implicitDefEqProofs [h5, hp, go_sem, -List.set_cons_succ, -List.set_cons_zero]
          refine byte_off b ?_
          simp -implicitDefEqProofs [go_sem, -List.set_cons_succ, -List.set_cons_zero]
        · have h6 : b ≠ 91 := fun h => h5 (by rw [h]; rfl)
          have hp : plainC b = decide ((b.toNat : Int) = 40) := by
            have h7 : ¬ (65 ≤ b.toNat ∧ b.toNat ≤ 90) := by omega
            have h8 : (b = 40) ↔ ((b.toNat : Int) = 40) := ⟨fun h => by rw [h]; rfl, fun h => UInt8.toNat_inj.1 (by simp; omega)⟩
            simp [plainC, h1, h2, h6, h7, beq_dec, h8]
          have h9 : ((b.toNat : Int) == 91) = false := by simpa using h5
          simp -implicitDefEqProofs [h5, h9, hp, go_sem, -List.set_cons_succ, -List.set_cons_zero]
          refine on ?_
          simp -implicitDefEqProofs [go_sem, -List.set_cons_succ, -List.set_cons_zero]
          try (simp [beq_dec]; done)
theorem right_calls (t : Tm) (ht : t.fits) (hT : TxS t) (hne : t.wr ≠ []) (hw : t.wr.length ≤ 1000000) (m : Int) (H : Heap) : ACalls Tryz.prog 140 [.agg (t.row.map .d), .c (.d (.int .i64 m))] H
    (fun r H' => H' = H ∧ r = .c (.d (.str (if soleB t || !plainC ((brk t m).headD 0) then 40 :: brk t m ++ [41] else brk t m)))) := by
  have c1 := sole_calls t ht
  have c2 := bracket_calls t ht hT hw m
  have hl := brk_len t m
  have hbne : brk t m ≠ [] := by
    unfold brk
    split
    · simp
    · exact hne
  rw [row_eq] at c1 c2 ⊢
  simp only [List.map_cons, List.map_nil] at c1 c2 ⊢
  refine acalls Tryz.func140 (by kernel_rfl) ac140_ok fun hf => ?_
  simp -implicitDefEqProofs [ac140, go_sem, -List.set_cons_succ, -List.set_cons_zero]
  refine qcall_pure c2 hf rfl ?_
  generalize brk t m = w at hl hbne ⊢
  obtain ⟨b, r, rfl⟩ : ∃ b r, w = b :: r := by
    cases w with
    | nil => exact absurd rfl hbne
    | cons b r => exact ⟨b, r, rfl⟩
  simp at hl
  simp -implicitDefEqProofs [go_sem, -List.set_cons_succ, -List.set_cons_zero]
  refine qcall_pure c1 hf rfl ?_
  cases hi : soleB t with
  | true =>
    simp -implicitDefEqProofs [maxStr, go_sem, -List.set_cons_succ, -List.set_cons_zero]
    omega
  | false =>
    simp -implicitDefEqProofs [go_sem, -List.set_cons_succ, -List.set_cons_zero]
    refine qcall_pure (plain_calls b r (by omega)) hf rfl ?_
    cases hp : plainC b <;> simp -implicitDefEqProofs [maxStr, go_sem, -List.set_cons_succ, -List.set_cons_zero]
    omega
theorem joinS_take (l : List Tm) (h : ∀ t ∈ l, t.wr.length ≤ 1000000) {i : Nat} (hi : i ≤ l.length) : (joinS 44 ((l.map Tm.wr).take i)).length ≤ 1000001 * i := by
  refine Nat.le_trans (joinS_len 44 _) ?_
  rw [← List.map_take]
  have : ∀ q : List Tm, (∀ t ∈ q, t.wr.length ≤ 1000000) → ((q.map Tm.wr).map fun x => x.length + 1).sum ≤ 1000001 * q.length := by
    intro q
    induction q with
    | nil => intro _; simp
    | cons a q ih =>
      intro h
      have h1 := h a (by simp)
      have h2 := ih fun t ht => h t (by simp [ht])
      simp at h2 ⊢
      omega
  have h3 := this (l.take i) fun t ht => h t (List.mem_of_mem_take ht)
  simpa [Nat.min_eq_left hi] using h3
theorem wargs_calls (l : List Tm) (hl : l.length ≤ 1048576) (hT : ∀ t ∈ l, TxS t ∧ t.wr.length ≤ 1000000) (H : Heap) : ACalls Tryz.prog 141 [.c (.d (.sl (l.map Tm.row)))] H (fun r H' => H' = H ∧ r = .c (.d (.str (joinS 44 (l.map Tm.wr))))) := by
  refine acalls Tryz.func141 (by kernel_rfl) ac141_ok fun hf => ?_
  have hli : inR .i64 (l.length : Int) := small_i64 (by omega) (by omega)
  simp -implicitDefEqProofs [ac141, hli, go_sem, -List.set_cons_succ, -List.set_cons_zero]
  refine loop_set (σ := Nat) (fun i => [(4, .c (.d (.int .i64 i))), (3, .c (.d (.str (joinS 44 ((l.map Tm.wr).take i)))))]) (fun _ => H) (fun _ => []) (fun i => i ≤ l.length) (fun i => l.length - i) 0 rfl (Nat.zero_le _) ?_
  intro i hi
  have hb : (joinS 44 ((l.map Tm.wr).take i)).length ≤ 1000001 * i := joinS_take l (fun t ht => (hT t ht).2) hi
  simp -implicitDefEqProofs [setAll, hli, go_sem, -List.set_cons_succ, -List.set_cons_zero]
  refine ⟨fun hlt => ?_, fun hge => by rw [List.take_of_length_le (by simpa using hge)]⟩
  have hadd : inR .i64 ((i : Int) + 1) := small_i64 (by omega) (by omega)
  have hnext : joinS 44 ((l.map Tm.wr).take (i + 1)) = if (l.map Tm.wr).take i = [] then l[i].wr else joinS 44 ((l.map Tm.wr).take i) ++ 44 :: l[i].wr := by
    rw [List.take_succ_eq_append_getElem (by simpa using hlt), joinS_snoc]
    simp
  have hwi := (hT l[i] (List.getElem_mem hlt)).2
  have hTi := (hT l[i] (List.getElem_mem hlt)).1
  refine ⟨fun hp => ⟨by unfold maxStr; omega, row_of hlt (row_len _) ?_⟩, fun h0 => row_of hlt (row_len _) ?_⟩
  · have hne : ¬ (l.map Tm.wr).take i = [] := by
      intro h
      have := congrArg List.length h
      rw [List.length_take, List.length_map] at this
      simp only [List.length_nil] at this
      omega
    rw [if_neg hne] at hnext
    simp -implicitDefEqProofs [row_len, take_row, pure_d, re_d, go_sem, -List.set_cons_succ, -List.set_cons_zero]
    refine qcall_pure hTi hf rfl ?_
    simp -implicitDefEqProofs [hadd, maxStr, go_sem, -List.set_cons_succ, -List.set_cons_zero]
    refine ⟨by omega, ?_⟩
    exact loop_back (i + 1) (by simp [setAll, hnext]) hlt (by show l.length - (i + 1) < l.length - i; omega)
  · subst h0
    simp at hnext
    simp -implicitDefEqProofs [row_len, take_row, pure_d, re_d, go_sem, -List.set_cons_succ, -List.set_cons_zero]
    refine qcall_pure hTi hf rfl ?_
    simp -implicitDefEqProofs [hadd, maxStr, joinS, go_sem, -List.set_cons_succ, -List.set_cons_zero]
    refine ⟨by omega, by simpa using hadd, ?_⟩
    exact loop_back 1 (by simp [setAll, hnext]) hlt (by show l.length - 1 < l.length - 0; omega)
theorem leaf_calls (t : Tm) (ht : t.fits) (hg : t.good) (hk : t.kids = []) (H : Heap) : ACalls Tryz.prog 142 [.agg (t.row.map .d)] H (fun r H' => H' = H ∧ r = .c (.d (.str t.wr))) := by
  obtain ⟨k, n, s, l⟩ := t
  obtain rfl : l = [] := hk
  obtain ⟨ho, _⟩ := hg
  have hpair := pairSpec_calls _ ht
  obtain ⟨hk1, hn1, hs, hl, _⟩ := ht
  refine acalls Tryz.func142 (by kernel_rfl) ac142_ok fun hf => ?_
  have h00 : inR .i64 0 := small_i64 (by omega) (by omega)
  rcases own_cases ho with ⟨rfl, n0, n1, rfl, _⟩ | ⟨rfl, n0, n1, rfl, _⟩ | ⟨rfl, rfl, hs2, _⟩
  · obtain ⟨m, rfl⟩ := Int.eq_ofNat_of_zero_le n0
    simp -implicitDefEqProofs [ac142, row_mk, go_sem, -List.set_cons_succ, -List.set_cons_zero]
    refine qcall_pure (letter_calls m (by omega)) hf rfl ?_
    simp -implicitDefEqProofs [Tm.wr, wrNode, go_sem, -List.set_cons_succ, -List.set_cons_zero]
  · simp -implicitDefEqProofs [ac142, row_mk, go_sem, -List.set_cons_succ, -List.set_cons_zero]
    refine qcall_pure (dec1_calls n (by omega) (by omega)) hf rfl ?_
    simp -implicitDefEqProofs [Tm.wr, wrNode, go_sem, -List.set_cons_succ, -List.set_cons_zero]
  · simp [row_mk] at hpair
    simp -implicitDefEqProofs [ac142, row_mk, go_sem, -List.set_cons_succ, -List.set_cons_zero]
    refine qcall_pure hpair hf rfl ?_
    have hpb : (Tm.mk 3 0 s []).pairB = false := by simp [Tm.pairB, Tm.kids]
    simp -implicitDefEqProofs [hpb, go_sem, -List.set_cons_succ, -List.set_cons_zero]
    refine loop_set (σ := Unit) (fun _ => []) (fun _ => H) (fun _ => [_]) (fun _ => True) (fun _ => 0) () rfl trivial ?_
    rintro ⟨⟩ _
    simp -implicitDefEqProofs [setAll, h00, go_sem, -List.set_cons_succ, -List.set_cons_zero]
    simp [Tm.wr, wrNode]
theorem pair_inv {t : Tm} (h : t.pairB = true) : ∃ n a b, t = .mk 3 n [46] [a, b] := by
  obtain ⟨k, n, s, l⟩ := t
  simp only [Tm.pairB, Tm.k, Tm.s, Tm.kids, Bool.and_eq_true, decide_eq_true_eq, beq_iff_eq] at h
  obtain ⟨⟨hk, rfl⟩, hl⟩ := h
  obtain rfl : k = 3 := of_decide_eq_true hk
  have hl : (l.length : Int) = 2 := of_decide_eq_true hl
  match l, show l.length = 2 by omega with
  | [a, b], _ => exact ⟨n, a, b, rfl⟩
theorem pair_wrt (n : Int) (a b : Tm) : (Tm.mk 3 n [46] [a, b]).wrt = 44 :: a.wr ++ b.wrt := by
  rw [Tm.wrt, wrs_map, wrts_map]
  simp
theorem pair_wr (n : Int) (a b : Tm) : (Tm.mk 3 n [46] [a, b]).wr = 91 :: (a.wr ++ b.wrt) ++ [93] := by
  rw [Tm.wr, wrs_map, wrts_map]
  simp [wrNode]
theorem end_wrt {t : Tm} (h : t.pairB = false) : t.wrt = if t.nilB then [] else 124 :: t.wr := by
  obtain ⟨k, n, s, l⟩ := t
  rw [Tm.wrt, Tm.wr]
  have h1 : ¬ (k = 3 ∧ s = [46] ∧ l.length = 2) := by
    rintro ⟨rfl, rfl, h2⟩
    have h3 : (l.length : Int) = 2 := by omega
    simp [Tm.pairB, Tm.k, Tm.s, Tm.kids, h3] at h
  rw [if_neg h1]
  by_cases h2 : k = 3 ∧ s = [91, 93] ∧ l = []
  · obtain ⟨rfl, rfl, rfl⟩ := h2
    simp [Tm.nilB, Tm.k, Tm.kids, Tm.s]
  · have h3 : (Tm.mk k n s l).nilB = false := by
      cases hb : (Tm.mk k n s l).nilB with
      | false => rfl
      | true =>
        simp only [Tm.nilB, Tm.k, Tm.kids, Tm.s, Bool.and_eq_true, decide_eq_true_eq, beq_iff_eq, List.isEmpty_iff] at hb
        exact absurd ⟨of_decide_eq_true hb.1.1, hb.2, hb.1.2⟩ h2
    rw [if_neg h2, h3]
    rfl
/-- a term that the writers meet -/
structure Tm.ok (t : Tm) : Prop where
  fits : t.fits
  good : t.good
  size : t.size ≤ 300
theorem Tm.ok.len {t : Tm} (h : t.ok) : t.wr.length ≤ 6000 ∧ t.wrt.length ≤ 6001 ∧ t.wr ≠ [] := by
  have := wr_len t h.good
  have := h.size
  exact ⟨by omega, by omega, (wr_len t h.good).2⟩
theorem Tm.ok.kid {k n : Int} {s : List UInt8} {l : List Tm} (h : (Tm.mk k n s l).ok) {u : Tm} (hu : u ∈ l) : u.ok ∧ u.size < (Tm.mk k n s l).size := by
  obtain ⟨h1, h2, h3⟩ := h
  have h4 := sizes_mem hu
  rw [Tm.size] at h3 ⊢
  cases h1 with
  | mk _ _ _ _ hk => cases h2 with
    | mk _ hg => exact ⟨⟨hk u hu, hg u hu, by omega⟩, by omega⟩
theorem list_calls (t : Tm) (ht : t.ok) (hp : t.pairB = true) (hT : ∀ u : Tm, u.ok → u.size < t.size → TxS u) (H : Heap) : ACalls Tryz.prog 136 [.agg (t.row.map .d)] H (fun r H' => H' = H ∧ r = .c (.d (.str t.wr))) := by
  refine acalls Tryz.func136 (by kernel_rfl) ac136_ok fun hf => ?_
  simp -implicitDefEqProofs [ac136, row_len, take_row, go_sem, -List.set_cons_succ, -List.set_cons_zero]
  refine loop_enter (St.le_token 3 4 rfl) ?_
  refine loop_set (σ := List Tm × Tm) (fun x => [(3, .c (.own (.l 1) x.1.length (x.1.map Tm.row)))]) (fun _ => H) (fun x => [.cells (x.2.row.map .d), .grow x.1.length 4])
    (fun x => x.2.ok ∧ x.1.length + x.2.size ≤ t.size ∧ (∀ u ∈ x.1, u.ok ∧ u.size < t.size) ∧ ((x.1 = [] ∧ x.2 = t) ∨ (x.1 ≠ [] ∧ t.wr = 91 :: (joinS 44 (x.1.map Tm.wr) ++ x.2.wrt) ++ [93]))) (fun x => x.2.size) ([], t) rfl ⟨ht, by simp, by simp, .inl ⟨rfl, rfl⟩⟩ ?_
  rintro ⟨l, c⟩ ⟨hc, hsz, hl, hw⟩
  simp only at hc hsz hl hw
  have hts := ht.size
  simp -implicitDefEqProofs [setAll, row_len, take_row, pure_d, re_d, go_sem, -List.set_cons_succ, -List.set_cons_zero]
  refine qcall_pure (pairSpec_calls c hc.fits) hf rfl ?_
  cases hcp : c.pairB with
  | true =>
    obtain ⟨n, a, b, rfl⟩ := pair_inv hcp
    simp -implicitDefEqProofs [row_mk, go_sem, -List.set_cons_succ, -List.set_cons_zero]
    have ha := hc.kid (u := a) (by simp)
    have hb := hc.kid (u := b) (by simp)
    have hct : (Tm.mk 3 n [46] [a, b]).size ≤ t.size := by omega
    have hcs : (Tm.mk 3 n [46] [a, b]).size = 1 + a.size + b.size := by simp [Tm.size, sizes]; omega
    refine row_int a.row (by omega) rfl (row_len _) ?_
    simp -implicitDefEqProofs [row_len, take_row, pure_d, re_d, toDs_map, hf, go_sem, -List.set_cons_succ, -List.set_cons_zero]
    refine ⟨allLen_map row_len, by unfold maxApp; omega, row_int b.row (by omega) rfl (row_len _) ?_⟩
    simp -implicitDefEqProofs [row_len, take_row, pure_d, re_d, toDs_map, hf, go_sem, -List.set_cons_succ, -List.set_cons_zero]
    refine loop_back (l ++ [a], b) (by simp [setAll]) ⟨hb.1, by simp; omega, fun u hu => ?_, .inr ⟨by simp, ?_⟩⟩ (by show b.size < (Tm.mk 3 n [46] [a, b]).size; omega)
    · rcases List.mem_append.1 hu with hu | hu
      · exact hl u hu
      · rw [List.mem_singleton.1 hu]
        exact ⟨ha.1, by omega⟩
    · simp only [List.map_append, List.map_cons, List.map_nil]
      rw [joinS_snoc]
      rcases hw with ⟨rfl, rfl⟩ | ⟨hne, hw⟩
      · rw [pair_wr]
        simp
      · rw [hw, pair_wrt, if_neg (by simpa using hne)]
        simp
  | false =>
    have hlen : (joinS 44 (l.map Tm.wr)).length ≤ 1000001 * l.length := by
      have := joinS_take l (fun u hu => by have := (hl u hu).1.len; omega) (Nat.le_refl _)
      rwa [List.take_of_length_le (by simp)] at this
    have hne : l ≠ [] := by
      rintro rfl
      rcases hw with ⟨_, rfl⟩ | ⟨h, _⟩
      · rw [hp] at hcp; cases hcp
      · exact h rfl
    obtain ⟨_, hw⟩ : l ≠ [] ∧ t.wr = 91 :: (joinS 44 (l.map Tm.wr) ++ c.wrt) ++ [93] := by
      rcases hw with ⟨h, _⟩ | h
      · exact absurd h hne
      · exact h
    have hlt : c.size < t.size := by
      have : 0 < l.length := List.length_pos_iff.2 hne
      omega
    have hargs := wargs_calls l (by omega) (fun u hu => ⟨hT u (hl u hu).1 (hl u hu).2, by have := (hl u hu).1.len; omega⟩)
    rw [end_wrt hcp] at hw
    have hcl := hc.len
    simp -implicitDefEqProofs [row_len, take_row, pure_d, re_d, go_sem, -List.set_cons_succ, -List.set_cons_zero]
    refine qcall_pure (nilSpec_calls c hc.fits) hf rfl ?_
    cases hn : c.nilB with
    | true =>
      rw [hn] at hw
      simp -implicitDefEqProofs [go_sem, -List.set_cons_succ, -List.set_cons_zero]
      refine qcall_pure hargs hf rfl ?_
      simp -implicitDefEqProofs [hw, maxStr, go_sem, -List.set_cons_succ, -List.set_cons_zero]
      omega
    | false =>
      rw [hn] at hw
      simp -implicitDefEqProofs [go_sem, -List.set_cons_succ, -List.set_cons_zero]
      refine qcall_pure hargs hf rfl ?_
      simp -implicitDefEqProofs [maxStr, row_len, take_row, pure_d, re_d, go_sem, -List.set_cons_succ, -List.set_cons_zero]
      refine ⟨by omega, by omega, qcall_pure (hT c hc hlt) hf rfl ?_⟩
      simp -implicitDefEqProofs [hw, maxStr, go_sem, -List.set_cons_succ, -List.set_cons_zero]
      omega
theorem sole_eq (t : Tm) : soleB t = (t.atomB && decide (0 < levelN t.s)) := by
  have : decide ((t.kids.length : Int) = 0) = t.kids.isEmpty := by cases t.kids <;> simp; omega
  simp only [soleB, Tm.atomB, this]
theorem infix_lv (t : Tm) {m : Int} (hm : 0 ≤ m) (hk : t.kids.length = 2 → t.k = 3) : (infixB t && decide (m < levelN t.s)) = decide (m < t.lv) := by
  unfold infixB Tm.lv
  by_cases h2 : t.kids.length = 2
  · have h3 := hk h2
    have h4 : (t.kids.length : Int) = 2 := by omega
    rw [if_pos h2, Bool.eq_iff_iff]
    simp only [Bool.and_eq_true, decide_eq_true_iff]
    exact ⟨fun h => h.2, fun h => ⟨⟨⟨h3, h4⟩, by omega⟩, h⟩⟩
  · have h4 : ¬ (t.kids.length : Int) = 2 := by omega
    rw [if_neg h2, Bool.eq_iff_iff]
    simp only [Bool.and_eq_true, decide_eq_true_iff]
    exact ⟨fun h => absurd h.1.1.2 h4, fun h => by omega⟩
theorem brk_opnd_left (t : Tm) {m : Int} (hm : 0 ≤ m) (hk : t.kids.length = 2 → t.k = 3) : (if soleB t then 40 :: t.wr ++ [41] else brk t m) = opnd t t.wr m false := by
  unfold brk opnd
  rw [infix_lv t hm hk, sole_eq]
  cases (t.atomB && decide (0 < levelN t.s)) <;> cases decide (m < t.lv) <;> rfl
theorem plain_40 : plainC 40 = true := by decide
theorem sole_not_infix {t : Tm} (h : soleB t = true) : infixB t = false := by
  cases hi : infixB t with
  | false => rfl
  | true =>
    simp only [soleB, infixB, Bool.and_eq_true, decide_eq_true_iff] at h hi
    omega
theorem brk_opnd_right (t : Tm) {m : Int} (hm : 0 ≤ m) (hk : t.kids.length = 2 → t.k = 3) : (if soleB t || !plainC ((brk t m).headD 0) then 40 :: brk t m ++ [41] else brk t m) = opnd t t.wr m true := by
  have h1 : brk t m = if decide (m < t.lv) then 40 :: t.wr ++ [41] else t.wr := by
    unfold brk
    rw [infix_lv t hm hk]
  have h2 : soleB t = true → decide (m < t.lv) = false := fun h => by
    rw [← infix_lv t hm hk, sole_not_infix h]
    rfl
  unfold opnd
  rw [← sole_eq, h1]
  cases hs : soleB t with
  | true =>
    rw [h2 hs]
    rfl
  | false =>
    cases decide (m < t.lv) with
    | true => simp [plain_40]
    | false => simp
theorem lv_range {s : List UInt8} (h : 0 < levelN s) : (levelN s = 1 ∨ levelN s = 2 ∨ levelN s = 3) ∧ (levelN s = 3 → leftMost s = 2) ∧ (levelN s ≠ 3 → leftMost s = levelN s) := by
  have h1 : levelN s = 1 ∨ levelN s = 2 ∨ levelN s = 3 := by
    unfold levelN at h ⊢
    split
    · simp
    · split
      · simp
      · split
        · simp
        · rename_i a b c; rw [if_neg a, if_neg b, if_neg c] at h; omega
  refine ⟨h1, fun h3 => ?_, fun h3 => ?_⟩
  · simp [leftMost, leftB, h3]
  · rcases h1 with h1 | h1 | h1
    · simp [leftMost, leftB, h1]
    · simp [leftMost, leftB, h1]
    · exact absurd h1 h3
theorem text_calls : ∀ (N : Nat) (t : Tm), t.size ≤ N → t.ok → TxS t := by
  intro N
  induction N with
  | zero =>
    intro t h
    obtain ⟨k, n, s, l⟩ := t
    rw [Tm.size] at h
    omega
  | succ N ih =>
    intro t hN ht H
    have hT : ∀ u : Tm, u.ok → u.size < t.size → TxS u := fun u hu h => ih u (by omega) hu
    have c1 := pairSpec_calls t ht.fits
    have c2 := infix_calls t ht.fits
    refine acalls Tryz.func126 (by kernel_rfl) ac126_ok fun hf => ?_
    simp -implicitDefEqProofs [ac126, row_len, take_row, pure_d, re_d, go_sem, -List.set_cons_succ, -List.set_cons_zero]
    refine qcall_pure c1 hf rfl ?_
    cases hp : t.pairB with
    | true =>
      simp -implicitDefEqProofs [row_len, take_row, pure_d, re_d, go_sem, -List.set_cons_succ, -List.set_cons_zero]
      refine qcall_pure (list_calls t ht hp hT) hf rfl ?_
      simp -implicitDefEqProofs [go_sem, -List.set_cons_succ, -List.set_cons_zero]
    | false =>
      simp -implicitDefEqProofs [row_len, take_row, pure_d, re_d, go_sem, -List.set_cons_succ, -List.set_cons_zero]
      refine qcall_pure c2 hf rfl ?_
      cases hi : infixB t with
      | true =>
        obtain ⟨k, n, s, l⟩ := t
        have hi2 := hi
        simp only [infixB, Tm.k, Tm.kids, Tm.s, Bool.and_eq_true, decide_eq_true_iff] at hi2
        obtain ⟨⟨hk3, hl2⟩, hlv⟩ := hi2
        obtain rfl : k = 3 := of_decide_eq_true hk3
        have hl2 : (l.length : Int) = 2 := of_decide_eq_true hl2
        have hlp : 0 < levelN s := of_decide_eq_true hlv
        clear hlv
        match l, show l.length = 2 by omega, ht, hT, hp with
        | [a, b], _, ht, hT, hp =>
          have ha := ht.kid (u := a) (by simp)
          have hb := ht.kid (u := b) (by simp)
          have hal := ha.1.len
          have hbl := hb.1.len
          obtain ⟨hr1, hr2, hr3⟩ := lv_range hlp
          have hsl : s.length ≤ 1048576 := by
            cases ht.fits with
            | mk _ _ h3 _ _ => exact h3
          have hsub : inR .i64 (levelN s - 1) := small_i64 (by omega) (by omega)
          simp -implicitDefEqProofs [row_mk, go_sem, -List.set_cons_succ, -List.set_cons_zero]
          refine qcall_pure (level_calls s) hf rfl ?_
          have hk2 : ∀ u : Tm, u.ok → u.kids.length = 2 → u.k = 3 := fun u hu h => by
            obtain ⟨k, n, s, l⟩ := u
            have hg := hu.good
            cases hg with
            | mk ho _ =>
              rcases own_cases ho with ⟨_, _, _, _, rfl⟩ | ⟨_, _, _, _, rfl⟩ | ⟨h3, _⟩
              · simp [Tm.kids] at h
              · simp [Tm.kids] at h
              · exact h3
          have hm0 : 0 ≤ leftMost s := by
            by_cases h3 : levelN s = 3
            · rw [hr2 h3]; omega
            · rw [hr3 h3]; omega
          have cl := left_calls a ha.1.fits (hT a ha.1 ha.2) (by omega) (leftMost s)
          have cr := right_calls b hb.1.fits (hT b hb.1 hb.2) hbl.2.2 (by omega) (levelN s - 1)
          rw [brk_opnd_left a hm0 (hk2 a ha.1)] at cl
          rw [brk_opnd_right b (by omega) (hk2 b hb.1)] at cr
          have hol := opnd_len a a.wr (leftMost s) false
          have hor := opnd_len b b.wr (levelN s - 1) true
          have hos := opSp_len s
          have hwr : (Tm.mk 3 n s [a, b]).wr = opnd a a.wr (leftMost s) false ++ opSp s ++ opnd b b.wr (levelN s - 1) true := by
            have hne : s ≠ [46] := by rintro rfl; simp [levelN, ops3] at hlp
            rw [Tm.wr, wrs_map, wrts_map]
            simp [wrNode, hne, hlp]
          rw [hwr]
          by_cases h3 : levelN s = 3
          · rw [hr2 h3] at cl hol
            rw [h3, show (3 : Int) - 1 = 2 from rfl] at cr hor hsub
            rw [h3, show (3 : Int) - 1 = 2 from rfl]
            have h22 : inR .i64 2 := small_i64 (by omega) (by omega)
            simp only [hr2 h3]
            simp -implicitDefEqProofs [h3, hsub, h22, go_sem, -List.set_cons_succ, -List.set_cons_zero]
            refine row_int (i := 0) a.row (by omega) rfl (row_len _) ?_
            simp -implicitDefEqProofs [row_len, take_row, pure_d, re_d, go_sem, -List.set_cons_succ, -List.set_cons_zero]
            refine qcall_pure cl hf rfl ?_
            simp -implicitDefEqProofs [go_sem, -List.set_cons_succ, -List.set_cons_zero]
            refine qcall_pure (spaced_calls s hlp) hf rfl ?_
            simp -implicitDefEqProofs [maxStr, go_sem, -List.set_cons_succ, -List.set_cons_zero]
            refine ⟨by omega, row_int (i := 1) b.row (by omega) rfl (row_len _) ?_⟩
            simp -implicitDefEqProofs [row_len, take_row, pure_d, re_d, go_sem, -List.set_cons_succ, -List.set_cons_zero]
            refine qcall_pure cr hf rfl ?_
            simp -implicitDefEqProofs [maxStr, go_sem, -List.set_cons_succ, -List.set_cons_zero]
            omega
          · rw [hr3 h3] at cl hol
            have h4 : (levelN s == 3) = false := by simpa using h3
            simp only [hr3 h3]
            simp -implicitDefEqProofs [h3, h4, hsub, go_sem, -List.set_cons_succ, -List.set_cons_zero]
            refine row_int (i := 0) a.row (by omega) rfl (row_len _) ?_
            simp -implicitDefEqProofs [row_len, take_row, pure_d, re_d, go_sem, -List.set_cons_succ, -List.set_cons_zero]
            refine qcall_pure cl hf rfl ?_
            simp -implicitDefEqProofs [go_sem, -List.set_cons_succ, -List.set_cons_zero]
            refine qcall_pure (spaced_calls s hlp) hf rfl ?_
            simp -implicitDefEqProofs [maxStr, go_sem, -List.set_cons_succ, -List.set_cons_zero]
            refine ⟨by omega, row_int (i := 1) b.row (by omega) rfl (row_len _) ?_⟩
            simp -implicitDefEqProofs [row_len, take_row, pure_d, re_d, go_sem, -List.set_cons_succ, -List.set_cons_zero]
            refine qcall_pure cr hf rfl ?_
            simp -implicitDefEqProofs [maxStr, go_sem, -List.set_cons_succ, -List.set_cons_zero]
            omega
      | false =>
        have hli : inR .i64 (t.kids.length : Int) := by
          cases ht.fits with
          | mk _ _ _ h _ => exact small_i64 (by simp only [Tm.kids]; omega) (by simp only [Tm.kids]; omega)
        by_cases hks : t.kids = []
        · have hlf := leaf_calls t ht.fits ht.good hks
          obtain ⟨k, n, s, l⟩ := t
          obtain rfl : l = [] := hks
          have h00 : inR .i64 0 := small_i64 (by omega) (by omega)
          simp [row_mk] at hlf
          by_cases hk : k = 3
          · simp -implicitDefEqProofs [row_mk, hk, h00, go_sem, -List.set_cons_succ, -List.set_cons_zero]
            subst hk
            refine qcall_pure hlf hf rfl ?_
            simp -implicitDefEqProofs [go_sem, -List.set_cons_succ, -List.set_cons_zero]
          · simp -implicitDefEqProofs [row_mk, hk, h00, go_sem, -List.set_cons_succ, -List.set_cons_zero]
            refine qcall_pure hlf hf rfl ?_
            simp -implicitDefEqProofs [go_sem, -List.set_cons_succ, -List.set_cons_zero]
        · obtain ⟨k, n, s, l⟩ := t
          have hkl : l ≠ [] := hks
          clear hks
          have hkids := fun u hu => ht.kid (k := k) (n := n) (s := s) (l := l) (u := u) hu
          obtain rfl : k = 3 := by
            cases ht.good with
            | mk ho _ =>
              rcases own_cases ho with ⟨_, _, _, _, h⟩ | ⟨_, _, _, _, h⟩ | ⟨h3, _⟩
              · exact absurd h hkl
              · exact absurd h hkl
              · exact h3
          simp only [Tm.kids] at hli
          have hsl : s.length ≤ 1048576 ∧ l.length ≤ 1048576 := by
            cases ht.fits with
            | mk _ _ h3 h4 _ => exact ⟨h3, h4⟩
          have hps : 0 < l.length := List.length_pos_iff.2 hkl
          have hpos : (0 : Int) < l.length := by omega
          have hargs := wargs_calls l hsl.2 (fun u hu => ⟨hT u (hkids u hu).1 (hkids u hu).2, by have := (hkids u hu).1.len; omega⟩)
          have hjl := joinS_take l (fun u hu => by have := (hkids u hu).1.len; omega) (Nat.le_refl _)
          rw [List.take_of_length_le (by simp)] at hjl
          have hwr : (Tm.mk 3 n s l).wr = s ++ 40 :: joinS 44 (l.map Tm.wr) ++ [41] := by
            rw [Tm.wr, wrs_map, wrts_map]
            have h1 : ¬ (s = [46] ∧ l.length = 2) := by
              rintro ⟨rfl, h⟩
              have h' : (l.length : Int) = 2 := by omega
              simp [Tm.pairB, Tm.k, Tm.s, Tm.kids, h'] at hp
            have h2 : ¬ (l.length = 2 ∧ 0 < levelN s) := by
              rintro ⟨h, h'⟩
              have h'' : (l.length : Int) = 2 := by omega
              simp [infixB, Tm.k, Tm.s, Tm.kids, h'', h'] at hi
            simp [wrNode, h1, h2, hkl]
          rw [hwr]
          simp -implicitDefEqProofs [row_mk, hli, hpos, hps, hkl, go_sem, -List.set_cons_succ, -List.set_cons_zero]
          refine ⟨by unfold maxStr; omega, qcall_pure hargs hf rfl ?_⟩
          simp -implicitDefEqProofs [maxStr, go_sem, -List.set_cons_succ, -List.set_cons_zero]
          omega
-- 112 loop.example/prologserver/spec.l4Text params 1 ntmps 31
-- loop head live: [1,3,4]
def ac112 : Cd := .seq (.region [oc 1 (.box (.t 0)),
 oc 2 (.mv (.k (.c (.d (.str [])))))] [0,2])
 (.seq (.region [oc 5 (.fieldAddr 0 (.t 1)),
 oc 6 (.load (some 4) (.t 5)),
 oc 7 (.qcall 126 [(.t 6)]),
 oa 3 7] [5,6,7])
 (.seq (.seq (.region [oc 4 (.mv (ki 0))] [])
 (.block 0 (.loop (.seq (.seq (.region [oa 8 4,
 oc 9 (.fieldAddr 4 (.t 1)),
 oc 10 (.load none (.t 9)),
 oc 11 (.len 1 (.t 10)),
 oc 12 (.bin .lss (.t 8) (.t 11))] [8,9,10,11])
 (.cond (.t 12)
 (.skip)
 (.exit 0)))
 (.seq (.block 1 (.seq (.seq (.region [oa 15 4,
 oc 16 (.bin .eql (.t 15) (ki 0))] [12,15])
 (.cond (.t 16)
 (.region [oa 17 3,
 oc 18 (.bin .add (.t 17) (.k (.c (.d (.str [58,45]))))),
 oa 3 18] [16,17,18])
 (.region [oa 19 3,
 oc 20 (.bin .add (.t 19) (.k (.c (.d (.str [44]))))),
 oa 3 20] [16,19,20])))
 (.region [oa 21 3,
 oc 22 (.fieldAddr 4 (.t 1)),
 oc 23 (.load none (.t 22)),
 oa 24 4,
 oc 25 (.indexAddr 4 (.t 23) (.t 24)),
 oc 26 (.load (some 4) (.t 25)),
 oc 27 (.qcall 126 [(.t 26)]),
 oc 28 (.bin .add (.t 21) (.t 27)),
 oa 3 28] [21,22,23,24,25,26,27,28])))
 (.region [oa 13 4,
 oc 14 (.bin .add (.t 13) (ki 1)),
 oa 4 14] [13,14]))))))
 (.seq (.region [oa 29 3,
 oc 30 (.bin .add (.t 29) (.k (.c (.d (.str [46]))))),
 oa 2 30] [3,29,30])
 (.ret))))
theorem ac112_ok : cFunc Tryz.prog [1000126] [(0,[0,2],[]),(1,[5,6,7],[]),(2,[],[]),(3,[8,9,10,11],[]),(5,[12,15],[]),(6,[16,17,18],[]),(7,[16,19,20],[]),(8,[21,22,23,24,25,26,27,28],[]),(4,[13,14],[]),(9,[3,29,30],[])] Tryz.f112 = some (ac112,[.tmp 2],31) := by kernel_rfl
-- 93 loop.example/prologserver/spec.FormatClause params 1 ntmps 8
def ac93 : Cd := .seq (.region [oc 1 (.box (.t 0)),
 oc 2 (.mv (.k (.c (.d (.str [])))))] [0,2])
 (.seq (.seq (.region [oc 3 (.load (some 5) (.t 1)),
 oc 4 (.qcall 47 [(.t 3)]),
 oc 5 (.un .not (.t 4))] [3,4])
 (.cond (.t 5)
 (.seq (.region [oc 2 (.mv (.k (.c (.d (.str [])))))] [1,5])
 (.ret))
 (.skip)))
 (.seq (.region [oc 6 (.load (some 5) (.t 1)),
 oc 7 (.qcall 112 [(.t 6)]),
 oa 2 7] [1,5,6,7])
 (.ret)))
theorem ac93_ok : cFunc Tryz.prog [1000047,1000112] [(0,[0,2],[]),(1,[3,4],[]),(2,[1,5],[]),(3,[1,5,6,7],[])] Tryz.f93 = some (ac93,[.tmp 2],8) := by kernel_rfl
-- 83 loop.example/prologserver/spec.l4Copy params 1 ntmps 28
-- loop head live: [1,2,3,4]
def ac83 : Cd := .seq (.region [oc 1 (.box (.t 0)),
 oc 2 (.alloc [(.d (.int .i64 0)),(.d (.int .i64 0)),(.d (.str [])),(.full []),(.full [])])] [0])
 (.seq (.region [oc 5 (.fieldAddr 0 (.t 1)),
 oc 6 (.load (some 4) (.t 5)),
 oc 7 (.qcall 31 [(.t 6)]),
 oc 8 (.build [(.d (.int .i64 0)),(.d (.int .i64 0)),(.d (.str [])),(.full []),(.full [])] [(0,4,(.t 7))]),
 oc 3 (.alloc [(.d (.int .i64 0)),(.d (.int .i64 0)),(.d (.str [])),(.full []),(.full [])]),
 ⟨none,.store 5 (.t 3) (.t 8),none⟩] [5,6,7,8])
 (.seq (.seq (.region [oc 4 (.mv (ki 0))] [])
 (.block 0 (.loop (.seq (.seq (.region [oa 9 4,
 oc 10 (.fieldAddr 4 (.t 1)),
 oc 11 (.load none (.t 10)),
 oc 12 (.len 1 (.t 11)),
 oc 13 (.bin .lss (.t 9) (.t 12))] [9,10,11,12])
 (.cond (.t 13)
 (.skip)
 (.exit 0)))
 (.seq (.block 1 (.region [oc 16 (.fieldAddr 4 (.t 3)),
 oc 18 (.fieldAddr 4 (.t 1)),
 oa 20 4,
 oc 17 (.load none (.t 16)),
 oc 19 (.load none (.t 18)),
 oc 21 (.indexAddr 4 (.t 19) (.t 20)),
 oc 22 (.load (some 4) (.t 21)),
 oc 23 (.qcall 31 [(.t 22)]),
 oc 24 (.buildSlice 4 1 [(.int .i64 0),(.int .i64 0),(.str []),(.sl [])] [(0,(.t 23))]),
 oc 25 (.append false 4 (.t 17) (.t 24)),
 oc 26 (.fieldAddr 4 (.t 3)),
 ⟨none,.store 1 (.t 26) (.t 25),none⟩] [13,16,17,18,19,20,21,22,23,24,25,26]))
 (.region [oa 14 4,
 oc 15 (.bin .add (.t 14) (ki 1)),
 oa 4 15] [14,15]))))))
 (.seq (.region [oc 27 (.load (some 5) (.t 3)),
 ⟨none,.store 5 (.t 2) (.t 27),none⟩] [3,27])
 (.ret))))
theorem ac83_ok : cFunc Tryz.prog [1000031] [(0,[0],[]),(1,[5,6,7,8],[]),(2,[],[]),(3,[9,10,11,12],[]),(5,[13,16,17,18,19,20,21,22,23,24,25,26],[0,2,4,1,3,5,6,7,8,9,10,11]),(4,[14,15],[]),(6,[3,27],[])] Tryz.f83 = some (ac83,[.cell 2 (some 5)],28) := by kernel_rfl
theorem valid_tok {t : Tm} (ht : t.fits) (h : t.valid = true) : t.ok := by
  refine ⟨ht, valid_good h, ?_⟩
  simp only [Tm.valid, Bool.and_eq_true, decide_eq_true_eq] at h
  have := h.2
  omega
theorem valid_text {t : Tm} (ht : t.fits) (h : t.valid = true) : TxS t ∧ t.wr.length ≤ 2400 ∧ t.wr ≠ [] := by
  have hk := valid_tok ht h
  exact ⟨text_calls _ t (Nat.le_refl _) hk, by
    have h1 := (wr_len t hk.good).1.1
    simp only [Tm.valid, Bool.and_eq_true, decide_eq_true_eq] at h
    have h2 := h.2
    omega, hk.len.2.2⟩
theorem goalsW_snoc (W : Tm → List UInt8) : ∀ (f : Bool) (l : List Tm) (t : Tm), goalsW W f (l ++ [t]) = goalsW W f l ++ ((if (f && l.isEmpty) = true then [58, 45] else [44]) ++ W t)
  | f, [], t => by cases f <;> simp [goalsW]
  | f, a :: l, t => by simp [goalsW, goalsW_snoc W false l t]
theorem goalsW_len (W : Tm → List UInt8) : ∀ (f : Bool) (l : List Tm), (∀ t ∈ l, (W t).length ≤ 2400) → (goalsW W f l).length ≤ 2402 * l.length
  | f, [], _ => by simp [goalsW]
  | f, a :: l, h => by
    have h1 := goalsW_len W false l fun t ht => h t (by simp [ht])
    have h2 := h a (by simp)
    cases f <;> simp [goalsW] <;> omega
theorem Cl.validB.parts {c : Cl} (hv : c.validB = true) : c.head.valid = true ∧ c.body.length ≤ 6 ∧ ∀ t ∈ c.body, t.valid = true := by
  simp only [Cl.validB, Bool.and_eq_true, goalsB, List.all_eq_true, decide_eq_true_eq] at hv
  refine ⟨hv.1.1, hv.2.1, fun t ht => ?_⟩
  have := hv.2.2 t ht
  simp only [Tm.goal, Bool.and_eq_true] at this
  exact this.1
theorem l4Text_calls (c : Cl) (hc : c.fits) (hv : c.validB = true) (H : Heap) : ACalls Tryz.prog 112 [.agg (c.row.map .d)] H (fun r H' => H' = H ∧ r = .c (.d (.str (clW Tm.wr c)))) := by
  obtain ⟨h, b⟩ := c
  obtain ⟨hh, hl, hb⟩ := hc
  obtain ⟨v1, v2, v3⟩ := Cl.validB.parts hv
  simp only at hh hl hb v1 v2 v3
  obtain ⟨c1, n1, _⟩ := valid_text hh v1
  unfold TxS at c1
  rw [row_eq] at c1
  simp only [List.map_cons, List.map_nil] at c1
  have hbl : inR .i64 (b.length : Int) := small_i64 (by omega) (by omega)
  refine acalls Tryz.func112 (by kernel_rfl) ac112_ok fun hf => ?_
  simp -implicitDefEqProofs [ac112, Cl.row, go_sem, -List.set_cons_succ, -List.set_cons_zero]
  refine qcall_pure c1 hf rfl ?_
  simp -implicitDefEqProofs [go_sem, -List.set_cons_succ, -List.set_cons_zero]
  refine loop_set (σ := Nat) (fun i => [(3, .c (.d (.str (h.wr ++ goalsW Tm.wr true (b.take i))))), (4, .c (.d (.int .i64 i)))]) (fun _ => H) (fun _ => [.cells [.d (.int .i64 h.k), .d (.int .i64 h.n), .d (.str h.s), .d (.sl (h.kids.map Tm.row)), .d (.sl (b.map Tm.row))]])
    (fun i => i ≤ b.length) (fun i => b.length - i) 0 (by simp [setAll, goalsW]) (Nat.zero_le _) ?_
  intro i hi
  have hgl := goalsW_len Tm.wr true (b.take i) fun t ht => (valid_text (hb t (List.mem_of_mem_take ht)) (v3 t (List.mem_of_mem_take ht))).2.1
  have htl : (b.take i).length ≤ 6 := by simp; omega
  simp -implicitDefEqProofs [setAll, hbl, go_sem, -List.set_cons_succ, -List.set_cons_zero]
  refine ⟨fun hlt => ?_, fun hge => ?_⟩
  · have hadd : inR .i64 ((i : Int) + 1) := small_i64 (by omega) (by omega)
    obtain ⟨c2, n2, _⟩ := valid_text (hb _ (List.getElem_mem hlt)) (v3 _ (List.getElem_mem hlt))
    have hw : goalsW Tm.wr true (b.take (i + 1)) = goalsW Tm.wr true (b.take i) ++ ((if i = 0 then [58, 45] else [44]) ++ b[i].wr) := by
      rw [List.take_succ_eq_append_getElem hlt, goalsW_snoc]
      congr 2
      by_cases h0 : i = 0
      · subst h0; simp
      · have : (b.take i).isEmpty = false := by
          cases hx : b.take i with
          | nil => have := congrArg List.length hx; rw [List.length_take, List.length_nil] at this; omega
          | cons _ _ => rfl
        simp [this, h0]
    simp -implicitDefEqProofs [maxStr, go_sem, -List.set_cons_succ, -List.set_cons_zero]
    refine ⟨fun h0 => ⟨by omega, ?_⟩, fun h0 => ⟨by omega, ?_⟩⟩
    all_goals
      refine row_of hlt (row_len _) ?_
      simp -implicitDefEqProofs [row_len, take_row, pure_d, re_d, hf, go_sem, -List.set_cons_succ, -List.set_cons_zero]
      refine qcall_pure c2 hf rfl ?_
      simp -implicitDefEqProofs [maxStr, hadd, go_sem, -List.set_cons_succ, -List.set_cons_zero]
      refine ⟨by omega, ?_⟩
      refine loop_back (i + 1) ?_ hlt (by show b.length - (i + 1) < b.length - i; omega)
      simp [setAll]
      rw [hw]
      simp [h0]
  · obtain rfl : i = b.length := by omega
    simp at hgl
    simp -implicitDefEqProofs [maxStr, clW, go_sem, -List.set_cons_succ, -List.set_cons_zero]
    omega
theorem fmtC_calls (c : Cl) (hc : c.fits) (H : Heap) : ACalls Tryz.prog 93 [.agg (c.row.map .d)] H (fun r H' => H' = H ∧ r = .c (.d (.str (if c.validB = true then clW Tm.wr c else [])))) := by
  have c1 := cvSpec_calls c hc
  have c2 := l4Text_calls c hc
  obtain ⟨h, b⟩ := c
  simp only [Cl.row, List.map_cons, List.map_nil] at c1 c2
  refine acalls Tryz.func93 (by kernel_rfl) ac93_ok fun hf => ?_
  simp -implicitDefEqProofs [ac93, Cl.row, go_sem, -List.set_cons_succ, -List.set_cons_zero]
  refine qcall_pure c1 hf rfl ?_
  cases hv : Cl.validB ⟨h, b⟩ with
  | false => simp -implicitDefEqProofs [go_sem, -List.set_cons_succ, -List.set_cons_zero]
  | true =>
    simp -implicitDefEqProofs [go_sem, -List.set_cons_succ, -List.set_cons_zero]
    refine qcall_pure (c2 hv) hf rfl ?_
    simp -implicitDefEqProofs [go_sem, -List.set_cons_succ, -List.set_cons_zero]
theorem clCopy_calls (c : Cl) (hc : c.fits) (H : Heap) : ACalls Tryz.prog 83 [.agg (c.row.map .d)] H (fun r H' => H' = H ∧ r = .agg (c.row.map .d)) := by
  obtain ⟨h, b⟩ := c
  obtain ⟨hh, hl, hb⟩ := hc
  simp only at hh hl hb
  have c1 := copy_calls h hh
  rw [row_eq] at c1
  simp only [List.map_cons, List.map_nil] at c1
  have hbl : inR .i64 (b.length : Int) := small_i64 (by omega) (by omega)
  refine acalls Tryz.func83 (by kernel_rfl) ac83_ok fun hf => ?_
  simp -implicitDefEqProofs [ac83, Cl.row, hf, go_sem, -List.set_cons_succ, -List.set_cons_zero]
  refine qcall_pure c1 hf (by simp [A.re, C.re]) ?_
  simp -implicitDefEqProofs [hf, go_sem, -List.set_cons_succ, -List.set_cons_zero]
  refine loop_enter (St.le_tokenC 2 4 4 rfl rfl) ?_
  refine loop_set (σ := Nat) (fun i => [(4, .c (.d (.int .i64 i)))]) (fun _ => H) (fun i => [.cells [.d (.int .i64 h.k), .d (.int .i64 h.n), .d (.str h.s), .d (.sl (h.kids.map Tm.row)), .d (.sl (b.map Tm.row))], .cells [.d (.int .i64 0), .d (.int .i64 0), .d (.str []), .full [], .full []], .cells [.d (.int .i64 h.k), .d (.int .i64 h.n), .d (.str h.s), .d (.sl (h.kids.map Tm.row)), .own (.l 3) i ((b.map Tm.row).take i)], .grow i 4])
    (fun i => i ≤ b.length) (fun i => b.length - i) 0 rfl (Nat.zero_le _) ?_
  intro i hi
  simp -implicitDefEqProofs [setAll, hbl, go_sem, -List.set_cons_succ, -List.set_cons_zero]
  refine ⟨fun hlt => ?_, fun hge => ?_⟩
  · have hadd : inR .i64 ((i : Int) + 1) := small_i64 (by omega) (by omega)
    refine row_of hlt (row_len _) ?_
    simp -implicitDefEqProofs [row_len, take_row, pure_d, re_d, hf, go_sem, -List.set_cons_succ, -List.set_cons_zero]
    refine qcall_pure (copy_calls b[i] (hb _ (List.getElem_mem hlt))) hf (by simp [A.re, re_d]) ?_
    simp -implicitDefEqProofs [row_len, toDs_map, hadd, hf, Nat.min_eq_left hi, go_sem, -List.set_cons_succ, -List.set_cons_zero]
    refine ⟨fun r hr => allLen_map row_len r (List.mem_of_mem_take hr), by unfold maxApp; omega, ?_⟩
    refine loop_back (i + 1) ?_ hlt (by show b.length - (i + 1) < b.length - i; omega)
    simp [setAll, take_map_succ hlt]
  · have hil : i = b.length := by omega
    subst hil
    rw [show (b.map Tm.row).take b.length = b.map Tm.row from List.take_of_length_le (by simp)]
    simp -implicitDefEqProofs [hf, go_sem, -List.set_cons_succ, -List.set_cons_zero]
-- 69 loop.example/prologserver/spec.ParseClause params 1 ntmps 58
def ac69 : Cd := .seq (.region [oc 2 (.alloc [(.d (.int .i64 0)),(.d (.int .i64 0)),(.d (.str [])),(.full []),(.full [])]),
 oc 3 (.mv (.k (.c (.d (.bool false)))))] [3])
 (.seq (.seq (.region [oa 7 0,
 oc 8 (.len 0 (.t 7)),
 oc 9 (.bin .gtr (.t 8) (ki 1000))] [7,8])
 (.cond (.t 9)
 (.seq (.region [oc 10 (.build [(.d (.int .i64 0)),(.d (.int .i64 0)),(.d (.str [])),(.full []),(.full [])] []),
 ⟨none,.store 5 (.t 2) (.t 10),none⟩,
 oc 3 (.mv (.k (.c (.d (.bool false)))))] [0,9,10])
 (.ret))
 (.skip)))
 (.seq (.region [oa 12 0,
 oc 13 (.qcall 91 [(.t 12),(ki 0),(ki 30),(ki 3)]),
 oa 11 13,
 oc 14 (.extract 0 (.t 11)),
 oc 15 (.extract 1 (.t 11)),
 oc 4 (.alloc [(.d (.int .i64 0)),(.d (.int .i64 0)),(.d (.str [])),(.full [])]),
 ⟨none,.store 4 (.t 4) (.t 14),none⟩,
 oa 5 15] [3,9,11,12,13,14,15])
 (.seq (.seq (.region [oa 16 5,
 oc 17 (.bin .lss (.t 16) (ki 0))] [16])
 (.cond (.t 17)
 (.seq (.region [oc 18 (.build [(.d (.int .i64 0)),(.d (.int .i64 0)),(.d (.str [])),(.full []),(.full [])] []),
 ⟨none,.store 5 (.t 2) (.t 18),none⟩,
 oc 3 (.mv (.k (.c (.d (.bool false)))))] [0,4,5,17,18])
 (.ret))
 (.skip)))
 (.seq (.region [oc 19 (.load (some 4) (.t 4)),
 oc 20 (.build [(.d (.int .i64 0)),(.d (.int .i64 0)),(.d (.str [])),(.full []),(.full [])] [(0,4,(.t 19))]),
 oc 6 (.alloc [(.d (.int .i64 0)),(.d (.int .i64 0)),(.d (.str [])),(.full []),(.full [])]),
 ⟨none,.store 5 (.t 6) (.t 20),none⟩] [3,4,17,19,20])
 (.seq (.seq (.region [oa 21 0,
 oa 22 5,
 oc 23 (.qcall 92 [(.t 21),(.t 22),(.k (.c (.d (.int .u8 58))))]),
 oa 24 23,
 ⟨some 25,.mv (.t 0),some (24,true)⟩,
 ⟨some 26,.mv (.t 5),some (24,true)⟩,
 ⟨some 27,.bin .add (.t 26) (ki 1),some (24,true)⟩,
 ⟨some 28,.qcall 92 [(.t 25),(.t 27),(.k (.c (.d (.int .u8 45))))],some (24,true)⟩,
 oc 29 (.pick (.t 24) (.t 28) (.k (.c (.d (.bool false)))))] [21,22,23,24,25,26,27,28])
 (.cond (.t 29)
 (.region [oa 31 0,
 oa 32 5,
 oc 33 (.bin .add (.t 32) (ki 2)),
 oc 34 (.qcall 71 [(.t 31),(.t 33)]),
 oa 30 34,
 oc 35 (.extract 0 (.t 30)),
 oc 36 (.extract 1 (.t 30)),
 oc 37 (.fieldAddr 4 (.t 6)),
 ⟨none,.store 1 (.t 37) (.t 35),none⟩,
 oa 5 36] [29,30,31,32,33,34,35,36,37])
 (.skip)))
 (.seq (.seq (.region [oa 38 5,
 oa 39 0,
 oc 40 (.len 0 (.t 39)),
 oc 41 (.bin .sub (.t 40) (ki 1)),
 oc 42 (.bin .neq (.t 38) (.t 41)),
 oa 43 42,
 ⟨some 44,.mv (.t 0),some (43,false)⟩,
 ⟨some 45,.mv (.t 5),some (43,false)⟩,
 ⟨some 46,.qcall 92 [(.t 44),(.t 45),(.k (.c (.d (.int .u8 46))))],some (43,false)⟩,
 ⟨some 47,.un .not (.t 46),some (43,false)⟩,
 oc 48 (.pick (.t 43) (.k (.c (.d (.bool true)))) (.t 47)),
 oa 49 48,
 ⟨some 50,.load (some 5) (.t 6),some (49,false)⟩,
 ⟨some 51,.qcall 93 [(.t 50)],some (49,false)⟩,
 ⟨some 52,.mv (.t 0),some (49,false)⟩,
 ⟨some 53,.bin .neq (.t 51) (.t 52),some (49,false)⟩,
 oc 54 (.pick (.t 49) (.k (.c (.d (.bool true)))) (.t 53))] [0,5,29,38,39,40,41,42,43,44,45,46,47,48,49,50,51,52,53])
 (.cond (.t 54)
 (.seq (.region [oc 55 (.build [(.d (.int .i64 0)),(.d (.int .i64 0)),(.d (.str [])),(.full []),(.full [])] []),
 ⟨none,.store 5 (.t 2) (.t 55),none⟩,
 oc 3 (.mv (.k (.c (.d (.bool false)))))] [6,54,55])
 (.ret))
 (.skip)))
 (.seq (.region [oc 56 (.load (some 5) (.t 6)),
 oc 57 (.qcall 83 [(.t 56)]),
 ⟨none,.store 5 (.t 2) (.t 57),none⟩,
 oc 3 (.mv (.k (.c (.d (.bool true)))))] [6,54,56,57])
 (.ret))))))))
theorem ac69_ok : cFunc Tryz.prog [1000071,1000083,1000091,1000092,1000093] [(0,[3],[]),(1,[7,8],[]),(2,[0,9,10],[]),(3,[3,9,11,12,13,14,15],[]),(4,[16],[]),(5,[0,4,5,17,18],[]),(6,[3,4,17,19,20],[]),(7,[21,22,23,24,25,26,27,28],[]),(8,[29,30,31,32,33,34,35,36,37],[]),(9,[0,5,29,38,39,40,41,42,43,44,45,46,47,48,49,50,51,52,53],[]),(10,[6,54,55],[]),(11,[6,54,56,57],[])] Tryz.f69 = some (ac69,[.cell 2 (some 5),.tmp 3],58) := by kernel_rfl
def zCl : Cl := ⟨.mk 0 0 [] [], []⟩
def clA : Option Cl → A
  | some c => .tup [.agg (c.row.map .d), .c (.d (.bool true))]
  | none => .tup [.agg (zCl.row.map .d), .c (.d (.bool false))]
theorem goalsR_ok2 (s : List UInt8) (hs : s.length ≤ 1000000) (i : Nat) (hi : i ≤ s.length) {ts : List Tm} {k : Nat} (h : goalsR s 7 i = some (ts, k)) : k ≤ s.length ∧ ts.length ≤ 7 ∧ (∀ t ∈ ts, t.fits) :=
  let ⟨a, b, c, _⟩ := goalsR_ok s hs 7 i ts k hi h
  ⟨a, b, c⟩
theorem clauseR_fits (s : List UInt8) (hs : s.length ≤ 1000000) {c : Cl} (h : clauseR Tm.wr s = some c) : c.fits ∧ c.validB = true := by
  unfold clauseR at h
  have key : ∀ (c0 : Cl) (j : Nat), c0.fits → clauseB Tm.wr s c0 j = some c → c.fits ∧ c.validB = true := by
    intro c0 j h0 h1
    unfold clauseB at h1
    split at h1
    · rename_i hc
      simp only [Bool.and_eq_true] at hc
      cases h1
      exact ⟨h0, hc.1.2⟩
    · cases h1
  split at h
  · cases h
  · obtain ⟨r, hr, hpost⟩ := rdF_ok s hs 0 30 (by omega)
    rw [hr] at h
    cases r with
    | bad e => cases h
    | ok us j =>
      obtain ⟨g1, g2, t, rfl, g3⟩ := hpost
      simp only [Rs.tm] at h
      split at h
      · rename_i hsg
        have hj : j + 1 < s.length := by
          simp only [Bool.and_eq_true] at hsg
          exact sgn_lt hsg.2
        split at h
        · rename_i b k hg
          obtain ⟨q1, q2, q3⟩ := goalsR_ok2 s hs (j + 2) (by omega) hg
          exact key ⟨t, b⟩ k ⟨g3, by show b.length ≤ 1048576; omega, q3⟩ h
        · cases h
      · exact key ⟨t, []⟩ j ⟨g3, by simp, by simp⟩ h
theorem pcSpec_calls (s : List UInt8) (hs : s.length ≤ 1000000) (H : Heap) : ACalls Tryz.prog 69 [.c (.d (.str s))] H (fun r H' => H' = H ∧ r = clA (clauseR Tm.wr s)) := by
  refine acalls Tryz.func69 (by kernel_rfl) ac69_ok fun hf => ?_
  have hli : inR .i64 (s.length : Int) := small_i64 (by omega) (by omega)
  have hl1 : inR .i64 ((s.length : Int) - 1) := small_i64 (by omega) (by omega)
  unfold clauseR
  by_cases h1000 : 1000 < s.length
  · have h1 : (1000 : Int) < s.length := by omega
    simp -implicitDefEqProofs [ac69, hli, h1, h1000, hf, clA, zCl, Cl.row, Tm.k, Tm.n, Tm.s, Tm.kids, go_sem, -List.set_cons_succ, -List.set_cons_zero]
  · have h1 : ¬ (1000 : Int) < s.length := by omega
    rw [if_neg h1000]
    obtain ⟨r, hr, hpost⟩ := rdF_ok s hs 0 30 (by omega)
    have c1 := (par s hs _).read 0 30 3 r (by omega) (by omega) (by omega) hr
    simp only [Int.cast_ofNat_Int] at c1
    rw [hr]
    simp -implicitDefEqProofs [ac69, hli, h1, go_sem, -List.set_cons_succ, -List.set_cons_zero]
    refine qcall_pure c1 hf (readA_re _ _) ?_
    cases r with
    | bad e =>
      have he : e ≤ s.length := hpost
      have hneg : (-1 - (e : Int)) < 0 := by omega
      simp -implicitDefEqProofs [readA, hneg, row_mk, clA, zCl, Cl.row, Tm.k, Tm.n, Tm.s, Tm.kids, hf, go_sem, -List.set_cons_succ, -List.set_cons_zero]
    | ok us j =>
      obtain ⟨g1, g2, t, rfl, g3⟩ := hpost
      obtain ⟨k, n, nm, l⟩ := t
      have hj0 : ¬ (j : Int) < 0 := by omega
      have hj1 : inR .i64 ((j : Int) + 1) := small_i64 (by omega) (by omega)
      have hj2 : inR .i64 ((j : Int) + 2) := small_i64 (by omega) (by omega)
      simp -implicitDefEqProofs [readA, Rs.tm, hj0, row_mk, hf, go_sem, -List.set_cons_succ, -List.set_cons_zero]
      refine qcall_pure (sign_calls s hs j (by omega) 58) hf rfl ?_
      have cd2 := sign_calls s hs (j + 1) (by omega) 45
      simp only [Int.natCast_add, Int.cast_ofNat_Int] at cd2
      cases hsg : sgn s j 58 with
      | false =>
        simp -implicitDefEqProofs [hj1, hf, hl1, hli, go_sem, -List.set_cons_succ, -List.set_cons_zero]
        have hft : (⟨.mk k n nm l, []⟩ : Cl).fits := ⟨g3, by simp, by simp⟩
        have cf := fmtC_calls _ hft
        have cc := clCopy_calls _ hft
        simp only [Cl.row, Tm.k, Tm.n, Tm.s, Tm.kids, List.map_cons, List.map_nil] at cf cc
        refine ⟨fun he => ⟨he, ?_⟩, fun he => ?_⟩
        · have he2 : j + 1 = s.length := by omega
          refine qcall_pure (sign_calls s hs j (by omega) 46) hf rfl ?_
          cases hs4 : sgn s j 46 with
          | false => simp -implicitDefEqProofs [clauseB, hs4, clA, zCl, Cl.row, Tm.k, Tm.n, Tm.s, Tm.kids, hf, go_sem, -List.set_cons_succ, -List.set_cons_zero]
          | true =>
            simp -implicitDefEqProofs [hf, go_sem, -List.set_cons_succ, -List.set_cons_zero]
            refine qcall_pure cf hf rfl ?_
            cases hv : Cl.validB ⟨.mk k n nm l, []⟩ with
            | false =>
              have hne : ¬ ([] : List UInt8) = s := fun h => by
                rw [← h] at he2
                simp at he2
              have hne2 : ¬ s = ([] : List UInt8) := fun h => hne h.symm
              simp -implicitDefEqProofs [clauseB, hs4, hv, hne, hne2, clA, zCl, Cl.row, Tm.k, Tm.n, Tm.s, Tm.kids, hf, go_sem, -List.set_cons_succ, -List.set_cons_zero]
            | true =>
              simp -implicitDefEqProofs [hf, go_sem, -List.set_cons_succ, -List.set_cons_zero]
              refine ⟨fun hw => ?_, fun hw => ?_⟩
              · simp -implicitDefEqProofs [clauseB, hs4, hv, hw, he2, clA, zCl, Cl.row, Tm.k, Tm.n, Tm.s, Tm.kids, hf, go_sem, -List.set_cons_succ, -List.set_cons_zero]
              · refine qcall_pure cc hf (by simp [A.re, C.re]) ?_
                simp -implicitDefEqProofs [clauseB, hs4, hv, hw, he2, clA, zCl, Cl.row, Tm.k, Tm.n, Tm.s, Tm.kids, hf, go_sem, -List.set_cons_succ, -List.set_cons_zero]
        · have he2 : ¬ j + 1 = s.length := by omega
          simp [clauseB, he2, clA, zCl, Cl.row, Tm.k, Tm.n, Tm.s, Tm.kids]
      | true =>
        simp -implicitDefEqProofs [hj1, hf, go_sem, -List.set_cons_succ, -List.set_cons_zero]
        refine qcall_pure cd2 hf rfl ?_
        cases hsg2 : sgn s (j + 1) 45 with
        | false =>
          simp -implicitDefEqProofs [hf, hl1, hli, go_sem, -List.set_cons_succ, -List.set_cons_zero]
          have hft : (⟨.mk k n nm l, []⟩ : Cl).fits := ⟨g3, by simp, by simp⟩
          have cf := fmtC_calls _ hft
          have cc := clCopy_calls _ hft
          simp only [Cl.row, Tm.k, Tm.n, Tm.s, Tm.kids, List.map_cons, List.map_nil] at cf cc
          refine ⟨fun he => ⟨he, ?_⟩, fun he => ?_⟩
          · have he2 : j + 1 = s.length := by omega
            refine qcall_pure (sign_calls s hs j (by omega) 46) hf rfl ?_
            cases hs4 : sgn s j 46 with
            | false => simp -implicitDefEqProofs [clauseB, hs4, clA, zCl, Cl.row, Tm.k, Tm.n, Tm.s, Tm.kids, hf, go_sem, -List.set_cons_succ, -List.set_cons_zero]
            | true =>
              simp -implicitDefEqProofs [hf, go_sem, -List.set_cons_succ, -List.set_cons_zero]
              refine qcall_pure cf hf rfl ?_
              cases hv : Cl.validB ⟨.mk k n nm l, []⟩ with
              | false =>
                have hne : ¬ ([] : List UInt8) = s := fun h => by
                  rw [← h] at he2
                  simp at he2
                have hne2 : ¬ s = ([] : List UInt8) := fun h => hne h.symm
                simp -implicitDefEqProofs [clauseB, hs4, hv, hne, hne2, clA, zCl, Cl.row, Tm.k, Tm.n, Tm.s, Tm.kids, hf, go_sem, -List.set_cons_succ, -List.set_cons_zero]
              | true =>
                simp -implicitDefEqProofs [hf, go_sem, -List.set_cons_succ, -List.set_cons_zero]
                refine ⟨fun hw => ?_, fun hw => ?_⟩
                · simp -implicitDefEqProofs [clauseB, hs4, hv, hw, he2, clA, zCl, Cl.row, Tm.k, Tm.n, Tm.s, Tm.kids, hf, go_sem, -List.set_cons_succ, -List.set_cons_zero]
                · refine qcall_pure cc hf (by simp [A.re, C.re]) ?_
                  simp -implicitDefEqProofs [clauseB, hs4, hv, hw, he2, clA, zCl, Cl.row, Tm.k, Tm.n, Tm.s, Tm.kids, hf, go_sem, -List.set_cons_succ, -List.set_cons_zero]
          · have he2 : ¬ j + 1 = s.length := by omega
            simp [clauseB, he2, clA, zCl, Cl.row, Tm.k, Tm.n, Tm.s, Tm.kids]
        | true =>
          have hjl := sgn_lt hsg2
          have cg := l4Goals_calls s hs (j + 2) (by omega)
          simp only [Int.natCast_add, Int.cast_ofNat_Int] at cg
          simp -implicitDefEqProofs [hj2, hf, go_sem, -List.set_cons_succ, -List.set_cons_zero]
          cases hg : goalsR s 7 (j + 2) with
          | none =>
            rw [hg] at cg
            refine qcall_pure cg hf (by simp [goalsA, A.re, A.res, C.re]) ?_
            have hm : ¬ (-1 : Int) = (s.length : Int) - 1 := by omega
            simp -implicitDefEqProofs [goalsA, hf, hl1, hli, hm, clA, zCl, Cl.row, Tm.k, Tm.n, Tm.s, Tm.kids, go_sem, -List.set_cons_succ, -List.set_cons_zero]
          | some q =>
            obtain ⟨b, e⟩ := q
            rw [hg] at cg
            obtain ⟨q1, q2, q3⟩ := goalsR_ok2 s hs (j + 2) (by omega) hg
            refine qcall_pure cg hf (by simp [goalsA, A.re, A.res, C.re]) ?_
            simp -implicitDefEqProofs [goalsA, hf, hl1, hli, go_sem, -List.set_cons_succ, -List.set_cons_zero]
            have hft : (⟨.mk k n nm l, b⟩ : Cl).fits := ⟨g3, by show b.length ≤ 1048576; omega, q3⟩
            have cf := fmtC_calls _ hft
            have cc := clCopy_calls _ hft
            simp only [Cl.row, Tm.k, Tm.n, Tm.s, Tm.kids, List.map_cons, List.map_nil] at cf cc
            refine ⟨fun he => ⟨he, ?_⟩, fun he => ?_⟩
            · have he2 : e + 1 = s.length := by omega
              refine qcall_pure (sign_calls s hs e (by omega) 46) hf rfl ?_
              cases hs4 : sgn s e 46 with
              | false => simp -implicitDefEqProofs [clauseB, hs4, clA, zCl, Cl.row, Tm.k, Tm.n, Tm.s, Tm.kids, hf, go_sem, -List.set_cons_succ, -List.set_cons_zero]
              | true =>
                simp -implicitDefEqProofs [hf, go_sem, -List.set_cons_succ, -List.set_cons_zero]
                refine qcall_pure cf hf rfl ?_
                cases hv : Cl.validB ⟨.mk k n nm l, b⟩ with
                | false =>
                  have hne : ¬ ([] : List UInt8) = s := fun h => by
                    rw [← h] at he2
                    simp at he2
                  have hne2 : ¬ s = ([] : List UInt8) := fun h => hne h.symm
                  simp -implicitDefEqProofs [clauseB, hs4, hv, hne, hne2, clA, zCl, Cl.row, Tm.k, Tm.n, Tm.s, Tm.kids, hf, go_sem, -List.set_cons_succ, -List.set_cons_zero]
                | true =>
                  simp -implicitDefEqProofs [hf, go_sem, -List.set_cons_succ, -List.set_cons_zero]
                  refine ⟨fun hw => ?_, fun hw => ?_⟩
                  · simp -implicitDefEqProofs [clauseB, hs4, hv, hw, he2, clA, zCl, Cl.row, Tm.k, Tm.n, Tm.s, Tm.kids, hf, go_sem, -List.set_cons_succ, -List.set_cons_zero]
                  · refine qcall_pure cc hf (by simp [A.re, C.re]) ?_
                    simp -implicitDefEqProofs [clauseB, hs4, hv, hw, he2, clA, zCl, Cl.row, Tm.k, Tm.n, Tm.s, Tm.kids, hf, go_sem, -List.set_cons_succ, -List.set_cons_zero]
            · have he2 : ¬ e + 1 = s.length := by omega
              simp [clauseB, he2, clA, zCl, Cl.row, Tm.k, Tm.n, Tm.s, Tm.kids]
-- 52 loop.example/prologserver/spec.ParseProgram params 1 ntmps 48
-- loop head live: [4,5,6]
def ac52 : Cd := .seq (.region [oc 2 (.mv (.k (.c (.full [])))),
 oc 3 (.mv (.k (.c (.d (.bool false)))))] [2,3])
 (.seq (.region [oc 9 (.buildSlice 5 0 [(.int .i64 0),(.int .i64 0),(.str []),(.sl []),(.sl [])] []),
 oa 4 9] [9])
 (.seq (.region [oa 10 0,
 oc 11 (.qcall 68 [(.t 10),(.k (.c (.d (.int .u8 10))))]),
 oa 5 11] [0,10,11])
 (.seq (.seq (.region [oa 12 5,
 oc 13 (.len 1 (.t 12)),
 oc 14 (.bin .gtr (.t 13) (ki 21)),
 oa 15 14,
 ⟨some 16,.mv (.t 5),some (15,false)⟩,
 ⟨some 17,.mv (.t 5),some (15,false)⟩,
 ⟨some 18,.len 1 (.t 17),some (15,false)⟩,
 ⟨some 19,.bin .sub (.t 18) (ki 1),some (15,false)⟩,
 ⟨some 20,.indexAddr 1 (.t 16) (.t 19),some (15,false)⟩,
 ⟨some 21,.load none (.t 20),some (15,false)⟩,
 ⟨some 22,.bin .neq (.t 21) (.k (.c (.d (.str [])))),some (15,false)⟩,
 oc 23 (.pick (.t 15) (.k (.c (.d (.bool true)))) (.t 22))] [12,13,14,15,16,17,18,19,20,21,22])
 (.cond (.t 23)
 (.seq (.region [oa 24 4,
 oa 2 24,
 oc 3 (.mv (.k (.c (.d (.bool false)))))] [4,5,23,24])
 (.ret))
 (.skip)))
 (.seq (.seq (.region [oc 6 (.mv (ki 0))] [2,3,23])
 (.block 0 (.loop (.seq (.seq (.region [oa 25 6,
 oc 26 (.bin .add (.t 25) (ki 1)),
 oa 27 5,
 oc 28 (.len 1 (.t 27)),
 oc 29 (.bin .lss (.t 26) (.t 28))] [25,26,27,28])
 (.cond (.t 29)
 (.skip)
 (.exit 0)))
 (.seq (.block 1 (.seq (.region [oa 33 5,
 oa 34 6,
 oc 35 (.indexAddr 1 (.t 33) (.t 34)),
 oc 36 (.load none (.t 35)),
 oc 37 (.qcall 69 [(.t 36)]),
 oa 32 37,
 oc 38 (.extract 0 (.t 32)),
 oc 39 (.extract 1 (.t 32)),
 oc 7 (.alloc [(.d (.int .i64 0)),(.d (.int .i64 0)),(.d (.str [])),(.full []),(.full [])]),
 ⟨none,.store 5 (.t 7) (.t 38),none⟩,
 oa 8 39] [29,32,33,34,35,36,37,38,39])
 (.seq (.seq (.region [oa 40 8,
 oc 41 (.un .not (.t 40))] [8,40])
 (.cond (.t 41)
 (.seq (.region [oc 42 (.buildSlice 5 0 [(.int .i64 0),(.int .i64 0),(.str []),(.sl []),(.sl [])] []),
 oa 2 42,
 oc 3 (.mv (.k (.c (.d (.bool false)))))] [4,5,6,7,41,42])
 (.ret))
 (.skip)))
 (.region [oa 43 4,
 oc 44 (.load (some 5) (.t 7)),
 oc 45 (.buildSlice 5 1 [(.int .i64 0),(.int .i64 0),(.str []),(.sl []),(.sl [])] [(0,(.t 44))]),
 oc 46 (.append false 5 (.t 43) (.t 45)),
 oa 4 46] [2,3,7,41,43,44,45,46]))))
 (.region [oa 30 6,
 oc 31 (.bin .add (.t 30) (ki 1)),
 oa 6 31] [30,31]))))))
 (.seq (.region [oa 47 4,
 oa 2 47,
 oc 3 (.mv (.k (.c (.d (.bool true)))))] [4,47])
 (.ret))))))
theorem ac52_ok : cFunc Tryz.prog [1000068,1000069] [(0,[2,3],[]),(1,[9],[]),(2,[0,10,11],[]),(3,[12,13,14,15,16,17,18,19,20,21,22],[]),(4,[4,5,23,24],[]),(5,[2,3,23],[]),(6,[25,26,27,28],[]),(8,[29,32,33,34,35,36,37,38,39],[]),(9,[8,40],[]),(10,[4,5,6,7,41,42],[]),(11,[2,3,7,41,43,44,45,46],[]),(7,[30,31],[]),(12,[4,47],[])] Tryz.f52 = some (ac52,[.tmp 2,.tmp 3],48) := by kernel_rfl
theorem linesR_cons (W : Tm → List UInt8) (a b : List UInt8) (l : List (List UInt8)) : linesR W (a :: b :: l) = match clauseR W a, linesR W (b :: l) with | some c, some p => some (c :: p) | _, _ => none := rfl
def progA (x : List Cl × Bool) : A := .tup [.c (.d (.sl (x.1.map Cl.row))), .c (.d (.bool x.2))]
def pre (out : List Cl) : Option (List Cl) → List Cl × Bool
  | some p => (out ++ p, true)
  | none => ([], false)
theorem cut_mem (c : UInt8) : ∀ s : List UInt8, ∀ l ∈ cutAt c s, l.length ≤ s.length
  | [], l, h => by
    simp [cutAt] at h
    subst h
    simp
  | b :: s, l, h => by
    have ih := cut_mem c s
    rw [cutAt] at h
    split at h
    · rcases List.mem_cons.1 h with rfl | h
      · simp
      · have := ih l h; simp; omega
    · cases hc : cutAt c s with
      | nil => exact absurd hc (cutAt_ne c s)
      | cons x r =>
        rw [hc] at h ih
        rcases List.mem_cons.1 h with rfl | h
        · have := ih x (by simp); simp; omega
        · have := ih l (by simp [h]); simp; omega
theorem cutAt_len (c : UInt8) : ∀ s : List UInt8, (cutAt c s).length ≤ s.length + 1
  | [] => by simp [cutAt]
  | b :: s => by
    have ih := cutAt_len c s
    rw [cutAt]
    split
    · simp; omega
    · cases hc : cutAt c s with
      | nil => simp
      | cons x r => rw [hc] at ih; simp at ih ⊢; omega
set_option maxHeartbeats 1600000 in
theorem ppSpec_calls (s : List UInt8) (hs : s.length ≤ 1000000) (H : Heap) : ACalls Tryz.prog 52 [.c (.d (.str s))] H (fun r H' => H' = H ∧ r = progA (progR Tm.wr s)) := by
  refine acalls Tryz.func52 (by kernel_rfl) ac52_ok fun hf => ?_
  have c1 := cut_calls s (by omega) 10
  have e10 : ((10 : UInt8).toNat : Int) = 10 := rfl
  rw [e10] at c1
  have hmem := cut_mem 10 s
  have hlen := cutAt_len 10 s
  have hne := cutAt_ne 10 s
  unfold progR
  generalize cutAt 10 s = L at *
  have hll : inR .i64 (L.length : Int) := small_i64 (by omega) (by omega)
  have hl1 : inR .i64 ((L.length : Int) - 1) := small_i64 (by omega) (by omega)
  have hlp : 1 ≤ L.length := by cases L with
    | nil => exact absurd rfl hne
    | cons a l => simp
  simp -implicitDefEqProofs [ac52, go_sem, -List.set_cons_succ, -List.set_cons_zero]
  refine qcall_pure c1 hf rfl ?_
  by_cases h21 : 21 < L.length
  · have h21' : (21 : Int) < L.length := by omega
    simp -implicitDefEqProofs [hll, hl1, h21, h21', progA, hf, go_sem, -List.set_cons_succ, -List.set_cons_zero]
    refine row_off [.str []] ?_
    simp -implicitDefEqProofs [hf, go_sem, -List.set_cons_succ, -List.set_cons_zero]
  · have h21' : ¬ (21 : Int) < L.length := by omega
    simp -implicitDefEqProofs [hll, hl1, h21, h21', hf, go_sem, -List.set_cons_succ, -List.set_cons_zero]
    have hlast : L[L.length - 1]? = some (L.getLastD []) := by
      cases L with
      | nil => exact absurd rfl hne
      | cons a l => rw [← List.getLast?_eq_getElem?]; simp [List.getLastD_eq_getLast?, List.getLast?_cons]
    refine row_int [.str (L.getLastD [])] (by omega) (by rw [show ((L.length : Int) - 1).toNat = L.length - 1 by omega, List.getElem?_map, hlast]; rfl) rfl ?_
    cases hlx : L.getLastD [] with
    | cons y ys =>
      have hlx2 : ¬ L.getLast?.getD [] = [] := by rw [List.getLastD_eq_getLast?] at hlx; rw [hlx]; simp
      simp -implicitDefEqProofs [progA, hlx, hlx2, hf, go_sem, -List.set_cons_succ, -List.set_cons_zero]
    | nil =>
      have hlx2 : L.getLast?.getD [] = [] := by rw [List.getLastD_eq_getLast?] at hlx; exact hlx
      simp -implicitDefEqProofs [hlx2, hf, go_sem, -List.set_cons_succ, -List.set_cons_zero]
      refine loop_enter (St.le_token 4 5 rfl) ?_
      have hres : linesR Tm.wr L = linesR Tm.wr (L.drop 0) := rfl
      refine loop_set (σ := Nat × List Cl) (fun x => [(6, .c (.d (.int .i64 x.1))), (4, .c (.own (.l 0) x.2.length (x.2.map Cl.row)))]) (fun _ => H) (fun x => [.grow x.2.length 5])
        (fun x => x.1 + 1 ≤ L.length ∧ x.2.length = x.1 ∧ pre x.2 (linesR Tm.wr (L.drop x.1)) = pre [] (linesR Tm.wr L)) (fun x => L.length - x.1) (0, []) (by simp [setAll]) ⟨hlp, rfl, rfl⟩ ?_
      rintro ⟨i, out⟩ ⟨hi, hol, hpre⟩
      simp only at hi hol hpre
      have hadd : inR .i64 ((i : Int) + 1) := small_i64 (by omega) (by omega)
      have hgoal : (match linesR Tm.wr L with | some p => (p, true) | none => ([], false)) = pre [] (linesR Tm.wr L) := by
        cases linesR Tm.wr L <;> rfl
      have hg2 : ∀ r, r = progA (pre [] (linesR Tm.wr L)) → r = progA (match linesR Tm.wr L with | some p => (p, true) | none => ([], false)) := fun r h => by rw [hgoal]; exact h
      simp -implicitDefEqProofs [setAll, hll, hadd, go_sem, -List.set_cons_succ, -List.set_cons_zero]
      refine ⟨fun hlt => ?_, fun hge => ?_⟩
      · have hlt2 : i < L.length := by omega
        have hdr : L.drop i = L[i] :: L[i + 1] :: L.drop (i + 2) := by
          rw [List.drop_eq_getElem_cons hlt2, List.drop_eq_getElem_cons (by omega : i + 1 < L.length)]
        have hdr2 : L.drop (i + 1) = L[i + 1] :: L.drop (i + 2) := List.drop_eq_getElem_cons (by omega)
        rw [hdr, linesR_cons, ← hdr2] at hpre
        have hll2 : (L[i]).length ≤ 1000000 := by
          have := hmem _ (List.getElem_mem hlt2)
          omega
        refine row_of hlt2 rfl ?_
        simp -implicitDefEqProofs [strRow, hf, go_sem, -List.set_cons_succ, -List.set_cons_zero]
        refine qcall_pure (pcSpec_calls L[i] hll2) hf (by cases clauseR Tm.wr L[i] <;> simp [clA, A.re, A.res, C.re, re_d]) ?_
        cases hc : clauseR Tm.wr L[i] with
        | none =>
          simp -implicitDefEqProofs [clA, zCl, Cl.row, Tm.k, Tm.n, Tm.s, Tm.kids, hf, go_sem, -List.set_cons_succ, -List.set_cons_zero]
          refine hg2 _ ?_
          rw [← hpre, hc]
          cases linesR Tm.wr (L.drop (i + 1)) <;> rfl
        | some c =>
          rw [hc] at hpre
          simp -implicitDefEqProofs [clA, crow_len, take_crow, toDs_map, hadd, hf, go_sem, -List.set_cons_succ, -List.set_cons_zero]
          refine ⟨allLen_map crow_len, by unfold maxApp; omega, ?_⟩
          refine loop_less (i + 1, out ++ [c]) (St.le_cut [_] ?_ (by simp [Sl.le, A.le_refl_iff, A.le_u_iff, As.lo, A.lo, C.lo, Ref.lo, Cs.lo, Obs.lo, Ob.lo, setAll, and_true, true_and, List.length_nil, List.length_cons]) (by simp; rfl) (by simp [Sl.le, A.le_refl_iff, A.le_u_iff, As.lo, A.lo, C.lo, Ref.lo, Cs.lo, Obs.lo, Ob.lo, setAll, and_true, true_and, List.length_nil, List.length_cons])) ⟨by dsimp only; omega, by simp; omega, ?_⟩ (by show L.length - (i + 1) < L.length - i; omega)
          · simp [setAll, Sl.le, A.le_refl_iff, A.le_u_iff, As.lo, A.lo, C.lo, Ref.lo, Cs.lo, Obs.lo, Ob.lo, setAll, and_true, true_and, List.length_nil, List.length_cons]
          · rw [← hpre]
            simp only
            cases linesR Tm.wr (L.drop (i + 1)) with
            | none => rfl
            | some p => simp [pre]
      · refine hg2 _ ?_
        obtain rfl : i = L.length - 1 := by omega
        have hd1 : L.drop (L.length - 1) = [L.getLastD []] := by
          rw [List.drop_eq_getElem_cons (by omega)]
          have := hlast
          rw [List.getElem?_eq_getElem (by omega)] at this
          rw [Option.some.inj this, List.drop_eq_nil_of_le (by omega)]
        rw [← hpre, hd1]
        simp [linesR, pre, progA]
-- 84 loop.example/prologserver/spec.l1Some params 1 ntmps 8
def ac84 : Cd := .seq (.region [oc 2 (.alloc [(.d (.int .i64 0)),(.d (.int .i64 0)),(.d (.str [])),(.full [])])] [])
 (.seq (.region [oa 3 0,
 oa 4 0,
 oc 5 (.buildSlice 1 4 [(.int .i64 0)] [(0,(ki 3)),(1,(ki 2)),(2,(ki 4)),(3,(ki 1))]),
 oc 6 (.call false 32 [(.t 4),(.t 5)]),
 oc 7 (.call false 14 [(.t 3),(.t 6)]),
 ⟨none,.store 4 (.t 2) (.t 7),none⟩] [0,3,4,5,6,7])
 (.ret))
theorem ac84_ok : cFunc Tryz.prog [] [(0,[],[]),(1,[0,3,4,5,6,7],[])] Tryz.f84 = some (ac84,[.cell 2 (some 4)],8) := by kernel_rfl
-- 13 loop.example/prologserver/spec.l1Mutate params 2 ntmps 51
-- loop head live: [4,5]
-- loop head live: [4,5,6]
def ac13 : Cd := .seq (.region [oc 3 (.box (.t 1)),
 oc 4 (.alloc [(.d (.int .i64 0)),(.d (.int .i64 0)),(.d (.str [])),(.full [])])] [1])
 (.seq (.region [oc 7 (.load (some 4) (.t 3)),
 oc 8 (.call false 31 [(.t 7)]),
 oc 5 (.alloc [(.d (.int .i64 0)),(.d (.int .i64 0)),(.d (.str [])),(.full [])]),
 ⟨none,.store 4 (.t 5) (.t 8),none⟩] [3,7,8])
 (.seq (.seq (.region [oa 9 0,
 oc 10 (.call false 12 [(.t 9),(ki 50)])] [9])
 (.block 0 (.seq (.region [oc 12 (.bin .eql (.t 10) (ki 0)),
 oa 11 12] [12])
 (.cond (.t 11)
 (.region [oa 13 0,
 oc 14 (.buildSlice 1 5 [(.int .i64 0)] [(0,(ki 0)),(1,(ki 4)),(2,(ki 1)),(3,(ki 2)),(4,(ki 3))]),
 oc 15 (.call false 32 [(.t 13),(.t 14)]),
 oc 16 (.fieldAddr 0 (.t 5)),
 ⟨none,.store 1 (.t 16) (.t 15),none⟩] [0,10,11,13,14,15,16])
 (.seq (.region [oc 18 (.bin .eql (.t 10) (ki 1)),
 oa 17 18] [11,18])
 (.cond (.t 17)
 (.region [oa 19 0,
 oc 20 (.buildSlice 1 5 [(.int .i64 0)] [(0,(ki 26)),(1,(ki 1000)),(2,(ki (-1000))),(3,(ki (-1))),(4,(ki 1))]),
 oc 21 (.call false 32 [(.t 19),(.t 20)]),
 oc 22 (.fieldAddr 1 (.t 5)),
 ⟨none,.store 1 (.t 22) (.t 21),none⟩] [0,10,17,19,20,21,22])
 (.seq (.region [oc 24 (.bin .eql (.t 10) (ki 2)),
 oa 23 24] [17,24])
 (.cond (.t 23)
 (.region [oa 25 0,
 oc 26 (.buildSlice 1 5 [(.str [])] [(0,(.k (.c (.d (.str []))))),(1,(.k (.c (.d (.str [88]))))),(2,(.k (.c (.d (.str [116,111,111,108,111,110,103]))))),(3,(.k (.c (.d (.str [195,169]))))),(4,(.k (.c (.d (.str [97])))))]),
 oc 27 (.call false 33 [(.t 25),(.t 26)]),
 oc 28 (.fieldAddr 2 (.t 5)),
 ⟨none,.store 1 (.t 28) (.t 27),none⟩] [0,10,23,25,26,27,28])
 (.seq (.region [oc 30 (.bin .eql (.t 10) (ki 3)),
 oa 29 30] [0,23,30])
 (.cond (.t 29)
 (.block 1 (.loop (.seq (.seq (.region [oc 31 (.fieldAddr 3 (.t 5)),
 oc 32 (.load none (.t 31)),
 oc 33 (.len 1 (.t 32)),
 oc 34 (.bin .leq (.t 33) (ki 4))] [31,32,33])
 (.cond (.t 34)
 (.skip)
 (.exit 1)))
 (.block 2 (.region [oc 35 (.fieldAddr 3 (.t 5)),
 oc 36 (.load none (.t 35)),
 oc 37 (.qcall 34 [(ki 1)]),
 oc 38 (.buildSlice 4 1 [(.int .i64 0),(.int .i64 0),(.str []),(.sl [])] [(0,(.t 37))]),
 oc 39 (.append false 4 (.t 36) (.t 38)),
 oc 40 (.fieldAddr 3 (.t 5)),
 ⟨none,.store 1 (.t 40) (.t 39),none⟩] [34,35,36,37,38,39,40])))))
 (.seq (.region [oc 42 (.bin .eql (.t 10) (ki 4)),
 oa 41 42] [10,29,42])
 (.cond (.t 41)
 (.seq (.region [oc 6 (.mv (ki 0))] [41])
 (.block 3 (.loop (.seq (.seq (.region [oa 43 6,
 oc 44 (.bin .lss (.t 43) (ki 30))] [43])
 (.cond (.t 44)
 (.skip)
 (.exit 3)))
 (.seq (.block 4 (.region [oc 47 (.load (some 4) (.t 5)),
 oc 48 (.buildSlice 4 1 [(.int .i64 0),(.int .i64 0),(.str []),(.sl [])] [(0,(.t 47))]),
 oc 49 (.qcall 35 [(.k (.c (.d (.str [115])))),(.t 48)]),
 ⟨none,.store 4 (.t 5) (.t 49),none⟩] [44,47,48,49]))
 (.region [oa 45 6,
 oc 46 (.bin .add (.t 45) (ki 1)),
 oa 6 46] [45,46]))))))
 (.skip)))))))))))))
 (.seq (.region [oc 50 (.load (some 4) (.t 5)),
 ⟨none,.store 4 (.t 4) (.t 50),none⟩] [5,41,50])
 (.ret))))
theorem ac13_ok : cFunc Tryz.prog [1000034,1000035] [(0,[1],[]),(1,[3,7,8],[]),(2,[9],[]),(3,[12],[]),(4,[0,10,11,13,14,15,16],[]),(5,[11,18],[]),(6,[0,10,17,19,20,21,22],[]),(7,[17,24],[]),(8,[0,10,23,25,26,27,28],[]),(9,[0,23,30],[]),(10,[31,32,33],[]),(11,[34,35,36,37,38,39,40],[0,1,2,3,4,5,6]),(12,[10,29,42],[]),(13,[41],[]),(14,[43],[]),(16,[44,47,48,49],[]),(15,[45,46],[]),(17,[5,41,50],[])] Tryz.f13 = some (ac13,[.cell 4 (some 4)],51) := by kernel_rfl
theorem Draws.mono {f : FuncId} {xs : List A} {N N' : Int} {R : A → Prop} (h : Draws f xs N R) (hN : N ≤ N') : Draws f xs N' R := fun c p H i hc hp hp1 hi =>
  (h c p H i hc hp (by omega) hi).mono fun r H' ⟨h1, p', h2, h3, h4⟩ => ⟨h1, p', h2, by omega, h4⟩
theorem copy_own (k n : Int) (s : List UInt8) (l : List Tm) (hfits : (Tm.mk k n s l).fits) (H : Heap) : ACalls Tryz.prog 31 [.agg ((Tm.mk k n s l).row.map .d)] H (fun r H' =>
    H' = H ++ [.cells [.d (.int .i64 k), .d (.int .i64 n), .d (.str s), .d (.sl (l.map Tm.row))], .cells [.d (.int .i64 k), .d (.int .i64 n), .d (.str s), .own (.e (H.length + 3)) l.length (l.map Tm.row)], .cells [.d (.int .i64 k), .d (.int .i64 n), .d (.str s), .own (.e (H.length + 3)) l.length (l.map Tm.row)], .grow l.length 4] ∧
    r = .agg [.d (.int .i64 k), .d (.int .i64 n), .d (.str s), .own (.e (H.length + 3)) l.length (l.map Tm.row)]) := by
  obtain ⟨hk, hn, hs, hl, hkids⟩ := hfits
  refine acallsK Tryz.func31 (by kernel_rfl) ac31_ok fun hf => ?_
  have hli : inR .i64 (l.length : Int) := small_i64 (by omega) (by omega)
  simp -implicitDefEqProofs [ac31, row_mk, hf, hli, go_sem, -List.set_cons_succ, -List.set_cons_zero]
  refine loop_enter (St.le_tokenC 2 3 4 rfl rfl) ?_
  refine loop_set (σ := Nat) (fun i => [(4, .c (.d (.int .i64 i)))]) (fun _ => H) (fun i => [.cells [.d (.int .i64 k), .d (.int .i64 n), .d (.str s), .d (.sl (l.map Tm.row))], .cells [.d (.int .i64 0), .d (.int .i64 0), .d (.str []), .full []], .cells [.d (.int .i64 k), .d (.int .i64 n), .d (.str s), .own (.l 3) i ((l.map Tm.row).take i)], .grow i 4])
    (fun i => i ≤ l.length) (fun i => l.length - i) 0 rfl (Nat.zero_le _) ?_
  intro i hi
  simp -implicitDefEqProofs [setAll, hli, go_sem, -List.set_cons_succ, -List.set_cons_zero]
  refine ⟨fun hlt => ?_, fun hge => ?_⟩
  · have hadd : inR .i64 ((i : Int) + 1) := small_i64 (by omega) (by omega)
    refine row_of hlt (row_len _) ?_
    simp -implicitDefEqProofs [row_len, take_row, pure_d, re_d, go_sem, -List.set_cons_succ, -List.set_cons_zero]
    refine qcall_pure (copy_calls l[i] (hkids _ (List.getElem_mem hlt))) hf (by simp [A.re, re_d]) ?_
    simp -implicitDefEqProofs [row_len, toDs_map, hadd, hf, Nat.min_eq_left hi, go_sem, -List.set_cons_succ, -List.set_cons_zero]
    refine ⟨fun r hr => allLen_map row_len r (List.mem_of_mem_take hr), by unfold maxApp; omega, ?_⟩
    refine loop_back (i + 1) ?_ hlt (by show l.length - (i + 1) < l.length - i; omega)
    simp [setAll, take_map_succ hlt]
  · have hil : i = l.length := by omega
    subst hil
    rw [show (l.map Tm.row).take l.length = l.map Tm.row from List.take_of_length_le (by simp)]
    simp -implicitDefEqProofs [hf, go_sem, -List.set_cons_succ, -List.set_cons_zero]
    refine finK_ret _ ⟨trivial, trivial⟩ rfl ?_
    simp [Ob.re, C.re, A.re, Ref.re]
theorem l1Mutate_draws (t : Tm) (ht : t.fits) : Draws 13 [.agg (t.row.map .d)] 2 TmR := fun c p H i hc hp hp1 hi => by
  obtain ⟨k, n, s, l⟩ := t
  refine acalls Tryz.func13 (by kernel_rfl) ac13_ok fun hf => ?_
  simp only [List.length_set] at hf
  have hf0 : ∀ q, Obs.fits H.length 0 (H.set i (Rd c q)) := fun q => fits_reset (b := Rd c q) hf ⟨trivial, trivial, trivial⟩
  have hf1 : ∀ q, Obs.fits (H.set i (Rd c q)).length 0 (H.set i (Rd c q)) := fun q => by simpa using hf0 q
  have hcopy := copy_own k n s l ht
  obtain ⟨hk, hn, hs, hl, hkids⟩ := ht
  rw [row_mk] at hcopy ⊢
  simp -implicitDefEqProofs [ac13, hf0, go_sem, -List.set_cons_succ, -List.set_cons_zero]
  have done : ∀ (t : Tm) (q : Int), p ≤ q → q ≤ p + 2 → t.fits → ∀ r, r = .agg (t.row.map .d) → Drew TmR 2 c p H i r (H.set i (Rd c q)) := fun t q a1 a2 a3 r hr => ⟨⟨t, hr, a3⟩, q, a1, a2, rfl⟩
  refine (hcopy _).mono fun r H' ⟨g1, g2⟩ => ⟨H.set i (Rd c p), [.cells [.d (.int .i64 k), .d (.int .i64 n), .d (.str s), .d (.sl (l.map Tm.row))], .cells [.d (.int .i64 0), .d (.int .i64 0), .d (.str []), .full []], .cells [.d (.int .i64 k), .d (.int .i64 n), .d (.str s), .d (.sl (l.map Tm.row))], .cells [.d (.int .i64 k), .d (.int .i64 n), .d (.str s), .own (.l 5) l.length (l.map Tm.row)], .cells [.d (.int .i64 k), .d (.int .i64 n), .d (.str s), .own (.l 5) l.length (l.map Tm.row)], .grow l.length 4],
    .agg [.d (.int .i64 k), .d (.int .i64 n), .d (.str s), .own (.l 5) l.length (l.map Tm.row)], by rw [g1]; simp [Ob.re, C.re, Ref.re], by simp, by simp, by simpa using hf0 p, by rw [g2]; simp [A.re, C.re, Ref.re], ?_⟩
  clear hcopy
  simp -implicitDefEqProofs [hf0, go_sem, -List.set_cons_succ, -List.set_cons_zero]
  refine call_drawE (pick_draws 50 (by omega)) hc (by omega) (by omega) hi (by simp [Ob.re, C.re, Ref.re]) (fun r => IntIn.re) (hf0 _) ?_
  rintro _ p1 ⟨m, rfl, m0, m1⟩ h1 h2
  simp -implicitDefEqProofs [hf0, go_sem, -List.set_cons_succ, -List.set_cons_zero]
  refine ⟨fun _ => ?_, fun _ => ⟨fun _ => ?_, fun _ => ⟨fun _ => ?_, fun _ => ⟨fun _ => ?_, fun _ => ⟨fun _ => ?_, fun _ => ?_⟩⟩⟩⟩⟩
  · refine call_drawE (num_draws [0, 4, 1, 2, 3] (by decide)) hc (by omega) (by omega) hi (by simp [Ob.re, C.re]) (fun r ⟨n, _, hn⟩ => by subst hn; rfl) (hf0 _) ?_
    rintro _ p2 ⟨x, hx, rfl⟩ h3 h4
    have hx : -1000 ≤ x ∧ x ≤ 1000 := by simp at hx; omega
    simp -implicitDefEqProofs [hf0, go_sem, -List.set_cons_succ, -List.set_cons_zero]
    exact done (.mk x n s l) p2 (by omega) (by omega) (.mk (small_i64 (by omega) (by omega)) hn hs hl hkids) _ (by simp [row_mk])
  · refine call_drawE (num_draws [26, 1000, -1000, -1, 1] (by decide)) hc (by omega) (by omega) hi (by simp [Ob.re, C.re]) (fun r ⟨n, _, hn⟩ => by subst hn; rfl) (hf0 _) ?_
    rintro _ p2 ⟨x, hx, rfl⟩ h3 h4
    have hx : -1000 ≤ x ∧ x ≤ 1000 := by simp at hx; omega
    simp -implicitDefEqProofs [hf0, go_sem, -List.set_cons_succ, -List.set_cons_zero]
    exact done (.mk k x s l) p2 (by omega) (by omega) (.mk hk (small_i64 (by omega) (by omega)) hs hl hkids) _ (by simp [row_mk])
  · refine call_drawE (of_draws [[], [88], [116, 111, 111, 108, 111, 110, 103], [195, 169], [97]] (by decide)) hc (by omega) (by omega) hi (by simp [Ob.re, C.re]) (fun r ⟨n, _, hn⟩ => by subst hn; rfl) (hf0 _) ?_
    rintro _ p2 ⟨x, hx, rfl⟩ h3 h4
    have hx : x.length ≤ 1000 := by simp at hx; rcases hx with rfl | rfl | rfl | rfl | rfl <;> decide
    simp -implicitDefEqProofs [hf0, go_sem, -List.set_cons_succ, -List.set_cons_zero]
    exact done (.mk k n x l) p2 (by omega) (by omega) (.mk hk hn (by omega) hl hkids) _ (by simp [row_mk])
  · refine loop_set (σ := List Tm) (fun _ => []) (fun _ => H.set i (Rd c p1)) (fun y => [.cells [.d (.int .i64 k), .d (.int .i64 n), .d (.str s), .d (.sl (l.map Tm.row))], .cells [.d (.int .i64 0), .d (.int .i64 0), .d (.str []), .full []], .cells [.d (.int .i64 k), .d (.int .i64 n), .d (.str s), .d (.sl (l.map Tm.row))], .cells [.d (.int .i64 k), .d (.int .i64 n), .d (.str s), .own (.l 5) l.length (l.map Tm.row)], .cells [.d (.int .i64 k), .d (.int .i64 n), .d (.str s), .own (.l 5) l.length (l.map Tm.row)], .grow y.length 4, .cells [.d (.int .i64 k), .d (.int .i64 n), .d (.str s), .own (.l 5) y.length (y.map Tm.row)]])
      (fun y => y.length ≤ 1048576 ∧ ∀ t ∈ y, t.fits) (fun y => 5 - y.length) l rfl ⟨hl, hkids⟩ ?_
    rintro y ⟨hy, hyf⟩
    have hly : inR .i64 (y.length : Int) := small_i64 (by omega) (by omega)
    simp -implicitDefEqProofs [setAll, hf0, hly, go_sem, -List.set_cons_succ, -List.set_cons_zero]
    refine ⟨fun hlt => ?_, fun hge => ?_⟩
    · refine qcall_pure (int_calls 1) (hf1 _) (by simp [A.re, re_d]) ?_
      simp -implicitDefEqProofs [hf0, row_mk, go_sem, -List.set_cons_succ, -List.set_cons_zero]
      refine ⟨allLen_map row_len, by unfold maxApp; omega, ?_⟩
      refine loop_back (y ++ [Tm.mk 2 1 [] []]) (by simp [setAll, row_mk]) ⟨by simp; omega, fun t ht => ?_⟩ (by show 5 - (y ++ [Tm.mk 2 1 [] []]).length < 5 - y.length; simp; omega)
      rcases List.mem_append.1 ht with ht | ht
      · exact hyf t ht
      · simp at ht; subst ht; exact .mk (small_i64 (by omega) (by omega)) (small_i64 (by omega) (by omega)) (by simp) (by simp) (by simp)
    · exact done (.mk k n s y) p1 (by omega) (by omega) (.mk hk hn hs hy hyf) _ (by simp [row_mk])
  · refine loop_set (σ := Nat × Tm) (fun x => [(6, .c (.d (.int .i64 x.1)))]) (fun _ => H.set i (Rd c p1)) (fun x => [.cells [.d (.int .i64 k), .d (.int .i64 n), .d (.str s), .d (.sl (l.map Tm.row))], .cells [.d (.int .i64 0), .d (.int .i64 0), .d (.str []), .full []], .cells [.d (.int .i64 k), .d (.int .i64 n), .d (.str s), .d (.sl (l.map Tm.row))], .cells [.d (.int .i64 k), .d (.int .i64 n), .d (.str s), .own (.l 5) l.length (l.map Tm.row)], .cells [.d (.int .i64 k), .d (.int .i64 n), .d (.str s), .own (.l 5) l.length (l.map Tm.row)], .grow l.length 4, .cells (if x.1 = 0 then [.d (.int .i64 k), .d (.int .i64 n), .d (.str s), .own (.l 5) l.length (l.map Tm.row)] else x.2.row.map .d)])
      (fun x => x.1 ≤ 30 ∧ x.2.fits ∧ (x.1 = 0 → x.2 = .mk k n s l)) (fun x => 30 - x.1) (0, Tm.mk k n s l) rfl ⟨by omega, .mk hk hn hs hl hkids, fun _ => rfl⟩ ?_
    rintro ⟨j, u⟩ ⟨hj, hu, hj0⟩
    simp only at hj hu hj0
    have hadd : inR .i64 ((j : Int) + 1) := small_i64 (by omega) (by omega)
    have hone : (Tm.mk 3 0 [115] [u]).fits := .mk (small_i64 (by omega) (by omega)) (small_i64 (by omega) (by omega)) (by simp) (by simp) (by simpa using hu)
    have hst := struct_calls [115] [u] (by simp)
    simp only [List.map_cons, List.map_nil] at hst
    by_cases hz : j = 0
    · subst hz
      have hu := hj0 rfl
      subst hu
      have h1 : inR .i64 1 := small_i64 (by omega) (by omega)
      simp -implicitDefEqProofs [setAll, hf0, go_sem, -List.set_cons_succ, -List.set_cons_zero]
      rw [row_mk] at hst
      refine qcall_pure hst (hf1 _) (by simp [A.re, re_d]) ?_
      simp -implicitDefEqProofs [hf0, h1, row_len, take_row, go_sem, -List.set_cons_succ, -List.set_cons_zero]
      exact loop_back (1, Tm.mk 3 0 [115] [Tm.mk k n s l]) (by simp [setAll]) ⟨by simp, hone, fun h => by simp at h⟩ (by show 30 - 1 < 30 - 0; omega)
    · simp -implicitDefEqProofs [setAll, hf0, hz, hadd, row_len, take_row, toDs_map, go_sem, -List.set_cons_succ, -List.set_cons_zero]
      refine ⟨fun hlt => ?_, fun hge => ?_⟩
      · refine qcall_pure hst (hf1 _) (by simp [A.re, re_d, row_len]) ?_
        simp -implicitDefEqProofs [hf0, hadd, row_len, take_row, go_sem, -List.set_cons_succ, -List.set_cons_zero]
        exact loop_back (j + 1, Tm.mk 3 0 [115] [u]) (by simp [setAll, row_len]) ⟨by show j + 1 ≤ 30; omega, hone, fun h => by simp at h⟩ (by show 30 - (j + 1) < 30 - j; omega)
      · simp [thaw_d, fits_map]
        exact done u p1 (by omega) (by omega) hu _ rfl
  · exact done (.mk k n s l) p1 (by omega) (by omega) (.mk hk hn hs hl hkids) _ (by simp [row_mk])
namespace Sv
-- 51 loop.example/prologserver/spec.l4Texts params 0 ntmps 2
def ac51 : Cd := .seq (.region [oc 0 (.mv (.k (.c (.full []))))] [0])
 (.seq (.region [oc 1 (.buildSlice 1 11 [(.str [])] [(0,(.k (.c (.d (.str [97,112,112,40,91,93,44,65,44,65,41,46,10,97,112,112,40,91,65,124,66,93,44,67,44,91,65,124,68,93,41,58,45,97,112,112,40,66,44,67,44,68,41,46,10]))))),(1,(.k (.c (.d (.str [109,101,109,40,65,44,91,65,124,66,93,41,46,10,109,101,109,40,65,44,91,66,124,67,93,41,58,45,109,101,109,40,65,44,67,41,46,10]))))),(2,(.k (.c (.d (.str [112,40,49,41,46,10,112,40,50,41,46,10,112,40,51,41,46,10,113,40,65,41,58,45,112,40,65,41,44,65,62,49,44,33,46,10,114,40,65,44,66,41,58,45,112,40,65,41,44,112,40,66,41,46,10]))))),(3,(.k (.c (.d (.str [108,101,110,40,91,93,44,48,41,46,10,108,101,110,40,91,65,124,66,93,44,67,41,58,45,108,101,110,40,66,44,68,41,44,67,32,105,115,32,68,43,49,46,10]))))),(4,(.k (.c (.d (.str [109,97,120,40,65,44,66,44,65,41,58,45,65,62,61,66,44,33,46,10,109,97,120,40,65,44,66,44,66,41,46,10]))))),(5,(.k (.c (.d (.str [101,40,97,44,98,41,46,10,101,40,98,44,99,41,46,10,101,40,99,44,100,41,46,10,116,40,65,44,66,41,58,45,101,40,65,44,66,41,46,10,116,40,65,44,66,41,58,45,101,40,65,44,67,41,44,116,40,67,44,66,41,46,10]))))),(6,(.k (.c (.d (.str [108,111,111,112,58,45,108,111,111,112,46,10,111,107,46,10]))))),(7,(.k (.c (.d (.str [102,97,99,40,48,44,49,41,58,45,33,46,10,102,97,99,40,65,44,66,41,58,45,65,62,48,44,67,32,105,115,32,65,45,49,44,102,97,99,40,67,44,68,41,44,66,32,105,115,32,65,42,68,46,10]))))),(8,(.k (.c (.d (.str [115,40,65,41,58,45,65,61,102,40,66,41,44,97,114,103,40,49,44,65,44,66,41,44,66,61,49,46,10,115,40,65,41,58,45,118,97,114,40,65,41,44,65,61,110,111,110,101,46,10]))))),(9,(.k (.c (.d (.str [114,101,118,40,91,93,44,65,44,65,41,46,10,114,101,118,40,91,65,124,66,93,44,67,44,68,41,58,45,114,101,118,40,66,44,91,65,124,67,93,44,68,41,46,10]))))),(10,(.k (.c (.d (.str [98,97,100,40,65,41,58,45,66,32,105,115,32,65,43,102,111,111,44,67,61,66,46,10,98,105,103,40,65,41,58,45,65,32,105,115,32,57,57,57,43,49,46,10,117,110,40,65,41,58,45,110,111,115,117,99,104,40,65,41,46,10])))))]),
 oa 0 1] [1])
 (.ret))
theorem ac51_ok : cFunc Tryz.prog [] [(0,[0],[]),(1,[1],[])] Tryz.f51 = some (ac51,[.tmp 0],2) := by kernel_rfl
-- 38 loop.example/prologserver/spec.l4Program params 1 ntmps 19
def ac38 : Cd := .seq (.region [oc 2 (.mv (.k (.c (.full []))))] [2])
 (.seq (.region [oc 6 (.qcall 51 []),
 oa 3 6] [6])
 (.seq (.region [oa 8 3,
 oa 9 0,
 oa 10 3,
 oc 11 (.len 1 (.t 10)),
 oc 12 (.call false 12 [(.t 9),(.t 11)]),
 oc 13 (.indexAddr 1 (.t 8) (.t 12)),
 oc 14 (.load none (.t 13)),
 oc 15 (.qcall 52 [(.t 14)]),
 oa 7 15,
 oc 16 (.extract 0 (.t 7)),
 oc 17 (.extract 1 (.t 7)),
 oa 4 16,
 oa 5 17] [0,3,5,7,8,9,10,11,12,13,14,15,16,17])
 (.seq (.region [oa 18 4,
 oa 2 18] [4,18])
 (.ret))))
theorem ac38_ok : cFunc Tryz.prog [1000051,1000052] [(0,[2],[]),(1,[6],[]),(2,[0,3,5,7,8,9,10,11,12,13,14,15,16,17],[]),(3,[4,18],[])] Tryz.f38 = some (ac38,[.tmp 2],19) := by kernel_rfl
-- 60 loop.example/prologserver/spec.l4Mutate params 2 ntmps 48
-- loop head live: [4,5]
def ac60 : Cd := .seq (.region [oc 3 (.box (.t 1)),
 oc 4 (.alloc [(.d (.int .i64 0)),(.d (.int .i64 0)),(.d (.str [])),(.full []),(.full [])])] [1])
 (.seq (.region [oc 6 (.load (some 5) (.t 3)),
 oc 7 (.call false 83 [(.t 6)]),
 oc 5 (.alloc [(.d (.int .i64 0)),(.d (.int .i64 0)),(.d (.str [])),(.full []),(.full [])]),
 ⟨none,.store 5 (.t 5) (.t 7),none⟩] [3,6,7])
 (.seq (.seq (.region [oa 8 0,
 oc 9 (.call false 12 [(.t 8),(ki 40)])] [8])
 (.block 0 (.seq (.region [oc 11 (.bin .eql (.t 9) (ki 0)),
 oa 10 11] [11])
 (.cond (.t 10)
 (.region [oa 12 0,
 oa 13 0,
 oc 14 (.callL false false 84 [(.t 13)]),
 oc 15 (.callL false false 13 [(.t 12),(.t 14)]),
 oc 16 (.fieldAddr 0 (.t 5)),
 ⟨none,.store 4 (.t 16) (.t 15),none⟩] [0,9,10,12,13,14,15,16])
 (.seq (.region [oc 18 (.bin .eql (.t 9) (ki 1)),
 oa 17 18] [10,18])
 (.cond (.t 17)
 (.region [oc 19 (.fieldAddr 4 (.t 5)),
 oa 21 0,
 oa 22 0,
 oc 20 (.loadL false none (.t 19)),
 oc 23 (.callL false false 84 [(.t 22)]),
 oc 24 (.callL false false 13 [(.t 21),(.t 23)]),
 oc 25 (.buildSlice 4 1 [(.int .i64 0),(.int .i64 0),(.str []),(.sl [])] [(0,(.t 24))]),
 oc 26 (.append false 4 (.t 20) (.t 25)),
 oc 27 (.fieldAddr 4 (.t 5)),
 ⟨none,.store 1 (.t 27) (.t 26),none⟩] [0,9,17,19,20,21,22,23,24,25,26,27])
 (.seq (.region [oc 29 (.bin .eql (.t 9) (ki 2)),
 oa 28 29] [17,29])
 (.cond (.t 28)
 (.block 1 (.loop (.seq (.seq (.region [oc 30 (.fieldAddr 4 (.t 5)),
 oc 31 (.load none (.t 30)),
 oc 32 (.len 1 (.t 31)),
 oc 33 (.bin .leq (.t 32) (ki 6))] [30,31,32])
 (.cond (.t 33)
 (.skip)
 (.exit 1)))
 (.block 2 (.region [oc 34 (.fieldAddr 4 (.t 5)),
 oc 35 (.load none (.t 34)),
 oc 36 (.qcall 35 [(.k (.c (.d (.str [116,114,117,101])))),(.k (.c (.full [])))]),
 oc 37 (.buildSlice 4 1 [(.int .i64 0),(.int .i64 0),(.str []),(.sl [])] [(0,(.t 36))]),
 oc 38 (.append false 4 (.t 35) (.t 37)),
 oc 39 (.fieldAddr 4 (.t 5)),
 ⟨none,.store 1 (.t 39) (.t 38),none⟩] [33,34,35,36,37,38,39])))))
 (.seq (.region [oc 41 (.bin .eql (.t 9) (ki 3)),
 oa 40 41] [9,28,41])
 (.cond (.t 40)
 (.region [oa 42 0,
 oc 43 (.buildSlice 1 5 [(.str [])] [(0,(.k (.c (.d (.str [116,114,117,101]))))),(1,(.k (.c (.d (.str [105,115]))))),(2,(.k (.c (.d (.str [61]))))),(3,(.k (.c (.d (.str [109,111,100]))))),(4,(.k (.c (.d (.str [113])))))]),
 oc 44 (.call false 33 [(.t 42),(.t 43)]),
 oc 45 (.fieldAddr 0 (.t 5)),
 oc 46 (.fieldAddr 2 (.t 45)),
 ⟨none,.store 1 (.t 46) (.t 44),none⟩] [0,40,42,43,44,45,46])
 (.skip)))))))))))
 (.seq (.region [oc 47 (.load (some 5) (.t 5)),
 ⟨none,.store 5 (.t 4) (.t 47),none⟩] [0,5,40,47])
 (.ret))))
theorem ac60_ok : cFunc Tryz.prog [1000035,5000019,6000084,6000013] [(0,[1],[]),(1,[3,6,7],[]),(2,[8],[]),(3,[11],[]),(4,[0,9,10,12,13,14,15,16],[]),(5,[10,18],[]),(6,[0,9,17,19,20,21,22,23,24,25,26,27],[0,2,3,1,4,5,6,7,8,9]),(7,[17,29],[]),(8,[30,31,32],[]),(9,[33,34,35,36,37,38,39],[0,1,2,3,4,5,6]),(10,[9,28,41],[]),(11,[0,40,42,43,44,45,46],[]),(12,[0,5,40,47],[])] Tryz.f60 = some (ac60,[.cell 4 (some 5)],48) := by kernel_rfl
-- 37 loop.example/prologserver/spec.l4MutateAll params 2 ntmps 40
-- loop head live: [0,1,5,6]
-- loop head live: [5]
def ac37 : Cd := .seq (.region [oc 4 (.mv (.k (.c (.full []))))] [4])
 (.seq (.region [oc 7 (.buildSlice 5 0 [(.int .i64 0),(.int .i64 0),(.str []),(.sl []),(.sl [])] []),
 oa 5 7] [7])
 (.seq (.seq (.region [oc 6 (.mv (ki 0))] [])
 (.block 0 (.loop (.seq (.seq (.region [oa 8 6,
 oa 9 1,
 oc 10 (.len 1 (.t 9)),
 oc 11 (.bin .lss (.t 8) (.t 10))] [8,9,10])
 (.cond (.t 11)
 (.skip)
 (.exit 0)))
 (.seq (.block 1 (.region [oa 14 5,
 oa 15 0,
 oa 16 1,
 oa 17 6,
 oc 18 (.indexAddr 5 (.t 16) (.t 17)),
 oc 19 (.load (some 5) (.t 18)),
 oc 20 (.call false 60 [(.t 15),(.t 19)]),
 oc 21 (.buildSlice 5 1 [(.int .i64 0),(.int .i64 0),(.str []),(.sl []),(.sl [])] [(0,(.t 20))]),
 oc 22 (.append false 5 (.t 14) (.t 21)),
 oa 5 22] [11,14,15,16,17,18,19,20,21,22]))
 (.region [oa 12 6,
 oc 13 (.bin .add (.t 12) (ki 1)),
 oa 6 13] [12,13]))))))
 (.seq (.seq (.region [oa 23 0,
 oc 24 (.call false 12 [(.t 23),(ki 30)])] [0,23])
 (.block 2 (.seq (.region [oc 26 (.bin .eql (.t 24) (ki 0)),
 oa 25 26] [26])
 (.cond (.t 25)
 (.block 3 (.loop (.seq (.seq (.region [oa 27 5,
 oc 28 (.len 1 (.t 27)),
 oc 29 (.bin .leq (.t 28) (ki 20))] [27,28])
 (.cond (.t 29)
 (.skip)
 (.exit 3)))
 (.block 4 (.region [oa 30 5,
 oc 31 (.qcall 35 [(.k (.c (.d (.str [122])))),(.k (.c (.full [])))]),
 oc 32 (.build [(.d (.int .i64 0)),(.d (.int .i64 0)),(.d (.str [])),(.full []),(.full [])] [(0,4,(.t 31))]),
 oc 33 (.buildSlice 5 1 [(.int .i64 0),(.int .i64 0),(.str []),(.sl []),(.sl [])] [(0,(.t 32))]),
 oc 34 (.append false 5 (.t 30) (.t 33)),
 oa 5 34] [29,30,31,32,33,34])))))
 (.seq (.region [oc 36 (.bin .eql (.t 24) (ki 1)),
 oa 35 36] [24,25,36])
 (.cond (.t 35)
 (.region [oa 37 5,
 oc 38 (.slice 5 (.t 37) (some (ki 1)) none none),
 oa 5 38] [35,37,38])
 (.skip)))))))
 (.seq (.region [oa 39 5,
 oa 4 39] [5,35,39])
 (.ret)))))
theorem ac37_ok : cFunc Tryz.prog [1000035] [(0,[4],[]),(1,[7],[]),(2,[],[]),(3,[8,9,10],[]),(5,[11,14,15,16,17,18,19,20,21,22],[]),(4,[12,13],[]),(6,[0,23],[]),(7,[26],[]),(8,[27,28],[]),(9,[29,30,31,32,33,34],[]),(10,[24,25,36],[]),(11,[35,37,38],[]),(12,[5,35,39],[])] Tryz.f37 = some (ac37,[.tmp 4],40) := by kernel_rfl
-- 17 loop.example/prologserver/spec.DrawProgramValid params 1 ntmps 10
def ac17 : Cd := .seq (.region [oc 2 (.mv (.k (.c (.full []))))] [2])
 (.seq (.region [oa 4 0,
 oc 5 (.call false 11 [(.t 4)]),
 oa 3 5] [0,4,5])
 (.seq (.region [oa 6 3,
 oa 7 3,
 oc 8 (.call false 38 [(.t 7)]),
 oc 9 (.call false 37 [(.t 6),(.t 8)]),
 oa 2 9] [3,6,7,8,9])
 (.ret)))
theorem ac17_ok : cFunc Tryz.prog [] [(0,[2],[]),(1,[0,4,5],[]),(2,[3,6,7,8,9],[])] Tryz.f17 = some (ac17,[.tmp 2],10) := by kernel_rfl
def varN : List UInt8 := [118, 97, 114]
/-- a term that is not called var -/
def NV (t : Tm) : Prop := t.s ≠ varN
/-- a term that is a test where it is called var -/
def BV (t : Tm) : Prop := t.s = varN → t.kids.length = 1
theorem NV.bv {t : Tm} (h : NV t) : BV t := fun e => absurd e h
theorem names_nv : ∀ s ∈ drawNames, s ≠ varN := by decide
theorem drawN (d : Nat) (hd : d ≤ 6) : Draws 14 [.c (.d (.int .i64 d))] ((5 * 4 ^ d : Nat) : Int) (TmP NV) :=
  l1DrawP_draws (fun _ => NV) (fun d n h0 h1 => by simp [NV, varN, Tm.s]) (fun d n h0 h1 => by simp [NV, varN, Tm.s]) (fun s hs => names_nv s hs) (fun d s hs l hl h => names_nv s hs) d hd
theorem someN_draws : Draws 84 [] 1281 (TmP NV) := fun c p H i hc hp hp1 hi => by
  refine acalls Tryz.func84 (by kernel_rfl) ac84_ok fun hf => ?_
  simp only [List.length_set] at hf
  have hf0 : ∀ q, Obs.fits H.length 0 (H.set i (Rd c q)) := fun q => fits_reset (b := Rd c q) hf ⟨trivial, trivial, trivial⟩
  simp -implicitDefEqProofs [ac84, hf0, go_sem, -List.set_cons_succ, -List.set_cons_zero]
  refine call_drawE (num_draws [3, 2, 4, 1] (by decide)) hc (by omega) (by omega) hi (by simp [Ob.re, C.re]) (fun r ⟨n, _, hn⟩ => by subst hn; rfl) (hf0 _) ?_
  rintro _ p1 ⟨n, hn, rfl⟩ h1 h2
  obtain ⟨d, rfl, hd⟩ : ∃ d : Nat, n = (d : Int) ∧ d ≤ 4 := ⟨n.toNat, by simp at hn; omega, by simp at hn; omega⟩
  have hdr : Draws 14 [.c (.d (.int .i64 d))] 1280 (TmP NV) := (drawN d (by omega)).mono (by
    have : 4 ^ d ≤ 4 ^ 4 := Nat.pow_le_pow_right (by omega) hd
    omega)
  simp -implicitDefEqProofs [hf0, go_sem, -List.set_cons_succ, -List.set_cons_zero]
  refine call_drawE hdr hc (by omega) (by omega) hi (by simp [Ob.re, C.re]) (fun r => TmP.re) (hf0 _) ?_
  rintro _ p2 ⟨t, rfl, ht, hnv⟩ h3 h4
  rw [row_eq]
  simp -implicitDefEqProofs [hf0, go_sem, -List.set_cons_succ, -List.set_cons_zero]
  exact ⟨⟨t, by rw [row_eq]; rfl, ht, hnv⟩, p2, by omega, by omega, rfl⟩
theorem mutN_draws (t : Tm) (ht : t.fits) (hnv : NV t) : Draws 13 [.agg (t.row.map .d)] 2 (TmP NV) := fun c p H i hc hp hp1 hi => by
  obtain ⟨k, n, s, l⟩ := t
  refine acalls Tryz.func13 (by kernel_rfl) ac13_ok fun hf => ?_
  simp only [List.length_set] at hf
  have hf0 : ∀ q, Obs.fits H.length 0 (H.set i (Rd c q)) := fun q => fits_reset (b := Rd c q) hf ⟨trivial, trivial, trivial⟩
  have hf1 : ∀ q, Obs.fits (H.set i (Rd c q)).length 0 (H.set i (Rd c q)) := fun q => by simpa using hf0 q
  have hcopy := copy_own k n s l ht
  obtain ⟨hk, hn, hs, hl, hkids⟩ := ht
  rw [row_mk] at hcopy ⊢
  simp -implicitDefEqProofs [ac13, hf0, go_sem, -List.set_cons_succ, -List.set_cons_zero]
  have done : ∀ (t : Tm) (q : Int), p ≤ q → q ≤ p + 2 → t.fits → NV t → ∀ r, r = .agg (t.row.map .d) → Drew (TmP NV) 2 c p H i r (H.set i (Rd c q)) := fun t q a1 a2 a3 a4 r hr => ⟨⟨t, hr, a3, a4⟩, q, a1, a2, rfl⟩
  have hnv : s ≠ varN := hnv
  refine (hcopy _).mono fun r H' ⟨g1, g2⟩ => ⟨H.set i (Rd c p), [.cells [.d (.int .i64 k), .d (.int .i64 n), .d (.str s), .d (.sl (l.map Tm.row))], .cells [.d (.int .i64 0), .d (.int .i64 0), .d (.str []), .full []], .cells [.d (.int .i64 k), .d (.int .i64 n), .d (.str s), .d (.sl (l.map Tm.row))], .cells [.d (.int .i64 k), .d (.int .i64 n), .d (.str s), .own (.l 5) l.length (l.map Tm.row)], .cells [.d (.int .i64 k), .d (.int .i64 n), .d (.str s), .own (.l 5) l.length (l.map Tm.row)], .grow l.length 4],
    .agg [.d (.int .i64 k), .d (.int .i64 n), .d (.str s), .own (.l 5) l.length (l.map Tm.row)], by rw [g1]; simp [Ob.re, C.re, Ref.re], by simp, by simp, by simpa using hf0 p, by rw [g2]; simp [A.re, C.re, Ref.re], ?_⟩
  clear hcopy
  simp -implicitDefEqProofs [hf0, go_sem, -List.set_cons_succ, -List.set_cons_zero]
  refine call_drawE (pick_draws 50 (by omega)) hc (by omega) (by omega) hi (by simp [Ob.re, C.re, Ref.re]) (fun r => IntIn.re) (hf0 _) ?_
  rintro _ p1 ⟨m, rfl, m0, m1⟩ h1 h2
  simp -implicitDefEqProofs [hf0, go_sem, -List.set_cons_succ, -List.set_cons_zero]
  refine ⟨fun _ => ?_, fun _ => ⟨fun _ => ?_, fun _ => ⟨fun _ => ?_, fun _ => ⟨fun _ => ?_, fun _ => ⟨fun _ => ?_, fun _ => ?_⟩⟩⟩⟩⟩
  · refine call_drawE (num_draws [0, 4, 1, 2, 3] (by decide)) hc (by omega) (by omega) hi (by simp [Ob.re, C.re]) (fun r ⟨n, _, hn⟩ => by subst hn; rfl) (hf0 _) ?_
    rintro _ p2 ⟨x, hx, rfl⟩ h3 h4
    have hx : -1000 ≤ x ∧ x ≤ 1000 := by simp at hx; omega
    simp -implicitDefEqProofs [hf0, go_sem, -List.set_cons_succ, -List.set_cons_zero]
    exact done (.mk x n s l) p2 (by omega) (by omega) (.mk (small_i64 (by omega) (by omega)) hn hs hl hkids) hnv _ (by simp [row_mk])
  · refine call_drawE (num_draws [26, 1000, -1000, -1, 1] (by decide)) hc (by omega) (by omega) hi (by simp [Ob.re, C.re]) (fun r ⟨n, _, hn⟩ => by subst hn; rfl) (hf0 _) ?_
    rintro _ p2 ⟨x, hx, rfl⟩ h3 h4
    have hx : -1000 ≤ x ∧ x ≤ 1000 := by simp at hx; omega
    simp -implicitDefEqProofs [hf0, go_sem, -List.set_cons_succ, -List.set_cons_zero]
    exact done (.mk k x s l) p2 (by omega) (by omega) (.mk hk (small_i64 (by omega) (by omega)) hs hl hkids) hnv _ (by simp [row_mk])
  · refine call_drawE (of_draws [[], [88], [116, 111, 111, 108, 111, 110, 103], [195, 169], [97]] (by decide)) hc (by omega) (by omega) hi (by simp [Ob.re, C.re]) (fun r ⟨n, _, hn⟩ => by subst hn; rfl) (hf0 _) ?_
    rintro _ p2 ⟨x, hx, rfl⟩ h3 h4
    have hxv : x ≠ varN := by simp at hx; rcases hx with rfl | rfl | rfl | rfl | rfl <;> decide
    have hx : x.length ≤ 1000 := by simp at hx; rcases hx with rfl | rfl | rfl | rfl | rfl <;> decide
    simp -implicitDefEqProofs [hf0, go_sem, -List.set_cons_succ, -List.set_cons_zero]
    exact done (.mk k n x l) p2 (by omega) (by omega) (.mk hk hn (by omega) hl hkids) hxv _ (by simp [row_mk])
  · refine loop_set (σ := List Tm) (fun _ => []) (fun _ => H.set i (Rd c p1)) (fun y => [.cells [.d (.int .i64 k), .d (.int .i64 n), .d (.str s), .d (.sl (l.map Tm.row))], .cells [.d (.int .i64 0), .d (.int .i64 0), .d (.str []), .full []], .cells [.d (.int .i64 k), .d (.int .i64 n), .d (.str s), .d (.sl (l.map Tm.row))], .cells [.d (.int .i64 k), .d (.int .i64 n), .d (.str s), .own (.l 5) l.length (l.map Tm.row)], .cells [.d (.int .i64 k), .d (.int .i64 n), .d (.str s), .own (.l 5) l.length (l.map Tm.row)], .grow y.length 4, .cells [.d (.int .i64 k), .d (.int .i64 n), .d (.str s), .own (.l 5) y.length (y.map Tm.row)]])
      (fun y => y.length ≤ 1048576 ∧ ∀ t ∈ y, t.fits) (fun y => 5 - y.length) l rfl ⟨hl, hkids⟩ ?_
    rintro y ⟨hy, hyf⟩
    have hly : inR .i64 (y.length : Int) := small_i64 (by omega) (by omega)
    simp -implicitDefEqProofs [setAll, hf0, hly, go_sem, -List.set_cons_succ, -List.set_cons_zero]
    refine ⟨fun hlt => ?_, fun hge => ?_⟩
    · refine qcall_pure (int_calls 1) (hf1 _) (by simp [A.re, re_d]) ?_
      simp -implicitDefEqProofs [hf0, row_mk, go_sem, -List.set_cons_succ, -List.set_cons_zero]
      refine ⟨allLen_map row_len, by unfold maxApp; omega, ?_⟩
      refine loop_back (y ++ [Tm.mk 2 1 [] []]) (by simp [setAll, row_mk]) ⟨by simp; omega, fun t ht => ?_⟩ (by show 5 - (y ++ [Tm.mk 2 1 [] []]).length < 5 - y.length; simp; omega)
      rcases List.mem_append.1 ht with ht | ht
      · exact hyf t ht
      · simp at ht; subst ht; exact .mk (small_i64 (by omega) (by omega)) (small_i64 (by omega) (by omega)) (by simp) (by simp) (by simp)
    · exact done (.mk k n s y) p1 (by omega) (by omega) (.mk hk hn hs hy hyf) hnv _ (by simp [row_mk])
  · refine loop_set (σ := Nat × Tm) (fun x => [(6, .c (.d (.int .i64 x.1)))]) (fun _ => H.set i (Rd c p1)) (fun x => [.cells [.d (.int .i64 k), .d (.int .i64 n), .d (.str s), .d (.sl (l.map Tm.row))], .cells [.d (.int .i64 0), .d (.int .i64 0), .d (.str []), .full []], .cells [.d (.int .i64 k), .d (.int .i64 n), .d (.str s), .d (.sl (l.map Tm.row))], .cells [.d (.int .i64 k), .d (.int .i64 n), .d (.str s), .own (.l 5) l.length (l.map Tm.row)], .cells [.d (.int .i64 k), .d (.int .i64 n), .d (.str s), .own (.l 5) l.length (l.map Tm.row)], .grow l.length 4, .cells (if x.1 = 0 then [.d (.int .i64 k), .d (.int .i64 n), .d (.str s), .own (.l 5) l.length (l.map Tm.row)] else x.2.row.map .d)])
      (fun x => x.1 ≤ 30 ∧ x.2.fits ∧ (x.1 = 0 → x.2 = .mk k n s l) ∧ NV x.2) (fun x => 30 - x.1) (0, Tm.mk k n s l) rfl ⟨by omega, .mk hk hn hs hl hkids, fun _ => rfl, hnv⟩ ?_
    rintro ⟨j, u⟩ ⟨hj, hu, hj0, huv⟩
    simp only at hj hu hj0 huv
    have hadd : inR .i64 ((j : Int) + 1) := small_i64 (by omega) (by omega)
    have hone : (Tm.mk 3 0 [115] [u]).fits := .mk (small_i64 (by omega) (by omega)) (small_i64 (by omega) (by omega)) (by simp) (by simp) (by simpa using hu)
    have hst := struct_calls [115] [u] (by simp)
    simp only [List.map_cons, List.map_nil] at hst
    by_cases hz : j = 0
    · subst hz
      have hu := hj0 rfl
      subst hu
      have h1 : inR .i64 1 := small_i64 (by omega) (by omega)
      simp -implicitDefEqProofs [setAll, hf0, go_sem, -List.set_cons_succ, -List.set_cons_zero]
      rw [row_mk] at hst
      refine qcall_pure hst (hf1 _) (by simp [A.re, re_d]) ?_
      simp -implicitDefEqProofs [hf0, h1, row_len, take_row, go_sem, -List.set_cons_succ, -List.set_cons_zero]
      exact loop_back (1, Tm.mk 3 0 [115] [Tm.mk k n s l]) (by simp [setAll]) ⟨by simp, hone, fun h => by simp at h, by simp [NV, varN, Tm.s]⟩ (by show 30 - 1 < 30 - 0; omega)
    · simp -implicitDefEqProofs [setAll, hf0, hz, hadd, row_len, take_row, toDs_map, go_sem, -List.set_cons_succ, -List.set_cons_zero]
      refine ⟨fun hlt => ?_, fun hge => ?_⟩
      · refine qcall_pure hst (hf1 _) (by simp [A.re, re_d, row_len]) ?_
        simp -implicitDefEqProofs [hf0, hadd, row_len, take_row, go_sem, -List.set_cons_succ, -List.set_cons_zero]
        exact loop_back (j + 1, Tm.mk 3 0 [115] [u]) (by simp [setAll, row_len]) ⟨by show j + 1 ≤ 30; omega, hone, fun h => by simp at h, by simp [NV, varN, Tm.s]⟩ (by show 30 - (j + 1) < 30 - j; omega)
      · simp [thaw_d, fits_map]
        exact done u p1 (by omega) (by omega) hu huv _ rfl
  · exact done (.mk k n s l) p1 (by omega) (by omega) (.mk hk hn hs hl hkids) hnv _ (by simp [row_mk])
def progTexts : List (List UInt8) := [[97, 112, 112, 40, 91, 93, 44, 65, 44, 65, 41, 46, 10, 97, 112, 112, 40, 91, 65, 124, 66, 93, 44, 67, 44, 91, 65, 124, 68, 93, 41, 58, 45, 97, 112, 112, 40, 66, 44, 67, 44, 68, 41, 46, 10], [109, 101, 109, 40, 65, 44, 91, 65, 124, 66, 93, 41, 46, 10, 109, 101, 109, 40, 65, 44, 91, 66, 124, 67, 93, 41, 58, 45, 109, 101, 109, 40, 65, 44, 67, 41, 46, 10], [112, 40, 49, 41, 46, 10, 112, 40, 50, 41, 46, 10, 112, 40, 51, 41, 46, 10, 113, 40, 65, 41, 58, 45, 112, 40, 65, 41, 44, 65, 62, 49, 44, 33, 46, 10, 114, 40, 65, 44, 66, 41, 58, 45, 112, 40, 65, 41, 44, 112, 40, 66, 41, 46, 10], [108, 101, 110, 40, 91, 93, 44, 48, 41, 46, 10, 108, 101, 110, 40, 91, 65, 124, 66, 93, 44, 67, 41, 58, 45, 108, 101, 110, 40, 66, 44, 68, 41, 44, 67, 32, 105, 115, 32, 68, 43, 49, 46, 10], [109, 97, 120, 40, 65, 44, 66, 44, 65, 41, 58, 45, 65, 62, 61, 66, 44, 33, 46, 10, 109, 97, 120, 40, 65, 44, 66, 44, 66, 41, 46, 10], [101, 40, 97, 44, 98, 41, 46, 10, 101, 40, 98, 44, 99, 41, 46, 10, 101, 40, 99, 44, 100, 41, 46, 10, 116, 40, 65, 44, 66, 41, 58, 45, 101, 40, 65, 44, 66, 41, 46, 10, 116, 40, 65, 44, 66, 41, 58, 45, 101, 40, 65, 44, 67, 41, 44, 116, 40, 67, 44, 66, 41, 46, 10], [108, 111, 111, 112, 58, 45, 108, 111, 111, 112, 46, 10, 111, 107, 46, 10], [102, 97, 99, 40, 48, 44, 49, 41, 58, 45, 33, 46, 10, 102, 97, 99, 40, 65, 44, 66, 41, 58, 45, 65, 62, 48, 44, 67, 32, 105, 115, 32, 65, 45, 49, 44, 102, 97, 99, 40, 67, 44, 68, 41, 44, 66, 32, 105, 115, 32, 65, 42, 68, 46, 10], [115, 40, 65, 41, 58, 45, 65, 61, 102, 40, 66, 41, 44, 97, 114, 103, 40, 49, 44, 65, 44, 66, 41, 44, 66, 61, 49, 46, 10, 115, 40, 65, 41, 58, 45, 118, 97, 114, 40, 65, 41, 44, 65, 61, 110, 111, 110, 101, 46, 10], [114, 101, 118, 40, 91, 93, 44, 65, 44, 65, 41, 46, 10, 114, 101, 118, 40, 91, 65, 124, 66, 93, 44, 67, 44, 68, 41, 58, 45, 114, 101, 118, 40, 66, 44, 91, 65, 124, 67, 93, 44, 68, 41, 46, 10], [98, 97, 100, 40, 65, 41, 58, 45, 66, 32, 105, 115, 32, 65, 43, 102, 111, 111, 44, 67, 61, 66, 46, 10, 98, 105, 103, 40, 65, 41, 58, 45, 65, 32, 105, 115, 32, 57, 57, 57, 43, 49, 46, 10, 117, 110, 40, 65, 41, 58, 45, 110, 111, 115, 117, 99, 104, 40, 65, 41, 46, 10]]
theorem texts_calls (H : Heap) : ACalls Tryz.prog 51 [] H (fun r H' => H' = H ∧ r = .c (.d (.sl (progTexts.map strRow)))) := by
  refine acalls Tryz.func51 (by kernel_rfl) ac51_ok fun hf => ?_
  simp -implicitDefEqProofs [ac51, progTexts, strRow, go_sem, -List.set_cons_succ, -List.set_cons_zero]
theorem linesR_fits : ∀ (L : List (List UInt8)), (∀ l ∈ L, l.length ≤ 1000000) → ∀ p, linesR Tm.wr L = some p → ∀ c ∈ p, c.fits ∧ c.validB = true
  | [], _, p, h => by cases h; simp
  | [a], _, p, h => by cases h; simp
  | a :: b :: L, hl, p, h => by
    rw [linesR_cons] at h
    cases hc : clauseR Tm.wr a with
    | none => rw [hc] at h; cases h
    | some c =>
      cases hr : linesR Tm.wr (b :: L) with
      | none => rw [hc, hr] at h; cases h
      | some q =>
        rw [hc, hr] at h
        cases h
        intro d hd
        rcases List.mem_cons.1 hd with rfl | hd
        · exact clauseR_fits a (hl a (by simp)) hc
        · exact linesR_fits (b :: L) (fun l hm => hl l (by simp [List.mem_cons.1 hm])) q hr d hd
theorem progR_fits (s : List UInt8) (hs : s.length ≤ 1000000) : ∀ c ∈ (progR Tm.wr s).1, c.fits ∧ c.validB = true := by
  unfold progR
  split
  · simp
  · cases hr : linesR Tm.wr (cutAt 10 s) with
    | none => simp
    | some p =>
      exact linesR_fits _ (fun l hl => by have := cut_mem 10 s l hl; omega) p hr
theorem progs_len : (progTexts.map fun t => (progR Tm.wr3 t).1.length) = [2, 2, 5, 2, 2, 5, 2, 2, 2, 2, 3] := by kernel_rfl
theorem prog_len {m : Nat} (h : m < progTexts.length) : 1 ≤ (progR Tm.wr progTexts[m]).1.length ∧ (progR Tm.wr progTexts[m]).1.length ≤ 5 := by
  rw [← progR_eq]
  have h1 : ((progTexts.map fun t => (progR Tm.wr3 t).1.length)[m]?) = some (progR Tm.wr3 progTexts[m]).1.length := by simp [h]
  rw [progs_len] at h1
  have h2 := List.mem_of_getElem? h1
  have key : ∀ x ∈ [2, 2, 5, 2, 2, 5, 2, 2, 2, 2, 3], 1 ≤ x ∧ x ≤ 5 := by decide
  exact key _ h2
theorem progs_vok : (progTexts.map fun t => (progR Tm.wr3 t).1.all fun c => c.body.all fun u => (!decide (u.s = varN) || decide (u.kids.length = 1))) = List.replicate 11 true := by kernel_rfl
theorem prog_vok {m : Nat} (h : m < progTexts.length) : ∀ c ∈ (progR Tm.wr progTexts[m]).1, ∀ u ∈ c.body, BV u := by
  rw [← progR_eq]
  have h1 : ((progTexts.map fun t => (progR Tm.wr3 t).1.all fun c => c.body.all fun u => (!decide (u.s = varN) || decide (u.kids.length = 1)))[m]?) = some ((progR Tm.wr3 progTexts[m]).1.all fun c => c.body.all fun u => (!decide (u.s = varN) || decide (u.kids.length = 1))) := by simp [h]
  rw [progs_vok] at h1
  have h2 := List.mem_of_getElem? h1
  have h3 := List.eq_of_mem_replicate h2
  intro c hc u hu e
  have h4 := List.all_eq_true.1 (List.all_eq_true.1 h3 c hc) u hu
  simpa [e] using h4
/-- a clause, somewhere -/
def ClR (n : Nat) (r : A) : Prop := ∃ c : Cl, r = .agg (c.row.map .d) ∧ c.fits ∧ c.body.length ≤ n ∧ ∀ u ∈ c.body, BV u
theorem ClR.re {m n : Nat} {r : A} (h : ClR m r) : A.re n r = r := by
  obtain ⟨c, rfl, _⟩ := h
  simp [A.re, re_d]
def PgR (r : A) : Prop := ∃ p : List Cl, r = .c (.d (.sl (p.map Cl.row))) ∧ 1 ≤ p.length ∧ p.length ≤ 5 ∧ ∀ c ∈ p, (c.fits ∧ c.validB = true) ∧ ∀ u ∈ c.body, BV u
theorem PgR.re {n : Nat} {r : A} (h : PgR r) : A.re n r = r := by
  obtain ⟨l, rfl, _⟩ := h
  rfl
theorem program_draws : Draws 38 [] 1 PgR := fun c p H i hc hp hp1 hi => by
  refine acalls Tryz.func38 (by kernel_rfl) ac38_ok fun hf => ?_
  simp only [List.length_set] at hf
  have hf0 : ∀ q, Obs.fits H.length 0 (H.set i (Rd c q)) := fun q => fits_reset (b := Rd c q) hf ⟨trivial, trivial, trivial⟩
  have hf1 : ∀ q, Obs.fits (H.set i (Rd c q)).length 0 (H.set i (Rd c q)) := fun q => by simpa using hf0 q
  have hql : progTexts.length = 11 := rfl
  have h11 : inR .i64 (11 : Int) := small_i64 (by omega) (by omega)
  simp -implicitDefEqProofs [ac38, hf0, go_sem, -List.set_cons_succ, -List.set_cons_zero]
  refine qcall_pure texts_calls (hf1 _) rfl ?_
  simp -implicitDefEqProofs [hql, h11, hf0, go_sem, -List.set_cons_succ, -List.set_cons_zero]
  refine call_drawE (pick_draws 11 (by omega)) hc (by omega) (by omega) hi (by simp [Ob.re, C.re]) (fun r => IntIn.re) (hf0 _) ?_
  rintro _ p1 ⟨m, rfl, m0, m1⟩ h1 h2
  have hmlt : m.toNat < progTexts.length := by rw [hql]; omega
  have hql2 : (progTexts[m.toNat]).length ≤ 1000000 := by
    have : ∀ q ∈ progTexts, q.length ≤ 1000 := by decide
    have := this _ (List.getElem_mem hmlt)
    omega
  obtain ⟨g1, g2⟩ := prog_len hmlt
  have g3 := fun c hc => And.intro (progR_fits _ hql2 c hc) (prog_vok hmlt c hc)
  simp -implicitDefEqProofs [hf0, go_sem, -List.set_cons_succ, -List.set_cons_zero]
  refine row_int [.str progTexts[m.toNat]] m0 (by simp [hmlt, strRow]) rfl ?_
  simp -implicitDefEqProofs [hf0, go_sem, -List.set_cons_succ, -List.set_cons_zero]
  refine qcall_pure (ppSpec_calls progTexts[m.toNat] hql2) (hf1 _) (by simp [progA, A.re, A.res, C.re]) ?_
  simp -implicitDefEqProofs [progA, hf0, go_sem, -List.set_cons_succ, -List.set_cons_zero]
  exact ⟨⟨_, rfl, g1, g2, g3⟩, p1, h1, h2, rfl⟩
theorem clCopy_own (c : Cl) (hc : c.fits) (H : Heap) : ACalls Tryz.prog 83 [.agg (c.row.map .d)] H (fun r H' =>
    H' = H ++ [.cells (c.row.map .d), .cells [.d (.int .i64 c.head.k), .d (.int .i64 c.head.n), .d (.str c.head.s), .d (.sl (c.head.kids.map Tm.row)), .own (.e (H.length + 3)) c.body.length (c.body.map Tm.row)], .cells [.d (.int .i64 c.head.k), .d (.int .i64 c.head.n), .d (.str c.head.s), .d (.sl (c.head.kids.map Tm.row)), .own (.e (H.length + 3)) c.body.length (c.body.map Tm.row)], .grow c.body.length 4] ∧
    r = .agg [.d (.int .i64 c.head.k), .d (.int .i64 c.head.n), .d (.str c.head.s), .d (.sl (c.head.kids.map Tm.row)), .own (.e (H.length + 3)) c.body.length (c.body.map Tm.row)]) := by
  obtain ⟨h, b⟩ := c
  obtain ⟨hh, hl, hb⟩ := hc
  simp only at hh hl hb
  have c1 := copy_calls h hh
  rw [row_eq] at c1
  simp only [List.map_cons, List.map_nil] at c1
  have hbl : inR .i64 (b.length : Int) := small_i64 (by omega) (by omega)
  refine acallsK Tryz.func83 (by kernel_rfl) ac83_ok fun hf => ?_
  simp -implicitDefEqProofs [ac83, Cl.row, hf, go_sem, -List.set_cons_succ, -List.set_cons_zero]
  refine qcall_pure c1 hf (by simp [A.re, C.re]) ?_
  simp -implicitDefEqProofs [hf, go_sem, -List.set_cons_succ, -List.set_cons_zero]
  refine loop_enter (St.le_tokenC 2 4 4 rfl rfl) ?_
  refine loop_set (σ := Nat) (fun i => [(4, .c (.d (.int .i64 i)))]) (fun _ => H) (fun i => [.cells [.d (.int .i64 h.k), .d (.int .i64 h.n), .d (.str h.s), .d (.sl (h.kids.map Tm.row)), .d (.sl (b.map Tm.row))], .cells [.d (.int .i64 0), .d (.int .i64 0), .d (.str []), .full [], .full []], .cells [.d (.int .i64 h.k), .d (.int .i64 h.n), .d (.str h.s), .d (.sl (h.kids.map Tm.row)), .own (.l 3) i ((b.map Tm.row).take i)], .grow i 4])
    (fun i => i ≤ b.length) (fun i => b.length - i) 0 rfl (Nat.zero_le _) ?_
  intro i hi
  simp -implicitDefEqProofs [setAll, hbl, go_sem, -List.set_cons_succ, -List.set_cons_zero]
  refine ⟨fun hlt => ?_, fun hge => ?_⟩
  · have hadd : inR .i64 ((i : Int) + 1) := small_i64 (by omega) (by omega)
    refine row_of hlt (row_len _) ?_
    simp -implicitDefEqProofs [row_len, take_row, pure_d, re_d, hf, go_sem, -List.set_cons_succ, -List.set_cons_zero]
    refine qcall_pure (copy_calls b[i] (hb _ (List.getElem_mem hlt))) hf (by simp [A.re, re_d]) ?_
    simp -implicitDefEqProofs [row_len, toDs_map, hadd, hf, Nat.min_eq_left hi, go_sem, -List.set_cons_succ, -List.set_cons_zero]
    refine ⟨fun r hr => allLen_map row_len r (List.mem_of_mem_take hr), by unfold maxApp; omega, ?_⟩
    refine loop_back (i + 1) ?_ hlt (by show b.length - (i + 1) < b.length - i; omega)
    simp [setAll, take_map_succ hlt]
  · have hil : i = b.length := by omega
    subst hil
    rw [show (b.map Tm.row).take b.length = b.map Tm.row from List.take_of_length_le (by simp)]
    simp -implicitDefEqProofs [hf, go_sem, -List.set_cons_succ, -List.set_cons_zero]
    refine finK_ret _ ⟨trivial, trivial⟩ rfl ?_
    simp [Ob.re, C.re, A.re, Ref.re]
/-- a clause that is drawn -/
theorem mutC_draws (c0 : Cl) (h0 : c0.fits) (hb7 : c0.body.length ≤ 900) (hbv : ∀ u ∈ c0.body, BV u) : Draws 60 [.agg (c0.row.map .d)] 1284 (ClR 1000) := fun c p H i hc hp hp1 hi => by
  obtain ⟨⟨k, n, s, l⟩, b⟩ := c0
  refine acalls Tryz.func60 (by kernel_rfl) ac60_ok fun hf => ?_
  simp only [List.length_set] at hf
  have hf0 : ∀ q, Obs.fits H.length 0 (H.set i (Rd c q)) := fun q => fits_reset (b := Rd c q) hf ⟨trivial, trivial, trivial⟩
  have hf1 : ∀ q, Obs.fits (H.set i (Rd c q)).length 0 (H.set i (Rd c q)) := fun q => by simpa using hf0 q
  have hcopy := clCopy_own _ h0
  obtain ⟨hh, hbl, hbf⟩ := h0
  simp only at hh hbl hbf hb7 hbv
  have hhf := hh
  obtain ⟨hk, hn, hs, hl, hkids⟩ := hh
  simp only [Cl.row, Tm.k, Tm.n, Tm.s, Tm.kids, List.map_cons, List.map_nil] at hcopy ⊢
  simp -implicitDefEqProofs [ac60, hf0, go_sem, -List.set_cons_succ, -List.set_cons_zero]
  have done : ∀ (d : Cl) (q : Int), p ≤ q → q ≤ p + 1284 → d.fits → d.body.length ≤ 1000 → (∀ u ∈ d.body, BV u) → ∀ r, r = .agg (d.row.map .d) → Drew (ClR 1000) 1284 c p H i r (H.set i (Rd c q)) := fun d q a1 a2 a3 a4 a5 r hr => ⟨⟨d, hr, a3, a4, a5⟩, q, a1, a2, rfl⟩
  refine (hcopy _).mono fun r H' ⟨g1, g2⟩ => ⟨H.set i (Rd c p), [.cells [.d (.int .i64 k), .d (.int .i64 n), .d (.str s), .d (.sl (l.map Tm.row)), .d (.sl (b.map Tm.row))], .cells [.d (.int .i64 0), .d (.int .i64 0), .d (.str []), .full [], .full []], .cells [.d (.int .i64 k), .d (.int .i64 n), .d (.str s), .d (.sl (l.map Tm.row)), .d (.sl (b.map Tm.row))], .cells [.d (.int .i64 k), .d (.int .i64 n), .d (.str s), .d (.sl (l.map Tm.row)), .own (.l 5) b.length (b.map Tm.row)], .cells [.d (.int .i64 k), .d (.int .i64 n), .d (.str s), .d (.sl (l.map Tm.row)), .own (.l 5) b.length (b.map Tm.row)], .grow b.length 4],
    .agg [.d (.int .i64 k), .d (.int .i64 n), .d (.str s), .d (.sl (l.map Tm.row)), .own (.l 5) b.length (b.map Tm.row)], by rw [g1]; simp [Ob.re, C.re, Ref.re], by simp, by simp, by simpa using hf0 p, by rw [g2]; simp [A.re, C.re, Ref.re], ?_⟩
  clear hcopy
  simp -implicitDefEqProofs [hf0, go_sem, -List.set_cons_succ, -List.set_cons_zero]
  refine call_drawE (pick_draws 40 (by omega)) hc (by omega) (by omega) hi (by simp [Ob.re, C.re, Ref.re]) (fun r => IntIn.re) (hf0 _) ?_
  rintro _ p1 ⟨m, rfl, m0, m1⟩ h1 h2
  simp -implicitDefEqProofs [hf0, go_sem, -List.set_cons_succ, -List.set_cons_zero]
  refine ⟨fun _ => ?_, fun _ => ⟨fun _ => ?_, fun _ => ⟨fun _ => ?_, fun _ => ⟨fun _ => ?_, fun _ => ?_⟩⟩⟩⟩
  · refine call_drawE someN_draws hc (by omega) (by omega) hi (by simp [Ob.re, C.re]) (fun r => TmP.re) (hf0 _) ?_
    rintro _ p2 ⟨t, rfl, ht, htv⟩ h3 h4
    refine ⟨LocSame.refl _, ?_⟩
    simp -implicitDefEqProofs [pure_d, re_d, hf0, go_sem, -List.set_cons_succ, -List.set_cons_zero]
    refine call_drawE (mutN_draws t ht htv) hc (by omega) (by omega) hi (by simp [Ob.re, C.re, Ref.re]) (fun r => TmP.re) (hf0 _) ?_
    rintro _ p3 ⟨u, rfl, hu, huv⟩ h5 h6
    refine ⟨LocSame.refl _, ?_⟩
    obtain ⟨k2, n2, s2, l2⟩ := u
    simp -implicitDefEqProofs [row_mk, hf0, go_sem, -List.set_cons_succ, -List.set_cons_zero]
    exact done ⟨.mk k2 n2 s2 l2, b⟩ p3 (by omega) (by omega) ⟨hu, hbl, hbf⟩ (by show b.length ≤ 1000; omega) hbv _ (by simp [Cl.row, Tm.k, Tm.n, Tm.s, Tm.kids])
  · refine call_drawE someN_draws hc (by omega) (by omega) hi (by simp [Ob.re, C.re]) (fun r => TmP.re) (hf0 _) ?_
    rintro _ p2 ⟨t, rfl, ht, htv⟩ h3 h4
    refine ⟨LocSame.refl _, ?_⟩
    simp -implicitDefEqProofs [pure_d, re_d, hf0, go_sem, -List.set_cons_succ, -List.set_cons_zero]
    refine call_drawE (mutN_draws t ht htv) hc (by omega) (by omega) hi (by simp [Ob.re, C.re, Ref.re]) (fun r => TmP.re) (hf0 _) ?_
    rintro _ p3 ⟨u, rfl, hu, huv⟩ h5 h6
    refine ⟨LocSame.refl _, ?_⟩
    simp -implicitDefEqProofs [row_len, take_row, toDs_map, hf0, go_sem, -List.set_cons_succ, -List.set_cons_zero]
    refine ⟨allLen_map row_len, by unfold maxApp; omega, ?_⟩
    exact done ⟨.mk k n s l, b ++ [u]⟩ p3 (by omega) (by omega) ⟨hhf, by show (b ++ [u]).length ≤ 1048576; simp; omega, fun x hx => by
      rcases List.mem_append.1 hx with hx | hx
      · exact hbf x hx
      · simp at hx; subst hx; exact hu⟩ (by show (b ++ [u]).length ≤ 1000; simp; omega) (fun x hx => by
      rcases List.mem_append.1 hx with hx | hx
      · exact hbv x hx
      · simp at hx; subst hx; exact huv.bv) _ (by simp [Cl.row, Tm.k, Tm.n, Tm.s, Tm.kids])
  · refine loop_set (σ := List Tm) (fun _ => []) (fun _ => H.set i (Rd c p1)) (fun y => [.cells [.d (.int .i64 k), .d (.int .i64 n), .d (.str s), .d (.sl (l.map Tm.row)), .d (.sl (b.map Tm.row))], .cells [.d (.int .i64 0), .d (.int .i64 0), .d (.str []), .full [], .full []], .cells [.d (.int .i64 k), .d (.int .i64 n), .d (.str s), .d (.sl (l.map Tm.row)), .d (.sl (b.map Tm.row))], .cells [.d (.int .i64 k), .d (.int .i64 n), .d (.str s), .d (.sl (l.map Tm.row)), .own (.l 5) b.length (b.map Tm.row)], .cells [.d (.int .i64 k), .d (.int .i64 n), .d (.str s), .d (.sl (l.map Tm.row)), .own (.l 5) b.length (b.map Tm.row)], .grow y.length 4, .cells [.d (.int .i64 k), .d (.int .i64 n), .d (.str s), .d (.sl (l.map Tm.row)), .own (.l 5) y.length (y.map Tm.row)]])
      (fun y => y.length ≤ 900 ∧ (∀ t ∈ y, t.fits) ∧ ∀ t ∈ y, BV t) (fun y => 7 - y.length) b rfl ⟨hb7, hbf, hbv⟩ ?_
    rintro y ⟨hy, hyf, hyv⟩
    have hly : inR .i64 (y.length : Int) := small_i64 (by omega) (by omega)
    simp -implicitDefEqProofs [setAll, hf0, hly, go_sem, -List.set_cons_succ, -List.set_cons_zero]
    refine ⟨fun hlt => ?_, fun hge => ?_⟩
    · have hst := struct_calls [116, 114, 117, 101] [] (by simp)
      simp only [List.map_nil] at hst
      refine qcall_pure hst (hf1 _) (by simp [A.re, re_d]) ?_
      simp -implicitDefEqProofs [hf0, row_len, take_row, toDs_map, go_sem, -List.set_cons_succ, -List.set_cons_zero]
      refine ⟨allLen_map row_len, by unfold maxApp; omega, ?_⟩
      refine loop_back (y ++ [Tm.mk 3 0 [116, 114, 117, 101] []]) (by first | rfl | simp [setAll]) ⟨by simp; omega, fun t ht => ?_, fun t ht => ?_⟩ (by show 7 - (y ++ [Tm.mk 3 0 [116, 114, 117, 101] []]).length < 7 - y.length; simp; omega)
      · rcases List.mem_append.1 ht with ht | ht
        · exact hyf t ht
        · simp at ht; subst ht; exact fits_st (by simp) (by simp) (by simp)
      · rcases List.mem_append.1 ht with ht | ht
        · exact hyv t ht
        · simp at ht; subst ht; intro e; simp [Tm.s, varN] at e
    · exact done ⟨.mk k n s l, y⟩ p1 (by omega) (by omega) ⟨hhf, by show y.length ≤ 1048576; omega, hyf⟩ (by show y.length ≤ 1000; omega) hyv _ (by simp [Cl.row, Tm.k, Tm.n, Tm.s, Tm.kids])
  · refine call_drawE (of_draws [[116, 114, 117, 101], [105, 115], [61], [109, 111, 100], [113]] (by decide)) hc (by omega) (by omega) hi (by simp [Ob.re, C.re]) (fun r ⟨n, _, hn⟩ => by subst hn; rfl) (hf0 _) ?_
    rintro _ p2 ⟨x, hx, rfl⟩ h3 h4
    have hx : x.length ≤ 1000 := by simp at hx; rcases hx with rfl | rfl | rfl | rfl | rfl <;> decide
    simp -implicitDefEqProofs [hf0, go_sem, -List.set_cons_succ, -List.set_cons_zero]
    exact done ⟨.mk k n x l, b⟩ p2 (by omega) (by omega) ⟨.mk hk hn (by omega) hl hkids, hbl, hbf⟩ (by show b.length ≤ 1000; omega) hbv _ (by simp [Cl.row, Tm.k, Tm.n, Tm.s, Tm.kids])
  · exact done ⟨.mk k n s l, b⟩ p1 (by omega) (by omega) ⟨hhf, hbl, hbf⟩ (by show b.length ≤ 1000; omega) hbv _ (by simp [Cl.row, Tm.k, Tm.n, Tm.s, Tm.kids])
def ClsR (n : Nat) (r : A) : Prop := ∃ p : List Cl, r = .c (.d (.sl (p.map Cl.row))) ∧ p.length ≤ n ∧ ∀ c ∈ p, c.fits ∧ ∀ u ∈ c.body, BV u
theorem ClsR.re {m n : Nat} {r : A} (h : ClsR m r) : A.re n r = r := by
  obtain ⟨l, rfl, _⟩ := h
  rfl
def clZ : Cl := ⟨.mk 3 0 [122] [], []⟩
theorem clZ_fits : clZ.fits := ⟨fits_st (by decide) (by simp) (by simp), by simp [clZ], by simp [clZ]⟩
theorem mutAllC_draws (l : List Cl) (hl : 1 ≤ l.length ∧ l.length ≤ 20) (hft : ∀ c ∈ l, (c.fits ∧ c.body.length ≤ 900) ∧ ∀ u ∈ c.body, BV u) : Draws 37 [.c (.d (.sl (l.map Cl.row)))] 26000 (ClsR 21) := fun c p H i hc hp hp1 hi => by
  refine acalls Tryz.func37 (by kernel_rfl) ac37_ok fun hf => ?_
  simp only [List.length_set] at hf
  have hf0 : ∀ q, Obs.fits H.length 0 (H.set i (Rd c q)) := fun q => fits_reset (b := Rd c q) hf ⟨trivial, trivial, trivial⟩
  have hf1 : ∀ q, Obs.fits (H.set i (Rd c q)).length 0 (H.set i (Rd c q)) := fun q => by simpa using hf0 q
  have hli : inR .i64 (l.length : Int) := small_i64 (by omega) (by omega)
  simp -implicitDefEqProofs [ac37, hf0, go_sem, -List.set_cons_succ, -List.set_cons_zero]
  refine loop_enter (St.le_token 5 5 rfl) ?_
  refine loop_set (σ := Nat × List Cl × Int) (fun x => [(6, .c (.d (.int .i64 x.1))), (5, .c (.own (.l 0) x.2.1.length (x.2.1.map Cl.row)))]) (fun x => H.set i (Rd c x.2.2)) (fun x => [.grow x.2.1.length 5])
    (fun x => x.1 ≤ l.length ∧ x.2.1.length = x.1 ∧ p ≤ x.2.2 ∧ x.2.2 ≤ p + 1284 * x.1 ∧ ∀ t ∈ x.2.1, t.fits ∧ ∀ u ∈ t.body, BV u) (fun x => l.length - x.1) (0, [], p) (by simp [setAll]) ⟨Nat.zero_le _, rfl, Int.le_refl _, by simp, by simp⟩ ?_
  rintro ⟨k, out, q⟩ ⟨hk, hol, hq1, hq2, hout⟩
  simp only at hk hol hq1 hq2 hout
  simp -implicitDefEqProofs [setAll, hli, hf0, go_sem, -List.set_cons_succ, -List.set_cons_zero]
  refine ⟨fun hlt => ?_, fun hge => ?_⟩
  · have hadd : inR .i64 ((k : Int) + 1) := small_i64 (by omega) (by omega)
    obtain ⟨⟨hcf, hcb⟩, hcv⟩ := hft _ (List.getElem_mem hlt)
    refine row_of hlt rfl ?_
    simp -implicitDefEqProofs [crow_len, hf0, go_sem, -List.set_cons_succ, -List.set_cons_zero]
    rw [show (l[k].row.map C.d).take 5 = l[k].row.map C.d from rfl]
    refine call_drawE (mutC_draws l[k] hcf hcb hcv) hc (by omega) (by omega) hi (by simp [Ob.re, C.re]) (fun r => ClR.re) (hf0 _) ?_
    rintro _ q2 ⟨t, rfl, ht, _, htv⟩ h5 h6
    simp -implicitDefEqProofs [hadd, crow_len, toDs_map, hf0, go_sem, -List.set_cons_succ, -List.set_cons_zero]
    refine ⟨allLen_map crow_len, by unfold maxApp; omega, ?_⟩
    refine loop_back (k + 1, out ++ [t], q2) (by simp [setAll]) ⟨hlt, by simp; omega, by dsimp only; omega, by dsimp only; omega, fun x hx => ?_⟩ (by show l.length - (k + 1) < l.length - k; omega)
    rcases List.mem_append.1 hx with hx | hx
    · exact hout x hx
    · simp at hx; subst hx; exact ⟨ht, htv⟩
  · refine call_drawE (pick_draws 30 (by omega)) hc (by omega) (by omega) hi (by simp [Ob.re, C.re]) (fun r => IntIn.re) (hf0 _) ?_
    rintro _ q2 ⟨m, rfl, m0, m1⟩ h5 h6
    have done : ∀ (out : List Cl), out.length ≤ 21 → (∀ t ∈ out, t.fits ∧ ∀ u ∈ t.body, BV u) → ∀ r, r = .c (.d (.sl (out.map Cl.row))) → Drew (ClsR 21) 26000 c p H i r (H.set i (Rd c q2)) := fun out a1 a2 r hr => ⟨⟨out, hr, a1, a2⟩, q2, by omega, by omega, rfl⟩
    simp -implicitDefEqProofs [hf0, go_sem, -List.set_cons_succ, -List.set_cons_zero]
    refine ⟨fun h0 => ?_, fun h0 => ⟨fun h1 => ⟨allLen_map crow_len, by omega, ?_⟩, fun h1 => done out (by omega) hout _ rfl⟩⟩
    · refine loop_set (σ := List Cl) (fun x => [(5, .c (.own (.l 0) x.length (x.map Cl.row)))]) (fun x => H.set i (Rd c q2)) (fun x => [.grow x.length 5]) (fun x => x.length ≤ 21 ∧ ∀ t ∈ x, t.fits ∧ ∀ u ∈ t.body, BV u) (fun x => 21 - x.length) out (by simp [setAll]) ⟨by omega, hout⟩ ?_
      rintro x ⟨hx, hxf⟩
      have hxl : inR .i64 (x.length : Int) := small_i64 (by omega) (by omega)
      simp -implicitDefEqProofs [setAll, hxl, hf0, go_sem, -List.set_cons_succ, -List.set_cons_zero]
      have hst := struct_calls [122] [] (by simp)
      simp only [List.map_nil] at hst
      refine ⟨fun hlt => ?_, fun hge => ?_⟩
      · refine qcall_pure hst (hf1 _) (by simp [A.re, re_d]) ?_
        simp -implicitDefEqProofs [row_mk, hf0, go_sem, -List.set_cons_succ, -List.set_cons_zero]
        refine ⟨allLen_map crow_len, by unfold maxApp; omega, ?_⟩
        refine loop_back (x ++ [clZ]) (by simp [setAll, clZ, Cl.row, Tm.k, Tm.n, Tm.s, Tm.kids]) ⟨by simp; omega, fun t ht => ?_⟩ (by show 21 - (x ++ [clZ]).length < 21 - x.length; simp; omega)
        rcases List.mem_append.1 ht with ht | ht
        · exact hxf t ht
        · simp at ht; subst ht; exact ⟨clZ_fits, by simp [clZ]⟩
      · exact done x hx hxf _ rfl
    · refine done out.tail (by simp; omega) (fun t ht => hout t (List.mem_of_mem_tail ht)) _ (by rw [List.map_tail])
theorem valid_body {c : Cl} (h : c.validB = true) : c.body.length ≤ 900 := by
  simp only [Cl.validB, Bool.and_eq_true, goalsB, decide_eq_true_eq] at h
  omega
theorem drawPv_calls (c : List UInt8) (hc : c.length ≤ 1048576) (H : Heap) : ACalls Tryz.prog 17 [.c (.d (.sl (bytesRows c)))] H (fun r H' => H' = H ∧ ClsR 21 r) := by
  refine acalls Tryz.func17 (by kernel_rfl) ac17_ok fun hf => ?_
  simp -implicitDefEqProofs [ac17, hf, go_sem, -List.set_cons_succ, -List.set_cons_zero]
  refine (open_calls c hc _).mono fun r H' ⟨h1, c', hc', h2⟩ => ⟨H, [Rd c' 0], .c (.ptr (.l 0) 0), by rw [h2]; simp [Rd, Ob.re, C.re], rfl, by simp, hf, by rw [h1]; simp [A.re, C.re, Ref.re], ?_⟩
  simp -implicitDefEqProofs [hf, go_sem, -List.set_cons_succ, -List.set_cons_zero]
  refine call_drawL (j := 0) program_draws hc' (by omega) (by omega) rfl (by simp [Rd, Ob.re, C.re]) (fun r => PgR.re) hf ?_
  rintro _ p1 ⟨l, rfl, hl1, hl5, hft⟩ h3 h4
  simp -implicitDefEqProofs [hf, go_sem, -List.set_cons_succ, -List.set_cons_zero]
  refine call_drawL (j := 0) (mutAllC_draws l ⟨hl1, by omega⟩ fun c hcm => ⟨⟨(hft c hcm).1.1, valid_body (hft c hcm).1.2⟩, (hft c hcm).2⟩) hc' (by omega) (by omega) rfl (by simp [Rd, Ob.re, C.re]) (fun r => ClsR.re) hf ?_
  rintro _ p2 ⟨q, rfl, hq, hqf⟩ h5 h6
  simp -implicitDefEqProofs [hf, go_sem, -List.set_cons_succ, -List.set_cons_zero]
  exact ⟨q, rfl, hq, hqf⟩
end Sv
namespace Sv
-- 70 loop.example/prologserver/spec.l6Queries params 0 ntmps 2
def ac70 : Cd := .seq (.region [oc 0 (.mv (.k (.c (.full []))))] [0])
 (.seq (.region [oc 1 (.buildSlice 1 24 [(.str [])] [(0,(.k (.c (.d (.str [97,112,112,40,65,44,66,44,91,49,44,50,93,41]))))),(1,(.k (.c (.d (.str [97,112,112,40,91,49,93,44,91,50,93,44,65,41]))))),(2,(.k (.c (.d (.str [109,101,109,40,65,44,91,97,44,98,44,99,93,41]))))),(3,(.k (.c (.d (.str [113,40,65,41]))))),(4,(.k (.c (.d (.str [114,40,65,44,66,41,44,65,62,66]))))),(5,(.k (.c (.d (.str [108,101,110,40,91,97,44,98,44,99,93,44,65,41]))))),(6,(.k (.c (.d (.str [109,97,120,40,51,44,50,44,65,41]))))),(7,(.k (.c (.d (.str [109,97,120,40,65,44,50,44,51,41]))))),(8,(.k (.c (.d (.str [116,40,97,44,65,41]))))),(9,(.k (.c (.d (.str [108,111,111,112]))))),(10,(.k (.c (.d (.str [111,107,44,33]))))),(11,(.k (.c (.d (.str [102,97,99,40,52,44,65,41]))))),(12,(.k (.c (.d (.str [115,40,65,41]))))),(13,(.k (.c (.d (.str [114,101,118,40,91,49,44,50,44,51,93,44,91,93,44,65,41]))))),(14,(.k (.c (.d (.str [98,97,100,40,65,41]))))),(15,(.k (.c (.d (.str [98,105,103,40,65,41]))))),(16,(.k (.c (.d (.str [117,110,40,65,41]))))),(17,(.k (.c (.d (.str [112,40,65,41,44,33,44,112,40,66,41]))))),(18,(.k (.c (.d (.str [65,61,102,40,66,44,67,41,44,97,114,103,40,49,44,65,44,68,41]))))),(19,(.k (.c (.d (.str [109,101,109,40,65,44,91,49,44,50,93,41,44,109,101,109,40,66,44,91,65,44,51,93,41]))))),(20,(.k (.c (.d (.str [65,32,105,115,32,51,47,47,48]))))),(21,(.k (.c (.d (.str [116,114,117,101]))))),(22,(.k (.c (.d (.str [109,101,109,40,65,44,66,41]))))),(23,(.k (.c (.d (.str [112,40,65,41,44,65,92,61,50])))))]),
 oa 0 1] [1])
 (.ret))
theorem ac70_ok : cFunc Tryz.prog [] [(0,[0],[]),(1,[1],[])] Tryz.f70 = some (ac70,[.tmp 0],2) := by kernel_rfl
-- 53 loop.example/prologserver/spec.l6Query params 1 ntmps 19
def ac53 : Cd := .seq (.region [oc 2 (.mv (.k (.c (.full []))))] [2])
 (.seq (.region [oc 6 (.qcall 70 []),
 oa 3 6] [6])
 (.seq (.region [oa 8 3,
 oa 9 0,
 oa 10 3,
 oc 11 (.len 1 (.t 10)),
 oc 12 (.call false 12 [(.t 9),(.t 11)]),
 oc 13 (.indexAddr 1 (.t 8) (.t 12)),
 oc 14 (.load none (.t 13)),
 oc 15 (.qcall 54 [(.t 14)]),
 oa 7 15,
 oc 16 (.extract 0 (.t 7)),
 oc 17 (.extract 1 (.t 7)),
 oa 4 16,
 oa 5 17] [0,3,5,7,8,9,10,11,12,13,14,15,16,17])
 (.seq (.region [oa 18 4,
 oa 2 18] [4,18])
 (.ret))))
theorem ac53_ok : cFunc Tryz.prog [1000054,1000070] [(0,[2],[]),(1,[6],[]),(2,[0,3,5,7,8,9,10,11,12,13,14,15,16,17],[]),(3,[4,18],[])] Tryz.f53 = some (ac53,[.tmp 2],19) := by kernel_rfl
-- 30 loop.example/prologserver/spec.l6MutateAll params 2 ntmps 34
-- loop head live: [0,1,5,6]
-- loop head live: [5]
def ac30 : Cd := .seq (.region [oc 4 (.mv (.k (.c (.full []))))] [4])
 (.seq (.region [oc 7 (.buildSlice 4 0 [(.int .i64 0),(.int .i64 0),(.str []),(.sl [])] []),
 oa 5 7] [7])
 (.seq (.seq (.region [oc 6 (.mv (ki 0))] [])
 (.block 0 (.loop (.seq (.seq (.region [oa 8 6,
 oa 9 1,
 oc 10 (.len 1 (.t 9)),
 oc 11 (.bin .lss (.t 8) (.t 10))] [8,9,10])
 (.cond (.t 11)
 (.skip)
 (.exit 0)))
 (.seq (.block 1 (.region [oa 14 5,
 oa 15 0,
 oa 16 1,
 oa 17 6,
 oc 18 (.indexAddr 4 (.t 16) (.t 17)),
 oc 19 (.load (some 4) (.t 18)),
 oc 20 (.call false 13 [(.t 15),(.t 19)]),
 oc 21 (.buildSlice 4 1 [(.int .i64 0),(.int .i64 0),(.str []),(.sl [])] [(0,(.t 20))]),
 oc 22 (.append false 4 (.t 14) (.t 21)),
 oa 5 22] [11,14,15,16,17,18,19,20,21,22]))
 (.region [oa 12 6,
 oc 13 (.bin .add (.t 12) (ki 1)),
 oa 6 13] [12,13]))))))
 (.seq (.seq (.region [oa 23 0,
 oc 24 (.call false 12 [(.t 23),(ki 30)]),
 oc 25 (.bin .eql (.t 24) (ki 0))] [0,23,24])
 (.cond (.t 25)
 (.block 2 (.loop (.seq (.seq (.region [oa 26 5,
 oc 27 (.len 1 (.t 26)),
 oc 28 (.bin .leq (.t 27) (ki 6))] [26,27])
 (.cond (.t 28)
 (.skip)
 (.exit 2)))
 (.block 3 (.region [oa 29 5,
 oc 30 (.qcall 35 [(.k (.c (.d (.str [116,114,117,101])))),(.k (.c (.full [])))]),
 oc 31 (.buildSlice 4 1 [(.int .i64 0),(.int .i64 0),(.str []),(.sl [])] [(0,(.t 30))]),
 oc 32 (.append false 4 (.t 29) (.t 31)),
 oa 5 32] [28,29,30,31,32])))))
 (.skip)))
 (.seq (.region [oa 33 5,
 oa 4 33] [5,25,33])
 (.ret)))))
theorem ac30_ok : cFunc Tryz.prog [1000035] [(0,[4],[]),(1,[7],[]),(2,[],[]),(3,[8,9,10],[]),(5,[11,14,15,16,17,18,19,20,21,22],[]),(4,[12,13],[]),(6,[0,23,24],[]),(7,[26,27],[]),(8,[28,29,30,31,32],[]),(9,[5,25,33],[])] Tryz.f30 = some (ac30,[.tmp 4],34) := by kernel_rfl
-- 28 loop.example/prologserver/spec.l6Pair params 1 ntmps 58
def ac28 : Cd := .seq (.region [oc 2 (.mv (.k (.c (.full [])))),
 oc 3 (.mv (.k (.c (.full []))))] [2,3])
 (.seq (.region [oc 11 (.qcall 51 []),
 oa 4 11] [11])
 (.seq (.region [oa 12 0,
 oa 13 4,
 oc 14 (.len 1 (.t 13)),
 oc 15 (.call false 12 [(.t 12),(.t 14)]),
 oa 5 15] [12,13,14,15])
 (.seq (.region [oa 17 4,
 oa 18 5,
 oc 19 (.indexAddr 1 (.t 17) (.t 18)),
 oc 20 (.load none (.t 19)),
 oc 21 (.qcall 52 [(.t 20)]),
 oa 16 21,
 oc 22 (.extract 0 (.t 16)),
 oc 23 (.extract 1 (.t 16)),
 oa 6 22,
 oa 7 23] [4,7,16,17,18,19,20,21,22,23])
 (.seq (.region [oc 24 (.buildSlice 1 3 [(.str [])] [(0,(.k (.c (.d (.str [97,112,112,40,65,44,66,44,91,49,44,50,93,41]))))),(1,(.k (.c (.d (.str [97,112,112,40,91,49,93,44,91,50,124,65,93,44,66,41]))))),(2,(.k (.c (.d (.str [97,112,112,40,65,44,91,49,93,44,65,41])))))]),
 oc 25 (.buildSlice 1 3 [(.str [])] [(0,(.k (.c (.d (.str [109,101,109,40,65,44,91,97,44,98,44,99,93,41]))))),(1,(.k (.c (.d (.str [109,101,109,40,65,44,91,49,44,50,93,41,44,109,101,109,40,66,44,91,65,44,51,93,41]))))),(2,(.k (.c (.d (.str [109,101,109,40,65,44,66,41])))))]),
 oc 26 (.buildSlice 1 4 [(.str [])] [(0,(.k (.c (.d (.str [113,40,65,41]))))),(1,(.k (.c (.d (.str [114,40,65,44,66,41,44,65,62,66]))))),(2,(.k (.c (.d (.str [112,40,65,41,44,33,44,112,40,66,41]))))),(3,(.k (.c (.d (.str [114,40,65,44,65,41])))))]),
 oc 27 (.buildSlice 1 2 [(.str [])] [(0,(.k (.c (.d (.str [108,101,110,40,91,97,44,98,44,99,93,44,65,41]))))),(1,(.k (.c (.d (.str [108,101,110,40,65,44,50,41])))))]),
 oc 28 (.buildSlice 1 3 [(.str [])] [(0,(.k (.c (.d (.str [109,97,120,40,51,44,50,44,65,41]))))),(1,(.k (.c (.d (.str [109,97,120,40,65,44,50,44,51,41]))))),(2,(.k (.c (.d (.str [109,97,120,40,49,44,50,44,65,41])))))]),
 oc 29 (.buildSlice 1 3 [(.str [])] [(0,(.k (.c (.d (.str [116,40,97,44,65,41]))))),(1,(.k (.c (.d (.str [116,40,65,44,100,41]))))),(2,(.k (.c (.d (.str [101,40,65,44,66,41])))))]),
 oc 30 (.buildSlice 1 3 [(.str [])] [(0,(.k (.c (.d (.str [108,111,111,112]))))),(1,(.k (.c (.d (.str [111,107,44,33]))))),(2,(.k (.c (.d (.str [111,107,44,108,111,111,112])))))]),
 oc 31 (.buildSlice 1 3 [(.str [])] [(0,(.k (.c (.d (.str [102,97,99,40,52,44,65,41]))))),(1,(.k (.c (.d (.str [102,97,99,40,48,44,65,41]))))),(2,(.k (.c (.d (.str [102,97,99,40,55,44,65,41])))))]),
 oc 32 (.buildSlice 1 2 [(.str [])] [(0,(.k (.c (.d (.str [115,40,65,41]))))),(1,(.k (.c (.d (.str [115,40,66,41,44,66,61,102,40,49,41])))))]),
 oc 33 (.buildSlice 1 2 [(.str [])] [(0,(.k (.c (.d (.str [114,101,118,40,91,49,44,50,44,51,93,44,91,93,44,65,41]))))),(1,(.k (.c (.d (.str [114,101,118,40,65,44,91,93,44,91,49,93,41])))))]),
 oc 34 (.buildSlice 1 3 [(.str [])] [(0,(.k (.c (.d (.str [98,97,100,40,65,41]))))),(1,(.k (.c (.d (.str [98,105,103,40,65,41]))))),(2,(.k (.c (.d (.str [117,110,40,65,41])))))]),
 oc 35 (.buildSlice 1 11 [(.sl [])] [(0,(.t 24)),(1,(.t 25)),(2,(.t 26)),(3,(.t 27)),(4,(.t 28)),(5,(.t 29)),(6,(.t 30)),(7,(.t 31)),(8,(.t 32)),(9,(.t 33)),(10,(.t 34))]),
 oa 36 5,
 oc 37 (.indexAddr 1 (.t 35) (.t 36)),
 oc 38 (.load none (.t 37)),
 oa 8 38] [5,24,25,26,27,28,29,30,31,32,33,34,35,36,37,38])
 (.seq (.seq (.region [oa 39 0,
 oc 40 (.call false 12 [(.t 39),(ki 5)]),
 oc 41 (.bin .eql (.t 40) (ki 0))] [39,40])
 (.cond (.t 41)
 (.seq (.region [oa 42 6,
 oa 43 0,
 oc 44 (.call false 53 [(.t 43)]),
 oa 2 42,
 oa 3 44] [0,6,8,41,42,43,44])
 (.ret))
 (.skip)))
 (.seq (.region [oa 46 8,
 oa 47 0,
 oa 48 8,
 oc 49 (.len 1 (.t 48)),
 oc 50 (.call false 12 [(.t 47),(.t 49)]),
 oc 51 (.indexAddr 1 (.t 46) (.t 50)),
 oc 52 (.load none (.t 51)),
 oc 53 (.qcall 54 [(.t 52)]),
 oa 45 53,
 oc 54 (.extract 0 (.t 45)),
 oc 55 (.extract 1 (.t 45)),
 oa 9 54,
 oa 10 55] [0,2,3,8,10,41,45,46,47,48,49,50,51,52,53,54,55])
 (.seq (.region [oa 56 6,
 oa 57 9,
 oa 2 56,
 oa 3 57] [6,9,56,57])
 (.ret))))))))
theorem ac28_ok : cFunc Tryz.prog [1000051,1000052,1000054] [(0,[2,3],[]),(1,[11],[]),(2,[12,13,14,15],[]),(3,[4,7,16,17,18,19,20,21,22,23],[]),(4,[5,24,25,26,27,28,29,30,31,32,33,34,35,36,37,38],[]),(5,[39,40],[]),(6,[0,6,8,41,42,43,44],[]),(7,[0,2,3,8,10,41,45,46,47,48,49,50,51,52,53,54,55],[]),(8,[6,9,56,57],[])] Tryz.f28 = some (ac28,[.tmp 2,.tmp 3],58) := by kernel_rfl
-- 10 loop.example/prologserver/spec.DrawAnswerGoals params 1 ntmps 46
def ac10 : Cd := .seq (.region [oc 2 (.mv (.k (.c (.full [])))),
 oc 3 (.alloc [(.full [])])] [2])
 (.seq (.region [oa 10 0,
 oc 11 (.call false 11 [(.t 10)]),
 oa 4 11] [0,10,11])
 (.seq (.region [oa 13 4,
 oc 14 (.call false 28 [(.t 13)]),
 oa 12 14,
 oc 15 (.extract 0 (.t 12)),
 oc 16 (.extract 1 (.t 12)),
 oa 5 15,
 oa 6 16] [12,13,14,15,16])
 (.seq (.region [oa 18 5,
 oa 19 6,
 oc 20 (.call false 29 [(.t 18),(.t 19),(ki 5),(ki 100)]),
 oa 17 20,
 oc 21 (.extract 0 (.t 17)),
 oc 22 (.extract 1 (.t 17)),
 oa 7 21,
 oa 8 22] [5,8,17,18,19,20,21,22])
 (.seq (.region [oa 23 4,
 oc 24 (.call false 14 [(.t 23),(ki 2)]),
 oc 25 (.buildSlice 4 1 [(.int .i64 0),(.int .i64 0),(.str []),(.sl [])] [(0,(.t 24))]),
 oc 26 (.build [(.full [])] [(0,1,(.t 25))]),
 oc 9 (.alloc [(.full [])]),
 ⟨none,.store 1 (.t 9) (.t 26),none⟩] [23,24,25,26])
 (.seq (.seq (.region [oa 27 7,
 oc 28 (.len 1 (.t 27)),
 oc 29 (.bin .gtr (.t 28) (ki 0)),
 oa 30 29,
 ⟨some 31,.mv (.t 4),some (30,true)⟩,
 ⟨some 32,.call false 12 [(.t 31),(ki 4)],some (30,true)⟩,
 ⟨some 33,.bin .gtr (.t 32) (ki 0),some (30,true)⟩,
 oc 34 (.pick (.t 30) (.t 33) (.k (.c (.d (.bool false)))))] [27,28,29,30,31,32,33])
 (.cond (.t 34)
 (.region [oa 35 7,
 oa 36 4,
 oa 37 7,
 oc 38 (.len 1 (.t 37)),
 oc 39 (.call false 12 [(.t 36),(.t 38)]),
 oc 40 (.indexAddr 1 (.t 35) (.t 39)),
 oc 41 (.load (some 1) (.t 40)),
 ⟨none,.store 1 (.t 9) (.t 41),none⟩] [7,34,35,36,37,38,39,40,41])
 (.skip)))
 (.seq (.region [oa 42 4,
 oa 43 6,
 oc 45 (.loadL false (some 1) (.t 9)),
 oc 44 (.callL false false 30 [(.t 42),(.t 43)]),
 oa 2 44,
 ⟨none,.store 1 (.t 3) (.t 45),none⟩] [4,6,7,9,34,42,43,44,45])
 (.ret)))))))
theorem ac10_ok : cFunc Tryz.prog [6000030,5000009] [(0,[2],[]),(1,[0,10,11],[]),(2,[12,13,14,15,16],[]),(3,[5,8,17,18,19,20,21,22],[]),(4,[23,24,25,26],[]),(5,[27,28,29,30,31,32,33],[]),(6,[7,34,35,36,37,38,39,40,41],[]),(7,[4,6,7,9,34,42,43,44,45],[0,1,3,2,4,5])] Tryz.f10 = some (ac10,[.tmp 2,.cell 3 (some 1)],46) := by kernel_rfl
def queries : List (List UInt8) := [[97, 112, 112, 40, 65, 44, 66, 44, 91, 49, 44, 50, 93, 41], [97, 112, 112, 40, 91, 49, 93, 44, 91, 50, 93, 44, 65, 41], [109, 101, 109, 40, 65, 44, 91, 97, 44, 98, 44, 99, 93, 41], [113, 40, 65, 41], [114, 40, 65, 44, 66, 41, 44, 65, 62, 66], [108, 101, 110, 40, 91, 97, 44, 98, 44, 99, 93, 44, 65, 41], [109, 97, 120, 40, 51, 44, 50, 44, 65, 41], [109, 97, 120, 40, 65, 44, 50, 44, 51, 41], [116, 40, 97, 44, 65, 41], [108, 111, 111, 112], [111, 107, 44, 33], [102, 97, 99, 40, 52, 44, 65, 41], [115, 40, 65, 41], [114, 101, 118, 40, 91, 49, 44, 50, 44, 51, 93, 44, 91, 93, 44, 65, 41], [98, 97, 100, 40, 65, 41], [98, 105, 103, 40, 65, 41], [117, 110, 40, 65, 41], [112, 40, 65, 41, 44, 33, 44, 112, 40, 66, 41], [65, 61, 102, 40, 66, 44, 67, 41, 44, 97, 114, 103, 40, 49, 44, 65, 44, 68, 41], [109, 101, 109, 40, 65, 44, 91, 49, 44, 50, 93, 41, 44, 109, 101, 109, 40, 66, 44, 91, 65, 44, 51, 93, 41], [65, 32, 105, 115, 32, 51, 47, 47, 48], [116, 114, 117, 101], [109, 101, 109, 40, 65, 44, 66, 41], [112, 40, 65, 41, 44, 65, 92, 61, 50]]
def TmsR (n : Nat) (r : A) : Prop := ∃ l : List Tm, r = .c (.d (.sl (l.map Tm.row))) ∧ l.length ≤ n ∧ ∀ t ∈ l, t.fits
theorem TmsR.re {m n : Nat} {r : A} (h : TmsR m r) : A.re n r = r := by
  obtain ⟨l, rfl, _⟩ := h
  rfl
theorem queries_calls (H : Heap) : ACalls Tryz.prog 70 [] H (fun r H' => H' = H ∧ r = .c (.d (.sl (queries.map strRow)))) := by
  refine acalls Tryz.func70 (by kernel_rfl) ac70_ok fun hf => ?_
  simp -implicitDefEqProofs [ac70, queries, strRow, go_sem, -List.set_cons_succ, -List.set_cons_zero]
/-- terms that may be searched for -/
def TmsZ (r : A) : Prop := ∃ l : List Tm, r = .c (.d (.sl (l.map Tm.row))) ∧ l.length ≤ 7 ∧ ∀ t ∈ l, Tz 26 t
theorem TmsZ.re {n : Nat} {r : A} (h : TmsZ r) : A.re n r = r := by
  obtain ⟨l, rfl, _⟩ := h
  rfl
theorem valid_tz {t : Tm} (h : t.valid = true) : Tz 26 t := by
  refine ⟨good_tn t (valid_good h), ?_⟩
  simp only [Tm.valid, Bool.and_eq_true, decide_eq_true_eq] at h
  have := sub_size t
  omega
theorem goals_tz {l : List Tm} (h : goalsB l = true) : l.length ≤ 6 ∧ ∀ t ∈ l, Tz 26 t := by
  simp only [goalsB, Bool.and_eq_true, decide_eq_true_eq, List.all_eq_true] at h
  refine ⟨h.1, fun t ht => valid_tz ?_⟩
  have := h.2 t ht
  simp only [Tm.goal, Bool.and_eq_true] at this
  exact this.1
theorem valid_clok {c : Cl} (h : c.validB = true) : ClOk c := by
  simp only [Cl.validB, Bool.and_eq_true] at h
  obtain ⟨h1, h2⟩ := goals_tz h.2
  exact ⟨valid_tz h.1.1, h1, h2⟩
theorem queryR_tz (s : List UInt8) : (queryR s).1.length ≤ 7 ∧ ∀ t ∈ (queryR s).1, Tz 26 t := by
  have key : (queryR s).1 = [] ∨ goalsB (queryR s).1 = true := by
    unfold queryR
    split
    · exact .inl rfl
    · cases hq : goalsR s 7 0 with
      | none => exact .inl rfl
      | some q =>
        obtain ⟨l, k⟩ := q
        simp only
        split
        · rename_i hc
          exact .inr (by first | exact hc.2 | (simp at hc; exact hc.2))
        · exact .inl rfl
  rcases key with h | h
  · rw [h]; exact ⟨by simp, by simp⟩
  · obtain ⟨h1, h2⟩ := goals_tz h
    exact ⟨by omega, h2⟩
theorem query_draws : Draws 53 [] 1 TmsZ := fun c p H i hc hp hp1 hi => by
  refine acalls Tryz.func53 (by kernel_rfl) ac53_ok fun hf => ?_
  simp only [List.length_set] at hf
  have hf0 : ∀ q, Obs.fits H.length 0 (H.set i (Rd c q)) := fun q => fits_reset (b := Rd c q) hf ⟨trivial, trivial, trivial⟩
  have hf1 : ∀ q, Obs.fits (H.set i (Rd c q)).length 0 (H.set i (Rd c q)) := fun q => by simpa using hf0 q
  have hql : queries.length = 24 := rfl
  have h24 : inR .i64 (24 : Int) := small_i64 (by omega) (by omega)
  simp -implicitDefEqProofs [ac53, hf0, go_sem, -List.set_cons_succ, -List.set_cons_zero]
  refine qcall_pure queries_calls (hf1 _) rfl ?_
  simp -implicitDefEqProofs [hql, h24, hf0, go_sem, -List.set_cons_succ, -List.set_cons_zero]
  refine call_drawE (pick_draws 24 (by omega)) hc (by omega) (by omega) hi (by simp [Ob.re, C.re]) (fun r => IntIn.re) (hf0 _) ?_
  rintro _ p1 ⟨m, rfl, m0, m1⟩ h1 h2
  have hmlt : m.toNat < queries.length := by rw [hql]; omega
  have hql2 : (queries[m.toNat]).length ≤ 1000000 := by
    have : ∀ q ∈ queries, q.length ≤ 1000 := by decide
    have := this _ (List.getElem_mem hmlt)
    omega
  obtain ⟨g1, g2⟩ := queryR_tz queries[m.toNat]
  simp -implicitDefEqProofs [hf0, go_sem, -List.set_cons_succ, -List.set_cons_zero]
  refine row_int [.str queries[m.toNat]] m0 (by simp [hmlt, strRow]) rfl ?_
  simp -implicitDefEqProofs [hf0, go_sem, -List.set_cons_succ, -List.set_cons_zero]
  refine qcall_pure (pqSpec_calls queries[m.toNat] hql2) (hf1 _) (by simp [A.re, A.res, C.re]) ?_
  simp -implicitDefEqProofs [hf0, go_sem, -List.set_cons_succ, -List.set_cons_zero]
  exact ⟨⟨_, rfl, g1, g2⟩, p1, h1, h2, rfl⟩
theorem mutateAll_draws (l : List Tm) (hl : l.length ≤ 7) (hft : ∀ t ∈ l, t.fits) : Draws 30 [.c (.d (.sl (l.map Tm.row)))] 15 (TmsR 7) := fun c p H i hc hp hp1 hi => by
  refine acalls Tryz.func30 (by kernel_rfl) ac30_ok fun hf => ?_
  simp only [List.length_set] at hf
  have hf0 : ∀ q, Obs.fits H.length 0 (H.set i (Rd c q)) := fun q => fits_reset (b := Rd c q) hf ⟨trivial, trivial, trivial⟩
  have hf1 : ∀ q, Obs.fits (H.set i (Rd c q)).length 0 (H.set i (Rd c q)) := fun q => by simpa using hf0 q
  have hli : inR .i64 (l.length : Int) := small_i64 (by omega) (by omega)
  simp -implicitDefEqProofs [ac30, hf0, go_sem, -List.set_cons_succ, -List.set_cons_zero]
  refine loop_enter (St.le_token 5 4 rfl) ?_
  refine loop_set (σ := Nat × List Tm × Int) (fun x => [(6, .c (.d (.int .i64 x.1))), (5, .c (.own (.l 0) x.2.1.length (x.2.1.map Tm.row)))]) (fun x => H.set i (Rd c x.2.2)) (fun x => [.grow x.2.1.length 4])
    (fun x => x.1 ≤ l.length ∧ x.2.1.length = x.1 ∧ p ≤ x.2.2 ∧ x.2.2 ≤ p + 2 * x.1 ∧ ∀ t ∈ x.2.1, t.fits) (fun x => l.length - x.1) (0, [], p) (by simp [setAll]) ⟨Nat.zero_le _, rfl, Int.le_refl _, by simp, by simp⟩ ?_
  rintro ⟨k, out, q⟩ ⟨hk, hol, hq1, hq2, hout⟩
  simp only at hk hol hq1 hq2 hout
  simp -implicitDefEqProofs [setAll, hli, hf0, go_sem, -List.set_cons_succ, -List.set_cons_zero]
  refine ⟨fun hlt => ?_, fun hge => ?_⟩
  · have hadd : inR .i64 ((k : Int) + 1) := small_i64 (by omega) (by omega)
    refine row_of hlt (row_len _) ?_
    simp -implicitDefEqProofs [row_len, take_row, pure_d, re_d, hf0, go_sem, -List.set_cons_succ, -List.set_cons_zero]
    refine call_drawE (l1Mutate_draws l[k] (hft _ (List.getElem_mem hlt))) hc (by omega) (by omega) hi (by simp [Ob.re, C.re]) (fun r => TmR.re) (hf0 _) ?_
    rintro _ q2 ⟨t, rfl, ht⟩ h5 h6
    simp -implicitDefEqProofs [hadd, row_len, take_row, toDs_map, hf0, go_sem, -List.set_cons_succ, -List.set_cons_zero]
    refine ⟨allLen_map row_len, by unfold maxApp; omega, ?_⟩
    refine loop_back (k + 1, out ++ [t], q2) (by simp [setAll]) ⟨hlt, by simp; omega, by dsimp only; omega, by dsimp only; omega, fun x hx => ?_⟩ (by show l.length - (k + 1) < l.length - k; omega)
    rcases List.mem_append.1 hx with hx | hx
    · exact hout x hx
    · simp at hx; subst hx; exact ht
  · refine call_drawE (pick_draws 30 (by omega)) hc (by omega) (by omega) hi (by simp [Ob.re, C.re]) (fun r => IntIn.re) (hf0 _) ?_
    rintro _ q2 ⟨m, rfl, m0, m1⟩ h5 h6
    have done : ∀ (out : List Tm), out.length ≤ 7 → (∀ t ∈ out, t.fits) → ∀ r, r = .c (.d (.sl (out.map Tm.row))) → Drew (TmsR 7) 15 c p H i r (H.set i (Rd c q2)) := fun out a1 a2 r hr => ⟨⟨out, hr, a1, a2⟩, q2, by omega, by omega, rfl⟩
    simp -implicitDefEqProofs [hf0, go_sem, -List.set_cons_succ, -List.set_cons_zero]
    refine ⟨fun h0 => ?_, fun h0 => ?_⟩
    · refine loop_set (σ := List Tm) (fun x => [(5, .c (.own (.l 0) x.length (x.map Tm.row)))]) (fun x => H.set i (Rd c q2)) (fun x => [.grow x.length 4]) (fun x => x.length ≤ 7 ∧ ∀ t ∈ x, t.fits) (fun x => 7 - x.length) out (by simp [setAll]) ⟨by omega, hout⟩ ?_
      rintro x ⟨hx, hxf⟩
      have hxl : inR .i64 (x.length : Int) := small_i64 (by omega) (by omega)
      simp -implicitDefEqProofs [setAll, hxl, hf0, go_sem, -List.set_cons_succ, -List.set_cons_zero]
      have hst := struct_calls [116, 114, 117, 101] [] (by simp)
      simp only [List.map_nil] at hst
      refine ⟨fun hlt => ?_, fun hge => ?_⟩
      · refine qcall_pure hst (hf1 _) (by simp [A.re, re_d]) ?_
        simp -implicitDefEqProofs [row_len, take_row, toDs_map, hf0, go_sem, -List.set_cons_succ, -List.set_cons_zero]
        refine ⟨allLen_map row_len, by unfold maxApp; omega, ?_⟩
        refine loop_back (x ++ [.mk 3 0 [116, 114, 117, 101] []]) (by simp [setAll]) ⟨by simp; omega, fun t ht => ?_⟩ (by show 7 - (x ++ [Tm.mk 3 0 [116, 114, 117, 101] []]).length < 7 - x.length; simp; omega)
        rcases List.mem_append.1 ht with ht | ht
        · exact hxf t ht
        · simp at ht; subst ht; exact fits_st (by simp) (by simp) (by simp)
      · exact done x hx hxf _ rfl
    · exact done out (by omega) hout _ rfl
/-- queries that fit the texts of programs -/
def fitsT : List (List (List UInt8)) := [[[97, 112, 112, 40, 65, 44, 66, 44, 91, 49, 44, 50, 93, 41], [97, 112, 112, 40, 91, 49, 93, 44, 91, 50, 124, 65, 93, 44, 66, 41], [97, 112, 112, 40, 65, 44, 91, 49, 93, 44, 65, 41]], [[109, 101, 109, 40, 65, 44, 91, 97, 44, 98, 44, 99, 93, 41], [109, 101, 109, 40, 65, 44, 91, 49, 44, 50, 93, 41, 44, 109, 101, 109, 40, 66, 44, 91, 65, 44, 51, 93, 41], [109, 101, 109, 40, 65, 44, 66, 41]], [[113, 40, 65, 41], [114, 40, 65, 44, 66, 41, 44, 65, 62, 66], [112, 40, 65, 41, 44, 33, 44, 112, 40, 66, 41], [114, 40, 65, 44, 65, 41]], [[108, 101, 110, 40, 91, 97, 44, 98, 44, 99, 93, 44, 65, 41], [108, 101, 110, 40, 65, 44, 50, 41]], [[109, 97, 120, 40, 51, 44, 50, 44, 65, 41], [109, 97, 120, 40, 65, 44, 50, 44, 51, 41], [109, 97, 120, 40, 49, 44, 50, 44, 65, 41]], [[116, 40, 97, 44, 65, 41], [116, 40, 65, 44, 100, 41], [101, 40, 65, 44, 66, 41]], [[108, 111, 111, 112], [111, 107, 44, 33], [111, 107, 44, 108, 111, 111, 112]], [[102, 97, 99, 40, 52, 44, 65, 41], [102, 97, 99, 40, 48, 44, 65, 41], [102, 97, 99, 40, 55, 44, 65, 41]], [[115, 40, 65, 41], [115, 40, 66, 41, 44, 66, 61, 102, 40, 49, 41]], [[114, 101, 118, 40, 91, 49, 44, 50, 44, 51, 93, 44, 91, 93, 44, 65, 41], [114, 101, 118, 40, 65, 44, 91, 93, 44, 91, 49, 93, 41]], [[98, 97, 100, 40, 65, 41], [98, 105, 103, 40, 65, 41], [117, 110, 40, 65, 41]]]
theorem fitsT_len : fitsT.length = 11 := rfl
theorem fitsT_all : ∀ l ∈ fitsT, 1 ≤ l.length ∧ l.length ≤ 4 ∧ ∀ s ∈ l, s.length ≤ 1000 := by decide
/-- a program and a query -/
def PairR (r : A) : Prop := ∃ (p : List Cl) (q : List Tm), r = .tup [.c (.d (.sl (p.map Cl.row))), .c (.d (.sl (q.map Tm.row)))] ∧ (p.length ≤ 100 ∧ ∀ x ∈ p, ClOk x) ∧ q.length ≤ 7 ∧ ∀ t ∈ q, Tz 26 t
theorem PairR.re {n : Nat} {r : A} (h : PairR r) : A.re n r = r := by
  obtain ⟨p, q, rfl, _⟩ := h
  rfl
set_option maxHeartbeats 1600000 in
theorem pair_draws : Draws 28 [] 3 PairR := fun c p H i hc hp hp1 hi => by
  refine acalls Tryz.func28 (by kernel_rfl) ac28_ok fun hf => ?_
  simp only [List.length_set] at hf
  have hf0 : ∀ q, Obs.fits H.length 0 (H.set i (Rd c q)) := fun q => fits_reset (b := Rd c q) hf ⟨trivial, trivial, trivial⟩
  have hf1 : ∀ q, Obs.fits (H.set i (Rd c q)).length 0 (H.set i (Rd c q)) := fun q => by simpa using hf0 q
  have hql : progTexts.length = 11 := rfl
  have h11 : inR .i64 (11 : Int) := small_i64 (by omega) (by omega)
  simp -implicitDefEqProofs [ac28, hf0, go_sem, -List.set_cons_succ, -List.set_cons_zero]
  refine qcall_pure texts_calls (hf1 _) rfl ?_
  simp -implicitDefEqProofs [hql, h11, hf0, go_sem, -List.set_cons_succ, -List.set_cons_zero]
  refine call_drawE (pick_draws 11 (by omega)) hc (by omega) (by omega) hi (by simp [Ob.re, C.re]) (fun r => IntIn.re) (hf0 _) ?_
  rintro _ p1 ⟨m, rfl, m0, m1⟩ h1 h2
  have hmlt : m.toNat < progTexts.length := by rw [hql]; omega
  have hmf : m.toNat < fitsT.length := by rw [fitsT_len]; omega
  have hql2 : (progTexts[m.toNat]).length ≤ 1000000 := by
    have : ∀ q ∈ progTexts, q.length ≤ 1000 := by decide
    have := this _ (List.getElem_mem hmlt)
    omega
  obtain ⟨g1, g2⟩ := prog_len hmlt
  have g3 := progR_fits _ hql2
  have hpok : ∀ x ∈ (progR Tm.wr progTexts[m.toNat]).1, ClOk x := fun x hx => valid_clok (g3 x hx).2
  simp -implicitDefEqProofs [hf0, go_sem, -List.set_cons_succ, -List.set_cons_zero]
  refine row_int [.str progTexts[m.toNat]] m0 (by simp [hmlt, strRow]; rfl) rfl ?_
  simp -implicitDefEqProofs [hf0, go_sem, -List.set_cons_succ, -List.set_cons_zero]
  refine qcall_pure (ppSpec_calls progTexts[m.toNat] hql2) (hf1 _) (by simp [progA, A.re, A.res, C.re]) ?_
  generalize (progR Tm.wr progTexts[m.toNat]) = PQ at g1 g2 hpok ⊢
  obtain ⟨pr, po⟩ := PQ
  simp only at g1 g2 hpok
  simp -implicitDefEqProofs [progA, hf0, go_sem, -List.set_cons_succ, -List.set_cons_zero]
  obtain ⟨q1, q2, q3⟩ := fitsT_all _ (List.getElem_mem hmf)
  refine row_int [.sl (fitsT[m.toNat].map strRow)] m0 (by show (fitsT.map fun l => [D.sl (l.map strRow)])[m.toNat]? = _; simp [hmf]) rfl ?_
  generalize fitsT[m.toNat] = fs at q1 q2 q3
  have hfs : inR .i64 (fs.length : Int) := small_i64 (by omega) (by omega)
  simp -implicitDefEqProofs [hf0, go_sem, -List.set_cons_succ, -List.set_cons_zero]
  refine call_drawE (pick_draws 5 (by omega)) hc (by omega) (by omega) hi (by simp [Ob.re, C.re]) (fun r => IntIn.re) (hf0 _) ?_
  rintro _ p2 ⟨n, rfl, n0, n1⟩ h3 h4
  simp -implicitDefEqProofs [hfs, hf0, go_sem, -List.set_cons_succ, -List.set_cons_zero]
  refine ⟨fun _ => ?_, fun _ => ?_⟩
  · refine call_drawE query_draws hc (by omega) (by omega) hi (by simp [Ob.re, C.re]) (fun r => TmsZ.re) (hf0 _) ?_
    rintro _ p3 ⟨l, rfl, hl, hlz⟩ h5 h6
    simp -implicitDefEqProofs [hf0, go_sem, -List.set_cons_succ, -List.set_cons_zero]
    exact ⟨⟨pr, l, rfl, ⟨by omega, hpok⟩, hl, hlz⟩, p3, by omega, by omega, rfl⟩
  · refine call_drawE (pick_draws fs.length (by omega)) hc (by omega) (by omega) hi (by simp [Ob.re, C.re]) (fun r => IntIn.re) (hf0 _) ?_
    rintro _ p3 ⟨k, rfl, k0, k1⟩ h5 h6
    have hkl : k.toNat < fs.length := by omega
    have hkq := q3 _ (List.getElem_mem hkl)
    obtain ⟨z1, z2⟩ := queryR_tz fs[k.toNat]
    simp -implicitDefEqProofs [hf0, go_sem, -List.set_cons_succ, -List.set_cons_zero]
    refine row_int [.str fs[k.toNat]] k0 (by simp [hkl, strRow]) rfl ?_
    simp -implicitDefEqProofs [hf0, go_sem, -List.set_cons_succ, -List.set_cons_zero]
    refine qcall_pure (pqSpec_calls fs[k.toNat] (by omega)) (hf1 _) (by simp [A.re, A.res, C.re]) ?_
    simp -implicitDefEqProofs [hf0, go_sem, -List.set_cons_succ, -List.set_cons_zero]
    exact ⟨⟨pr, (queryR fs[k.toNat]).1, rfl, ⟨by omega, hpok⟩, z1, z2⟩, p3, by omega, by omega, rfl⟩
/-- a query, and an answer of terms that fit -/
def AgR (r : A) : Prop := ∃ q a : List Tm, r = .tup [.c (.d (.sl (q.map Tm.row))), .agg [.d (.sl (a.map Tm.row))]] ∧ a.length ≤ 26 ∧ ∀ t ∈ a, t.fits
theorem AgR.re {n : Nat} {r : A} (h : AgR r) : A.re n r = r := by
  obtain ⟨q, a, rfl, _⟩ := h
  rfl
set_option maxHeartbeats 1600000 in
theorem drawAg_calls (c : List UInt8) (hc : c.length ≤ 1048576) (H : Heap) : ACalls Tryz.prog 10 [.c (.d (.sl (bytesRows c)))] H (fun r H' => H' = H ∧ AgR r) := by
  refine acalls Tryz.func10 (by kernel_rfl) ac10_ok fun hf => ?_
  simp -implicitDefEqProofs [ac10, hf, go_sem, -List.set_cons_succ, -List.set_cons_zero]
  refine (open_calls c hc _).mono fun r H' ⟨h1, c', hc', h2⟩ => ⟨H, [.cells [.full []], Rd c' 0], .c (.ptr (.l 1) 0), by rw [h2]; simp [Rd, Ob.re, C.re], rfl, by simp, hf, by rw [h1]; simp [A.re, C.re, Ref.re], ?_⟩
  simp -implicitDefEqProofs [hf, go_sem, -List.set_cons_succ, -List.set_cons_zero]
  refine call_drawL (j := 1) pair_draws hc' (by omega) (by omega) rfl (by simp [Rd, Ob.re, C.re]) (fun r => PairR.re) hf ?_
  rintro _ p1 ⟨p, q, rfl, ⟨hpl, hpok⟩, hql, hqz⟩ h3 h4
  simp -implicitDefEqProofs [hf, go_sem, -List.set_cons_succ, -List.set_cons_zero]
  refine call_some (run_calls hpok hpl hql hqz _) (by first | rfl | simp [Ob.re, C.re, Rd, re_d]) (fun r hr => hr.re) hf ?_
  rintro r ⟨an, e, rfl, han, hfit⟩
  have hni : inR .i64 (an.length : Int) := small_i64 (by omega) (by omega)
  simp -implicitDefEqProofs [hni, hf, go_sem, -List.set_cons_succ, -List.set_cons_zero]
  refine call_drawL (j := 1) (l1Draw_draws 2 (by omega)) hc' (by omega) (by omega) rfl (by simp [Rd, Ob.re, C.re]) (fun r => TmR.re) hf ?_
  rintro _ p2 ⟨t, rfl, ht⟩ h5 h6
  simp -implicitDefEqProofs [row_len, take_row, toDs_map, pure_d, re_d, hni, hf, go_sem, -List.set_cons_succ, -List.set_cons_zero]
  have hqf : ∀ t ∈ q, t.fits := fun t ht => (hqz t ht).1.fits (by omega)
  refine ⟨fun hne => ⟨hne, ?_⟩, fun he => ?_⟩
  · refine call_drawL (j := 1) (pick_draws 4 (by omega)) hc' (by omega) (by omega) rfl (by simp [Rd, Ob.re, C.re, re_d]) (fun r => IntIn.re) hf ?_
    rintro _ p3 ⟨m, rfl, m0, m1⟩ g1 g2
    simp -implicitDefEqProofs [hne, hni, hf, go_sem, -List.set_cons_succ, -List.set_cons_zero]
    refine ⟨fun hm => ?_, fun hm => ?_⟩
    · refine call_drawL (j := 1) (pick_draws an.length (by omega)) hc' (by omega) (by omega) rfl (by simp [Rd, Ob.re, C.re, re_d]) (fun r => IntIn.re) hf ?_
      rintro _ p4 ⟨k, rfl, k0, k1⟩ g3 g4
      have hkl : k.toNat < an.length := by omega
      obtain ⟨w1, w2⟩ := hfit _ (List.getElem_mem hkl)
      simp -implicitDefEqProofs [hf, go_sem, -List.set_cons_succ, -List.set_cons_zero]
      refine row_int (ansRow an[k.toNat]) k0 (by simp [hkl]) rfl ?_
      generalize an[k.toNat] = al at w1 w2
      simp -implicitDefEqProofs [ansRow, hf, go_sem, -List.set_cons_succ, -List.set_cons_zero]
      refine call_drawL (j := 1) (mutateAll_draws q hql hqf) hc' (by omega) (by omega) rfl (by simp [Rd, Ob.re, C.re, re_d]) (fun r => TmsR.re) hf ?_
      rintro _ p5 ⟨q2, rfl, hq2, hqf2⟩ g5 g6
      refine ⟨LocSame.set (j := 1) rfl (by simp [b0_, Rd]), ?_⟩
      simp -implicitDefEqProofs [hf, go_sem, -List.set_cons_succ, -List.set_cons_zero]
      exact ⟨q2, al, rfl, w1, w2⟩
    · refine call_drawL (j := 1) (mutateAll_draws q hql hqf) hc' (by omega) (by omega) rfl (by simp [Rd, Ob.re, C.re, re_d]) (fun r => TmsR.re) hf ?_
      rintro _ p5 ⟨q2, rfl, hq2, hqf2⟩ g5 g6
      refine ⟨LocSame.set (j := 1) rfl (by simp [b0_, Rd]), ?_⟩
      simp -implicitDefEqProofs [hf, go_sem, -List.set_cons_succ, -List.set_cons_zero]
      exact ⟨q2, [t], rfl, by simp, by simpa using ht⟩
  · refine call_drawL (j := 1) (mutateAll_draws q hql hqf) hc' (by omega) (by omega) rfl (by simp [Rd, Ob.re, C.re, re_d]) (fun r => TmsR.re) hf ?_
    rintro _ p5 ⟨q2, rfl, hq2, hqf2⟩ g5 g6
    refine ⟨LocSame.set (j := 1) rfl (by simp [b0_, Rd]), ?_⟩
    simp -implicitDefEqProofs [hf, go_sem, -List.set_cons_succ, -List.set_cons_zero]
    exact ⟨q2, [t], rfl, by simp, by simpa using ht⟩
end Sv
-- 8 loop.example/prologserver/spec.AnswerSame params 2 ntmps 32
-- loop head live: [2,3,5]
def ac8 : Cd := .seq (.region [oc 2 (.box (.t 0)),
 oc 3 (.box (.t 1)),
 oc 4 (.mv (.k (.c (.d (.bool false)))))] [0,1,4])
 (.seq (.seq (.region [oc 6 (.fieldAddr 0 (.t 2)),
 oc 7 (.load none (.t 6)),
 oc 8 (.len 1 (.t 7)),
 oc 9 (.fieldAddr 0 (.t 3)),
 oc 10 (.load none (.t 9)),
 oc 11 (.len 1 (.t 10)),
 oc 12 (.bin .neq (.t 8) (.t 11))] [6,7,8,9,10,11])
 (.cond (.t 12)
 (.seq (.region [oc 4 (.mv (.k (.c (.d (.bool false)))))] [2,3,12])
 (.ret))
 (.skip)))
 (.seq (.seq (.region [oc 5 (.mv (ki 0))] [4,12])
 (.block 0 (.loop (.seq (.seq (.region [oa 13 5,
 oc 14 (.fieldAddr 0 (.t 2)),
 oc 15 (.load none (.t 14)),
 oc 16 (.len 1 (.t 15)),
 oc 17 (.bin .lss (.t 13) (.t 16))] [13,14,15,16])
 (.cond (.t 17)
 (.skip)
 (.exit 0)))
 (.seq (.block 1 (.seq (.region [oc 20 (.fieldAddr 0 (.t 2)),
 oa 22 5,
 oc 25 (.fieldAddr 0 (.t 3)),
 oa 27 5,
 oc 21 (.load none (.t 20)),
 oc 23 (.indexAddr 4 (.t 21) (.t 22)),
 oc 24 (.load (some 4) (.t 23)),
 oc 26 (.load none (.t 25)),
 oc 28 (.indexAddr 4 (.t 26) (.t 27)),
 oc 29 (.load (some 4) (.t 28)),
 oc 30 (.qcall 25 [(.t 24),(.t 29)]),
 oc 31 (.un .not (.t 30))] [17,20,21,22,23,24,25,26,27,28,29,30])
 (.cond (.t 31)
 (.seq (.region [oc 4 (.mv (.k (.c (.d (.bool false)))))] [2,3,5,31])
 (.ret))
 (.skip))))
 (.region [oa 18 5,
 oc 19 (.bin .add (.t 18) (ki 1)),
 oa 5 19] [4,18,19,31]))))))
 (.seq (.region [oc 4 (.mv (.k (.c (.d (.bool true)))))] [])
 (.ret))))
theorem ac8_ok : cFunc Tryz.prog [1000025] [(0,[0,1,4],[]),(1,[6,7,8,9,10,11],[]),(2,[2,3,12],[]),(3,[4,12],[]),(4,[13,14,15,16],[]),(6,[17,20,21,22,23,24,25,26,27,28,29,30],[0,2,5,7,1,3,4,6,8,9,10,11]),(7,[2,3,5,31],[]),(5,[4,18,19,31],[]),(8,[],[])] Tryz.f8 = some (ac8,[.tmp 4],32) := by kernel_rfl
-- 5 loop.example/prologserver/impl.AnswerSame params 2 ntmps 10
def ac5 : Cd := .seq (.region [oc 2 (.box (.t 0)),
 oc 3 (.box (.t 1)),
 oc 4 (.mv (.k (.c (.d (.bool false)))))] [0,1,4])
 (.seq (.region [oc 5 (.fieldAddr 0 (.t 2)),
 oc 6 (.load none (.t 5)),
 oc 7 (.fieldAddr 0 (.t 3)),
 oc 8 (.load none (.t 7)),
 oc 9 (.qcall 15 [(.t 6),(.t 8),(.k (.c (.fn 16 [])))]),
 oa 4 9] [2,3,5,6,7,8,9])
 (.ret))
theorem ac5_ok : cFunc Tryz.prog [1000015] [(0,[0,1,4],[]),(1,[2,3,5,6,7,8,9],[])] Tryz.f5 = some (ac5,[.tmp 4],10) := by kernel_rfl
-- 18 loop.example/prologserver/impl.PureProgram$1 params 1 ntmps 13
def ac18 : Cd := .seq (.region [oc 1 (.box (.t 0)),
 oc 2 (.mv (.k (.c (.d (.bool false)))))] [0,2])
 (.seq (.region [oc 3 (.load (some 4) (.t 1)),
 oc 4 (.qcall 19 [(.t 3)]),
 oc 5 (.un .not (.t 4)),
 oa 6 5,
 ⟨some 7,.buildSlice 1 3 [(.str [])] [(0,(.k (.c (.d (.str [61]))))),(1,(.k (.c (.d (.str [116,114,117,101]))))),(2,(.k (.c (.d (.str [102,97,105,108])))))],some (6,true)⟩,
 ⟨some 8,.fieldAddr 2 (.t 1),some (6,true)⟩,
 ⟨some 9,.load none (.t 8),some (6,true)⟩,
 ⟨some 10,.qcall 20 [(.t 7),(.t 9)],some (6,true)⟩,
 ⟨some 11,.un .not (.t 10),some (6,true)⟩,
 oc 12 (.pick (.t 6) (.t 11) (.k (.c (.d (.bool false))))),
 oa 2 12] [1,3,4,5,6,7,8,9,10,11,12])
 (.ret))
theorem ac18_ok : cFunc Tryz.prog [1000019,1000020] [(0,[0,2],[]),(1,[1,3,4,5,6,7,8,9,10,11,12],[])] Tryz.f18 = some (ac18,[.tmp 2],13) := by kernel_rfl
-- 23 loop.example/prologserver/impl.PureProgram$2 params 1 ntmps 8
def ac23 : Cd := .seq (.region [oc 2 (.box (.t 0)),
 oc 3 (.mv (.k (.c (.d (.bool false)))))] [0,3])
 (.seq (.region [oc 4 (.fieldAddr 4 (.t 2)),
 oc 5 (.load none (.t 4)),
 oc 6 (.load none (.t 1)),
 oc 7 (.call false 24 [(.t 5),(.t 6)]),
 oa 3 7] [2,4,5,6,7])
 (.ret))
theorem ac23_ok : cFunc Tryz.prog [] [(0,[0,3],[]),(1,[2,4,5,6,7],[])] Tryz.f23 = some (ac23,[.tmp 3],8) := by kernel_rfl
-- 7 loop.example/prologserver/impl.PureProgram params 1 ntmps 12
def ac7 : Cd := .seq (.region [oc 2 (.mv (.k (.c (.d (.bool false)))))] [2])
 (.seq (.region [oc 3 (.alloc [(.d (.v .nilFunc))]),
 ⟨none,.store 1 (.t 3) (.k (.c (.fn 18 []))),none⟩] [])
 (.seq (.region [oa 4 0,
 oc 5 (.qcall 21 [(.t 4)]),
 oa 6 5,
 ⟨some 7,.mv (.t 0),some (6,true)⟩,
 ⟨some 8,.mkFunc 23 [(.t 3)],some (6,true)⟩,
 ⟨some 9,.call false 22 [(.t 7),(.t 8)],some (6,true)⟩,
 ⟨some 10,.un .not (.t 9),some (6,true)⟩,
 oc 11 (.pick (.t 6) (.t 10) (.k (.c (.d (.bool false))))),
 oa 2 11] [0,3,4,5,6,7,8,9,10,11])
 (.ret)))
theorem ac7_ok : cFunc Tryz.prog [1000021] [(0,[2],[]),(1,[],[]),(2,[0,3,4,5,6,7,8,9,10,11],[])] Tryz.f7 = some (ac7,[.tmp 2],12) := by kernel_rfl
-- 9 loop.example/prologserver/spec.PureProgram params 1 ntmps 73
-- loop head live: [0,3]
-- loop head live: [0,3,4]
def ac9 : Cd := .seq (.region [oc 2 (.mv (.k (.c (.d (.bool false)))))] [2])
 (.seq (.seq (.region [oc 3 (.mv (ki 0))] [])
 (.block 0 (.loop (.seq (.seq (.region [oa 5 3,
 oa 6 0,
 oc 7 (.len 1 (.t 6)),
 oc 8 (.bin .lss (.t 5) (.t 7)),
 oa 9 8,
 ⟨some 10,.mv (.t 0),some (9,true)⟩,
 ⟨some 11,.qcall 26 [(.t 10)],some (9,true)⟩,
 oc 12 (.pick (.t 9) (.t 11) (.k (.c (.d (.bool false)))))] [5,6,7,8,9,10,11])
 (.cond (.t 12)
 (.skip)
 (.exit 0)))
 (.seq (.block 1 (.seq (.region [oc 4 (.mv (ki 0))] [12])
 (.block 2 (.loop (.seq (.seq (.region [oa 15 4,
 oa 16 0,
 oa 17 3,
 oc 18 (.indexAddr 5 (.t 16) (.t 17)),
 oc 19 (.fieldAddr 4 (.t 18)),
 oc 20 (.load none (.t 19)),
 oc 21 (.len 1 (.t 20)),
 oc 22 (.bin .lss (.t 15) (.t 21))] [15,16,17,18,19,20,21])
 (.cond (.t 22)
 (.skip)
 (.exit 2)))
 (.seq (.block 3 (.seq (.region [oa 25 0,
 oa 26 3,
 oc 27 (.indexAddr 5 (.t 25) (.t 26)),
 oc 28 (.fieldAddr 4 (.t 27)),
 oc 29 (.load none (.t 28)),
 oa 30 4,
 oc 31 (.indexAddr 4 (.t 29) (.t 30)),
 oc 32 (.load (some 4) (.t 31)),
 oc 33 (.qcall 27 [(.t 32)]),
 oc 34 (.un .not (.t 33)),
 oa 35 34,
 ⟨some 36,.mv (.t 0),some (35,true)⟩,
 ⟨some 37,.mv (.t 3),some (35,true)⟩,
 ⟨some 38,.indexAddr 5 (.t 36) (.t 37),some (35,true)⟩,
 ⟨some 39,.fieldAddr 4 (.t 38),some (35,true)⟩,
 ⟨some 40,.load none (.t 39),some (35,true)⟩,
 ⟨some 41,.mv (.t 4),some (35,true)⟩,
 ⟨some 42,.indexAddr 4 (.t 40) (.t 41),some (35,true)⟩,
 ⟨some 43,.fieldAddr 2 (.t 42),some (35,true)⟩,
 ⟨some 44,.load none (.t 43),some (35,true)⟩,
 ⟨some 45,.bin .neq (.t 44) (.k (.c (.d (.str [61])))),some (35,true)⟩,
 oc 46 (.pick (.t 35) (.t 45) (.k (.c (.d (.bool false))))),
 oa 47 46,
 ⟨some 48,.mv (.t 0),some (47,true)⟩,
 ⟨some 49,.mv (.t 3),some (47,true)⟩,
 ⟨some 50,.indexAddr 5 (.t 48) (.t 49),some (47,true)⟩,
 ⟨some 51,.fieldAddr 4 (.t 50),some (47,true)⟩,
 ⟨some 52,.load none (.t 51),some (47,true)⟩,
 ⟨some 53,.mv (.t 4),some (47,true)⟩,
 ⟨some 54,.indexAddr 4 (.t 52) (.t 53),some (47,true)⟩,
 ⟨some 55,.fieldAddr 2 (.t 54),some (47,true)⟩,
 ⟨some 56,.load none (.t 55),some (47,true)⟩,
 ⟨some 57,.bin .neq (.t 56) (.k (.c (.d (.str [116,114,117,101])))),some (47,true)⟩,
 oc 58 (.pick (.t 47) (.t 57) (.k (.c (.d (.bool false))))),
 oa 59 58,
 ⟨some 60,.mv (.t 0),some (59,true)⟩,
 ⟨some 61,.mv (.t 3),some (59,true)⟩,
 ⟨some 62,.indexAddr 5 (.t 60) (.t 61),some (59,true)⟩,
 ⟨some 63,.fieldAddr 4 (.t 62),some (59,true)⟩,
 ⟨some 64,.load none (.t 63),some (59,true)⟩,
 ⟨some 65,.mv (.t 4),some (59,true)⟩,
 ⟨some 66,.indexAddr 4 (.t 64) (.t 65),some (59,true)⟩,
 ⟨some 67,.fieldAddr 2 (.t 66),some (59,true)⟩,
 ⟨some 68,.load none (.t 67),some (59,true)⟩,
 ⟨some 69,.bin .neq (.t 68) (.k (.c (.d (.str [102,97,105,108])))),some (59,true)⟩,
 oc 70 (.pick (.t 59) (.t 69) (.k (.c (.d (.bool false)))))] [22,25,26,27,28,29,30,31,32,33,34,35,36,37,38,39,40,41,42,43,44,45,46,47,48,49,50,51,52,53,54,55,56,57,58,59,60,61,62,63,64,65,66,67,68,69])
 (.cond (.t 70)
 (.seq (.region [oc 2 (.mv (.k (.c (.d (.bool false)))))] [0,3,4,70])
 (.ret))
 (.skip))))
 (.region [oa 23 4,
 oc 24 (.bin .add (.t 23) (ki 1)),
 oa 4 24] [2,23,24,70])))))))
 (.region [oa 13 3,
 oc 14 (.bin .add (.t 13) (ki 1)),
 oa 3 14] [13,14]))))))
 (.seq (.region [oa 71 0,
 oc 72 (.qcall 26 [(.t 71)]),
 oa 2 72] [0,71,72])
 (.ret)))
theorem ac9_ok : cFunc Tryz.prog [1000026,1000027] [(0,[2],[]),(1,[],[]),(2,[5,6,7,8,9,10,11],[]),(4,[12],[]),(5,[15,16,17,18,19,20,21],[]),(7,[22,25,26,27,28,29,30,31,32,33,34,35,36,37,38,39,40,41,42,43,44,45,46,47,48,49,50,51,52,53,54,55,56,57,58,59,60,61,62,63,64,65,66,67,68,69],[]),(8,[0,3,4,70],[]),(6,[2,23,24,70],[]),(3,[13,14],[]),(9,[0,71,72],[])] Tryz.f9 = some (ac9,[.tmp 2],73) := by kernel_rfl
def Fits (l : List Tm) : Prop := l.length ≤ 1048576 ∧ ∀ t ∈ l, t.fits
theorem asSpec_calls (l r : List Tm) (h : Fits l) (hr : Fits r) (H : Heap) : ACalls Tryz.prog 8 [.agg [.d (.sl (l.map Tm.row))], .agg [.d (.sl (r.map Tm.row))]] H (fun q H' => H' = H ∧ q = .c (.d (.bool (decide (l = r))))) := by
  refine acalls Tryz.func8 (by kernel_rfl) ac8_ok fun hf => ?_
  obtain ⟨hl, hfit⟩ := h
  obtain ⟨hrl, hrf⟩ := hr
  have hli : inR .i64 (l.length : Int) := small_i64 (by omega) (by omega)
  have hri : inR .i64 (r.length : Int) := small_i64 (by omega) (by omega)
  simp -implicitDefEqProofs [ac8, hli, hri, go_sem, -List.set_cons_succ, -List.set_cons_zero]
  refine ⟨fun h1 e => by subst e; simp at h1, fun e4 => ?_⟩
  have e4 : l.length = r.length := by omega
  refine loop_set (σ := Nat) (fun i => [(5, .c (.d (.int .i64 i)))]) (fun _ => H) (fun _ => [.cells [.d (.sl (l.map Tm.row))], .cells [.d (.sl (r.map Tm.row))]]) (fun i => i ≤ l.length ∧ l.take i = r.take i) (fun i => l.length - i) 0 rfl ⟨Nat.zero_le _, rfl⟩ ?_
  rintro i ⟨hi, htk⟩
  simp -implicitDefEqProofs [setAll, hli, go_sem, -List.set_cons_succ, -List.set_cons_zero]
  refine ⟨fun hlt => ?_, fun hge => by rw [List.take_of_length_le hge, List.take_of_length_le (by omega)] at htk; exact htk⟩
  have hadd : inR .i64 ((i : Int) + 1) := small_i64 (by omega) (by omega)
  refine row_of hlt (row_len _) ?_
  simp -implicitDefEqProofs [row_len, take_row, go_sem, -List.set_cons_succ, -List.set_cons_zero]
  refine row_of (by omega) (row_len _) ?_
  simp -implicitDefEqProofs [row_len, take_row, pure_d, re_d, go_sem, -List.set_cons_succ, -List.set_cons_zero]
  refine qcall_pure (sameSpec_calls l[i] (hfit _ (List.getElem_mem hlt)) (r[i]'(by omega)) (hrf _ (List.getElem_mem (by omega)))) hf rfl ?_
  simp -implicitDefEqProofs [hadd, go_sem, -List.set_cons_succ, -List.set_cons_zero]
  refine ⟨fun hne e => ?_, fun he => ?_⟩
  · subst e; exact hne rfl
  · exact loop_back (i + 1) (by simp [setAll]) ⟨hlt, take_snoc hlt (by omega) htk he⟩ (by show l.length - (i + 1) < l.length - i; omega)
theorem asImpl_calls (l r : List Tm) (h : Fits l) (hr : Fits r) (H : Heap) : ACalls Tryz.prog 5 [.agg [.d (.sl (l.map Tm.row))], .agg [.d (.sl (r.map Tm.row))]] H (fun q H' => H' = H ∧ q = .c (.d (.bool (decide (l = r))))) := by
  refine acalls Tryz.func5 (by kernel_rfl) ac5_ok fun hf => ?_
  simp -implicitDefEqProofs [ac5, go_sem, -List.set_cons_succ, -List.set_cons_zero]
  refine qcall_pure (eqFunc_of 16 l r h.1 hr.1 fun x hx y hy => sameImpl_calls x (h.2 x hx) y (hr.2 y hy)) hf rfl ?_
  simp -implicitDefEqProofs [go_sem, -List.set_cons_succ, -List.set_cons_zero]
def pureNames : List (List UInt8) := [[61], [116, 114, 117, 101], [102, 97, 105, 108]]
/-- a goal that is plain, or =, true or fail -/
def Tm.pureB (t : Tm) : Bool := t.plain || pureNames.contains t.s
def Cl.pureB (c : Cl) : Bool := c.body.all Tm.pureB
def pureP (p : List Cl) : Bool := progB p && p.all Cl.pureB
theorem other_calls (t : Tm) (ht : t.fits) (H : Heap) : ACalls Tryz.prog 18 [.agg (t.row.map .d)] H (fun r H' => H' = H ∧ r = .c (.d (.bool (!t.pureB)))) := by
  have c1 := plainImpl_calls t ht
  have hp : t.pureB = (t.plain || pureNames.contains t.s) := rfl
  rw [hp]
  generalize t.plain = b at c1
  obtain ⟨k, n, s, l⟩ := t
  obtain ⟨_, _, hs, hl, hkids⟩ := ht
  rw [row_mk] at c1
  simp only [List.map_cons, List.map_nil] at c1
  refine acalls Tryz.func18 (by kernel_rfl) ac18_ok fun hf => ?_
  simp -implicitDefEqProofs [ac18, row_mk, go_sem, -List.set_cons_succ, -List.set_cons_zero]
  refine qcall_pure c1 hf rfl ?_
  cases b with
  | true => simp -implicitDefEqProofs [go_sem, -List.set_cons_succ, -List.set_cons_zero]
  | false =>
    simp -implicitDefEqProofs [go_sem, -List.set_cons_succ, -List.set_cons_zero]
    refine qcall_pure (contains_calls pureNames (by decide) s) hf rfl ?_
    simp -implicitDefEqProofs [Tm.s, go_sem, -List.set_cons_succ, -List.set_cons_zero]
    all_goals exact decide_eq_decide.2 Iff.rfl
theorem any_notP (l : List Tm) : (l.any fun t => !t.pureB) = !l.all Tm.pureB := by
  induction l with
  | nil => rfl
  | cons t l ih => simp only [List.any_cons, List.all_cons, ih, Bool.not_and]
theorem any_notPC (l : List Cl) : (l.any fun t => !t.pureB) = !l.all Cl.pureB := by
  induction l with
  | nil => rfl
  | cons t l ih => simp only [List.any_cons, List.all_cons, ih, Bool.not_and]
theorem pure2_calls (c : Cl) (hc : c.fits) (H : Heap) (hfit : Obs.fits (H.length + 1) 0 (H ++ [Ob.cells [.fn 18 []]])) : ACalls Tryz.prog 23 [.agg (c.row.map .d), .c (.ptr (.e H.length) 0)] (H ++ [Ob.cells [.fn 18 []]])
    (fun r H' => r = .c (.d (.bool (!c.pureB))) ∧ H' = H ++ [Ob.cells [.fn 18 []]]) := by
  obtain ⟨h, b⟩ := c
  obtain ⟨hh, hl, hb⟩ := hc
  simp only at hh hl hb
  refine acalls Tryz.func23 (by kernel_rfl) ac23_ok fun hf => ?_
  simp -implicitDefEqProofs [ac23, Cl.row, go_sem, -List.set_cons_succ, -List.set_cons_zero]
  refine call_same (tmF_any 18 (fun t => !t.pureB) b hl (fun t ht => other_calls t (hb t ht)) _) (by simp [Ob.re, C.re]) rfl hf ?_
  rw [any_notP]
  simp -implicitDefEqProofs [Cl.pureB, go_sem, -List.set_cons_succ, -List.set_cons_zero]
theorem pureImpl_calls (p : List Cl) (hp : FitsC p) (H : Heap) : ACalls Tryz.prog 7 [.c (.d (.sl (p.map Cl.row)))] H (fun r H' => H' = H ∧ r = .c (.d (.bool (pureP p)))) := by
  refine acalls Tryz.func7 (by kernel_rfl) ac7_ok fun hf => ?_
  have c1 := pvImpl_calls p hp
  simp -implicitDefEqProofs [ac7, hf, go_sem, -List.set_cons_succ, -List.set_cons_zero]
  refine qcall_pure c1 hf rfl ?_
  cases h1 : progB p with
  | false => simp -implicitDefEqProofs [h1, pureP, go_sem, -List.set_cons_succ, -List.set_cons_zero]
  | true =>
    simp -implicitDefEqProofs [h1, go_sem, -List.set_cons_succ, -List.set_cons_zero]
    have hfit : Obs.fits (H.length + 1) 0 (H ++ [Ob.cells [.fn 18 []]]) := fits_append (fits_mono (by omega) hf) ⟨⟨fun x hx => (by cases hx), trivial⟩, trivial⟩
    have con := clF_con (σ := Unit) (fun _ => H ++ [Ob.cells [.fn 18 []]]) (H.length + 1) (fun _ => by simp) (fun _ => hfit) 23 [(H.length, 0)] (fun _ c => (!c.pureB, ())) (fun _ => True) p hp.1
      (fun _ _ c hc => pure2_calls c (hp.2 c hc) H hfit) (fun _ _ _ _ _ => trivial) () trivial
    rw [anyS_const, any_notPC] at con
    refine con.mono fun r H' ⟨h5, h6⟩ => ⟨H, [Ob.cells [.fn 18 []]], .c (.d (.bool (!p.all Cl.pureB))), h6, rfl, Nat.le_refl _, hf, h5, ?_⟩
    simp -implicitDefEqProofs [h1, pureP, go_sem, -List.set_cons_succ, -List.set_cons_zero]
theorem pure_take {l : List Tm} {i : Nat} (h : i < l.length) (ha : ∀ t ∈ l.take i, t.pureB = true) (hb : l[i].pureB = true) : ∀ t ∈ l.take (i + 1), t.pureB = true := by
  intro t h'
  rw [List.take_succ_eq_append_getElem h, List.mem_append] at h'
  rcases h' with h' | h'
  · exact ha t h'
  · simp at h'; subst h'; exact hb
theorem pureC_take {l : List Cl} {i : Nat} (h : i < l.length) (ha : ∀ t ∈ l.take i, t.pureB = true) (hb : l[i].pureB = true) : ∀ t ∈ l.take (i + 1), t.pureB = true := by
  intro t h'
  rw [List.take_succ_eq_append_getElem h, List.mem_append] at h'
  rcases h' with h' | h'
  · exact ha t h'
  · simp at h'; subst h'; exact hb
theorem pureSpec_calls (p : List Cl) (hp : FitsC p) (H : Heap) : ACalls Tryz.prog 9 [.c (.d (.sl (p.map Cl.row)))] H (fun r H' => H' = H ∧ r = .c (.d (.bool (pureP p)))) := by
  refine acalls Tryz.func9 (by kernel_rfl) ac9_ok fun hf => ?_
  have c1 := pvSpec_calls p hp
  obtain ⟨hl, h⟩ := hp
  have hli : inR .i64 (p.length : Int) := small_i64 (by omega) (by omega)
  simp -implicitDefEqProofs [ac9, hli, go_sem, -List.set_cons_succ, -List.set_cons_zero]
  refine loop_set (σ := Nat) (fun i => [(3, .c (.d (.int .i64 i)))]) (fun _ => H) (fun _ => []) (fun i => i ≤ p.length ∧ ∀ t ∈ p.take i, t.pureB = true) (fun i => p.length - i) 0 rfl ⟨Nat.zero_le _, by simp⟩ ?_
  rintro i ⟨hi, hall⟩
  by_cases hlt : i < p.length
  · simp -implicitDefEqProofs [setAll, hli, hlt, go_sem, -List.set_cons_succ, -List.set_cons_zero]
    refine qcall_pure c1 hf rfl ?_
    cases h1 : progB p with
    | false =>
      simp -implicitDefEqProofs [h1, go_sem, -List.set_cons_succ, -List.set_cons_zero]
      refine qcall_pure c1 hf rfl ?_
      simp -implicitDefEqProofs [h1, pureP, go_sem, -List.set_cons_succ, -List.set_cons_zero]
    | true =>
      obtain ⟨hch, hcl, hcb⟩ := h p[i] (List.getElem_mem hlt)
      have hadd : inR .i64 ((i : Int) + 1) := small_i64 (by omega) (by omega)
      have hbi : inR .i64 (p[i].body.length : Int) := small_i64 (by omega) (by omega)
      simp -implicitDefEqProofs [h1, go_sem, -List.set_cons_succ, -List.set_cons_zero]
      refine loop_set (σ := Nat) (fun k => [(4, .c (.d (.int .i64 k)))]) (fun _ => H) (fun _ => []) (fun k => k ≤ p[i].body.length ∧ ∀ t ∈ p[i].body.take k, t.pureB = true) (fun k => p[i].body.length - k) 0 rfl ⟨Nat.zero_le _, by simp⟩ ?_
      rintro k ⟨hk, hkall⟩
      simp -implicitDefEqProofs [setAll, go_sem, -List.set_cons_succ, -List.set_cons_zero]
      refine row_of hlt (crow_len _) ?_
      simp -implicitDefEqProofs [Cl.row, hbi, go_sem, -List.set_cons_succ, -List.set_cons_zero]
      refine ⟨fun hklt => ?_, fun hkge => ?_⟩
      · refine row_of hlt (crow_len _) ?_
        simp -implicitDefEqProofs [Cl.row, go_sem, -List.set_cons_succ, -List.set_cons_zero]
        refine row_of hklt (row_len _) ?_
        simp -implicitDefEqProofs [row_len, take_row, pure_d, re_d, go_sem, -List.set_cons_succ, -List.set_cons_zero]
        refine qcall_pure (plainSpec_calls _ (hcb _ (List.getElem_mem hklt))) hf rfl ?_
        have hadd2 : inR .i64 ((k : Int) + 1) := small_i64 (by omega) (by omega)
        have hpu : (p[i].body[k]).pureB = (p[i].body[k].plain || pureNames.contains p[i].body[k].s) := rfl
        generalize hpl : (p[i].body[k]).plain = pl at hpu
        simp -implicitDefEqProofs [go_sem, -List.set_cons_succ, -List.set_cons_zero]
        refine row_g hlt (crow_len _) ?_
        simp -implicitDefEqProofs [Cl.row, go_sem, -List.set_cons_succ, -List.set_cons_zero]
        refine row_g hklt (row_len _) ?_
        simp -implicitDefEqProofs [row_eq, go_sem, -List.set_cons_succ, -List.set_cons_zero]
        refine row_g hlt (crow_len _) ?_
        simp -implicitDefEqProofs [Cl.row, go_sem, -List.set_cons_succ, -List.set_cons_zero]
        refine row_g hklt (row_len _) ?_
        simp -implicitDefEqProofs [row_eq, go_sem, -List.set_cons_succ, -List.set_cons_zero]
        refine row_g hlt (crow_len _) ?_
        simp -implicitDefEqProofs [Cl.row, go_sem, -List.set_cons_succ, -List.set_cons_zero]
        refine row_g hklt (row_len _) ?_
        simp -implicitDefEqProofs [row_eq, go_sem, -List.set_cons_succ, -List.set_cons_zero]
        refine ⟨fun q1 q2 q3 q4 => ?_, fun q => ⟨hadd2, loop_back (k + 1) (by simp [setAll]) ⟨hklt, pure_take hklt hkall ?_⟩ (by show p[i].body.length - (k + 1) < p[i].body.length - k; omega)⟩⟩
        · have hb : p[i].body[k].pureB = false := by
            rw [hpu, q1]
            simp [pureNames, q2, q3, q4]
          have hc : p[i].pureB = false := by
            unfold Cl.pureB
            rw [List.all_eq_false]
            exact ⟨_, List.getElem_mem hklt, by simp [hb]⟩
          have : p.all Cl.pureB = false := by
            rw [List.all_eq_false]
            exact ⟨_, List.getElem_mem hlt, by simp [hc]⟩
          simp [pureP, this]
        · rw [hpu]
          cases pl with
          | true => rfl
          | false =>
            simp [pureNames]
            have q := q rfl
            by_cases e1 : p[i].body[k].s = [61]
            · exact .inl e1
            · by_cases e2 : p[i].body[k].s = [116, 114, 117, 101]
              · exact .inr (.inl e2)
              · exact .inr (.inr (q e1 e2))
      · rw [List.take_of_length_le hkge] at hkall
        simp -implicitDefEqProofs [hadd, go_sem, -List.set_cons_succ, -List.set_cons_zero]
        exact loop_less (i + 1) (St.le_slots (by simp [setAll, Sl.le, A.le_refl_iff, A.le_u_iff, As.lo, A.lo, C.lo, Ref.lo, Cs.lo, Obs.lo, Ob.lo, setAll, and_true, true_and, List.length_nil, List.length_cons])) ⟨hlt, pureC_take hlt hall (List.all_eq_true.2 hkall)⟩ (by show p.length - (i + 1) < p.length - i; omega)
  · have hil : i = p.length := by omega
    subst hil
    rw [List.take_length] at hall
    have hal : p.all Cl.pureB = true := List.all_eq_true.2 hall
    simp -implicitDefEqProofs [setAll, hli, go_sem, -List.set_cons_succ, -List.set_cons_zero]
    refine qcall_pure c1 hf rfl ?_
    simp -implicitDefEqProofs [pureP, hal, go_sem, -List.set_cons_succ, -List.set_cons_zero]
end Go.Proofs.YtcapnainldlnjaaGreat
