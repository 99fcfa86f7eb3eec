/-
  The card FnReadFails holds: a text fails somewhere exactly if it is not read, and in itself.
  Conditions: none.
-/
import Derived.Test.YtgfmlifkhpjplaaGreatDoorBundB
import Derived.Test.YtgfmlifkhpjplaaGreatDoorBundD
import Derived.Test.YtgfmlifkhpjplaaGreatDoorCards
import Derived.Test.YtgfmlifkhpjplaaGreatDoorTie
import Derived.ProofKit
import Derived.OpenShut
import Derived.Stop.Joined
import Derived.SevenTiedAt
open Go Go.AM Go.Proofs
attribute [local go_sem] kw ew sw tw a_ b_ c_ A.ok A.val d_ e_ f_ g_ h_ i_ j_ k_ l_ m_ unA unD n_ AOp.total o_ p_ q_ r_ s_ t_ u_ v_ A.thaw C.thaw A.fits As.fits C.fits evs oks w_ A.pure C.pure A.re C.re x_ y_ cut A.cells C.rows? z_ A_ B_ C_ a0_ b0_ D_ Ob.re Cs.fits E_ F_ G_ H_ I_ J_ K_ L_ M_ N_ O_ C.toD P_ Q_ R_ S_ T_ Obs.fits U_ eqD V_ W_ X_ Y_ Z_
open Go Go.AM Go.Proofs
namespace Go.Proofs.YtgfmlifkhpjplaaGreatDoor
open Go.ChangeShapes Go.WideShapes Go.ChangeAt Go.WideElems Go.RowKit
set_option linter.unusedVariables false
set_option linter.unusedSimpArgs false
set_option maxRecDepth 100000
-- 24 loop.example/prologserver/spec.DrawReadFails params 1 ntmps 5
def ac24 : Cd := .seq (.region [⟨(some 2),.mv (.k (.c (.d (.str [])))),none⟩] [2])
 (.seq (.region [⟨(some 3),.mv (.t 0),none⟩,
 ⟨(some 4),.call false 19 [(.t 3)],none⟩,
 ⟨(some 2),.mv (.t 4),none⟩] [0,3,4])
 (.ret))
theorem ac24_ok : cFunc Tryz.prog [] [(0,[2],[]),(1,[0,3,4],[])] Tryz.f24 = some (ac24,[.tmp 2],5) := by kernel_rfl
-- 25 loop.example/prologserver/impl.ReadFails params 1 ntmps 14
def ac25 : Cd := .seq (.region [⟨(some 2),.mv (.k (.c (.d (.int .i64 0)))),none⟩] [2])
 (.seq (.seq (.region [⟨(some 5),.mv (.t 0),none⟩,
 ⟨(some 6),.len 0 (.t 5),none⟩,
 ⟨(some 7),.bin .gtr (.t 6) (.k (.c (.d (.int .i64 1000)))),none⟩] [5,6])
 (.cond (.t 7)
 (.seq (.region [⟨(some 2),.mv (.k (.c (.d (.int .i64 (-1))))),none⟩] [0,7])
 (.ret))
 (.skip)))
 (.seq (.region [⟨(some 9),.mv (.t 0),none⟩,
 ⟨(some 10),.call false 30 [(.t 9)],none⟩,
 ⟨(some 8),.mv (.t 10),none⟩,
 ⟨(some 11),.extract 0 (.t 8),none⟩,
 ⟨(some 12),.extract 1 (.t 8),none⟩,
 ⟨(some 3),.alloc [(.d (.int .i64 0)),(.d (.int .i64 0)),(.d (.str [])),(.full [])],none⟩,
 ⟨none,.store 4 (.t 3) (.t 11),none⟩,
 ⟨(some 4),.mv (.t 12),none⟩] [0,2,3,7,8,9,10,11,12])
 (.seq (.region [⟨(some 13),.mv (.t 4),none⟩,
 ⟨(some 2),.mv (.t 13),none⟩] [4,13])
 (.ret))))
theorem ac25_ok : cFunc Tryz.prog [] [(0,[2],[]),(1,[5,6],[]),(2,[0,7],[]),(3,[0,2,3,7,8,9,10,11,12],[]),(4,[4,13],[])] Tryz.f25 = some (ac25,[.tmp 2],14) := by kernel_rfl
-- 26 loop.example/prologserver/spec.ReadFails params 1 ntmps 28
def ac26 : Cd := .seq (.region [⟨(some 2),.mv (.k (.c (.d (.int .i64 0)))),none⟩] [2])
 (.seq (.region [⟨(some 8),.mv (.t 0),none⟩,
 ⟨(some 9),.qcall 9 [(.t 8)],none⟩,
 ⟨(some 7),.mv (.t 9),none⟩,
 ⟨(some 10),.extract 0 (.t 7),none⟩,
 ⟨(some 11),.extract 1 (.t 7),none⟩,
 ⟨(some 3),.alloc [(.d (.int .i64 0)),(.d (.int .i64 0)),(.d (.str [])),(.full [])],none⟩,
 ⟨none,.store 4 (.t 3) (.t 10),none⟩,
 ⟨(some 4),.mv (.t 11),none⟩] [3,7,8,9,10,11])
 (.seq (.seq (.region [⟨(some 12),.mv (.t 4),none⟩,
 ⟨(some 13),.mv (.t 12),none⟩,
 ⟨(some 14),.mv (.t 0),some (13,false)⟩,
 ⟨(some 15),.len 0 (.t 14),some (13,false)⟩,
 ⟨(some 16),.bin .gtr (.t 15) (.k (.c (.d (.int .i64 1000)))),some (13,false)⟩,
 ⟨(some 17),.pick (.t 13) (.k (.c (.d (.bool true)))) (.t 16),none⟩] [4,12,13,14,15,16])
 (.cond (.t 17)
 (.seq (.region [⟨(some 2),.mv (.k (.c (.d (.int .i64 (-1))))),none⟩] [0,17])
 (.ret))
 (.skip)))
 (.seq (.region [⟨(some 19),.mv (.t 0),none⟩,
 ⟨(some 20),.qcall 27 [(.t 19),(.k (.c (.d (.int .i64 0)))),(.k (.c (.d (.int .i64 30)))),(.k (.c (.d (.int .i64 3))))],none⟩,
 ⟨(some 18),.mv (.t 20),none⟩,
 ⟨(some 21),.extract 0 (.t 18),none⟩,
 ⟨(some 22),.extract 1 (.t 18),none⟩,
 ⟨(some 5),.alloc [(.d (.int .i64 0)),(.d (.int .i64 0)),(.d (.str [])),(.full [])],none⟩,
 ⟨none,.store 4 (.t 5) (.t 21),none⟩,
 ⟨(some 6),.mv (.t 22),none⟩] [0,2,5,17,18,19,20,21,22])
 (.seq (.seq (.region [⟨(some 23),.mv (.t 6),none⟩,
 ⟨(some 24),.bin .lss (.t 23) (.k (.c (.d (.int .i64 0)))),none⟩] [23])
 (.cond (.t 24)
 (.seq (.region [⟨(some 25),.mv (.t 6),none⟩,
 ⟨(some 26),.bin .sub (.k (.c (.d (.int .i64 (-1))))) (.t 25),none⟩,
 ⟨(some 2),.mv (.t 26),none⟩] [6,24,25,26])
 (.ret))
 (.skip)))
 (.seq (.region [⟨(some 27),.mv (.t 6),none⟩,
 ⟨(some 2),.mv (.t 27),none⟩] [6,24,27])
 (.ret))))))
theorem ac26_ok : cFunc Tryz.prog [1000009,1000027] [(0,[2],[]),(1,[3,7,8,9,10,11],[]),(2,[4,12,13,14,15,16],[]),(3,[0,17],[]),(4,[0,2,5,17,18,19,20,21,22],[]),(5,[23],[]),(6,[6,24,25,26],[]),(7,[6,24,27],[])] Tryz.f26 = some (ac26,[.tmp 2],28) := by kernel_rfl
-- 8 loop.example/prologserver/laws.FnReadFails params 1 ntmps 40
def ac8 : Cd := .seq (.region [⟨(some 2),.mv (.k (.c (.d (.bool false)))),none⟩] [2])
 (.seq (.seq (.region [⟨(some 7),.mv (.t 0),none⟩,
 ⟨(some 8),.len 1 (.t 7),none⟩,
 ⟨(some 9),.bin .gtr (.t 8) (.k (.c (.d (.int .i64 1048576)))),none⟩] [7,8])
 (.cond (.t 9)
 (.seq (.region [⟨(some 2),.mv (.k (.c (.d (.bool true)))),none⟩] [0,9])
 (.ret))
 (.skip)))
 (.seq (.region [⟨(some 10),.mv (.t 0),none⟩,
 ⟨(some 11),.call false 24 [(.t 10)],none⟩,
 ⟨(some 3),.mv (.t 11),none⟩] [0,2,9,10,11])
 (.seq (.region [⟨(some 12),.mv (.t 3),none⟩,
 ⟨(some 13),.call false 25 [(.t 12)],none⟩,
 ⟨(some 4),.mv (.t 13),none⟩] [12,13])
 (.seq (.region [⟨(some 15),.mv (.t 3),none⟩,
 ⟨(some 16),.call false 10 [(.t 15)],none⟩,
 ⟨(some 14),.mv (.t 16),none⟩,
 ⟨(some 17),.extract 0 (.t 14),none⟩,
 ⟨(some 18),.extract 1 (.t 14),none⟩,
 ⟨(some 5),.alloc [(.d (.int .i64 0)),(.d (.int .i64 0)),(.d (.str [])),(.full [])],none⟩,
 ⟨none,.store 4 (.t 5) (.t 17),none⟩,
 ⟨(some 6),.mv (.t 18),none⟩] [5,14,15,16,17,18])
 (.seq (.region [⟨(some 19),.mv (.t 4),none⟩,
 ⟨(some 20),.mv (.t 3),none⟩,
 ⟨(some 21),.qcall 26 [(.t 20)],none⟩,
 ⟨(some 22),.bin .eql (.t 19) (.t 21),none⟩,
 ⟨(some 23),.mv (.t 22),none⟩,
 ⟨(some 24),.mv (.t 4),some (23,true)⟩,
 ⟨(some 25),.bin .lss (.t 24) (.k (.c (.d (.int .i64 0)))),some (23,true)⟩,
 ⟨(some 26),.mv (.t 6),some (23,true)⟩,
 ⟨(some 27),.mv (.t 26),some (23,true)⟩,
 ⟨(some 28),.mv (.t 3),some (27,false)⟩,
 ⟨(some 29),.len 0 (.t 28),some (27,false)⟩,
 ⟨(some 30),.bin .gtr (.t 29) (.k (.c (.d (.int .i64 1000)))),some (27,false)⟩,
 ⟨(some 31),.pick (.t 27) (.k (.c (.d (.bool true)))) (.t 30),some (23,true)⟩,
 ⟨(some 32),.binB false (.t 25) (.t 31),some (23,true)⟩,
 ⟨(some 33),.pick (.t 23) (.t 32) (.k (.c (.d (.bool false)))),none⟩,
 ⟨(some 34),.mv (.t 33),none⟩,
 ⟨(some 35),.mv (.t 4),some (34,true)⟩,
 ⟨(some 36),.mv (.t 3),some (34,true)⟩,
 ⟨(some 37),.len 0 (.t 36),some (34,true)⟩,
 ⟨(some 38),.bin .leq (.t 35) (.t 37),some (34,true)⟩,
 ⟨(some 39),.pick (.t 34) (.t 38) (.k (.c (.d (.bool false)))),none⟩,
 ⟨(some 2),.mv (.t 39),none⟩] [3,4,6,19,20,21,22,23,24,25,26,27,28,29,30,31,32,33,34,35,36,37,38,39])
 (.ret))))))
theorem ac8_ok : cFunc Tryz.prog [1000026] [(0,[2],[]),(1,[7,8],[]),(2,[0,9],[]),(3,[0,2,9,10,11],[]),(4,[12,13],[]),(5,[5,14,15,16,17,18],[]),(6,[3,4,6,19,20,21,22,23,24,25,26,27,28,29,30,31,32,33,34,35,36,37,38,39],[])] Tryz.f8 = some (ac8,[.tmp 2],40) := by kernel_rfl
/-- where reading stops -/
def rfV (s : List UInt8) (r : Rs) : Int := if 1000 < s.length then -1 else (rdPl s r).2
/-- both readers stop at the same place -/
theorem rf_same {s w : List UInt8} (hs : s.length ≤ 1000000) (hw : Sq 4 10 0 w) (hb : BentR w bits9 s) {F : Nat} {r : Rs} (hr : rp s F (.term 3 1 0) = some r) : rdF s (.read 0 30 3) = some r := by
  cases r with
  | ok ts k => exact rp_tells hs F (.term 3 1 0) _ hr ⟨Nat.zero_le _, Nat.le_refl _⟩ 30 (Nat.le_refl _)
  | bad e => exact rp_bads hs (bent_pot hw hb) F (.term 3 1 0) e hr ⟨Nat.zero_le _, Nat.le_refl _⟩ (show 1 ≤ pot (stk s 0) by simp [stk, bkR, pot]) 30 (Nat.le_refl _)
theorem rf_some {s : List UInt8} {r : Rs} (hr : rdF s (.read 0 30 3) = some r) {t : Tm} (h : okR s = some t) : rfV s r = -1 := by
  unfold rfV
  split
  · rfl
  · rename_i hl
    unfold okR at h
    rw [if_neg hl] at h
    unfold okT at h
    rw [hr] at h
    cases r with
    | bad e => cases h
    | ok ts k =>
      simp only at h
      split at h
      · rename_i hc
        simp only [rdPl]
        rw [if_neg (by omega), if_pos hc.2]
      · cases h
theorem rf_none {s : List UInt8} {r : Rs} (hr : rdF s (.read 0 30 3) = some r) (h : okR s = none) (hl : ¬ 1000 < s.length) (hp : (Job.read 0 30 3).post s r) : rfV s r = match r with
    | .bad e => (e : Int)
    | .ok _ k => (k : Int) := by
  unfold rfV
  rw [if_neg hl]
  unfold okR at h
  rw [if_neg hl] at h
  unfold okT at h
  rw [hr] at h
  cases r with
  | bad e => rfl
  | ok ts k =>
    obtain ⟨g1, g2, _⟩ := hp
    simp only at h
    split at h
    · cases h
    · rename_i hc
      simp only [rdPl]
      split
      · rfl
      · rename_i hk
        rw [if_neg fun hv => hc ⟨by omega, hv⟩]
        show (s.length : Int) = k
        omega
theorem rf_le {s : List UInt8} {r : Rs} (hp : (Job.read 0 30 3).post s r) : -1 ≤ rfV s r ∧ rfV s r ≤ s.length := by
  unfold rfV
  split
  · omega
  · cases r with
    | bad e =>
      have : e ≤ s.length := hp
      simp only [rdPl]
      omega
    | ok ts k =>
      obtain ⟨g1, g2, _⟩ := hp
      simp only [rdPl]
      split
      · simp only; omega
      · split
        · simp only; omega
        · simp only; omega
theorem rf_iff {s : List UInt8} {r : Rs} (hr : rdF s (.read 0 30 3) = some r) (hp : (Job.read 0 30 3).post s r) : decide (rfV s r < 0) = ((okR s).isSome || decide (1000 < s.length)) := by
  cases ho : okR s with
  | some t => rw [rf_some hr ho]; simp
  | none =>
    by_cases hl : 1000 < s.length
    · unfold rfV; rw [if_pos hl]; simp [hl]
    · rw [rf_none hr ho hl hp]
      cases r <;> simp [hl] <;> omega
theorem rfI_calls (s : List UInt8) {F : Nat} {r : Rs} (hs : s.length ≤ 1000000) (hr : rp s F (.term 3 1 0) = some r) (H : Heap) (hp : Hp H) : ACalls Tryz.prog 25 [.c (.d (.str s))] H (fun r' H' => H' = H ∧ r' = .c (.d (.int .i64 (rfV s r)))) := by
  refine acalls Tryz.func25 (by kernel_rfl) ac25_ok fun hf => ?_
  have hli : inR .i64 (s.length : Int) := small_i64 (by omega) (by omega)
  by_cases hl : 1000 < s.length
  · have hl' : (1000 : Int) < s.length := by omega
    simp -implicitDefEqProofs [ac25, hli, hl', rfV, hl, hf, go_sem, -List.set_cons_succ, -List.set_cons_zero]
  · have hl' : ¬ (1000 : Int) < s.length := by omega
    have c1 := read_calls s (by omega) hr
    have hv : rfV s r = (rdPl s r).2 := by unfold rfV; rw [if_neg hl]
    rw [hv]
    simp -implicitDefEqProofs [ac25, hli, hl', hf, go_sem, -List.set_cons_succ, -List.set_cons_zero]
    refine call_same (c1 _ hp) (by simp [Ob.re, C.re]) (by simp [A.re, A.res, C.re, re_d]) hf ?_
    simp -implicitDefEqProofs [row_len, take_row, drop_row, pure_d, re_d, hf, go_sem, -List.set_cons_succ, -List.set_cons_zero]
theorem rfS_calls (s : List UInt8) (hs : s.length ≤ 1000000) {r : Rs} (hr : rdF s (.read 0 30 3) = some r) (H : Heap) : ACalls Tryz.prog 26 [.c (.d (.str s))] H (fun r' H' => H' = H ∧ r' = .c (.d (.int .i64 (rfV s r)))) := by
  refine acalls Tryz.func26 (by kernel_rfl) ac26_ok fun hf => ?_
  have hli : inR .i64 (s.length : Int) := small_i64 (by omega) (by omega)
  have cs := readTermS_calls s hs
  have hpre : (Job.read 0 30 3).pre s := ⟨Nat.zero_le _, Nat.le_refl _⟩
  have p1 := rdF_post hs hpre hr
  have c1 := (par s hs _).read 0 30 3 r (Nat.zero_le _) (by omega) (Nat.le_refl _) hr
  simp -implicitDefEqProofs [ac26, hli, hf, go_sem, -List.set_cons_succ, -List.set_cons_zero]
  refine qcall_pure cs hf (okA_re _ _) ?_
  cases ho : okR s with
  | some t =>
    rw [rf_some hr ho]
    simp -implicitDefEqProofs [okA, hli, row_len, take_row, drop_row, pure_d, re_d, hf, go_sem, -List.set_cons_succ, -List.set_cons_zero]
  | none =>
    by_cases hl : 1000 < s.length
    · have hl' : (1000 : Int) < s.length := by omega
      simp -implicitDefEqProofs [okA, rfV, hl, hl', hli, row_len, take_row, drop_row, pure_d, re_d, hf, go_sem, -List.set_cons_succ, -List.set_cons_zero]
    · have hl' : ¬ (1000 : Int) < s.length := by omega
      rw [rf_none hr ho hl p1]
      simp -implicitDefEqProofs [okA, hl', hli, row_len, take_row, drop_row, pure_d, re_d, hf, go_sem, -List.set_cons_succ, -List.set_cons_zero]
      refine qcall_pure c1 hf (readA_re _ _) ?_
      cases r with
      | bad e =>
        have he : e ≤ s.length := p1
        have h1 : inR .i64 (-1 - (-1 - (e : Int))) := small_i64 (by omega) (by omega)
        have h2 : -1 - (-1 - (e : Int)) = e := by omega
        have h3 : -1 - (e : Int) < 0 := by omega
        have h4 : inR .i64 (e : Int) := small_i64 (by omega) (by omega)
        simp -implicitDefEqProofs [readA, h1, h2, h3, h4, row_len, take_row, drop_row, pure_d, re_d, hli, hf, go_sem, -List.set_cons_succ, -List.set_cons_zero]
      | ok ts k =>
        obtain ⟨g1, g2, t, rfl, g3⟩ := p1
        have h3 : ¬ (k : Int) < 0 := by omega
        simp -implicitDefEqProofs [readA, h3, row_len, take_row, drop_row, pure_d, re_d, hli, hf, go_sem, -List.set_cons_succ, -List.set_cons_zero]
theorem rfLaw_calls (c : List UInt8) (hc : c.length ≤ reachBytes) (H : Heap) (hp : Hp H) : ACalls Tryz.prog 8 [.c (.d (.sl (bytesRows c)))] H (fun r H' => H' = H ∧ r = .c (.d (.bool true))) := by
  refine acalls Tryz.func8 (by kernel_rfl) ac8_ok fun hf => ?_
  have hli := reach_i64 hc
  simp -implicitDefEqProofs [ac8, hli, bytesRows_len, hf, go_sem, -List.set_cons_succ, -List.set_cons_zero]
  refine fun hle => ?_
  have cd : ACalls Tryz.prog 24 [.c (.d (.sl (bytesRows c)))] H (fun r H' => H' = H ∧ StrN 100010 (fun u => ∃ w, Sq 4 10 0 w ∧ BentR w bits9 u) r) := by
    refine acalls Tryz.func24 (by kernel_rfl) ac24_ok fun hf => ?_
    simp -implicitDefEqProofs [ac24, hf, go_sem, -List.set_cons_succ, -List.set_cons_zero]
    refine call_rel (drawRt2_calls c (by omega) _) hf (by simp) ?_
    rintro _ ⟨s, rfl, hsl⟩
    refine ⟨by simp [A.re, C.re], ?_⟩
    simp -implicitDefEqProofs [hf, go_sem, -List.set_cons_succ, -List.set_cons_zero]
    exact ⟨s, rfl, hsl⟩
  refine call_rel cd hf (by simp) ?_
  rintro _ ⟨s, rfl, hsl, w, hw, hb⟩
  refine ⟨by simp [A.re, C.re], ?_⟩
  have hs6 : s.length ≤ 1000000 := by omega
  have hsi : inR .i64 (s.length : Int) := small_i64 (by omega) (by omega)
  obtain ⟨r, hr, _⟩ := rp_total s hs6 (8 * (s.length + 1) + 5) (.term 3 1 0) (by simp [PJ.m]) ⟨Nat.zero_le _, Nat.le_refl _⟩
  have hq := rf_same hs6 hw hb hr
  have p1 := rdF_post hs6 (j := .read 0 30 3) ⟨Nat.zero_le _, Nat.le_refl _⟩ hq
  have ci := rfI_calls s hs6 hr
  have cs := rfS_calls s hs6 hq
  have hiff := rf_iff hq p1
  have hle2 := rf_le p1
  generalize rfV s r = n at ci cs hiff hle2
  have hni : inR .i64 n := small_i64 (by omega) (by omega)
  simp -implicitDefEqProofs [hf, go_sem, -List.set_cons_succ, -List.set_cons_zero]
  refine call_same (ci _ hp) (by simp) (by simp [A.re, C.re, re_d]) hf ?_
  simp -implicitDefEqProofs [hf, go_sem, -List.set_cons_succ, -List.set_cons_zero]
  refine call_same (readTermI_calls s (by omega) _ hp) (by simp) (okA_re _ _) hf ?_
  cases ho : okR s with
  | some t =>
    rw [ho] at hiff
    simp at hiff
    simp -implicitDefEqProofs [okA, hsi, row_len, take_row, pure_d, re_d, hf, go_sem, -List.set_cons_succ, -List.set_cons_zero]
    refine qcall_pure cs hf rfl ?_
    simp -implicitDefEqProofs [hiff, hsi, hle2.2, row_len, take_row, pure_d, re_d, hf, go_sem, -List.set_cons_succ, -List.set_cons_zero]
  | none =>
    rw [ho] at hiff
    simp -implicitDefEqProofs [okA, zeroT, hsi, row_len, take_row, pure_d, re_d, hf, go_sem, -List.set_cons_succ, -List.set_cons_zero]
    refine qcall_pure cs hf rfl ?_
    by_cases hl : 1000 < s.length
    · have hl' : (1000 : Int) < s.length := by omega
      simp [hl] at hiff
      simp -implicitDefEqProofs [hiff, hl', hsi, hle2.2, row_len, take_row, pure_d, re_d, hf, go_sem, -List.set_cons_succ, -List.set_cons_zero]
    · have hl' : ¬ (1000 : Int) < s.length := by omega
      simp [hl] at hiff
      have hn0 : ¬ n < 0 := by omega
      simp -implicitDefEqProofs [hn0, hl', hsi, hle2.2, row_len, take_row, pure_d, re_d, hf, go_sem, -List.set_cons_succ, -List.set_cons_zero]
theorem law_run8 {gs : List (Nat × Obj)} (hT : Lib2 gs) (rows : List (List D)) (hr : HasTys Tryz.prog (#[30] : Array TypeId).toList rows) : ACalls Tryz.prog 8 (argsA Tryz.prog (#[30] : Array TypeId).toList rows) (tabsH gs) (fun r H' => H' = tabsH gs ∧ r = .c (.d (.bool true))) := by
  obtain ⟨r, rs, rfl, h1, h2⟩ := hr.cons
  obtain rfl := h2.nil
  obtain ⟨s, rfl, hs⟩ := bytes_ty h1
  simp only [argsA, argA, Tryz.underlying30, List.headD_cons]
  obtain ⟨o, o2, rfl, q1, q2⟩ := hT
  exact rfLaw_calls s hs _ ⟨o, o2, rfl, rfl, q1, q2⟩
namespace fnReadFails
theorem own : ownKnob Tryz.prog.godebug = none := by kernel_rfl
theorem door_met (os : Os) (args : Array Value) : laidMetH Tryz.prog laid ((World.doorLaid Tryz.prog 400 os).forCall (fun _ _ => 0) ⟨#[], args, []⟩).memory :=
  laidMetH_of_parts3 (fuel := 8) (laidMet_of_run' 8 (by kernel_rfl) (by kernel_rfl)) (by kernel_rfl) (by kernel_rfl)
theorem contract (H : Type) (enc : TypeId × Value → H) (W : World) (base : Nat) (args : Array Value) (ds gs : List (DataW H)) (before : List MemPlace) (hL : laidMetH Tryz.prog laid W)
    (hval : ∀ (j : Nat) t v, Tryz.f8.params[j]? = some t → args[j]? = some v → Value.okWide Tryz.prog W .any base t v)
    (hW : DataW.Whole enc Tryz.prog Tryz.f8.params.toList Rows.fnReadFailsSpec.vars false W args.toList ds gs before)
    (hw : (DataW.weightsEach Tryz.prog (Tryz.f8.params.toList ++ Rows.fnReadFailsSpec.plain.varTypes Tryz.prog) (ds ++ gs)).all (· ≤ reachBytes) = true) :
    Calls Tryz.prog 8 args W fun e W' => ∃ v, e = .returned v ∧ Rows.fnReadFailsSpec.post enc Tryz.prog Tryz.f8 false true false false W args v W' := by
  refine law_contract_tabs (T := Lib2) (L := [5, 30]) (tb := 4) (by kernel_rfl) (by kernel_rfl) (by kernel_rfl) rfl ?_ (by kernel_rfl) Tryz.underlying4 ?_ W base args ds gs before (lib_laid hL) hval hW hw
  · intro ds hl
    match ds, hl with
    | [d0], _ => rfl
  · intro gs hT rows hr
    rw [Tryz.params8] at hr ⊢
    exact law_run8 hT rows hr

theorem lifted (os : Os) (started : os.Started) (H : Type) (enc : TypeId × Value → H) :
    ReturnsInHanded {} Tryz.checked os 8 .any (fun w args => (Rows.fnReadFailsSpec.pre enc Tryz.prog Tryz.f8 [] false w args ∧ laidMetH Tryz.prog laid w) ∧ sizedMet enc Tryz.prog Tryz.f8 (OpenSpec.ofChange Rows.fnReadFailsSpec) false w args)
      (Rows.fnReadFailsSpec.post enc Tryz.prog Tryz.f8 false true false false) := by
  refine returnsInHanded_of_change_and (C := Tryz.checked) (X := fun w _ => laidMetH Tryz.prog laid w) (fun _ _ _ hh h => h.of_heap hh) own started (by kernel_rfl) Tryz.func8
    (ChangeSpec.witness_shaped (enc := enc) (C := Tryz.checked) (os := os) (X := fun w _ => laidMetH Tryz.prog laid w) false (World.doorLaid Tryz.prog 400 os) #[.slice none 0 0] 8 rfl (World.shaped_of_RefB (by kernel_rfl) (by kernel_rfl)) (by kernel_rfl) (by kernel_rfl) (by kernel_rfl) (door_met os _)) ?_
  intro W base args ds gs before hval hW _ hw hL _
  exact contract H enc W base args ds gs before hL hval hW hw

theorem said : Rows.FnReadFailsSaid :=
  OpenClaim.holds_of_wide 8 Tryz.f8 rfl rfl rfl rfl rfl rfl rfl ⟨rfl, rfl, rfl, rfl, rfl⟩ rfl rfl rfl rfl rfl (by kernel_rfl) Tryz.func8 (by kernel_rfl)
    (of_decide_eq_true (by kernel_rfl)) (by unfold Func.isWrapper; first | (rw [if_pos (by decide +kernel)]; kernel_rfl) | (rw [if_neg (by decide +kernel)]; exact ⟨rfl, rfl⟩))
    (fun os started H enc _ => lifted os started H enc)

theorem proved : Rows.FnReadFailsCardSaid :=
  Claim7.holds_tied_plain_at .later [] [.data, .data, .data, .sentinel, .sentinel] true Rows.fnReadFailsCard.stood.harness true
    said (fun _ h => by cases h) (by kernel_rfl) (fun _ h => by cases h) fnReadFails_row_tie rfl ⟨rfl, rfl⟩ (by kernel_rfl) rfl
    (fun f fn hf hfn => by
      obtain rfl : f = 8 := Option.some.inj ((show Tryz.prog.funcNamed Rows.fnReadFailsRow.func = some 8 by kernel_rfl).symm.trans hf) |>.symm
      obtain rfl : fn = Tryz.f8 := (Option.some.inj (Tryz.func8.symm.trans hfn)).symm
      exact ⟨by kernel_rfl, fun j t ht => by
        rw [Tryz.params8] at ht
        have hall : (Tryz.f8.params.toList.all fun u => !Tryz.prog.wantsStandIn u) = true := by kernel_rfl
        have hm : t ∈ Tryz.f8.params.toList := by
          rw [Tryz.params8]
          simpa using Array.mem_of_getElem? ht
        exact (show Tryz.prog.wantsStandIn t = false by simpa using List.all_eq_true.1 hall t hm)⟩)
    (by kernel_rfl)
end fnReadFails

end Go.Proofs.YtgfmlifkhpjplaaGreatDoor
