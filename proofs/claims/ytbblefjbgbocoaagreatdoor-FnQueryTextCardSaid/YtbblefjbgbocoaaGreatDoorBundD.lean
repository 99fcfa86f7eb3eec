/-
  Contracts of functions that the law reaches, and plain lemmas: several texts in one.
  Conditions: none.
-/
import Derived.Test.YtbblefjbgbocoaaGreatDoorBundC
import Derived.Test.YtbblefjbgbocoaaGreatDoorBundA
import Derived.Test.YtbblefjbgbocoaaGreatDoorBundB
import Derived.Test.YtbblefjbgbocoaaGreatDoorAbsN
open Go Go.AM Go.Proofs
attribute [local go_sem] kw ew sw tw a_ b_ c_ A.ok A.val d_ e_ f_ g_ h_ i_ j_ k_ l_ m_ unA unD n_ AOp.total o_ p_ q_ r_ s_ t_ u_ v_ A.thaw C.thaw A.fits As.fits C.fits evs oks w_ A.pure C.pure A.re C.re x_ y_ cut A.cells C.rows? z_ A_ B_ C_ a0_ b0_ D_ Ob.re Cs.fits E_ F_ G_ H_ I_ J_ K_ L_ M_ N_ O_ C.toD P_ Q_ R_ S_ T_ Obs.fits U_ eqD V_ W_ X_ Y_ Z_
/-
  QueryVars of the reference.
  Conditions: none.
-/
open Go Go.AM Go.Proofs
namespace Go.Proofs.YtbblefjbgbocoaaGreatDoor
open Go.ChangeShapes Go.WideShapes Go.ChangeAt Go.RowKit
set_option linter.unusedVariables false
set_option linter.unusedSimpArgs false
set_option maxRecDepth 100000
theorem l6Vars_calls (l : List Tm) (hl : l.length ≤ 1048576) (h : ∀ t ∈ l, t.fits) (hcl : ∀ t ∈ l, t.clean) (hc : Tm.cnt l ≤ 3000000) (H : Heap) : ACalls Tryz.prog 67 [.c (.d (.sl (l.map Tm.row)))] H
    (fun r H' => H' = H ∧ r = .c (.d (.sl (intRows (varsL l []))))) := by
  have hli : inR .i64 (l.length : Int) := small_i64 (by omega) (by omega)
  refine acalls Tryz.func67 (by kernel_rfl) ac67_ok fun hf => ?_
  simp -implicitDefEqProofs [ac67, hli, go_sem, -List.set_cons_succ, -List.set_cons_zero]
  refine loop_enter (St.le_token 3 1 rfl) ?_
  refine loop_set (σ := Nat) (fun j => [(4, .c (.d (.int .i64 j))), (3, .c (.own (.l 0) (varsL (l.take j) []).length (intRows (varsL (l.take j) []))))]) (fun _ => H) (fun j => [.grow (varsL (l.take j) []).length 1]) (fun j => j ≤ l.length) (fun j => l.length - j) 0 (by simp [setAll, varsL_nil, intRows]) (Nat.zero_le _) ?_
  intro j hj
  obtain ⟨W, hW⟩ : ∃ W, W = varsL (l.take j) [] := ⟨_, rfl⟩
  have hWl : W.length ≤ Tm.cnt (l.take j) := by
    have h1 := varsL_len (l.take j) []
    rw [hW]; simpa using h1
  rw [← hW]
  simp -implicitDefEqProofs [setAll, hli, go_sem, -List.set_cons_succ, -List.set_cons_zero]
  refine ⟨fun hjl => ?_, fun hje => ?_⟩
  · have hadd : inR .i64 ((j : Int) + 1) := small_i64 (by omega) (by omega)
    have hw1 := varsL_succ l [] hjl
    rw [← hW] at hw1
    have hs1 := cnt_take_sub l hjl
    refine row_of hjl (row_len _) ?_
    simp -implicitDefEqProofs [row_len, take_row, pure_d, re_d, hf, go_sem, -List.set_cons_succ, -List.set_cons_zero]
    refine call_addL (j := 0) (r := .c (.own (.l 0) (l[j].vars W).length (intRows (l[j].vars W)))) (l1Vars_calls l[j] (h _ (List.getElem_mem hjl)) (hcl _ (List.getElem_mem hjl)) W _ (H.length + 0) (by simp) (by omega)) rfl rfl hf (by simp [Ob.re, C.re, re_d]) ?_
    simp -implicitDefEqProofs [hadd, go_sem, -List.set_cons_succ, -List.set_cons_zero]
    rw [← hw1]
    exact loop_back (j + 1) (by simp [setAll]) hjl (by show l.length - (j + 1) < l.length - j; omega)
  · obtain rfl : j = l.length := by omega
    rw [List.take_length] at hW
    rw [← hW]
def qvR (l : List Tm) : List Int := if goalsB l then varsL l [] else []
theorem sub_size : ∀ t : Tm, t.sub + 1 ≤ t.size := by
  refine Tm.ind fun k n s l ih => ?_
  simp only [sub_mk, Tm.size]
  have : Tm.cnt l ≤ sizes l := by
    clear k n s
    induction l with
    | nil => simp [cnt_nil]
    | cons t l ih2 =>
      rw [cnt_cons]
      have h1 := ih t (by simp)
      have h2 := ih2 fun t ht => ih t (by simp [ht])
      simp only [sizes]
      omega
  omega
theorem cnt_le {B : Nat} : ∀ (l : List Tm), (∀ t ∈ l, t.sub ≤ B) → Tm.cnt l ≤ l.length * (B + 1)
  | [], _ => by simp [cnt_nil]
  | t :: l, h => by
    have h1 := cnt_le l fun t ht => h t (by simp [ht])
    have h2 := h t (by simp)
    rw [cnt_cons, List.length_cons, Nat.succ_mul]
    omega
theorem goals_ok {l : List Tm} (h : goalsB l = true) : Tm.cnt l ≤ 726 ∧ ∀ t ∈ l, t.clean := by
  simp only [goalsB, Bool.and_eq_true, decide_eq_true_eq, List.all_eq_true] at h
  have h2 : ∀ t ∈ l, t.sub ≤ 120 ∧ t.clean := fun t ht => by
    have h3 := h.2 t ht
    simp only [Tm.goal, Tm.valid, Bool.and_eq_true, decide_eq_true_eq] at h3
    have h4 := sub_size t
    exact ⟨by omega, shape_clean t _ h3.1.1⟩
  have h5 := cnt_le l fun t ht => (h2 t ht).1
  refine ⟨Nat.le_trans h5 (Nat.le_trans (Nat.mul_le_mul_right 121 h.1) (by omega)), fun t ht => (h2 t ht).2⟩
theorem qvsSpec_calls (l : List Tm) (hl : l.length ≤ 1048576) (h : ∀ t ∈ l, t.fits) (H : Heap) : ACalls Tryz.prog 24 [.c (.d (.sl (l.map Tm.row)))] H (fun r H' => H' = H ∧ r = .c (.d (.sl (intRows (qvR l))))) := by
  refine acalls Tryz.func24 (by kernel_rfl) ac24_ok fun hf => ?_
  simp -implicitDefEqProofs [ac24, go_sem, -List.set_cons_succ, -List.set_cons_zero]
  have hq := qvSpec_calls l hl h
  cases hb : goalsB l with
  | false =>
    simp only [hb] at hq
    refine qcall_pure hq hf rfl ?_
    have : qvR l = [] := by rw [qvR, hb]; rfl
    simp -implicitDefEqProofs [this, intRows, go_sem, -List.set_cons_succ, -List.set_cons_zero]
  | true =>
    simp only [hb] at hq
    refine qcall_pure hq hf rfl ?_
    obtain ⟨g1, g2⟩ := goals_ok hb
    have : qvR l = varsL l [] := by rw [qvR, hb]; rfl
    simp -implicitDefEqProofs [go_sem, -List.set_cons_succ, -List.set_cons_zero]
    refine qcall_pure (l6Vars_calls l hl h g2 (by omega)) hf rfl ?_
    simp -implicitDefEqProofs [this, go_sem, -List.set_cons_succ, -List.set_cons_zero]
end Go.Proofs.YtbblefjbgbocoaaGreatDoor

/-
  Slices of bytes as data.
  Conditions: none.
-/
open Go Go.AM Go.Proofs
namespace Go.Proofs.YtbblefjbgbocoaaGreatDoor
open Go.ChangeShapes Go.WideShapes Go.ChangeAt Go.RowKit
set_option linter.unusedVariables false
set_option linter.unusedSimpArgs false
set_option maxRecDepth 100000
theorem bytesRows_len {s : List UInt8} : (bytesRows s).length = s.length := by simp [bytesRows]
theorem bytesRows_nil {s : List UInt8} : bytesRows s = [] ↔ s = [] := by simp [bytesRows]
theorem bytesRows_get {s : List UInt8} {i : Nat} (h : i < s.length) : (bytesRows s)[i]? = some [.int .u8 s[i].toNat] := by simp [bytesRows, h]
theorem bytes_ty {row : List D} (h : HasTy Tryz.prog 22 row) : ∃ s : List UInt8, row = [.sl (bytesRows s)] ∧ s.length ≤ reachBytes := by
  obtain ⟨rows, rfl, hb, hc, ht⟩ := h.sl_inv Tryz.underlying22
  rw [show Tryz.prog.bytesOf 5 = 1 from by kernel_rfl] at hb
  obtain ⟨l, rfl, hl⟩ := list_of_ty (f := fun b : UInt8 => [.int .u8 b.toNat]) (p := fun _ => True) (rows := rows) (fun r hr => by
    obtain ⟨n, e, hn⟩ := (ht r hr).int_inv Tryz.underlying5
    refine ⟨UInt8.ofNat n.toNat, ?_, trivial⟩
    rw [e]
    have h1 : 0 ≤ n ∧ n ≤ 255 := by simpa [inR, IntKind.min, IntKind.max, IntKind.signed, IntKind.bits] using hn
    have : ((UInt8.ofNat n.toNat).toNat : Int) = n := by
      rw [UInt8.toNat_ofNat']
      omega
    rw [this])
  exact ⟨l, rfl, by simpa using hb⟩
theorem byteRow {s : List UInt8} {i : Int} {K : A → St → Prop} {st : St} (h0 : 0 ≤ i) (h : i < s.length) (hk : K (.c (.el [.int .u8 (s[i.toNat]'(by omega)).toNat] 0)) st) : RowK true (bytesRows s) i 1 K st :=
  row_int _ h0 (bytesRows_get (by omega)) rfl hk
theorem u8_i64 (b : UInt8) : IntKind.wrap .i64 (b.toNat : Int) = b.toNat := by
  rw [IntKind.wrap_i64]
  have := b.toNat_lt
  omega
end Go.Proofs.YtbblefjbgbocoaaGreatDoor

/-
  The source of draws: its first functions, each by what it answers.
  Conditions: none.
-/
open Go Go.AM Go.Proofs
namespace Go.Proofs.YtbblefjbgbocoaaGreatDoor
open Go.ChangeShapes Go.WideShapes Go.ChangeAt Go.RowKit
set_option linter.unusedVariables false
set_option linter.unusedSimpArgs false
set_option maxRecDepth 100000
-- 43 (*loop.example/prologserver/spec.l18Rd).pick params 2 ntmps 99
def ac43 : Cd := .seq (.region [⟨(some 4),.mv (.k (.c (.d (.int .i64 0)))),none⟩] [4])
 (.seq (.region [⟨(some 7),.mv (.t 0),none⟩,
 ⟨(some 8),.mv (.t 0),none⟩,
 ⟨(some 9),.nilCheck (.t 8),none⟩,
 ⟨(some 10),.fieldAddr 1 (.t 9),none⟩,
 ⟨(some 11),.load none (.t 10),none⟩,
 ⟨(some 12),.bin .add (.t 11) (.k (.c (.d (.int .i64 1)))),none⟩,
 ⟨(some 13),.nilCheck (.t 7),none⟩,
 ⟨(some 14),.fieldAddr 1 (.t 13),none⟩,
 ⟨none,.store 1 (.t 14) (.t 12),none⟩] [7,8,9,10,11,12,13,14])
 (.seq (.seq (.region [⟨(some 15),.mv (.t 1),none⟩,
 ⟨(some 16),.bin .lss (.t 15) (.k (.c (.d (.int .i64 1)))),none⟩,
 ⟨(some 17),.mv (.t 16),none⟩,
 ⟨(some 18),.mv (.t 0),some (17,false)⟩,
 ⟨(some 19),.nilCheck (.t 18),some (17,false)⟩,
 ⟨(some 20),.fieldAddr 0 (.t 19),some (17,false)⟩,
 ⟨(some 21),.load none (.t 20),some (17,false)⟩,
 ⟨(some 22),.len 1 (.t 21),some (17,false)⟩,
 ⟨(some 23),.bin .eql (.t 22) (.k (.c (.d (.int .i64 0)))),some (17,false)⟩,
 ⟨(some 24),.pick (.t 17) (.k (.c (.d (.bool true)))) (.t 23),none⟩] [15,16,17,18,19,20,21,22,23])
 (.cond (.t 24)
 (.seq (.region [⟨(some 4),.mv (.k (.c (.d (.int .i64 0)))),none⟩] [0,1,24])
 (.ret))
 (.skip)))
 (.seq (.region [⟨(some 25),.mv (.t 0),none⟩,
 ⟨(some 26),.nilCheck (.t 25),none⟩,
 ⟨(some 27),.fieldAddr 1 (.t 26),none⟩,
 ⟨(some 28),.load none (.t 27),none⟩,
 ⟨(some 29),.bin .sub (.t 28) (.k (.c (.d (.int .i64 1)))),none⟩,
 ⟨(some 5),.mv (.t 29),none⟩] [4,24,25,26,27,28,29])
 (.seq (.seq (.region [⟨(some 30),.mv (.t 5),none⟩,
 ⟨(some 31),.mv (.t 0),none⟩,
 ⟨(some 32),.nilCheck (.t 31),none⟩,
 ⟨(some 33),.fieldAddr 0 (.t 32),none⟩,
 ⟨(some 34),.load none (.t 33),none⟩,
 ⟨(some 35),.len 1 (.t 34),none⟩,
 ⟨(some 36),.bin .lss (.t 30) (.t 35),none⟩] [30,31,32,33,34,35])
 (.cond (.t 36)
 (.seq (.region [⟨(some 37),.mv (.t 0),none⟩,
 ⟨(some 38),.nilCheck (.t 37),none⟩,
 ⟨(some 39),.fieldAddr 0 (.t 38),none⟩,
 ⟨(some 40),.load none (.t 39),none⟩,
 ⟨(some 41),.mv (.t 5),none⟩,
 ⟨(some 42),.indexAddr 1 (.t 40) (.t 41),none⟩,
 ⟨(some 43),.load none (.t 42),none⟩,
 ⟨(some 44),.cvInt .i64 (.t 43),none⟩,
 ⟨(some 45),.mv (.t 1),none⟩,
 ⟨(some 46),.bin .rem (.t 44) (.t 45),none⟩,
 ⟨(some 4),.mv (.t 46),none⟩] [0,1,5,36,37,38,39,40,41,42,43,44,45,46])
 (.ret))
 (.skip)))
 (.seq (.region [⟨(some 47),.mv (.t 0),none⟩,
 ⟨(some 48),.nilCheck (.t 47),none⟩,
 ⟨(some 49),.fieldAddr 0 (.t 48),none⟩,
 ⟨(some 51),.mv (.t 5),none⟩,
 ⟨(some 52),.mv (.t 0),none⟩,
 ⟨(some 53),.nilCheck (.t 52),none⟩,
 ⟨(some 54),.fieldAddr 0 (.t 53),none⟩,
 ⟨(some 62),.mv (.t 0),none⟩,
 ⟨(some 63),.nilCheck (.t 62),none⟩,
 ⟨(some 64),.fieldAddr 0 (.t 63),none⟩,
 ⟨(some 66),.mv (.t 5),none⟩,
 ⟨(some 67),.bin .mul (.t 66) (.k (.c (.d (.int .i64 7)))),none⟩,
 ⟨(some 68),.bin .add (.t 67) (.k (.c (.d (.int .i64 3)))),none⟩,
 ⟨(some 69),.mv (.t 0),none⟩,
 ⟨(some 70),.nilCheck (.t 69),none⟩,
 ⟨(some 71),.fieldAddr 0 (.t 70),none⟩,
 ⟨(some 80),.mv (.t 5),none⟩,
 ⟨(some 81),.bin .mul (.t 80) (.k (.c (.d (.int .i64 29)))),none⟩,
 ⟨(some 83),.mv (.t 5),none⟩,
 ⟨(some 84),.mv (.t 0),none⟩,
 ⟨(some 85),.nilCheck (.t 84),none⟩,
 ⟨(some 86),.fieldAddr 0 (.t 85),none⟩,
 ⟨(some 50),.load none (.t 49),none⟩,
 ⟨(some 55),.load none (.t 54),none⟩,
 ⟨(some 56),.len 1 (.t 55),none⟩,
 ⟨(some 57),.bin .rem (.t 51) (.t 56),none⟩,
 ⟨(some 58),.indexAddr 1 (.t 50) (.t 57),none⟩,
 ⟨(some 59),.load none (.t 58),none⟩,
 ⟨(some 60),.cvInt .i64 (.t 59),none⟩,
 ⟨(some 61),.bin .mul (.t 60) (.k (.c (.d (.int .i64 131)))),none⟩,
 ⟨(some 65),.load none (.t 64),none⟩,
 ⟨(some 72),.load none (.t 71),none⟩,
 ⟨(some 73),.len 1 (.t 72),none⟩,
 ⟨(some 74),.bin .rem (.t 68) (.t 73),none⟩,
 ⟨(some 75),.indexAddr 1 (.t 65) (.t 74),none⟩,
 ⟨(some 76),.load none (.t 75),none⟩,
 ⟨(some 77),.cvInt .i64 (.t 76),none⟩,
 ⟨(some 78),.bin .mul (.t 77) (.k (.c (.d (.int .i64 1117)))),none⟩,
 ⟨(some 79),.bin .add (.t 61) (.t 78),none⟩,
 ⟨(some 82),.bin .add (.t 79) (.t 81),none⟩,
 ⟨(some 87),.load none (.t 86),none⟩,
 ⟨(some 88),.len 1 (.t 87),none⟩,
 ⟨(some 89),.bin .quo (.t 83) (.t 88),none⟩,
 ⟨(some 90),.bin .mul (.t 89) (.k (.c (.d (.int .i64 53)))),none⟩,
 ⟨(some 91),.bin .add (.t 82) (.t 90),none⟩,
 ⟨(some 6),.mv (.t 91),none⟩] [0,4,5,36,47,48,49,50,51,52,53,54,55,56,57,58,59,60,61,62,63,64,65,66,67,68,69,70,71,72,73,74,75,76,77,78,79,80,81,82,83,84,85,86,87,88,89,90,91])
 (.seq (.region [⟨(some 92),.mv (.t 6),none⟩,
 ⟨(some 93),.mv (.t 6),none⟩,
 ⟨(some 94),.bin .quo (.t 93) (.k (.c (.d (.int .i64 64)))),none⟩,
 ⟨(some 95),.bin .xor (.t 92) (.t 94),none⟩,
 ⟨(some 6),.mv (.t 95),none⟩] [92,93,94,95])
 (.seq (.region [⟨(some 96),.mv (.t 6),none⟩,
 ⟨(some 97),.mv (.t 1),none⟩,
 ⟨(some 98),.bin .rem (.t 96) (.t 97),none⟩,
 ⟨(some 4),.mv (.t 98),none⟩] [1,6,96,97,98])
 (.ret))))))))
theorem ac43_ok : cFunc Tryz.prog [] [(0,[4],[]),(1,[7,8,9,10,11,12,13,14],[]),(2,[15,16,17,18,19,20,21,22,23],[]),(3,[0,1,24],[]),(4,[4,24,25,26,27,28,29],[]),(5,[30,31,32,33,34,35],[]),(6,[0,1,5,36,37,38,39,40,41,42,43,44,45,46],[]),(7,[0,4,5,36,47,48,49,50,51,52,53,54,55,56,57,58,59,60,61,62,63,64,65,66,67,68,69,70,71,72,73,74,75,76,77,78,79,80,81,82,83,84,85,86,87,88,89,90,91],[0,1,2,4,5,6,7,15,16,17,19,20,21,22,23,24,33,34,36,37,38,39,3,8,9,10,11,12,13,14,18,25,26,27,28,29,30,31,32,35,40,41,42,43,44,45]),(8,[92,93,94,95],[]),(9,[1,6,96,97,98],[])] Tryz.f43 = some (ac43,[.tmp 4],99) := by kernel_rfl
-- 39 loop.example/prologserver/spec.l18Open params 1 ntmps 11
def ac39 : Cd := .seq (.region [⟨(some 2),.mv (.k (.c (.d (.v (.pointer none))))),none⟩] [2])
 (.seq (.seq (.region [⟨(some 3),.mv (.t 0),none⟩,
 ⟨(some 4),.len 1 (.t 3),none⟩,
 ⟨(some 5),.bin .gtr (.t 4) (.k (.c (.d (.int .i64 2000)))),none⟩] [3,4])
 (.cond (.t 5)
 (.region [⟨(some 6),.mv (.t 0),none⟩,
 ⟨(some 7),.slice 1 (.t 6) none (some (.k (.c (.d (.int .i64 2000))))) none,none⟩,
 ⟨(some 0),.mv (.t 7),none⟩] [5,6,7])
 (.skip)))
 (.seq (.region [⟨(some 8),.mv (.t 0),none⟩,
 ⟨(some 9),.build [(.full []),(.d (.int .i64 0))] [(0,1,(.t 8))],none⟩,
 ⟨(some 10),.box (.t 9),none⟩,
 ⟨(some 2),.mv (.t 10),none⟩] [0,5,8,9,10])
 (.ret)))
theorem ac39_ok : cFunc Tryz.prog [] [(0,[2],[]),(1,[3,4],[]),(2,[5,6,7],[]),(3,[0,5,8,9,10],[])] Tryz.f39 = some (ac39,[.tmp 2],11) := by kernel_rfl
-- 90 (*loop.example/prologserver/spec.l18Rd).num params 2 ntmps 12
def ac90 : Cd := .seq (.region [⟨(some 4),.mv (.k (.c (.d (.int .i64 0)))),none⟩] [4])
 (.seq (.region [⟨(some 5),.mv (.t 1),none⟩,
 ⟨(some 6),.mv (.t 0),none⟩,
 ⟨(some 7),.mv (.t 1),none⟩,
 ⟨(some 8),.len 1 (.t 7),none⟩,
 ⟨(some 9),.call false 43 [(.t 6),(.t 8)],none⟩,
 ⟨(some 10),.indexAddr 1 (.t 5) (.t 9),none⟩,
 ⟨(some 11),.load none (.t 10),none⟩,
 ⟨(some 4),.mv (.t 11),none⟩] [0,1,5,6,7,8,9,10,11])
 (.ret))
theorem ac90_ok : cFunc Tryz.prog [] [(0,[4],[]),(1,[0,1,5,6,7,8,9,10,11],[])] Tryz.f90 = some (ac90,[.tmp 4],12) := by kernel_rfl
/-- a source of draws, at a place -/
def Rd (c : List UInt8) (p : Int) : Ob := .cells [.d (.sl (bytesRows c)), .d (.int .i64 p)]
theorem xor_small {x y : Int} (hx : 0 ≤ x) (hx1 : x < 1099511627776) (hy : 0 ≤ y) (hy1 : y < 1099511627776) : 0 ≤ bitsVal .xor .i64 x y ∧ bitsVal .xor .i64 x y < 1099511627776 := by
  obtain ⟨a, rfl⟩ := Int.eq_ofNat_of_zero_le hx
  obtain ⟨b, rfl⟩ := Int.eq_ofNat_of_zero_le hy
  have hx : a < 2 ^ 40 := by omega
  have hy : b < 2 ^ 40 := by omega
  have hxor : a ^^^ b < 2 ^ 40 := Nat.xor_lt_two_pow hx hy
  have e : ((BitVec.ofInt 64 (a : Int)) ^^^ (BitVec.ofInt 64 (b : Int))).toNat = a ^^^ b := by
    rw [BitVec.toNat_xor]
    have h1 : (BitVec.ofInt 64 (a : Int)).toNat = a := by rw [BitVec.ofInt_natCast, BitVec.toNat_ofNat, Nat.mod_eq_of_lt (by omega)]
    have h2 : (BitVec.ofInt 64 (b : Int)).toNat = b := by rw [BitVec.ofInt_natCast, BitVec.toNat_ofNat, Nat.mod_eq_of_lt (by omega)]
    rw [h1, h2]
  have : bitsVal .xor .i64 (a : Int) (b : Int) = ((a ^^^ b : Nat) : Int) := by
    show IntKind.wrap .i64 (((BitVec.ofInt 64 (a : Int)) ^^^ (BitVec.ofInt 64 (b : Int))).toNat : Int) = _
    rw [e, IntKind.wrap_i64]
    omega
  rw [this]
  omega
theorem pick_calls (c : List UInt8) (hc : c.length ≤ 2000) (p m : Int) (hp : 0 ≤ p) (hp1 : p ≤ 1000000) (hm : -1000000000 ≤ m ∧ m ≤ 1000000000) (H : Heap) (i : Nat) (hi : i < H.length) :
    ACalls Tryz.prog 43 [.c (.ptr (.e i) 0), .c (.d (.int .i64 m))] (H.set i (Rd c p)) (fun r H' => ∃ k : Int, r = .c (.d (.int .i64 k)) ∧ 0 ≤ k ∧ (0 < m → k < m) ∧ H' = H.set i (Rd c (p + 1))) := by
  refine acalls Tryz.func43 (by kernel_rfl) ac43_ok fun hf => ?_
  have hadd : inR .i64 (p + 1) := small_i64 (by omega) (by omega)
  have hl : inR .i64 (c.length : Int) := small_i64 (by omega) (by omega)
  have hi64 : inR .i64 p := small_i64 (by omega) (by omega)
  simp only [List.length_set] at hf
  simp -implicitDefEqProofs [ac43, Rd, hadd, hl, hi64, hi, List.getElem?_set, bytesRows_len, go_sem, -List.set_cons_succ, -List.set_cons_zero]
  have hfit : Obs.fits H.length 0 (H.set i (.cells [.d (.sl (bytesRows c)), .d (.int .i64 (p + 1))])) := fits_reset hf ⟨trivial, trivial, trivial⟩
  refine ⟨hfit, fun h1 hc0 => ⟨fun h2 => ?_, fun h2 => ?_⟩⟩
  · refine byteRow hp (by omega) ?_
    simp -implicitDefEqProofs [u8_i64, go_sem, -List.set_cons_succ, -List.set_cons_zero]
    refine ⟨by omega, Int.tmod_nonneg _ (by omega), fun h => Int.tmod_lt_of_pos _ h⟩
  · have hcl : 0 < c.length := by cases c with | nil => exact absurd rfl hc0 | cons a l => simp
    refine ⟨small_i64 (by omega) (by omega), small_i64 (by omega) (by omega), small_i64 (by omega) (by omega), hc0, ?_⟩
    have hm1 := Int.tmod_nonneg (a := p) (c.length : Int) hp
    have hm2 := Int.tmod_lt_of_pos p (b := (c.length : Int)) (by omega)
    refine byteRow hm1 (by omega) ?_
    have hb1 := (c[(p.tmod ↑c.length).toNat]'(by omega)).toNat_lt
    have hq : 0 ≤ (p * 7 + 3).tmod (c.length : Int) := Int.tmod_nonneg _ (by omega)
    have hq2 := Int.tmod_lt_of_pos (p * 7 + 3) (b := (c.length : Int)) (by omega)
    simp -implicitDefEqProofs [u8_i64, hcl, hi, hl, bytesRows_len, bytesRows_nil, hc0, List.getElem?_set, go_sem, -List.set_cons_succ, -List.set_cons_zero]
    refine ⟨small_i64 (by omega) (by omega), byteRow hq (by omega) ?_⟩
    have hb2 := (c[((p * 7 + 3).tmod ↑c.length).toNat]'(by omega)).toNat_lt
    have hd0 : 0 ≤ p.tdiv (c.length : Int) := Int.tdiv_nonneg hp (by omega)
    have hd1 : p.tdiv (c.length : Int) ≤ p := Int.tdiv_le_self _ hp
    generalize ((c[(p.tmod ↑c.length).toNat]'(by omega)).toNat : Nat) = b1 at hb1
    generalize ((c[((p * 7 + 3).tmod ↑c.length).toNat]'(by omega)).toNat : Nat) = b2 at hb2
    generalize hdd : p.tdiv (c.length : Int) = d at hd0 hd1
    have i1 : inR .i64 ((b2 : Int) * 1117) := small_i64 (by omega) (by omega)
    have i2 : inR .i64 ((b1 : Int) * 131 + (b2 : Int) * 1117) := small_i64 (by omega) (by omega)
    have i3 : inR .i64 ((b1 : Int) * 131 + (b2 : Int) * 1117 + p * 29) := small_i64 (by omega) (by omega)
    have i4 : inR .i64 d := small_i64 (by omega) (by omega)
    have i5 : inR .i64 (d * 53) := small_i64 (by omega) (by omega)
    have i6 : inR .i64 ((b1 : Int) * 131 + (b2 : Int) * 1117 + p * 29 + d * 53) := small_i64 (by omega) (by omega)
    have hw : IntKind.wrap .i64 (b2 : Int) = b2 := by rw [IntKind.wrap_i64]; omega
    generalize hX : (b1 : Int) * 131 + (b2 : Int) * 1117 + p * 29 + d * 53 = X at i6
    have hx0 : 0 ≤ X := by omega
    have hx1 : X < 1099511627776 := by omega
    have j1 : 0 ≤ X.tdiv 64 := Int.tdiv_nonneg hx0 (by omega)
    have j2 : X.tdiv 64 ≤ X := Int.tdiv_le_self _ hx0
    obtain ⟨k1, k2⟩ := xor_small hx0 hx1 j1 (by omega)
    have i7 : inR .i64 (X.tdiv 64) := small_i64 (by omega) (by omega)
    simp -implicitDefEqProofs [hw, hcl, hi, hl, hdd, i1, i2, i3, i4, i5, hX, i6, i7, bytesRows_len, bytesRows_nil, hc0, List.getElem?_set, go_sem, -List.set_cons_succ, -List.set_cons_zero]
    exact ⟨by omega, Int.tmod_nonneg _ k1, fun h => Int.tmod_lt_of_pos _ h⟩

/-- what a function that draws gives: its source stands behind where it stood -/
def Drew (R : A → Prop) (N : Int) (c : List UInt8) (p : Int) (H : Heap) (i : Nat) (r : A) (H' : Heap) : Prop := R r ∧ ∃ p', p ≤ p' ∧ p' ≤ p + N ∧ H' = H.set i (Rd c p')
/-- what a function that draws is shown to give -/
def Draws (f : FuncId) (xs : List A) (N : Int) (R : A → Prop) : Prop :=
  ∀ (c : List UInt8) (p : Int) (H : Heap) (i : Nat), c.length ≤ 2000 → 0 ≤ p → p + N ≤ 1000000 → i < H.length → ACalls Tryz.prog f (.c (.ptr (.e i) 0) :: xs) (H.set i (Rd c p)) (Drew R N c p H i)
/-- an integer in a range -/
def IntIn (lo hi : Int) (r : A) : Prop := ∃ k : Int, r = .c (.d (.int .i64 k)) ∧ lo ≤ k ∧ k < hi
theorem pick_draws (m : Int) (hm : 1 ≤ m ∧ m ≤ 1000000000) : Draws 43 [.c (.d (.int .i64 m))] 1 (IntIn 0 m) := fun c p H i hc hp hp1 hi =>
  (pick_calls c hc p m hp (by omega) ⟨by omega, hm.2⟩ H i hi).mono fun r H' ⟨k, h1, h2, h3, h4⟩ => ⟨⟨k, h1, h2, h3 (by omega)⟩, p + 1, by omega, by omega, h4⟩

/-- a call that draws from a source that was handed in -/
theorem call_drawE {f : FuncId} {xs : List A} {N : Int} {R : A → Prop} (hd : Draws f xs N R) {c : List UInt8} {p : Int} {H : Heap} {i : Nat} {sl : List A} {loc H₂ : Heap} {K : A → St → Prop} (hc : c.length ≤ 2000) (hp : 0 ≤ p) (hp1 : p + N ≤ 1000000) (hi : i < H.length)
    (hH : H₂ = H.set i (Rd c p) ++ loc.map (Ob.re H.length)) (hr : ∀ r, R r → A.re H.length r = r) (hf : Obs.fits H.length 0 (H.set i (Rd c p))) (hk : ∀ r p', R r → p ≤ p' → p' ≤ p + N → K r ⟨sl, H.set i (Rd c p'), loc⟩) :
    ACalls Tryz.prog f (.c (.ptr (.e i) 0) :: xs) H₂ (CallK K ⟨sl, H.set i (Rd c p), loc⟩) := by
  subst hH
  have h := hd c p (H ++ loc.map (Ob.re H.length)) i hc hp hp1 (by simp; omega)
  rw [List.set_append_left _ _ hi] at h
  refine h.mono fun r H' ⟨h1, p', h2, h3, h4⟩ => ?_
  rw [List.set_append_left _ _ hi] at h4
  exact ⟨H.set i (Rd c p'), loc, r, by simpa using h4, by simp, Nat.le_refl _, by simpa using fits_reset (b := Rd c p') hf ⟨trivial, trivial, trivial⟩, by simpa using (hr r h1).symm, hk r p' h1 h2 h3⟩
/-- a call that draws from an own source, the first own object -/
theorem call_drawL {f : FuncId} {xs : List A} {N : Int} {R : A → Prop} (hd : Draws f xs N R) {c : List UInt8} {p : Int} {H : Heap} {sl : List A} {loc H₂ : Heap} {j : Nat} {K : A → St → Prop} (hc : c.length ≤ 2000) (hp : 0 ≤ p) (hp1 : p + N ≤ 1000000) (hj : loc[j]? = some (Rd c p))
    (hH : H₂ = H ++ loc.map (Ob.re H.length)) (hr : ∀ r, R r → A.re H.length r = r) (hf : Obs.fits H.length 0 H) (hk : ∀ r p', R r → p ≤ p' → p' ≤ p + N → K r ⟨sl, H, loc.set j (Rd c p')⟩) :
    ACalls Tryz.prog f (.c (.ptr (.e (H.length + j)) 0) :: xs) H₂ (CallK K ⟨sl, H, loc⟩) := by
  subst hH
  have hjl : j < loc.length := (List.getElem?_eq_some_iff.1 hj).1
  have h := hd c p (H ++ loc.map (Ob.re H.length)) (H.length + j) hc hp hp1 (by simp; omega)
  have e : ∀ q, (H ++ loc.map (Ob.re H.length)).set (H.length + j) (Rd c q) = H ++ (loc.set j (Rd c q)).map (Ob.re H.length) := fun q => by
    rw [List.set_append_right _ _ (by omega), Nat.add_sub_cancel_left, List.map_set]
    rfl
  have e0 : loc.set j (Rd c p) = loc := by
    apply List.ext_getElem?
    intro k
    rw [List.getElem?_set]
    split
    · rename_i h; subst h; rw [hj]
    · rfl
  rw [e, e0] at h
  refine h.mono fun r H' ⟨h1, p', h2, h3, h4⟩ => ?_
  rw [e] at h4
  exact ⟨H, loc.set j (Rd c p'), r, h4, rfl, by simp, hf, (hr r h1).symm, hk r p' h1 h2 h3⟩
theorem IntIn.re {lo hi : Int} {n : Nat} {r : A} (h : IntIn lo hi r) : A.re n r = r := by
  obtain ⟨k, rfl, _⟩ := h
  rfl

theorem num_draws (l : List Int) (hl : 1 ≤ l.length ∧ l.length ≤ 1000) : Draws 90 [.c (.d (.sl (l.map fun n => [.int .i64 n])))] 1 (fun r => ∃ n ∈ l, r = .c (.d (.int .i64 n))) := fun c p H i hc hp hp1 hi => by
  refine acalls Tryz.func90 (by kernel_rfl) ac90_ok fun hf => ?_
  simp only [List.length_set] at hf
  have hll : inR .i64 (l.length : Int) := small_i64 (by omega) (by omega)
  simp -implicitDefEqProofs [ac90, hll, go_sem, -List.set_cons_succ, -List.set_cons_zero]
  refine call_drawE (pick_draws l.length ⟨by omega, by omega⟩) hc hp hp1 hi (by simp) (fun r => IntIn.re) hf ?_
  rintro _ p' ⟨k, rfl, h1, h2⟩ h3 h4
  simp -implicitDefEqProofs [go_sem, -List.set_cons_succ, -List.set_cons_zero]
  have hk : k.toNat < l.length := by omega
  refine row_int [.int .i64 l[k.toNat]] h1 (by simp [hk]) rfl ?_
  simp -implicitDefEqProofs [go_sem, -List.set_cons_succ, -List.set_cons_zero]
  exact ⟨⟨_, List.getElem_mem hk, rfl⟩, p', h3, h4, rfl⟩
theorem open_calls (c : List UInt8) (hc : c.length ≤ 1048576) (H : Heap) : ACalls Tryz.prog 39 [.c (.d (.sl (bytesRows c)))] H (fun r H' => r = .c (.ptr (.e H.length) 0) ∧ ∃ c' : List UInt8, c'.length ≤ 2000 ∧ H' = H ++ [Rd c' 0]) := by
  refine acallsK Tryz.func39 (by kernel_rfl) ac39_ok fun hf => ?_
  have hl : inR .i64 (c.length : Int) := small_i64 (by omega) (by omega)
  simp -implicitDefEqProofs [ac39, hl, bytesRows_len, go_sem, -List.set_cons_succ, -List.set_cons_zero]
  refine ⟨fun h => ⟨?_, by omega, ?_⟩, fun h => ?_⟩
  · intro r hr
    simp only [bytesRows, List.mem_map] at hr
    obtain ⟨b, _, rfl⟩ := hr
    rfl
  · refine finK_ret _ ⟨trivial, trivial⟩ rfl ⟨rfl, c.take 2000, by simp; omega, ?_⟩
    simp [Rd, bytesRows, Ob.re, C.re]
  · refine finK_ret _ ⟨trivial, trivial⟩ rfl ⟨rfl, c, by omega, ?_⟩
    simp [Rd, Ob.re, C.re]
end Go.Proofs.YtbblefjbgbocoaaGreatDoor

/-
  Terms that are drawn.
  Conditions: none.
-/
open Go Go.AM Go.Proofs
namespace Go.Proofs.YtbblefjbgbocoaaGreatDoor
open Go.ChangeShapes Go.WideShapes Go.ChangeAt Go.RowKit
set_option linter.unusedVariables false
set_option linter.unusedSimpArgs false
set_option maxRecDepth 100000
-- 91 (*loop.example/prologserver/spec.l18Rd).of params 2 ntmps 12
def ac91 : Cd := .seq (.region [⟨(some 4),.mv (.k (.c (.d (.str [])))),none⟩] [4])
 (.seq (.region [⟨(some 5),.mv (.t 1),none⟩,
 ⟨(some 6),.mv (.t 0),none⟩,
 ⟨(some 7),.mv (.t 1),none⟩,
 ⟨(some 8),.len 1 (.t 7),none⟩,
 ⟨(some 9),.call false 43 [(.t 6),(.t 8)],none⟩,
 ⟨(some 10),.indexAddr 1 (.t 5) (.t 9),none⟩,
 ⟨(some 11),.load none (.t 10),none⟩,
 ⟨(some 4),.mv (.t 11),none⟩] [0,1,5,6,7,8,9,10,11])
 (.ret))
theorem ac91_ok : cFunc Tryz.prog [] [(0,[4],[]),(1,[0,1,5,6,7,8,9,10,11],[])] Tryz.f91 = some (ac91,[.tmp 4],12) := by kernel_rfl
-- 73 loop.example/prologserver/spec.l1Draw params 2 ntmps 65
-- loop head live: [0,1,4,5,6]
namespace Full
-- 96 loop.example/prologserver/spec.l1Struct params 2 ntmps 10
def ac96 : Cd := .seq (.region [⟨(some 4),.alloc [(.d (.int .i64 0)),(.d (.int .i64 0)),(.d (.str [])),(.full [])],none⟩] [])
 (.seq (.region [⟨(some 5),.mv (.t 0),none⟩,
 ⟨(some 6),.buildSlice 4 0 [(.int .i64 0),(.int .i64 0),(.str []),(.sl [])] [],none⟩,
 ⟨(some 7),.mv (.t 1),none⟩,
 ⟨(some 8),.appendF 4 (.t 6) (.t 7),none⟩,
 ⟨(some 9),.build [(.d (.int .i64 0)),(.d (.int .i64 0)),(.d (.str [])),(.full [])] [(0,1,(.k (.c (.d (.int .i64 3))))),(2,1,(.t 5)),(3,1,(.t 8))],none⟩,
 ⟨none,.store 4 (.t 4) (.t 9),none⟩] [0,1,5,6,7,8,9])
 (.ret))
theorem ac96_ok : cFunc Tryz.prog [3000006] [(0,[],[]),(1,[0,1,5,6,7,8,9],[])] Tryz.f96 = some (ac96,[.cell 4 (some 4)],10) := by kernel_rfl
end Full
theorem of_draws (l : List (List UInt8)) (hl : 1 ≤ l.length ∧ l.length ≤ 1000) : Draws 91 [.c (.d (.sl (l.map fun s => [.str s])))] 1 (fun r => ∃ s ∈ l, r = .c (.d (.str s))) := fun c p H i hc hp hp1 hi => by
  refine acalls Tryz.func91 (by kernel_rfl) ac91_ok fun hf => ?_
  simp only [List.length_set] at hf
  have hll : inR .i64 (l.length : Int) := small_i64 (by omega) (by omega)
  simp -implicitDefEqProofs [ac91, hll, go_sem, -List.set_cons_succ, -List.set_cons_zero]
  refine call_drawE (pick_draws l.length ⟨by omega, by omega⟩) hc hp hp1 hi (by simp) (fun r => IntIn.re) hf ?_
  rintro _ p' ⟨k, rfl, h1, h2⟩ h3 h4
  simp -implicitDefEqProofs [go_sem, -List.set_cons_succ, -List.set_cons_zero]
  have hk : k.toNat < l.length := by omega
  refine row_int [.str l[k.toNat]] h1 (by simp [hk]) rfl ?_
  simp -implicitDefEqProofs [go_sem, -List.set_cons_succ, -List.set_cons_zero]
  exact ⟨⟨_, List.getElem_mem hk, rfl⟩, p', h3, h4, rfl⟩
/-- a term that a law looks at -/
def TmR (r : A) : Prop := ∃ t : Tm, r = .agg (t.row.map .d) ∧ t.fits
theorem TmR.re {n : Nat} {r : A} (h : TmR r) : A.re n r = r := by
  obtain ⟨t, rfl, _⟩ := h
  simp [A.re, re_d]
/-- a term that is drawn -/
def TmP (P : Tm → Prop) (r : A) : Prop := ∃ t : Tm, r = .agg (t.row.map .d) ∧ t.fits ∧ P t
theorem TmP.re {P : Tm → Prop} {n : Nat} {r : A} (h : TmP P r) : A.re n r = r := by
  obtain ⟨t, rfl, _⟩ := h
  simp [A.re, re_d]
end Go.Proofs.YtbblefjbgbocoaaGreatDoor

/-
  Terms that are drawn: copies that are changed.
  Conditions: none.
-/
open Go Go.AM Go.Proofs
namespace Go.Proofs.YtbblefjbgbocoaaGreatDoor
open Go.ChangeShapes Go.WideShapes Go.ChangeAt Go.RowKit
set_option linter.unusedVariables false
set_option linter.unusedSimpArgs false
set_option maxRecDepth 100000
-- 123 loop.example/prologserver/spec.l1Some params 1 ntmps 8
def ac122 : Cd := .seq (.region [⟨(some 3),.box (.t 1),none⟩,
 ⟨(some 4),.alloc [(.d (.int .i64 0)),(.d (.int .i64 0)),(.d (.str [])),(.full [])],none⟩] [1])
 (.seq (.region [⟨(some 7),.load (some 4) (.t 3),none⟩,
 ⟨(some 8),.call false 59 [(.t 7)],none⟩,
 ⟨(some 5),.alloc [(.d (.int .i64 0)),(.d (.int .i64 0)),(.d (.str [])),(.full [])],none⟩,
 ⟨none,.store 4 (.t 5) (.t 8),none⟩] [3,7,8])
 (.seq (.seq (.region [⟨(some 9),.mv (.t 0),none⟩,
 ⟨(some 10),.call false 43 [(.t 9),(.k (.c (.d (.int .i64 50))))],none⟩] [9])
 (.block 0 (.seq (.region [⟨(some 12),.bin .eql (.t 10) (.k (.c (.d (.int .i64 0)))),none⟩,
 ⟨(some 11),.mv (.t 12),none⟩] [12])
 (.cond (.t 11)
 (.region [⟨(some 13),.mv (.t 0),none⟩,
 ⟨(some 14),.buildSlice 1 5 [(.int .i64 0)] [(0,(.k (.c (.d (.int .i64 0))))),(1,(.k (.c (.d (.int .i64 4))))),(2,(.k (.c (.d (.int .i64 1))))),(3,(.k (.c (.d (.int .i64 2))))),(4,(.k (.c (.d (.int .i64 3)))))],none⟩,
 ⟨(some 15),.call false 90 [(.t 13),(.t 14)],none⟩,
 ⟨(some 16),.fieldAddr 0 (.t 5),none⟩,
 ⟨none,.store 1 (.t 16) (.t 15),none⟩] [0,10,11,13,14,15,16])
 (.seq (.region [⟨(some 18),.bin .eql (.t 10) (.k (.c (.d (.int .i64 1)))),none⟩,
 ⟨(some 17),.mv (.t 18),none⟩] [11,18])
 (.cond (.t 17)
 (.region [⟨(some 19),.mv (.t 0),none⟩,
 ⟨(some 20),.buildSlice 1 5 [(.int .i64 0)] [(0,(.k (.c (.d (.int .i64 26))))),(1,(.k (.c (.d (.int .i64 1000))))),(2,(.k (.c (.d (.int .i64 (-1000)))))),(3,(.k (.c (.d (.int .i64 (-1)))))),(4,(.k (.c (.d (.int .i64 1)))))],none⟩,
 ⟨(some 21),.call false 90 [(.t 19),(.t 20)],none⟩,
 ⟨(some 22),.fieldAddr 1 (.t 5),none⟩,
 ⟨none,.store 1 (.t 22) (.t 21),none⟩] [0,10,17,19,20,21,22])
 (.seq (.region [⟨(some 24),.bin .eql (.t 10) (.k (.c (.d (.int .i64 2)))),none⟩,
 ⟨(some 23),.mv (.t 24),none⟩] [17,24])
 (.cond (.t 23)
 (.region [⟨(some 25),.mv (.t 0),none⟩,
 ⟨(some 26),.buildSlice 1 5 [(.str [])] [(0,(.k (.c (.d (.str []))))),(1,(.k (.c (.d (.str [88]))))),(2,(.k (.c (.d (.str [116,111,111,108,111,110,103]))))),(3,(.k (.c (.d (.str [195,169]))))),(4,(.k (.c (.d (.str [97])))))],none⟩,
 ⟨(some 27),.call false 91 [(.t 25),(.t 26)],none⟩,
 ⟨(some 28),.fieldAddr 2 (.t 5),none⟩,
 ⟨none,.store 1 (.t 28) (.t 27),none⟩] [0,10,23,25,26,27,28])
 (.seq (.region [⟨(some 30),.bin .eql (.t 10) (.k (.c (.d (.int .i64 3)))),none⟩,
 ⟨(some 29),.mv (.t 30),none⟩] [0,23,30])
 (.cond (.t 29)
 (.block 1 (.loop (.seq (.seq (.region [⟨(some 31),.fieldAddr 3 (.t 5),none⟩,
 ⟨(some 32),.load none (.t 31),none⟩,
 ⟨(some 33),.len 1 (.t 32),none⟩,
 ⟨(some 34),.bin .leq (.t 33) (.k (.c (.d (.int .i64 4)))),none⟩] [31,32,33])
 (.cond (.t 34)
 (.skip)
 (.exit 1)))
 (.block 2 (.region [⟨(some 35),.fieldAddr 3 (.t 5),none⟩,
 ⟨(some 36),.load none (.t 35),none⟩,
 ⟨(some 37),.qcall 125 [(.k (.c (.d (.int .i64 1))))],none⟩,
 ⟨(some 38),.buildSlice 4 1 [(.int .i64 0),(.int .i64 0),(.str []),(.sl [])] [(0,(.t 37))],none⟩,
 ⟨(some 39),.append false 4 (.t 36) (.t 38),none⟩,
 ⟨(some 40),.fieldAddr 3 (.t 5),none⟩,
 ⟨none,.store 1 (.t 40) (.t 39),none⟩] [34,35,36,37,38,39,40])))))
 (.seq (.region [⟨(some 42),.bin .eql (.t 10) (.k (.c (.d (.int .i64 4)))),none⟩,
 ⟨(some 41),.mv (.t 42),none⟩] [10,29,42])
 (.cond (.t 41)
 (.seq (.region [⟨(some 6),.mv (.k (.c (.d (.int .i64 0)))),none⟩] [41])
 (.block 3 (.loop (.seq (.seq (.region [⟨(some 43),.mv (.t 6),none⟩,
 ⟨(some 44),.bin .lss (.t 43) (.k (.c (.d (.int .i64 30)))),none⟩] [43])
 (.cond (.t 44)
 (.skip)
 (.exit 3)))
 (.seq (.block 4 (.region [⟨(some 47),.load (some 4) (.t 5),none⟩,
 ⟨(some 48),.buildSlice 4 1 [(.int .i64 0),(.int .i64 0),(.str []),(.sl [])] [(0,(.t 47))],none⟩,
 ⟨(some 49),.qcall 96 [(.k (.c (.d (.str [115])))),(.t 48)],none⟩,
 ⟨none,.store 4 (.t 5) (.t 49),none⟩] [44,47,48,49]))
 (.region [⟨(some 45),.mv (.t 6),none⟩,
 ⟨(some 46),.bin .add (.t 45) (.k (.c (.d (.int .i64 1)))),none⟩,
 ⟨(some 6),.mv (.t 46),none⟩] [45,46]))))))
 (.skip)))))))))))))
 (.seq (.region [⟨(some 50),.load (some 4) (.t 5),none⟩,
 ⟨none,.store 4 (.t 4) (.t 50),none⟩] [5,41,50])
 (.ret))))
theorem ac122_ok : cFunc Tryz.prog [1000096,1000125] [(0,[1],[]),(1,[3,7,8],[]),(2,[9],[]),(3,[12],[]),(4,[0,10,11,13,14,15,16],[]),(5,[11,18],[]),(6,[0,10,17,19,20,21,22],[]),(7,[17,24],[]),(8,[0,10,23,25,26,27,28],[]),(9,[0,23,30],[]),(10,[31,32,33],[]),(11,[34,35,36,37,38,39,40],[0,1,2,3,4,5,6]),(12,[10,29,42],[]),(13,[41],[]),(14,[43],[]),(16,[44,47,48,49],[]),(15,[45,46],[]),(17,[5,41,50],[])] Tryz.f122 = some (ac122,[.cell 4 (some 4)],51) := by kernel_rfl
theorem Draws.mono {f : FuncId} {xs : List A} {N N' : Int} {R : A → Prop} (h : Draws f xs N R) (hN : N ≤ N') : Draws f xs N' R := fun c p H i hc hp hp1 hi =>
  (h c p H i hc hp (by omega) hi).mono fun r H' ⟨h1, p', h2, h3, h4⟩ => ⟨h1, p', h2, by omega, h4⟩
theorem copy_own (k n : Int) (s : List UInt8) (l : List Tm) (hfits : (Tm.mk k n s l).fits) (H : Heap) : ACalls Tryz.prog 59 [.agg ((Tm.mk k n s l).row.map .d)] H (fun r H' =>
    H' = H ++ [.cells [.d (.int .i64 k), .d (.int .i64 n), .d (.str s), .d (.sl (l.map Tm.row))], .cells [.d (.int .i64 k), .d (.int .i64 n), .d (.str s), .own (.e (H.length + 3)) l.length (l.map Tm.row)], .cells [.d (.int .i64 k), .d (.int .i64 n), .d (.str s), .own (.e (H.length + 3)) l.length (l.map Tm.row)], .grow l.length 4] ∧
    r = .agg [.d (.int .i64 k), .d (.int .i64 n), .d (.str s), .own (.e (H.length + 3)) l.length (l.map Tm.row)]) := by
  obtain ⟨hk, hn, hs, hl, hkids⟩ := hfits
  refine acallsK Tryz.func59 (by kernel_rfl) ac59_ok fun hf => ?_
  have hli : inR .i64 (l.length : Int) := small_i64 (by omega) (by omega)
  simp -implicitDefEqProofs [ac59, row_mk, hf, hli, go_sem, -List.set_cons_succ, -List.set_cons_zero]
  refine loop_enter (St.le_tokenC 2 3 4 rfl rfl) ?_
  refine loop_set (σ := Nat) (fun i => [(4, .c (.d (.int .i64 i)))]) (fun _ => H) (fun i => [.cells [.d (.int .i64 k), .d (.int .i64 n), .d (.str s), .d (.sl (l.map Tm.row))], .cells [.d (.int .i64 0), .d (.int .i64 0), .d (.str []), .full []], .cells [.d (.int .i64 k), .d (.int .i64 n), .d (.str s), .own (.l 3) i ((l.map Tm.row).take i)], .grow i 4])
    (fun i => i ≤ l.length) (fun i => l.length - i) 0 rfl (Nat.zero_le _) ?_
  intro i hi
  simp -implicitDefEqProofs [setAll, hli, go_sem, -List.set_cons_succ, -List.set_cons_zero]
  refine ⟨fun hlt => ?_, fun hge => ?_⟩
  · have hadd : inR .i64 ((i : Int) + 1) := small_i64 (by omega) (by omega)
    refine row_of hlt (row_len _) ?_
    simp -implicitDefEqProofs [row_len, take_row, pure_d, re_d, go_sem, -List.set_cons_succ, -List.set_cons_zero]
    refine qcall_pure (copy_calls l[i] (hkids _ (List.getElem_mem hlt))) hf (by simp [A.re, re_d]) ?_
    simp -implicitDefEqProofs [row_len, toDs_map, hadd, hf, Nat.min_eq_left hi, go_sem, -List.set_cons_succ, -List.set_cons_zero]
    refine ⟨fun r hr => allLen_map row_len r (List.mem_of_mem_take hr), by unfold maxApp; omega, ?_⟩
    refine loop_back (i + 1) ?_ hlt (by show l.length - (i + 1) < l.length - i; omega)
    simp [setAll, take_map_succ hlt]
  · have hil : i = l.length := by omega
    subst hil
    rw [show (l.map Tm.row).take l.length = l.map Tm.row from List.take_of_length_le (by simp)]
    simp -implicitDefEqProofs [hf, go_sem, -List.set_cons_succ, -List.set_cons_zero]
    refine finK_ret _ ⟨trivial, trivial⟩ rfl ?_
    simp [Ob.re, C.re, A.re, Ref.re]
theorem l1Mutate_draws (t : Tm) (ht : t.fits) : Draws 122 [.agg (t.row.map .d)] 2 TmR := fun c p H i hc hp hp1 hi => by
  obtain ⟨k, n, s, l⟩ := t
  refine acalls Tryz.func122 (by kernel_rfl) ac122_ok fun hf => ?_
  simp only [List.length_set] at hf
  have hf0 : ∀ q, Obs.fits H.length 0 (H.set i (Rd c q)) := fun q => fits_reset (b := Rd c q) hf ⟨trivial, trivial, trivial⟩
  have hf1 : ∀ q, Obs.fits (H.set i (Rd c q)).length 0 (H.set i (Rd c q)) := fun q => by simpa using hf0 q
  have hcopy := copy_own k n s l ht
  obtain ⟨hk, hn, hs, hl, hkids⟩ := ht
  rw [row_mk] at hcopy ⊢
  simp -implicitDefEqProofs [ac122, hf0, go_sem, -List.set_cons_succ, -List.set_cons_zero]
  have done : ∀ (t : Tm) (q : Int), p ≤ q → q ≤ p + 2 → t.fits → ∀ r, r = .agg (t.row.map .d) → Drew TmR 2 c p H i r (H.set i (Rd c q)) := fun t q a1 a2 a3 r hr => ⟨⟨t, hr, a3⟩, q, a1, a2, rfl⟩
  refine (hcopy _).mono fun r H' ⟨g1, g2⟩ => ⟨H.set i (Rd c p), [.cells [.d (.int .i64 k), .d (.int .i64 n), .d (.str s), .d (.sl (l.map Tm.row))], .cells [.d (.int .i64 0), .d (.int .i64 0), .d (.str []), .full []], .cells [.d (.int .i64 k), .d (.int .i64 n), .d (.str s), .d (.sl (l.map Tm.row))], .cells [.d (.int .i64 k), .d (.int .i64 n), .d (.str s), .own (.l 5) l.length (l.map Tm.row)], .cells [.d (.int .i64 k), .d (.int .i64 n), .d (.str s), .own (.l 5) l.length (l.map Tm.row)], .grow l.length 4],
    .agg [.d (.int .i64 k), .d (.int .i64 n), .d (.str s), .own (.l 5) l.length (l.map Tm.row)], by rw [g1]; simp [Ob.re, C.re, Ref.re], by simp, by simp, by simpa using hf0 p, by rw [g2]; simp [A.re, C.re, Ref.re], ?_⟩
  clear hcopy
  simp -implicitDefEqProofs [hf0, go_sem, -List.set_cons_succ, -List.set_cons_zero]
  refine call_drawE (pick_draws 50 (by omega)) hc (by omega) (by omega) hi (by simp [Ob.re, C.re, Ref.re]) (fun r => IntIn.re) (hf0 _) ?_
  rintro _ p1 ⟨m, rfl, m0, m1⟩ h1 h2
  simp -implicitDefEqProofs [hf0, go_sem, -List.set_cons_succ, -List.set_cons_zero]
  refine ⟨fun _ => ?_, fun _ => ⟨fun _ => ?_, fun _ => ⟨fun _ => ?_, fun _ => ⟨fun _ => ?_, fun _ => ⟨fun _ => ?_, fun _ => ?_⟩⟩⟩⟩⟩
  · refine call_drawE (num_draws [0, 4, 1, 2, 3] (by decide)) hc (by omega) (by omega) hi (by simp [Ob.re, C.re]) (fun r ⟨n, _, hn⟩ => by subst hn; rfl) (hf0 _) ?_
    rintro _ p2 ⟨x, hx, rfl⟩ h3 h4
    have hx : -1000 ≤ x ∧ x ≤ 1000 := by simp at hx; omega
    simp -implicitDefEqProofs [hf0, go_sem, -List.set_cons_succ, -List.set_cons_zero]
    exact done (.mk x n s l) p2 (by omega) (by omega) (.mk (small_i64 (by omega) (by omega)) hn hs hl hkids) _ (by simp [row_mk])
  · refine call_drawE (num_draws [26, 1000, -1000, -1, 1] (by decide)) hc (by omega) (by omega) hi (by simp [Ob.re, C.re]) (fun r ⟨n, _, hn⟩ => by subst hn; rfl) (hf0 _) ?_
    rintro _ p2 ⟨x, hx, rfl⟩ h3 h4
    have hx : -1000 ≤ x ∧ x ≤ 1000 := by simp at hx; omega
    simp -implicitDefEqProofs [hf0, go_sem, -List.set_cons_succ, -List.set_cons_zero]
    exact done (.mk k x s l) p2 (by omega) (by omega) (.mk hk (small_i64 (by omega) (by omega)) hs hl hkids) _ (by simp [row_mk])
  · refine call_drawE (of_draws [[], [88], [116, 111, 111, 108, 111, 110, 103], [195, 169], [97]] (by decide)) hc (by omega) (by omega) hi (by simp [Ob.re, C.re]) (fun r ⟨n, _, hn⟩ => by subst hn; rfl) (hf0 _) ?_
    rintro _ p2 ⟨x, hx, rfl⟩ h3 h4
    have hx : x.length ≤ 1000 := by simp at hx; rcases hx with rfl | rfl | rfl | rfl | rfl <;> decide
    simp -implicitDefEqProofs [hf0, go_sem, -List.set_cons_succ, -List.set_cons_zero]
    exact done (.mk k n x l) p2 (by omega) (by omega) (.mk hk hn (by omega) hl hkids) _ (by simp [row_mk])
  · refine loop_set (σ := List Tm) (fun _ => []) (fun _ => H.set i (Rd c p1)) (fun y => [.cells [.d (.int .i64 k), .d (.int .i64 n), .d (.str s), .d (.sl (l.map Tm.row))], .cells [.d (.int .i64 0), .d (.int .i64 0), .d (.str []), .full []], .cells [.d (.int .i64 k), .d (.int .i64 n), .d (.str s), .d (.sl (l.map Tm.row))], .cells [.d (.int .i64 k), .d (.int .i64 n), .d (.str s), .own (.l 5) l.length (l.map Tm.row)], .cells [.d (.int .i64 k), .d (.int .i64 n), .d (.str s), .own (.l 5) l.length (l.map Tm.row)], .grow y.length 4, .cells [.d (.int .i64 k), .d (.int .i64 n), .d (.str s), .own (.l 5) y.length (y.map Tm.row)]])
      (fun y => y.length ≤ 1048576 ∧ ∀ t ∈ y, t.fits) (fun y => 5 - y.length) l rfl ⟨hl, hkids⟩ ?_
    rintro y ⟨hy, hyf⟩
    have hly : inR .i64 (y.length : Int) := small_i64 (by omega) (by omega)
    simp -implicitDefEqProofs [setAll, hf0, hly, go_sem, -List.set_cons_succ, -List.set_cons_zero]
    refine ⟨fun hlt => ?_, fun hge => ?_⟩
    · refine qcall_pure (int_calls 1) (hf1 _) (by simp [A.re, re_d]) ?_
      simp -implicitDefEqProofs [hf0, row_mk, go_sem, -List.set_cons_succ, -List.set_cons_zero]
      refine ⟨allLen_map row_len, by unfold maxApp; omega, ?_⟩
      refine loop_back (y ++ [Tm.mk 2 1 [] []]) (by simp [setAll, row_mk]) ⟨by simp; omega, fun t ht => ?_⟩ (by show 5 - (y ++ [Tm.mk 2 1 [] []]).length < 5 - y.length; simp; omega)
      rcases List.mem_append.1 ht with ht | ht
      · exact hyf t ht
      · simp at ht; subst ht; exact .mk (small_i64 (by omega) (by omega)) (small_i64 (by omega) (by omega)) (by simp) (by simp) (by simp)
    · exact done (.mk k n s y) p1 (by omega) (by omega) (.mk hk hn hs hy hyf) _ (by simp [row_mk])
  · refine loop_set (σ := Nat × Tm) (fun x => [(6, .c (.d (.int .i64 x.1)))]) (fun _ => H.set i (Rd c p1)) (fun x => [.cells [.d (.int .i64 k), .d (.int .i64 n), .d (.str s), .d (.sl (l.map Tm.row))], .cells [.d (.int .i64 0), .d (.int .i64 0), .d (.str []), .full []], .cells [.d (.int .i64 k), .d (.int .i64 n), .d (.str s), .d (.sl (l.map Tm.row))], .cells [.d (.int .i64 k), .d (.int .i64 n), .d (.str s), .own (.l 5) l.length (l.map Tm.row)], .cells [.d (.int .i64 k), .d (.int .i64 n), .d (.str s), .own (.l 5) l.length (l.map Tm.row)], .grow l.length 4, .cells (if x.1 = 0 then [.d (.int .i64 k), .d (.int .i64 n), .d (.str s), .own (.l 5) l.length (l.map Tm.row)] else x.2.row.map .d)])
      (fun x => x.1 ≤ 30 ∧ x.2.fits ∧ (x.1 = 0 → x.2 = .mk k n s l)) (fun x => 30 - x.1) (0, Tm.mk k n s l) rfl ⟨by omega, .mk hk hn hs hl hkids, fun _ => rfl⟩ ?_
    rintro ⟨j, u⟩ ⟨hj, hu, hj0⟩
    simp only at hj hu hj0
    have hadd : inR .i64 ((j : Int) + 1) := small_i64 (by omega) (by omega)
    have hone : (Tm.mk 3 0 [115] [u]).fits := .mk (small_i64 (by omega) (by omega)) (small_i64 (by omega) (by omega)) (by simp) (by simp) (by simpa using hu)
    have hst := struct_calls [115] [u] (by simp)
    simp only [List.map_cons, List.map_nil] at hst
    by_cases hz : j = 0
    · subst hz
      have hu := hj0 rfl
      subst hu
      have h1 : inR .i64 1 := small_i64 (by omega) (by omega)
      simp -implicitDefEqProofs [setAll, hf0, go_sem, -List.set_cons_succ, -List.set_cons_zero]
      rw [row_mk] at hst
      refine qcall_pure hst (hf1 _) (by simp [A.re, re_d]) ?_
      simp -implicitDefEqProofs [hf0, h1, row_len, take_row, go_sem, -List.set_cons_succ, -List.set_cons_zero]
      exact loop_back (1, Tm.mk 3 0 [115] [Tm.mk k n s l]) (by simp [setAll]) ⟨by simp, hone, fun h => by simp at h⟩ (by show 30 - 1 < 30 - 0; omega)
    · simp -implicitDefEqProofs [setAll, hf0, hz, hadd, row_len, take_row, toDs_map, go_sem, -List.set_cons_succ, -List.set_cons_zero]
      refine ⟨fun hlt => ?_, fun hge => ?_⟩
      · refine qcall_pure hst (hf1 _) (by simp [A.re, re_d, row_len]) ?_
        simp -implicitDefEqProofs [hf0, hadd, row_len, take_row, go_sem, -List.set_cons_succ, -List.set_cons_zero]
        exact loop_back (j + 1, Tm.mk 3 0 [115] [u]) (by simp [setAll, row_len]) ⟨by show j + 1 ≤ 30; omega, hone, fun h => by simp at h⟩ (by show 30 - (j + 1) < 30 - j; omega)
      · simp [thaw_d, fits_map]
        exact done u p1 (by omega) (by omega) hu _ rfl
  · exact done (.mk k n s l) p1 (by omega) (by omega) (.mk hk hn hs hl hkids) _ (by simp [row_mk])
end Go.Proofs.YtbblefjbgbocoaaGreatDoor

/-
  Queries that are drawn.
  Conditions: none.
-/
open Go Go.AM Go.Proofs
namespace Go.Proofs.YtbblefjbgbocoaaGreatDoor
open Go.ChangeShapes Go.WideShapes Go.ChangeAt Go.RowKit
set_option linter.unusedVariables false
set_option linter.unusedSimpArgs false
set_option maxRecDepth 100000
-- 63 loop.example/prologserver/spec.l6Queries params 0 ntmps 2
def ac63 : Cd := .seq (.region [⟨(some 0),.mv (.k (.c (.full []))),none⟩] [0])
 (.seq (.region [⟨(some 1),.buildSlice 1 24 [(.str [])] [(0,(.k (.c (.d (.str [97,112,112,40,65,44,66,44,91,49,44,50,93,41]))))),(1,(.k (.c (.d (.str [97,112,112,40,91,49,93,44,91,50,93,44,65,41]))))),(2,(.k (.c (.d (.str [109,101,109,40,65,44,91,97,44,98,44,99,93,41]))))),(3,(.k (.c (.d (.str [113,40,65,41]))))),(4,(.k (.c (.d (.str [114,40,65,44,66,41,44,65,62,66]))))),(5,(.k (.c (.d (.str [108,101,110,40,91,97,44,98,44,99,93,44,65,41]))))),(6,(.k (.c (.d (.str [109,97,120,40,51,44,50,44,65,41]))))),(7,(.k (.c (.d (.str [109,97,120,40,65,44,50,44,51,41]))))),(8,(.k (.c (.d (.str [116,40,97,44,65,41]))))),(9,(.k (.c (.d (.str [108,111,111,112]))))),(10,(.k (.c (.d (.str [111,107,44,33]))))),(11,(.k (.c (.d (.str [102,97,99,40,52,44,65,41]))))),(12,(.k (.c (.d (.str [115,40,65,41]))))),(13,(.k (.c (.d (.str [114,101,118,40,91,49,44,50,44,51,93,44,91,93,44,65,41]))))),(14,(.k (.c (.d (.str [98,97,100,40,65,41]))))),(15,(.k (.c (.d (.str [98,105,103,40,65,41]))))),(16,(.k (.c (.d (.str [117,110,40,65,41]))))),(17,(.k (.c (.d (.str [112,40,65,41,44,33,44,112,40,66,41]))))),(18,(.k (.c (.d (.str [65,61,102,40,66,44,67,41,44,97,114,103,40,49,44,65,44,68,41]))))),(19,(.k (.c (.d (.str [109,101,109,40,65,44,91,49,44,50,93,41,44,109,101,109,40,66,44,91,65,44,51,93,41]))))),(20,(.k (.c (.d (.str [65,32,105,115,32,51,47,47,48]))))),(21,(.k (.c (.d (.str [116,114,117,101]))))),(22,(.k (.c (.d (.str [109,101,109,40,65,44,66,41]))))),(23,(.k (.c (.d (.str [112,40,65,41,44,65,92,61,50])))))],none⟩,
 ⟨(some 0),.mv (.t 1),none⟩] [1])
 (.ret))
theorem ac63_ok : cFunc Tryz.prog [] [(0,[0],[]),(1,[1],[])] Tryz.f63 = some (ac63,[.tmp 0],2) := by kernel_rfl
-- 112 loop.example/prologserver/spec.l6Query params 1 ntmps 19
def ac112 : Cd := .seq (.region [⟨(some 2),.mv (.k (.c (.full []))),none⟩] [2])
 (.seq (.region [⟨(some 6),.qcall 63 [],none⟩,
 ⟨(some 3),.mv (.t 6),none⟩] [6])
 (.seq (.region [⟨(some 8),.mv (.t 3),none⟩,
 ⟨(some 9),.mv (.t 0),none⟩,
 ⟨(some 10),.mv (.t 3),none⟩,
 ⟨(some 11),.len 1 (.t 10),none⟩,
 ⟨(some 12),.call false 43 [(.t 9),(.t 11)],none⟩,
 ⟨(some 13),.indexAddr 1 (.t 8) (.t 12),none⟩,
 ⟨(some 14),.load none (.t 13),none⟩,
 ⟨(some 15),.qcall 14 [(.t 14)],none⟩,
 ⟨(some 7),.mv (.t 15),none⟩,
 ⟨(some 16),.extract 0 (.t 7),none⟩,
 ⟨(some 17),.extract 1 (.t 7),none⟩,
 ⟨(some 4),.mv (.t 16),none⟩,
 ⟨(some 5),.mv (.t 17),none⟩] [0,3,5,7,8,9,10,11,12,13,14,15,16,17])
 (.seq (.region [⟨(some 18),.mv (.t 4),none⟩,
 ⟨(some 2),.mv (.t 18),none⟩] [4,18])
 (.ret))))
theorem ac112_ok : cFunc Tryz.prog [1000014,1000063] [(0,[2],[]),(1,[6],[]),(2,[0,3,5,7,8,9,10,11,12,13,14,15,16,17],[]),(3,[4,18],[])] Tryz.f112 = some (ac112,[.tmp 2],19) := by kernel_rfl
-- 111 loop.example/prologserver/spec.l6MutateAll params 2 ntmps 34
-- loop head live: [0,1,5,6]
-- loop head live: [5]
def ac111 : Cd := .seq (.region [⟨(some 4),.mv (.k (.c (.full []))),none⟩] [4])
 (.seq (.region [⟨(some 7),.buildSlice 4 0 [(.int .i64 0),(.int .i64 0),(.str []),(.sl [])] [],none⟩,
 ⟨(some 5),.mv (.t 7),none⟩] [7])
 (.seq (.seq (.region [⟨(some 6),.mv (.k (.c (.d (.int .i64 0)))),none⟩] [])
 (.block 0 (.loop (.seq (.seq (.region [⟨(some 8),.mv (.t 6),none⟩,
 ⟨(some 9),.mv (.t 1),none⟩,
 ⟨(some 10),.len 1 (.t 9),none⟩,
 ⟨(some 11),.bin .lss (.t 8) (.t 10),none⟩] [8,9,10])
 (.cond (.t 11)
 (.skip)
 (.exit 0)))
 (.seq (.block 1 (.region [⟨(some 14),.mv (.t 5),none⟩,
 ⟨(some 15),.mv (.t 0),none⟩,
 ⟨(some 16),.mv (.t 1),none⟩,
 ⟨(some 17),.mv (.t 6),none⟩,
 ⟨(some 18),.indexAddr 4 (.t 16) (.t 17),none⟩,
 ⟨(some 19),.load (some 4) (.t 18),none⟩,
 ⟨(some 20),.call false 122 [(.t 15),(.t 19)],none⟩,
 ⟨(some 21),.buildSlice 4 1 [(.int .i64 0),(.int .i64 0),(.str []),(.sl [])] [(0,(.t 20))],none⟩,
 ⟨(some 22),.append false 4 (.t 14) (.t 21),none⟩,
 ⟨(some 5),.mv (.t 22),none⟩] [11,14,15,16,17,18,19,20,21,22]))
 (.region [⟨(some 12),.mv (.t 6),none⟩,
 ⟨(some 13),.bin .add (.t 12) (.k (.c (.d (.int .i64 1)))),none⟩,
 ⟨(some 6),.mv (.t 13),none⟩] [12,13]))))))
 (.seq (.seq (.region [⟨(some 23),.mv (.t 0),none⟩,
 ⟨(some 24),.call false 43 [(.t 23),(.k (.c (.d (.int .i64 30))))],none⟩,
 ⟨(some 25),.bin .eql (.t 24) (.k (.c (.d (.int .i64 0)))),none⟩] [0,23,24])
 (.cond (.t 25)
 (.block 2 (.loop (.seq (.seq (.region [⟨(some 26),.mv (.t 5),none⟩,
 ⟨(some 27),.len 1 (.t 26),none⟩,
 ⟨(some 28),.bin .leq (.t 27) (.k (.c (.d (.int .i64 6)))),none⟩] [26,27])
 (.cond (.t 28)
 (.skip)
 (.exit 2)))
 (.block 3 (.region [⟨(some 29),.mv (.t 5),none⟩,
 ⟨(some 30),.qcall 96 [(.k (.c (.d (.str [116,114,117,101])))),(.k (.c (.full [])))],none⟩,
 ⟨(some 31),.buildSlice 4 1 [(.int .i64 0),(.int .i64 0),(.str []),(.sl [])] [(0,(.t 30))],none⟩,
 ⟨(some 32),.append false 4 (.t 29) (.t 31),none⟩,
 ⟨(some 5),.mv (.t 32),none⟩] [28,29,30,31,32])))))
 (.skip)))
 (.seq (.region [⟨(some 33),.mv (.t 5),none⟩,
 ⟨(some 4),.mv (.t 33),none⟩] [5,25,33])
 (.ret)))))
theorem ac111_ok : cFunc Tryz.prog [1000096] [(0,[4],[]),(1,[7],[]),(2,[],[]),(3,[8,9,10],[]),(5,[11,14,15,16,17,18,19,20,21,22],[]),(4,[12,13],[]),(6,[0,23,24],[]),(7,[26,27],[]),(8,[28,29,30,31,32],[]),(9,[5,25,33],[])] Tryz.f111 = some (ac111,[.tmp 4],34) := by kernel_rfl
-- 64 loop.example/prologserver/spec.DrawQueryValid params 1 ntmps 10
def ac64 : Cd := .seq (.region [⟨(some 2),.mv (.k (.c (.full []))),none⟩] [2])
 (.seq (.region [⟨(some 4),.mv (.t 0),none⟩,
 ⟨(some 5),.call false 39 [(.t 4)],none⟩,
 ⟨(some 3),.mv (.t 5),none⟩] [0,4,5])
 (.seq (.region [⟨(some 6),.mv (.t 3),none⟩,
 ⟨(some 7),.mv (.t 3),none⟩,
 ⟨(some 8),.call false 112 [(.t 7)],none⟩,
 ⟨(some 9),.call false 111 [(.t 6),(.t 8)],none⟩,
 ⟨(some 2),.mv (.t 9),none⟩] [3,6,7,8,9])
 (.ret)))
theorem ac64_ok : cFunc Tryz.prog [] [(0,[2],[]),(1,[0,4,5],[]),(2,[3,6,7,8,9],[])] Tryz.f64 = some (ac64,[.tmp 2],10) := by kernel_rfl
def queries : List (List UInt8) := [[97, 112, 112, 40, 65, 44, 66, 44, 91, 49, 44, 50, 93, 41], [97, 112, 112, 40, 91, 49, 93, 44, 91, 50, 93, 44, 65, 41], [109, 101, 109, 40, 65, 44, 91, 97, 44, 98, 44, 99, 93, 41], [113, 40, 65, 41], [114, 40, 65, 44, 66, 41, 44, 65, 62, 66], [108, 101, 110, 40, 91, 97, 44, 98, 44, 99, 93, 44, 65, 41], [109, 97, 120, 40, 51, 44, 50, 44, 65, 41], [109, 97, 120, 40, 65, 44, 50, 44, 51, 41], [116, 40, 97, 44, 65, 41], [108, 111, 111, 112], [111, 107, 44, 33], [102, 97, 99, 40, 52, 44, 65, 41], [115, 40, 65, 41], [114, 101, 118, 40, 91, 49, 44, 50, 44, 51, 93, 44, 91, 93, 44, 65, 41], [98, 97, 100, 40, 65, 41], [98, 105, 103, 40, 65, 41], [117, 110, 40, 65, 41], [112, 40, 65, 41, 44, 33, 44, 112, 40, 66, 41], [65, 61, 102, 40, 66, 44, 67, 41, 44, 97, 114, 103, 40, 49, 44, 65, 44, 68, 41], [109, 101, 109, 40, 65, 44, 91, 49, 44, 50, 93, 41, 44, 109, 101, 109, 40, 66, 44, 91, 65, 44, 51, 93, 41], [65, 32, 105, 115, 32, 51, 47, 47, 48], [116, 114, 117, 101], [109, 101, 109, 40, 65, 44, 66, 41], [112, 40, 65, 41, 44, 65, 92, 61, 50]]
def TmsR (n : Nat) (r : A) : Prop := ∃ l : List Tm, r = .c (.d (.sl (l.map Tm.row))) ∧ l.length ≤ n ∧ ∀ t ∈ l, t.fits
theorem TmsR.re {m n : Nat} {r : A} (h : TmsR m r) : A.re n r = r := by
  obtain ⟨l, rfl, _⟩ := h
  rfl
theorem queries_calls (H : Heap) : ACalls Tryz.prog 63 [] H (fun r H' => H' = H ∧ r = .c (.d (.sl (queries.map strRow)))) := by
  refine acalls Tryz.func63 (by kernel_rfl) ac63_ok fun hf => ?_
  simp -implicitDefEqProofs [ac63, queries, strRow, go_sem, -List.set_cons_succ, -List.set_cons_zero]
theorem query_draws : Draws 112 [] 1 (TmsR 7) := fun c p H i hc hp hp1 hi => by
  refine acalls Tryz.func112 (by kernel_rfl) ac112_ok fun hf => ?_
  simp only [List.length_set] at hf
  have hf0 : ∀ q, Obs.fits H.length 0 (H.set i (Rd c q)) := fun q => fits_reset (b := Rd c q) hf ⟨trivial, trivial, trivial⟩
  have hf1 : ∀ q, Obs.fits (H.set i (Rd c q)).length 0 (H.set i (Rd c q)) := fun q => by simpa using hf0 q
  have hql : queries.length = 24 := rfl
  have h24 : inR .i64 (24 : Int) := small_i64 (by omega) (by omega)
  simp -implicitDefEqProofs [ac112, hf0, go_sem, -List.set_cons_succ, -List.set_cons_zero]
  refine qcall_pure queries_calls (hf1 _) rfl ?_
  simp -implicitDefEqProofs [hql, h24, hf0, go_sem, -List.set_cons_succ, -List.set_cons_zero]
  refine call_drawE (pick_draws 24 (by omega)) hc (by omega) (by omega) hi (by simp [Ob.re, C.re]) (fun r => IntIn.re) (hf0 _) ?_
  rintro _ p1 ⟨m, rfl, m0, m1⟩ h1 h2
  have hmlt : m.toNat < queries.length := by rw [hql]; omega
  have hql2 : (queries[m.toNat]).length ≤ 1000000 := by
    have : ∀ q ∈ queries, q.length ≤ 1000 := by decide
    have := this _ (List.getElem_mem hmlt)
    omega
  obtain ⟨g1, g2⟩ := queryR_fits queries[m.toNat] hql2
  simp -implicitDefEqProofs [hf0, go_sem, -List.set_cons_succ, -List.set_cons_zero]
  refine row_int [.str queries[m.toNat]] m0 (by simp [hmlt, strRow]) rfl ?_
  simp -implicitDefEqProofs [hf0, go_sem, -List.set_cons_succ, -List.set_cons_zero]
  refine qcall_pure (pqSpec_calls queries[m.toNat] hql2) (hf1 _) (by simp [A.re, A.res, C.re]) ?_
  simp -implicitDefEqProofs [hf0, go_sem, -List.set_cons_succ, -List.set_cons_zero]
  exact ⟨⟨_, rfl, g1, g2⟩, p1, h1, h2, rfl⟩
theorem mutateAll_draws (l : List Tm) (hl : l.length ≤ 7) (hft : ∀ t ∈ l, t.fits) : Draws 111 [.c (.d (.sl (l.map Tm.row)))] 15 (TmsR 7) := fun c p H i hc hp hp1 hi => by
  refine acalls Tryz.func111 (by kernel_rfl) ac111_ok fun hf => ?_
  simp only [List.length_set] at hf
  have hf0 : ∀ q, Obs.fits H.length 0 (H.set i (Rd c q)) := fun q => fits_reset (b := Rd c q) hf ⟨trivial, trivial, trivial⟩
  have hf1 : ∀ q, Obs.fits (H.set i (Rd c q)).length 0 (H.set i (Rd c q)) := fun q => by simpa using hf0 q
  have hli : inR .i64 (l.length : Int) := small_i64 (by omega) (by omega)
  simp -implicitDefEqProofs [ac111, hf0, go_sem, -List.set_cons_succ, -List.set_cons_zero]
  refine loop_enter (St.le_token 5 4 rfl) ?_
  refine loop_set (σ := Nat × List Tm × Int) (fun x => [(6, .c (.d (.int .i64 x.1))), (5, .c (.own (.l 0) x.2.1.length (x.2.1.map Tm.row)))]) (fun x => H.set i (Rd c x.2.2)) (fun x => [.grow x.2.1.length 4])
    (fun x => x.1 ≤ l.length ∧ x.2.1.length = x.1 ∧ p ≤ x.2.2 ∧ x.2.2 ≤ p + 2 * x.1 ∧ ∀ t ∈ x.2.1, t.fits) (fun x => l.length - x.1) (0, [], p) (by simp [setAll]) ⟨Nat.zero_le _, rfl, Int.le_refl _, by simp, by simp⟩ ?_
  rintro ⟨k, out, q⟩ ⟨hk, hol, hq1, hq2, hout⟩
  simp only at hk hol hq1 hq2 hout
  simp -implicitDefEqProofs [setAll, hli, hf0, go_sem, -List.set_cons_succ, -List.set_cons_zero]
  refine ⟨fun hlt => ?_, fun hge => ?_⟩
  · have hadd : inR .i64 ((k : Int) + 1) := small_i64 (by omega) (by omega)
    refine row_of hlt (row_len _) ?_
    simp -implicitDefEqProofs [row_len, take_row, pure_d, re_d, hf0, go_sem, -List.set_cons_succ, -List.set_cons_zero]
    refine call_drawE (l1Mutate_draws l[k] (hft _ (List.getElem_mem hlt))) hc (by omega) (by omega) hi (by simp [Ob.re, C.re]) (fun r => TmR.re) (hf0 _) ?_
    rintro _ q2 ⟨t, rfl, ht⟩ h5 h6
    simp -implicitDefEqProofs [hadd, row_len, take_row, toDs_map, hf0, go_sem, -List.set_cons_succ, -List.set_cons_zero]
    refine ⟨allLen_map row_len, by unfold maxApp; omega, ?_⟩
    refine loop_back (k + 1, out ++ [t], q2) (by simp [setAll]) ⟨hlt, by simp; omega, by dsimp only; omega, by dsimp only; omega, fun x hx => ?_⟩ (by show l.length - (k + 1) < l.length - k; omega)
    rcases List.mem_append.1 hx with hx | hx
    · exact hout x hx
    · simp at hx; subst hx; exact ht
  · refine call_drawE (pick_draws 30 (by omega)) hc (by omega) (by omega) hi (by simp [Ob.re, C.re]) (fun r => IntIn.re) (hf0 _) ?_
    rintro _ q2 ⟨m, rfl, m0, m1⟩ h5 h6
    have done : ∀ (out : List Tm), out.length ≤ 7 → (∀ t ∈ out, t.fits) → ∀ r, r = .c (.d (.sl (out.map Tm.row))) → Drew (TmsR 7) 15 c p H i r (H.set i (Rd c q2)) := fun out a1 a2 r hr => ⟨⟨out, hr, a1, a2⟩, q2, by omega, by omega, rfl⟩
    simp -implicitDefEqProofs [hf0, go_sem, -List.set_cons_succ, -List.set_cons_zero]
    refine ⟨fun h0 => ?_, fun h0 => ?_⟩
    · refine loop_set (σ := List Tm) (fun x => [(5, .c (.own (.l 0) x.length (x.map Tm.row)))]) (fun x => H.set i (Rd c q2)) (fun x => [.grow x.length 4]) (fun x => x.length ≤ 7 ∧ ∀ t ∈ x, t.fits) (fun x => 7 - x.length) out (by simp [setAll]) ⟨by omega, hout⟩ ?_
      rintro x ⟨hx, hxf⟩
      have hxl : inR .i64 (x.length : Int) := small_i64 (by omega) (by omega)
      simp -implicitDefEqProofs [setAll, hxl, hf0, go_sem, -List.set_cons_succ, -List.set_cons_zero]
      have hst := struct_calls [116, 114, 117, 101] [] (by simp)
      simp only [List.map_nil] at hst
      refine ⟨fun hlt => ?_, fun hge => ?_⟩
      · refine qcall_pure hst (hf1 _) (by simp [A.re, re_d]) ?_
        simp -implicitDefEqProofs [row_len, take_row, toDs_map, hf0, go_sem, -List.set_cons_succ, -List.set_cons_zero]
        refine ⟨allLen_map row_len, by unfold maxApp; omega, ?_⟩
        refine loop_back (x ++ [.mk 3 0 [116, 114, 117, 101] []]) (by simp [setAll]) ⟨by simp; omega, fun t ht => ?_⟩ (by show 7 - (x ++ [Tm.mk 3 0 [116, 114, 117, 101] []]).length < 7 - x.length; simp; omega)
        rcases List.mem_append.1 ht with ht | ht
        · exact hxf t ht
        · simp at ht; subst ht; exact fits_st (by simp) (by simp) (by simp)
      · exact done x hx hxf _ rfl
    · exact done out (by omega) hout _ rfl
theorem drawQv_calls (c : List UInt8) (hc : c.length ≤ 1048576) (H : Heap) : ACalls Tryz.prog 64 [.c (.d (.sl (bytesRows c)))] H (fun r H' => H' = H ∧ TmsR 7 r) := by
  refine acalls Tryz.func64 (by kernel_rfl) ac64_ok fun hf => ?_
  simp -implicitDefEqProofs [ac64, go_sem, -List.set_cons_succ, -List.set_cons_zero]
  refine (open_calls c hc _).mono fun r H' ⟨h1, c', hc', h2⟩ => ⟨H, [Rd c' 0], .c (.ptr (.l 0) 0), by rw [h2]; simp [Rd, Ob.re, C.re], rfl, by simp, hf, by rw [h1]; simp [A.re, C.re, Ref.re], ?_⟩
  simp -implicitDefEqProofs [go_sem, -List.set_cons_succ, -List.set_cons_zero]
  refine call_drawL (j := 0) query_draws hc' (by omega) (by omega) rfl (by simp [Rd, Ob.re, C.re]) (fun r => TmsR.re) hf ?_
  rintro _ p1 ⟨l, rfl, hl, hft⟩ h3 h4
  simp -implicitDefEqProofs [go_sem, -List.set_cons_succ, -List.set_cons_zero]
  refine call_drawL (j := 0) (mutateAll_draws l hl hft) hc' (by omega) (by omega) rfl (by simp [Rd, Ob.re, C.re]) (fun r => TmsR.re) hf ?_
  rintro _ p2 ⟨l2, rfl, hl2, hft2⟩ h5 h6
  simp -implicitDefEqProofs [hf, go_sem, -List.set_cons_succ, -List.set_cons_zero]
  exact ⟨l2, rfl, hl2, hft2⟩
end Go.Proofs.YtbblefjbgbocoaaGreatDoor

/-
  Texts, drawn and bent.
  Conditions: none.
-/
open Go Go.AM Go.Proofs
namespace Go.Proofs.YtbblefjbgbocoaaGreatDoor
open Go.ChangeShapes Go.WideShapes Go.ChangeAt Go.RowKit
set_option linter.unusedVariables false
set_option linter.unusedSimpArgs false
set_option maxRecDepth 100000
-- 55 loop.example/prologserver/spec.l1Bend params 3 ntmps 35
def ac55 : Cd := .seq (.region [⟨(some 6),.mv (.k (.c (.d (.str [])))),none⟩] [6])
 (.seq (.seq (.region [⟨(some 8),.mv (.t 1),none⟩,
 ⟨(some 9),.len 0 (.t 8),none⟩,
 ⟨(some 10),.bin .eql (.t 9) (.k (.c (.d (.int .i64 0)))),none⟩,
 ⟨(some 11),.mv (.t 10),none⟩,
 ⟨(some 12),.mv (.t 0),some (11,false)⟩,
 ⟨(some 13),.call false 43 [(.t 12),(.k (.c (.d (.int .i64 2))))],some (11,false)⟩,
 ⟨(some 14),.bin .eql (.t 13) (.k (.c (.d (.int .i64 0)))),some (11,false)⟩,
 ⟨(some 15),.pick (.t 11) (.k (.c (.d (.bool true)))) (.t 14),none⟩] [8,9,10,11,12,13,14])
 (.cond (.t 15)
 (.seq (.region [⟨(some 16),.mv (.t 1),none⟩,
 ⟨(some 6),.mv (.t 16),none⟩] [0,1,2,15,16])
 (.ret))
 (.skip)))
 (.seq (.region [⟨(some 17),.mv (.t 0),none⟩,
 ⟨(some 18),.mv (.t 1),none⟩,
 ⟨(some 19),.len 0 (.t 18),none⟩,
 ⟨(some 20),.call false 43 [(.t 17),(.t 19)],none⟩,
 ⟨(some 7),.mv (.t 20),none⟩] [6,15,17,18,19,20])
 (.seq (.region [⟨(some 21),.mv (.t 1),none⟩,
 ⟨(some 22),.mv (.t 7),none⟩,
 ⟨(some 23),.slice 0 (.t 21) none (some (.t 22)) none,none⟩,
 ⟨(some 24),.mv (.t 0),none⟩,
 ⟨(some 25),.mv (.t 2),none⟩,
 ⟨(some 28),.mv (.t 1),none⟩,
 ⟨(some 29),.mv (.t 7),none⟩,
 ⟨(some 30),.mv (.t 0),none⟩,
 ⟨(some 26),.call false 91 [(.t 24),(.t 25)],none⟩,
 ⟨(some 27),.bin .add (.t 23) (.t 26),none⟩,
 ⟨(some 31),.call false 43 [(.t 30),(.k (.c (.d (.int .i64 2))))],none⟩,
 ⟨(some 32),.bin .add (.t 29) (.t 31),none⟩,
 ⟨(some 33),.slice 0 (.t 28) (some (.t 32)) none none,none⟩,
 ⟨(some 34),.bin .add (.t 27) (.t 33),none⟩,
 ⟨(some 6),.mv (.t 34),none⟩] [0,1,2,7,21,22,23,24,25,26,27,28,29,30,31,32,33,34])
 (.ret))))
theorem ac55_ok : cFunc Tryz.prog [] [(0,[6],[]),(1,[8,9,10,11,12,13,14],[]),(2,[0,1,2,15,16],[]),(3,[6,15,17,18,19,20],[]),(4,[0,1,2,7,21,22,23,24,25,26,27,28,29,30,31,32,33,34],[0,1,2,3,4,7,8,9,5,6,10,11,12,13,14])] Tryz.f55 = some (ac55,[.tmp 6],35) := by kernel_rfl
/-- a text that is drawn -/
def StrR (n : Nat) (r : A) : Prop := ∃ s : List UInt8, r = .c (.d (.str s)) ∧ s.length ≤ n
theorem StrR.re {n m : Nat} {r : A} (h : StrR n r) : A.re m r = r := by obtain ⟨s, rfl, _⟩ := h; simp [A.re, C.re]
theorem bend_draws (s : List UInt8) (hs : s.length ≤ 100000) (l : List (List UInt8)) (hl : (1 ≤ l.length ∧ l.length ≤ 1000) ∧ ∀ x ∈ l, x.length ≤ 10) : Draws 55 [.c (.d (.str s)), .c (.d (.sl (l.map fun s => [.str s])))] 4 (StrR (s.length + 10)) := fun c p H i hc hp hp1 hi => by
  refine acalls Tryz.func55 (by kernel_rfl) ac55_ok fun hf => ?_
  simp only [List.length_set] at hf
  have hf0 : ∀ q, Obs.fits H.length 0 (H.set i (Rd c q)) := fun q => fits_reset (b := Rd c q) hf ⟨trivial, trivial, trivial⟩
  have hli : inR .i64 (s.length : Int) := small_i64 (by omega) (by omega)
  have fin : ∀ (t : List UInt8) (q : Int), t.length ≤ s.length + 10 → p ≤ q → q ≤ p + 4 → Drew (StrR (s.length + 10)) 4 c p H i (.c (.d (.str t))) (H.set i (Rd c q)) := fun t q h a1 a2 => ⟨⟨t, rfl, h⟩, q, a1, a2, rfl⟩
  cases hse : s with
  | nil =>
    subst hse
    simp -implicitDefEqProofs [ac55, hf0, go_sem, -List.set_cons_succ, -List.set_cons_zero]
    exact ⟨small_i64 (by omega) (by omega), fin [] p (by simp) (by omega) (by omega)⟩
  | cons b w =>
    rw [← hse]
    have hpos : 0 < s.length := by rw [hse]; simp
    have hz : ¬ ((s.length : Int) = 0) := by omega
    have hz2 : ¬ s = [] := by rw [hse]; simp
    simp -implicitDefEqProofs [ac55, hf0, hli, hz, hz2, go_sem, -List.set_cons_succ, -List.set_cons_zero]
    refine call_drawE (pick_draws 2 (by omega)) hc (by omega) (by omega) hi (by simp [Ob.re, C.re]) (fun r => IntIn.re) (hf0 _) ?_
    rintro _ p1 ⟨k, rfl, k1, k2⟩ h1 h2
    simp -implicitDefEqProofs [hf0, hli, hz, go_sem, -List.set_cons_succ, -List.set_cons_zero]
    refine ⟨fun _ => fin s p1 (by omega) (by omega) (by omega), fun _ => ?_⟩
    refine call_drawE (pick_draws s.length (by omega)) hc (by omega) (by omega) hi (by simp [Ob.re, C.re]) (fun r => IntIn.re) (hf0 _) ?_
    rintro _ p2 ⟨m, rfl, m1, m2⟩ h3 h4
    simp -implicitDefEqProofs [hf0, hli, go_sem, -List.set_cons_succ, -List.set_cons_zero]
    refine ⟨⟨m1, by omega⟩, ?_⟩
    refine call_drawE (of_draws l hl.1) hc (by omega) (by omega) hi (by simp [Ob.re, C.re]) (fun r ⟨n, _, hn⟩ => by subst hn; rfl) (hf0 _) ?_
    rintro _ p3 ⟨x, hx, rfl⟩ h5 h6
    have hxl := hl.2 x hx
    simp -implicitDefEqProofs [hf0, hli, go_sem, -List.set_cons_succ, -List.set_cons_zero]
    refine ⟨by unfold maxStr; omega, ?_⟩
    refine call_drawE (pick_draws 2 (by omega)) hc (by omega) (by omega) hi (by simp [Ob.re, C.re]) (fun r => IntIn.re) (hf0 _) ?_
    rintro _ p4 ⟨j, rfl, j1, j2⟩ h7 h8
    have hmj : inR .i64 (m + j) := small_i64 (by omega) (by omega)
    simp -implicitDefEqProofs [hf0, hli, hmj, go_sem, -List.set_cons_succ, -List.set_cons_zero]
    refine ⟨by omega, ?_⟩
    have e1 : (m + j).toNat = m.toNat + j.toNat := by omega
    have e2 : m.toNat ≤ s.length := by omega
    refine ⟨by unfold maxStr; omega, fin _ p4 ?_ (by omega) (by omega)⟩
    simp
    omega
end Go.Proofs.YtbblefjbgbocoaaGreatDoor

/-
  Variables of queries; texts of queries, drawn.
  Conditions: none.
-/
open Go Go.AM Go.Proofs
namespace Go.Proofs.YtbblefjbgbocoaaGreatDoor
open Go.ChangeShapes Go.WideShapes Go.ChangeAt Go.RowKit
set_option linter.unusedVariables false
set_option linter.unusedSimpArgs false
set_option maxRecDepth 100000
-- 27 loop.example/prologserver/impl.TermVars params 1 ntmps 8
def ac27 : Cd := .seq (.region [⟨(some 1),.box (.t 0),none⟩,
 ⟨(some 2),.mv (.k (.c (.full []))),none⟩] [0,2])
 (.seq (.seq (.region [⟨(some 3),.load (some 4) (.t 1),none⟩,
 ⟨(some 4),.qcall 70 [(.t 3)],none⟩,
 ⟨(some 5),.un .not (.t 4),none⟩] [3,4])
 (.cond (.t 5)
 (.seq (.region [⟨(some 2),.mv (.k (.c (.full []))),none⟩] [1,5])
 (.ret))
 (.skip)))
 (.seq (.region [⟨(some 6),.load (some 4) (.t 1),none⟩,
 ⟨(some 7),.call true 71 [(.t 6),(.k (.c (.full [])))],none⟩,
 ⟨(some 2),.mv (.t 7),none⟩] [1,5,6,7])
 (.ret)))
theorem ac27_ok : cFunc Tryz.prog [1000070,71] [(0,[0,2],[]),(1,[3,4],[]),(2,[1,5],[]),(3,[1,5,6,7],[])] Tryz.f27 = some (ac27,[.tmp 2],8) := by kernel_rfl
-- 21 loop.example/prologserver/impl.QueryVars params 1 ntmps 8
def ac21 : Cd := .seq (.region [⟨(some 2),.mv (.k (.c (.full []))),none⟩] [2])
 (.seq (.seq (.region [⟨(some 3),.mv (.t 0),none⟩,
 ⟨(some 4),.qcall 25 [(.t 3)],none⟩,
 ⟨(some 5),.un .not (.t 4),none⟩] [3,4])
 (.cond (.t 5)
 (.seq (.region [⟨(some 2),.mv (.k (.c (.full []))),none⟩] [0,5])
 (.ret))
 (.skip)))
 (.seq (.region [⟨(some 6),.mv (.t 0),none⟩,
 ⟨(some 7),.call false 65 [(.t 6)],none⟩,
 ⟨(some 2),.mv (.t 7),none⟩] [0,5,6,7])
 (.ret)))
theorem ac21_ok : cFunc Tryz.prog [1000025] [(0,[2],[]),(1,[3,4],[]),(2,[0,5],[]),(3,[0,5,6,7],[])] Tryz.f21 = some (ac21,[.tmp 2],8) := by kernel_rfl
-- 23 loop.example/prologserver/laws.pgInts params 2 ntmps 26
-- loop head live: [0,1,5]
def ac23 : Cd := .seq (.region [⟨(some 4),.mv (.k (.c (.d (.bool false)))),none⟩] [4])
 (.seq (.seq (.region [⟨(some 6),.mv (.t 0),none⟩,
 ⟨(some 7),.len 1 (.t 6),none⟩,
 ⟨(some 8),.mv (.t 1),none⟩,
 ⟨(some 9),.len 1 (.t 8),none⟩,
 ⟨(some 10),.bin .neq (.t 7) (.t 9),none⟩] [6,7,8,9])
 (.cond (.t 10)
 (.seq (.region [⟨(some 4),.mv (.k (.c (.d (.bool false)))),none⟩] [0,1,10])
 (.ret))
 (.skip)))
 (.seq (.seq (.region [⟨(some 5),.mv (.k (.c (.d (.int .i64 0)))),none⟩] [4,10])
 (.block 0 (.loop (.seq (.seq (.region [⟨(some 11),.mv (.t 5),none⟩,
 ⟨(some 12),.mv (.t 0),none⟩,
 ⟨(some 13),.len 1 (.t 12),none⟩,
 ⟨(some 14),.bin .lss (.t 11) (.t 13),none⟩] [11,12,13])
 (.cond (.t 14)
 (.skip)
 (.exit 0)))
 (.seq (.block 1 (.seq (.region [⟨(some 17),.mv (.t 0),none⟩,
 ⟨(some 18),.mv (.t 5),none⟩,
 ⟨(some 19),.indexAddr 1 (.t 17) (.t 18),none⟩,
 ⟨(some 21),.mv (.t 1),none⟩,
 ⟨(some 22),.mv (.t 5),none⟩,
 ⟨(some 23),.indexAddr 1 (.t 21) (.t 22),none⟩,
 ⟨(some 20),.load none (.t 19),none⟩,
 ⟨(some 24),.load none (.t 23),none⟩,
 ⟨(some 25),.bin .neq (.t 20) (.t 24),none⟩] [14,17,18,19,20,21,22,23,24])
 (.cond (.t 25)
 (.seq (.region [⟨(some 4),.mv (.k (.c (.d (.bool false)))),none⟩] [0,1,5,25])
 (.ret))
 (.skip))))
 (.region [⟨(some 15),.mv (.t 5),none⟩,
 ⟨(some 16),.bin .add (.t 15) (.k (.c (.d (.int .i64 1)))),none⟩,
 ⟨(some 5),.mv (.t 16),none⟩] [4,15,16,25]))))))
 (.seq (.region [⟨(some 4),.mv (.k (.c (.d (.bool true)))),none⟩] [])
 (.ret))))
theorem ac23_ok : cFunc Tryz.prog [] [(0,[4],[]),(1,[6,7,8,9],[]),(2,[0,1,10],[]),(3,[4,10],[]),(4,[11,12,13],[]),(6,[14,17,18,19,20,21,22,23,24],[0,1,2,4,5,6,3,7,8]),(7,[0,1,5,25],[]),(5,[4,15,16,25],[]),(8,[],[])] Tryz.f23 = some (ac23,[.tmp 4],26) := by kernel_rfl
-- 28 loop.example/prologserver/laws.pgIn params 2 ntmps 18
-- loop head live: [0,1,5]
def ac28 : Cd := .seq (.region [⟨(some 4),.mv (.k (.c (.d (.bool false)))),none⟩] [4])
 (.seq (.seq (.region [⟨(some 5),.mv (.k (.c (.d (.int .i64 0)))),none⟩] [])
 (.block 0 (.loop (.seq (.seq (.region [⟨(some 6),.mv (.t 5),none⟩,
 ⟨(some 7),.mv (.t 0),none⟩,
 ⟨(some 8),.len 1 (.t 7),none⟩,
 ⟨(some 9),.bin .lss (.t 6) (.t 8),none⟩] [6,7,8])
 (.cond (.t 9)
 (.skip)
 (.exit 0)))
 (.seq (.block 1 (.seq (.region [⟨(some 12),.mv (.t 0),none⟩,
 ⟨(some 13),.mv (.t 5),none⟩,
 ⟨(some 14),.indexAddr 1 (.t 12) (.t 13),none⟩,
 ⟨(some 15),.load none (.t 14),none⟩,
 ⟨(some 16),.mv (.t 1),none⟩,
 ⟨(some 17),.bin .eql (.t 15) (.t 16),none⟩] [9,12,13,14,15,16])
 (.cond (.t 17)
 (.seq (.region [⟨(some 4),.mv (.k (.c (.d (.bool true)))),none⟩] [0,1,5,17])
 (.ret))
 (.skip))))
 (.region [⟨(some 10),.mv (.t 5),none⟩,
 ⟨(some 11),.bin .add (.t 10) (.k (.c (.d (.int .i64 1)))),none⟩,
 ⟨(some 5),.mv (.t 11),none⟩] [4,10,11,17]))))))
 (.seq (.region [⟨(some 4),.mv (.k (.c (.d (.bool false)))),none⟩] [])
 (.ret)))
theorem ac28_ok : cFunc Tryz.prog [] [(0,[4],[]),(1,[],[]),(2,[6,7,8],[]),(4,[9,12,13,14,15,16],[]),(5,[0,1,5,17],[]),(3,[4,10,11,17],[]),(6,[],[])] Tryz.f28 = some (ac28,[.tmp 4],18) := by kernel_rfl
-- 22 loop.example/prologserver/laws.pgTerms params 2 ntmps 27
-- loop head live: [0,1,5]
def ac22 : Cd := .seq (.region [⟨(some 4),.mv (.k (.c (.d (.bool false)))),none⟩] [4])
 (.seq (.seq (.region [⟨(some 6),.mv (.t 0),none⟩,
 ⟨(some 7),.len 1 (.t 6),none⟩,
 ⟨(some 8),.mv (.t 1),none⟩,
 ⟨(some 9),.len 1 (.t 8),none⟩,
 ⟨(some 10),.bin .neq (.t 7) (.t 9),none⟩] [6,7,8,9])
 (.cond (.t 10)
 (.seq (.region [⟨(some 4),.mv (.k (.c (.d (.bool false)))),none⟩] [0,1,10])
 (.ret))
 (.skip)))
 (.seq (.seq (.region [⟨(some 5),.mv (.k (.c (.d (.int .i64 0)))),none⟩] [4,10])
 (.block 0 (.loop (.seq (.seq (.region [⟨(some 11),.mv (.t 5),none⟩,
 ⟨(some 12),.mv (.t 0),none⟩,
 ⟨(some 13),.len 1 (.t 12),none⟩,
 ⟨(some 14),.bin .lss (.t 11) (.t 13),none⟩] [11,12,13])
 (.cond (.t 14)
 (.skip)
 (.exit 0)))
 (.seq (.block 1 (.seq (.region [⟨(some 17),.mv (.t 0),none⟩,
 ⟨(some 18),.mv (.t 5),none⟩,
 ⟨(some 19),.indexAddr 4 (.t 17) (.t 18),none⟩,
 ⟨(some 21),.mv (.t 1),none⟩,
 ⟨(some 22),.mv (.t 5),none⟩,
 ⟨(some 23),.indexAddr 4 (.t 21) (.t 22),none⟩,
 ⟨(some 20),.load (some 4) (.t 19),none⟩,
 ⟨(some 24),.load (some 4) (.t 23),none⟩,
 ⟨(some 25),.qcall 66 [(.t 20),(.t 24)],none⟩,
 ⟨(some 26),.un .not (.t 25),none⟩] [14,17,18,19,20,21,22,23,24,25])
 (.cond (.t 26)
 (.seq (.region [⟨(some 4),.mv (.k (.c (.d (.bool false)))),none⟩] [0,1,5,26])
 (.ret))
 (.skip))))
 (.region [⟨(some 15),.mv (.t 5),none⟩,
 ⟨(some 16),.bin .add (.t 15) (.k (.c (.d (.int .i64 1)))),none⟩,
 ⟨(some 5),.mv (.t 16),none⟩] [4,15,16,26]))))))
 (.seq (.region [⟨(some 4),.mv (.k (.c (.d (.bool true)))),none⟩] [])
 (.ret))))
theorem ac22_ok : cFunc Tryz.prog [1000066] [(0,[4],[]),(1,[6,7,8,9],[]),(2,[0,1,10],[]),(3,[4,10],[]),(4,[11,12,13],[]),(6,[14,17,18,19,20,21,22,23,24,25],[0,1,2,4,5,6,3,7,8,9]),(7,[0,1,5,26],[]),(5,[4,15,16,26],[]),(8,[],[])] Tryz.f22 = some (ac22,[.tmp 4],27) := by kernel_rfl
-- 19 loop.example/prologserver/spec.DrawParseQuery params 1 ntmps 18
def ac19 : Cd := .seq (.region [⟨(some 2),.mv (.k (.c (.d (.str [])))),none⟩] [2])
 (.seq (.region [⟨(some 5),.mv (.t 0),none⟩,
 ⟨(some 6),.call false 39 [(.t 5)],none⟩,
 ⟨(some 3),.mv (.t 6),none⟩] [0,5,6])
 (.seq (.region [⟨(some 7),.qcall 63 [],none⟩,
 ⟨(some 4),.mv (.t 7),none⟩] [7])
 (.seq (.region [⟨(some 8),.mv (.t 3),none⟩,
 ⟨(some 9),.mv (.t 4),none⟩,
 ⟨(some 10),.mv (.t 3),none⟩,
 ⟨(some 11),.mv (.t 4),none⟩,
 ⟨(some 12),.len 1 (.t 11),none⟩,
 ⟨(some 13),.call false 43 [(.t 10),(.t 12)],none⟩,
 ⟨(some 14),.indexAddr 1 (.t 9) (.t 13),none⟩,
 ⟨(some 15),.load none (.t 14),none⟩,
 ⟨(some 16),.buildSlice 1 7 [(.str [])] [(0,(.k (.c (.d (.str []))))),(1,(.k (.c (.d (.str [44]))))),(2,(.k (.c (.d (.str [65]))))),(3,(.k (.c (.d (.str [40]))))),(4,(.k (.c (.d (.str [41]))))),(5,(.k (.c (.d (.str [33]))))),(6,(.k (.c (.d (.str [32])))))],none⟩,
 ⟨(some 17),.call false 55 [(.t 8),(.t 15),(.t 16)],none⟩,
 ⟨(some 2),.mv (.t 17),none⟩] [3,4,8,9,10,11,12,13,14,15,16,17])
 (.ret))))
theorem ac19_ok : cFunc Tryz.prog [1000063] [(0,[2],[]),(1,[0,5,6],[]),(2,[7],[]),(3,[3,4,8,9,10,11,12,13,14,15,16,17],[])] Tryz.f19 = some (ac19,[.tmp 2],18) := by kernel_rfl
-- 20 loop.example/prologserver/spec.DrawQueryVars params 1 ntmps 5
def ac20 : Cd := .seq (.region [⟨(some 2),.mv (.k (.c (.full []))),none⟩] [2])
 (.seq (.region [⟨(some 3),.mv (.t 0),none⟩,
 ⟨(some 4),.call false 64 [(.t 3)],none⟩,
 ⟨(some 2),.mv (.t 4),none⟩] [0,3,4])
 (.ret))
theorem ac20_ok : cFunc Tryz.prog [] [(0,[2],[]),(1,[0,3,4],[])] Tryz.f20 = some (ac20,[.tmp 2],5) := by kernel_rfl
theorem termVars_calls (t : Tm) (ht : t.fits) (hv : t.valid = true) (H : Heap) : ACalls Tryz.prog 27 [.agg (t.row.map .d)] H (fun r H' => H' = H ∧ r = .c (.d (.sl (intRows (t.vars []))))) := by
  have hsz : t.sub ≤ 3000000 := by
    have h1 := sub_size t
    have h2 : t.size ≤ 120 := by simp [Tm.valid] at hv; exact hv.2
    omega
  refine acalls Tryz.func27 (by kernel_rfl) ac27_ok fun hf => ?_
  simp -implicitDefEqProofs [ac27, row_len, take_row, pure_d, re_d, go_sem, -List.set_cons_succ, -List.set_cons_zero]
  refine qcall_pure (tvImpl_calls t ht) hf rfl ?_
  simp -implicitDefEqProofs [hv, row_len, take_row, pure_d, re_d, go_sem, -List.set_cons_succ, -List.set_cons_zero]
  have h := addVars_calls t ht [] (H ++ [Ob.cells (t.row.map C.d)] ++ [.grow 0 1]) (H.length + 1) (by simp) (by simpa using hsz)
  have hset : ∀ m : Nat, (H ++ [Ob.cells (t.row.map C.d)] ++ [Ob.grow 0 1]).set (H.length + 1) (.grow m 1) = H ++ [Ob.cells (t.row.map C.d), Ob.grow m 1] := fun m => by
    rw [List.append_assoc, List.set_append_right _ _ (by omega)]
    simp
  rw [hset] at h
  have h2 := acalls_token (f := 71) (pre := [.agg (t.row.map .d)]) (sz := 1) (H := H ++ [Ob.cells (t.row.map C.d)]) (Q := fun r H' => H' = H ++ [Ob.cells (t.row.map C.d), Ob.grow (t.vars []).length 1] ∧ r = .c (.own (.e (H.length + 1)) (t.vars []).length (intRows (t.vars [])))) (by simpa [intRows] using h)
  refine h2.mono fun r H' ⟨h3, h4⟩ => ⟨H, [Ob.cells (t.row.map C.d), Ob.grow (t.vars []).length 1], .c (.own (.l 1) (t.vars []).length (intRows (t.vars []))), by rw [h3]; simp [Ob.re, re_d], rfl, by simp, hf, by rw [h4]; simp [A.re, C.re, Ref.re], ?_⟩
  simp -implicitDefEqProofs [go_sem, -List.set_cons_succ, -List.set_cons_zero]
theorem pgInts_calls (l : List Int) (hl : l.length ≤ 1048576) (H : Heap) : ACalls Tryz.prog 23 [.c (.d (.sl (intRows l))), .c (.d (.sl (intRows l)))] H (fun r H' => H' = H ∧ r = .c (.d (.bool true))) := by
  have hli : inR .i64 (l.length : Int) := small_i64 (by omega) (by omega)
  refine acalls Tryz.func23 (by kernel_rfl) ac23_ok fun hf => ?_
  simp -implicitDefEqProofs [ac23, intRows_len, hli, go_sem, -List.set_cons_succ, -List.set_cons_zero]
  refine loop_set (σ := Nat) (fun i => [(5, .c (.d (.int .i64 i)))]) (fun _ => H) (fun _ => []) (fun i => i ≤ l.length) (fun i => l.length - i) 0 rfl (Nat.zero_le _) ?_
  intro i hi
  simp -implicitDefEqProofs [setAll, intRows_len, hli, go_sem, -List.set_cons_succ, -List.set_cons_zero]
  intro hlt
  have hadd : inR .i64 ((i : Int) + 1) := small_i64 (by omega) (by omega)
  refine row_int [.int .i64 l[i]] (by omega) (by simp [intRows, hlt]) rfl ?_
  simp -implicitDefEqProofs [go_sem, -List.set_cons_succ, -List.set_cons_zero]
  refine row_int [.int .i64 l[i]] (by omega) (by simp [intRows, hlt]) rfl ?_
  simp -implicitDefEqProofs [hadd, go_sem, -List.set_cons_succ, -List.set_cons_zero]
  exact loop_back (i + 1) (by simp [setAll]) hlt (by show l.length - (i + 1) < l.length - i; omega)
theorem pgTerms_calls (l : List Tm) (hl : l.length ≤ 1048576) (h : ∀ t ∈ l, t.fits) (H : Heap) : ACalls Tryz.prog 22 [.c (.d (.sl (l.map Tm.row))), .c (.d (.sl (l.map Tm.row)))] H (fun r H' => H' = H ∧ r = .c (.d (.bool true))) := by
  refine acalls Tryz.func22 (by kernel_rfl) ac22_ok fun hf => ?_
  have hli : inR .i64 (l.length : Int) := small_i64 (by omega) (by omega)
  simp -implicitDefEqProofs [ac22, hli, go_sem, -List.set_cons_succ, -List.set_cons_zero]
  refine loop_set (σ := Nat) (fun i => [(5, .c (.d (.int .i64 i)))]) (fun _ => H) (fun _ => []) (fun i => i ≤ l.length) (fun i => l.length - i) 0 rfl (Nat.zero_le _) ?_
  intro i hi
  simp -implicitDefEqProofs [setAll, hli, go_sem, -List.set_cons_succ, -List.set_cons_zero]
  intro hlt
  have hadd : inR .i64 ((i : Int) + 1) := small_i64 (by omega) (by omega)
  refine row_of hlt (row_len _) ?_
  simp -implicitDefEqProofs [row_len, take_row, go_sem, -List.set_cons_succ, -List.set_cons_zero]
  refine row_of hlt (row_len _) ?_
  simp -implicitDefEqProofs [row_len, take_row, pure_d, re_d, go_sem, -List.set_cons_succ, -List.set_cons_zero]
  refine qcall_pure (sameImpl_calls l[i] (h _ (List.getElem_mem hlt)) l[i] (h _ (List.getElem_mem hlt))) hf rfl ?_
  simp -implicitDefEqProofs [hadd, go_sem, -List.set_cons_succ, -List.set_cons_zero]
  exact loop_back (i + 1) (by simp [setAll]) hlt (by show l.length - (i + 1) < l.length - i; omega)
theorem pgIn_calls (l : List Int) (hl : l.length ≤ 1048576) (n : Int) (H : Heap) : ACalls Tryz.prog 28 [.c (.d (.sl (intRows l))), .c (.d (.int .i64 n))] H (fun r H' => H' = H ∧ r = .c (.d (.bool (l.contains n)))) := by
  have hli : inR .i64 (l.length : Int) := small_i64 (by omega) (by omega)
  refine acalls Tryz.func28 (by kernel_rfl) ac28_ok fun hf => ?_
  simp -implicitDefEqProofs [ac28, intRows_len, hli, go_sem, -List.set_cons_succ, -List.set_cons_zero]
  refine loop_set (σ := Nat) (fun i => [(5, .c (.d (.int .i64 i)))]) (fun _ => H) (fun _ => []) (fun i => i ≤ l.length ∧ (l.take i).contains n = false) (fun i => l.length - i) 0 (by simp [setAll]) ⟨Nat.zero_le _, by simp⟩ ?_
  rintro i ⟨hi, hn⟩
  have hn : n ∉ l.take i := by simpa using hn
  simp -implicitDefEqProofs [setAll, intRows_len, hli, go_sem, -List.set_cons_succ, -List.set_cons_zero]
  refine ⟨fun hlt => ?_, fun hge => ?_⟩
  · have hadd : inR .i64 ((i : Int) + 1) := small_i64 (by omega) (by omega)
    refine row_int [.int .i64 l[i]] (by omega) (by simp [intRows, hlt]) rfl ?_
    simp -implicitDefEqProofs [hadd, go_sem, -List.set_cons_succ, -List.set_cons_zero]
    refine ⟨fun he => ?_, fun hne => loop_back (i + 1) (by simp [setAll]) ⟨hlt, ?_⟩ (by show l.length - (i + 1) < l.length - i; omega)⟩
    · have : n ∈ l := by rw [← he]; exact List.getElem_mem hlt
      simp -implicitDefEqProofs [this, hf, go_sem, -List.set_cons_succ, -List.set_cons_zero]
    · have : n ∉ l.take (i + 1) := by
        rw [List.take_succ_eq_append_getElem hlt, List.mem_append]
        rintro (h | h)
        · exact hn h
        · rw [List.mem_singleton] at h; exact hne h.symm
      simpa using this
  · obtain rfl : i = l.length := by omega
    rw [List.take_length] at hn
    simp -implicitDefEqProofs [hn, hf, go_sem, -List.set_cons_succ, -List.set_cons_zero]
theorem qvsImpl_calls (l : List Tm) (hl : l.length ≤ 1048576) (h : ∀ t ∈ l, t.fits) (H : Heap) : ACalls Tryz.prog 21 [.c (.d (.sl (l.map Tm.row)))] H (fun r H' => H' = H ∧ r = .c (.d (.sl (intRows (qvR l))))) := by
  refine acalls Tryz.func21 (by kernel_rfl) ac21_ok fun hf => ?_
  simp -implicitDefEqProofs [ac21, go_sem, -List.set_cons_succ, -List.set_cons_zero]
  have hq := qvImpl_calls l hl h
  cases hb : goalsB l with
  | false =>
    simp only [hb] at hq
    refine qcall_pure hq hf rfl ?_
    have : qvR l = [] := by rw [qvR, hb]; rfl
    simp -implicitDefEqProofs [this, intRows, hf, go_sem, -List.set_cons_succ, -List.set_cons_zero]
  | true =>
    simp only [hb] at hq
    refine qcall_pure hq hf rfl ?_
    obtain ⟨g1, g2⟩ := goals_ok hb
    have : qvR l = varsL l [] := by rw [qvR, hb]; rfl
    simp -implicitDefEqProofs [go_sem, -List.set_cons_succ, -List.set_cons_zero]
    refine (varsOf_calls l hl h (by omega) _).mono fun r H' ⟨h1, h2⟩ => ⟨H, [.grow (varsL l []).length 1], .c (.own (.l 0) (varsL l []).length (intRows (varsL l []))), by rw [h1]; rfl, rfl, by simp, hf, by rw [h2]; simp [A.re, C.re, Ref.re], ?_⟩
    simp -implicitDefEqProofs [this, hf, go_sem, -List.set_cons_succ, -List.set_cons_zero]
theorem drawPq_calls (c : List UInt8) (hc : c.length ≤ 1048576) (H : Heap) : ACalls Tryz.prog 19 [.c (.d (.sl (bytesRows c)))] H (fun r H' => H' = H ∧ StrR 2000 r) := by
  refine acalls Tryz.func19 (by kernel_rfl) ac19_ok fun hf => ?_
  have hql : queries.length = 24 := rfl
  have h24 : inR .i64 (24 : Int) := small_i64 (by omega) (by omega)
  simp -implicitDefEqProofs [ac19, go_sem, -List.set_cons_succ, -List.set_cons_zero]
  refine (open_calls c hc _).mono fun r H' ⟨h1, c', hc', h2⟩ => ⟨H, [Rd c' 0], .c (.ptr (.l 0) 0), by rw [h2]; simp [Rd, Ob.re, C.re], rfl, by simp, hf, by rw [h1]; simp [A.re, C.re, Ref.re], ?_⟩
  simp -implicitDefEqProofs [go_sem, -List.set_cons_succ, -List.set_cons_zero]
  refine qcall_pure queries_calls hf rfl ?_
  simp -implicitDefEqProofs [hql, h24, go_sem, -List.set_cons_succ, -List.set_cons_zero]
  refine call_drawL (j := 0) (pick_draws 24 (by omega)) hc' (by omega) (by omega) rfl (by simp [Rd, Ob.re, C.re]) (fun r => IntIn.re) hf ?_
  rintro _ p1 ⟨m, rfl, m0, m1⟩ h3 h4
  have hmlt : m.toNat < queries.length := by rw [hql]; omega
  have hql2 : (queries[m.toNat]).length ≤ 1000 := by
    have : ∀ q ∈ queries, q.length ≤ 1000 := by decide
    exact this _ (List.getElem_mem hmlt)
  simp -implicitDefEqProofs [go_sem, -List.set_cons_succ, -List.set_cons_zero]
  refine row_int [.str queries[m.toNat]] m0 (by simp [hmlt, strRow]) rfl ?_
  simp -implicitDefEqProofs [go_sem, -List.set_cons_succ, -List.set_cons_zero]
  refine call_drawL (j := 0) (bend_draws queries[m.toNat] (by omega) [[], [44], [65], [40], [41], [33], [32]] (by decide)) hc' (by omega) (by omega) rfl (by simp [Rd, Ob.re, C.re]) (fun r => StrR.re) hf ?_
  rintro _ p3 ⟨u, rfl, hu⟩ h5 h6
  simp -implicitDefEqProofs [hf, go_sem, -List.set_cons_succ, -List.set_cons_zero]
  exact ⟨u, rfl, by omega⟩
theorem drawQvs_calls (c : List UInt8) (hc : c.length ≤ 1048576) (H : Heap) : ACalls Tryz.prog 20 [.c (.d (.sl (bytesRows c)))] H (fun r H' => H' = H ∧ TmsR 7 r) := by
  refine acalls Tryz.func20 (by kernel_rfl) ac20_ok fun hf => ?_
  simp -implicitDefEqProofs [ac20, go_sem, -List.set_cons_succ, -List.set_cons_zero]
  refine call_some (drawQv_calls c hc _) (by simp) (fun r => TmsR.re) hf ?_
  rintro _ ⟨l, rfl, hl, hft⟩
  simp -implicitDefEqProofs [hf, go_sem, -List.set_cons_succ, -List.set_cons_zero]
  exact ⟨l, rfl, hl, hft⟩
end Go.Proofs.YtbblefjbgbocoaaGreatDoor
