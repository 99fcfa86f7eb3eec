/-
  Contracts of functions that the law reaches, and plain lemmas: several texts in one.
  Conditions: none.
-/
import Derived.Test.YtcapnainldlnjaaGreatRows
import Derived.KernelRfl
import Derived.Test.YtcapnainldlnjaaGreatAbsN
open Go Go.AM Go.Proofs
attribute [local go_sem] kw ew sw tw a_ b_ c_ A.ok A.val d_ e_ f_ g_ h_ i_ j_ k_ l_ m_ unA unD n_ AOp.total o_ p_ q_ r_ s_ t_ u_ v_ A.thaw C.thaw A.fits As.fits C.fits evs oks w_ A.pure C.pure A.re C.re x_ y_ cut A.cells C.rows? z_ A_ B_ C_ a0_ b0_ D_ Ob.re Cs.fits E_ F_ G_ H_ I_ J_ K_ L_ M_ N_ O_ C.toD P_ Q_ R_ S_ T_ Obs.fits U_ eqD V_ W_ X_ Y_ Z_ oa oc ki
open Go Go.AM Go.Proofs
namespace Go.Proofs.YtcapnainldlnjaaGreat
set_option linter.unusedVariables false
set_option linter.unusedSimpArgs false
theorem small_i64 {n : Int} (h : -1000000000000000 ≤ n) (h' : n ≤ 1000000000000000) : inR .i64 n := by
  unfold inR
  simp [IntKind.min, IntKind.max, IntKind.signed, IntKind.bits]
  omega
theorem reach_i64 {n : Nat} (h : n ≤ reachBytes) : inR .i64 (n : Int) := by simp only [inR, IntKind.min, IntKind.max, IntKind.signed, IntKind.bits, reachBytes] at *; omega
theorem i64_def {n : Int} : inR .i64 n ↔ -9223372036854775808 ≤ n ∧ n ≤ 9223372036854775807 := by
  unfold inR
  simp [IntKind.min, IntKind.max, IntKind.signed, IntKind.bits]
/-- the result of a call of a size: how much is left; where something is left, P holds -/
def Left (m : Int) (P : Prop) (r : A) : Prop := ∃ n : Int, r = .c (.d (.int .i64 n)) ∧ -1 ≤ n ∧ n ≤ m ∧ (0 ≤ n → P)
theorem Left.re {m : Int} {P : Prop} {r : A} {n : Nat} (h : Left m P r) : A.re n r = r := by
  obtain ⟨k, rfl, _⟩ := h
  rfl
/-- rows that are laid one by one -/
def fill {α : Type} (f : α → List D) (z : List D) (l : List α) (i : Nat) : List (List D) := (l.take i).map f ++ List.replicate (l.length - i) z
theorem list_of_ty {α : Type} {f : α → List D} {p : α → Prop} : ∀ {rows : List (List D)}, (∀ r ∈ rows, ∃ x : α, r = f x ∧ p x) → ∃ l : List α, rows = l.map f ∧ ∀ x ∈ l, p x
  | [], _ => ⟨[], rfl, fun x h => by cases h⟩
  | r :: rs, h => by
    obtain ⟨x, rfl, hx⟩ := h r (by simp)
    obtain ⟨l, rfl, hl⟩ := list_of_ty (rows := rs) (f := f) (p := p) (fun r hr => h r (by simp [hr]))
    refine ⟨x :: l, rfl, fun y hy => ?_⟩
    rcases List.mem_cons.1 hy with rfl | hy
    · exact hx
    · exact hl y hy
/-- a row of a list of things, whatever guards it -/
theorem row_g {α : Type} {G : Bool} {g : α → List D} {l : List α} {i sz : Nat} {K : A → St → Prop} {st : St} (h : i < l.length) (hl : (g l[i]).length = sz) (hk : K (.c (.el (g l[i]) 0)) st) : RowK G (l.map g) (i : Int) sz K st :=
  ⟨fun _ => by omega, g l[i], fun _ => ⟨by simp [h], hl⟩, hk⟩
theorem isEmpty_len {α : Type} (l : List α) : ((l.length : Int) == 0) = l.isEmpty := by cases l <;> simp; omega
def intRows (l : List Int) : List (List D) := l.map fun n => [.int .i64 n]
theorem intRows_len (l : List Int) : (intRows l).length = l.length := by simp [intRows]
theorem allLen_ints (l : List Int) : allLen 1 (intRows l) := allLen_map fun _ => rfl
end Go.Proofs.YtcapnainldlnjaaGreat

open Go Go.AM Go.Proofs
namespace Go.Proofs.YtcapnainldlnjaaGreat
open Go.ChangeShapes Go.WideShapes Go.ChangeAt Go.RowKit
set_option linter.unusedVariables false
set_option linter.unusedSimpArgs false
set_option maxRecDepth 100000
/-- a term -/
inductive Tm where
  | mk (k n : Int) (s : List UInt8) (kids : List Tm)
  deriving Inhabited
def Tm.k : Tm → Int | .mk k _ _ _ => k
def Tm.n : Tm → Int | .mk _ n _ _ => n
def Tm.s : Tm → List UInt8 | .mk _ _ s _ => s
def Tm.kids : Tm → List Tm | .mk _ _ _ l => l
noncomputable instance : DecidableEq Tm := fun a b => Classical.propDecidable (a = b)
mutual
def Tm.row : Tm → List D
  | .mk k n s l => [.int .i64 k, .int .i64 n, .str s, .sl (Tm.rows l)]
def Tm.rows : List Tm → List (List D)
  | [] => []
  | t :: l => t.row :: Tm.rows l
end
theorem rows_map : ∀ l : List Tm, Tm.rows l = l.map Tm.row
  | [] => rfl
  | t :: l => by rw [Tm.rows, rows_map l]; rfl
theorem row_mk (k n : Int) (s : List UInt8) (l : List Tm) : (Tm.mk k n s l).row = [.int .i64 k, .int .i64 n, .str s, .sl (l.map Tm.row)] := by rw [Tm.row, rows_map]
theorem row_eq (t : Tm) : t.row = [.int .i64 t.k, .int .i64 t.n, .str t.s, .sl (t.kids.map Tm.row)] := by
  obtain ⟨k, n, s, l⟩ := t
  exact row_mk k n s l
theorem row_len (t : Tm) : t.row.length = 4 := by cases t; rfl
theorem Tm.ind {p : Tm → Prop} (h : ∀ k n s l, (∀ t ∈ l, p t) → p (.mk k n s l)) : ∀ t, p t := by
  intro t
  induction hs : SizeOf.sizeOf t using Nat.strongRecOn generalizing t with
  | ind m ih =>
    obtain ⟨k, n, s, l⟩ := t
    refine h k n s l fun t ht => ih (SizeOf.sizeOf t) ?_ t rfl
    have := List.sizeOf_lt_of_mem ht
    simp at hs
    omega
/-- a term that a law looks at -/
inductive Tm.fits : Tm → Prop
  | mk {k n : Int} {s : List UInt8} {l : List Tm} : inR .i64 k → inR .i64 n → s.length ≤ 1048576 → l.length ≤ 1048576 → (∀ t ∈ l, t.fits) → (Tm.mk k n s l).fits
theorem take_row (t : Tm) : List.take 4 (List.map C.d t.row) = List.map C.d t.row := List.take_of_length_le (by simp [row_len])
theorem take_snoc {α : Type} {l r : List α} {i : Nat} (hi : i < l.length) (hr : i < r.length) (h : l.take i = r.take i) (he : l[i] = r[i]) : l.take (i + 1) = r.take (i + 1) := by
  rw [List.take_succ_eq_append_getElem hi, List.take_succ_eq_append_getElem hr, h, he]
/-- a call that compares two terms -/
def Same2 (f : FuncId) (a b : Tm) : Prop := ∀ H, ACalls Tryz.prog f [.agg (a.row.map .d), .agg (b.row.map .d)] H (fun r H' => H' = H ∧ r = .c (.d (.bool (decide (a = b)))))
-- 118 loop.example/prologserver/impl.isAtom params 1 ntmps 12
def ac118 : Cd := .seq (.region [oc 1 (.box (.t 0)),
 oc 2 (.mv (.k (.c (.d (.bool false)))))] [0,2])
 (.seq (.region [oc 3 (.fieldAddr 0 (.t 1)),
 oc 4 (.load none (.t 3)),
 oc 5 (.bin .eql (.t 4) (ki 3)),
 oa 6 5,
 ⟨some 7,.fieldAddr 3 (.t 1),some (6,true)⟩,
 ⟨some 8,.load none (.t 7),some (6,true)⟩,
 ⟨some 9,.len 1 (.t 8),some (6,true)⟩,
 ⟨some 10,.bin .eql (.t 9) (ki 0),some (6,true)⟩,
 oc 11 (.pick (.t 6) (.t 10) (.k (.c (.d (.bool false))))),
 oa 2 11] [1,3,4,5,6,7,8,9,10,11])
 (.ret))
theorem ac118_ok : cFunc Tryz.prog [] [(0,[0,2],[]),(1,[1,3,4,5,6,7,8,9,10,11],[])] Tryz.f118 = some (ac118,[.tmp 2],12) := by kernel_rfl
theorem isAtom_calls (t : Tm) (ht : t.fits) (H : Heap) : ACalls Tryz.prog 118 [.agg (t.row.map .d)] H (fun r H' => H' = H ∧ r = .c (.d (.bool (decide (t.k = 3) && t.kids.isEmpty)))) := by
  obtain ⟨k, n, s, l⟩ := t
  obtain ⟨_, _, hs, hl, hkids⟩ := ht
  have hli : inR .i64 (l.length : Int) := small_i64 (by omega) (by omega)
  refine acalls Tryz.func118 (by kernel_rfl) ac118_ok fun hf => ?_
  by_cases hk : k = 3
  · simp -implicitDefEqProofs [ac118, row_mk, hk, hli, Tm.k, Tm.kids, isEmpty_len, go_sem, -List.set_cons_succ, -List.set_cons_zero]
  · simp -implicitDefEqProofs [ac118, row_mk, hk, hli, Tm.k, go_sem, -List.set_cons_succ, -List.set_cons_zero]
-- 61 loop.example/prologserver/impl.within params 3 ntmps 15
def ac61 : Cd := .seq (.region [oc 6 (.mv (.k (.c (.d (.bool false)))))] [6])
 (.seq (.region [oa 7 1,
 oa 8 0,
 oc 9 (.bin .leq (.t 7) (.t 8)),
 oa 10 9,
 ⟨some 11,.mv (.t 0),some (10,true)⟩,
 ⟨some 12,.mv (.t 2),some (10,true)⟩,
 ⟨some 13,.bin .leq (.t 11) (.t 12),some (10,true)⟩,
 oc 14 (.pick (.t 10) (.t 13) (.k (.c (.d (.bool false))))),
 oa 6 14] [0,1,2,7,8,9,10,11,12,13,14])
 (.ret))
theorem ac61_ok : cFunc Tryz.prog [] [(0,[6],[]),(1,[0,1,2,7,8,9,10,11,12,13,14],[])] Tryz.f61 = some (ac61,[.tmp 6],15) := by kernel_rfl
theorem within_calls (x lo hi : Int) (H : Heap) : ACalls Tryz.prog 61 [.c (.d (.int .i64 x)), .c (.d (.int .i64 lo)), .c (.d (.int .i64 hi))] H (fun r H' => H' = H ∧ r = .c (.d (.bool (decide (lo ≤ x) && decide (x ≤ hi))))) := by
  refine acalls Tryz.func61 (by kernel_rfl) ac61_ok fun hf => ?_
  simp -implicitDefEqProofs [ac61, go_sem, -List.set_cons_succ, -List.set_cons_zero]
-- 39 loop.example/prologserver/impl.isLetters params 1 ntmps 23
-- loop head live: [0,5,6]
def ac39 : Cd := .seq (.region [oc 2 (.mv (.k (.c (.d (.bool false)))))] [2])
 (.seq (.seq (.region [oa 4 0,
 oc 5 (.len 0 (.t 4)),
 oc 6 (.mv (ki 0))] [4])
 (.block 0 (.loop (.seq (.region [oc 7 (.bin .lss (.t 6) (.t 5))] [])
 (.seq (.cond (.t 7)
 (.skip)
 (.exit 0))
 (.seq (.block 1 (.seq (.region [oa 8 6,
 oa 3 8] [7,8])
 (.seq (.region [oa 9 0,
 oa 10 3,
 oc 11 (.index (.t 9) (.t 10)),
 oc 12 (.bin .lss (.t 11) (.k (.c (.d (.int .u8 97))))),
 oa 13 12,
 ⟨some 14,.mv (.t 0),some (13,false)⟩,
 ⟨some 15,.mv (.t 3),some (13,false)⟩,
 ⟨some 16,.index (.t 14) (.t 15),some (13,false)⟩,
 ⟨some 17,.bin .gtr (.t 16) (.k (.c (.d (.int .u8 122)))),some (13,false)⟩,
 oc 18 (.pick (.t 13) (.k (.c (.d (.bool true)))) (.t 17))] [3,9,10,11,12,13,14,15,16,17])
 (.cond (.t 18)
 (.seq (.region [oc 2 (.mv (.k (.c (.d (.bool false)))))] [0,5,6,18])
 (.ret))
 (.skip)))))
 (.region [oc 19 (.bin .add (.t 6) (ki 1)),
 oa 6 19] [2,18,19])))))))
 (.seq (.region [oa 20 0,
 oc 21 (.len 0 (.t 20)),
 oc 22 (.qcall 61 [(.t 21),(ki 1),(ki 6)]),
 oa 2 22] [0,20,21,22])
 (.ret)))
theorem ac39_ok : cFunc Tryz.prog [1000061] [(0,[2],[]),(1,[4],[]),(2,[],[]),(3,[7,8],[]),(4,[3,9,10,11,12,13,14,15,16,17],[]),(5,[0,5,6,18],[]),(6,[2,18,19],[]),(7,[0,20,21,22],[])] Tryz.f39 = some (ac39,[.tmp 2],23) := by kernel_rfl
-- 48 loop.example/prologserver/spec.l1Word params 1 ntmps 28
-- loop head live: [0,3]
def ac48 : Cd := .seq (.region [oc 2 (.mv (.k (.c (.d (.bool false)))))] [2])
 (.seq (.seq (.region [oc 3 (.mv (ki 0))] [])
 (.block 0 (.loop (.seq (.seq (.region [oa 4 3,
 oa 5 0,
 oc 6 (.len 0 (.t 5)),
 oc 7 (.bin .lss (.t 4) (.t 6))] [4,5,6])
 (.cond (.t 7)
 (.skip)
 (.exit 0)))
 (.seq (.block 1 (.seq (.region [oa 10 0,
 oa 11 3,
 oc 12 (.index (.t 10) (.t 11)),
 oc 13 (.bin .lss (.t 12) (.k (.c (.d (.int .u8 97))))),
 oa 14 13,
 ⟨some 15,.mv (.t 0),some (14,false)⟩,
 ⟨some 16,.mv (.t 3),some (14,false)⟩,
 ⟨some 17,.index (.t 15) (.t 16),some (14,false)⟩,
 ⟨some 18,.bin .gtr (.t 17) (.k (.c (.d (.int .u8 122)))),some (14,false)⟩,
 oc 19 (.pick (.t 14) (.k (.c (.d (.bool true)))) (.t 18))] [7,10,11,12,13,14,15,16,17,18])
 (.cond (.t 19)
 (.seq (.region [oc 2 (.mv (.k (.c (.d (.bool false)))))] [0,3,19])
 (.ret))
 (.skip))))
 (.region [oa 8 3,
 oc 9 (.bin .add (.t 8) (ki 1)),
 oa 3 9] [2,8,9,19]))))))
 (.seq (.region [oa 20 0,
 oc 21 (.len 0 (.t 20)),
 oc 22 (.bin .geq (.t 21) (ki 1)),
 oa 23 22,
 ⟨some 24,.mv (.t 0),some (23,true)⟩,
 ⟨some 25,.len 0 (.t 24),some (23,true)⟩,
 ⟨some 26,.bin .leq (.t 25) (ki 6),some (23,true)⟩,
 oc 27 (.pick (.t 23) (.t 26) (.k (.c (.d (.bool false))))),
 oa 2 27] [0,20,21,22,23,24,25,26,27])
 (.ret)))
theorem ac48_ok : cFunc Tryz.prog [] [(0,[2],[]),(1,[],[]),(2,[4,5,6],[]),(4,[7,10,11,12,13,14,15,16,17,18],[]),(5,[0,3,19],[]),(3,[2,8,9,19],[]),(6,[0,20,21,22,23,24,25,26,27],[])] Tryz.f48 = some (ac48,[.tmp 2],28) := by kernel_rfl
-- 117 loop.example/prologserver/impl.symbols params 0 ntmps 2
def ac117 : Cd := .seq (.region [oc 0 (.mv (.k (.c (.full []))))] [0])
 (.seq (.region [oc 1 (.buildSlice 1 15 [(.str [])] [(0,(.k (.c (.d (.str [43]))))),(1,(.k (.c (.d (.str [45]))))),(2,(.k (.c (.d (.str [42]))))),(3,(.k (.c (.d (.str [47,47]))))),(4,(.k (.c (.d (.str [61]))))),(5,(.k (.c (.d (.str [92,61]))))),(6,(.k (.c (.d (.str [61,61]))))),(7,(.k (.c (.d (.str [60]))))),(8,(.k (.c (.d (.str [62]))))),(9,(.k (.c (.d (.str [61,60]))))),(10,(.k (.c (.d (.str [62,61]))))),(11,(.k (.c (.d (.str [61,58,61]))))),(12,(.k (.c (.d (.str [46]))))),(13,(.k (.c (.d (.str [91,93]))))),(14,(.k (.c (.d (.str [33])))))]),
 oa 0 1] [1])
 (.ret))
theorem ac117_ok : cFunc Tryz.prog [] [(0,[0],[]),(1,[1],[])] Tryz.f117 = some (ac117,[.tmp 0],2) := by kernel_rfl
-- 131 loop.example/prologserver/spec.l1Signs params 0 ntmps 2
def ac131 : Cd := .seq (.region [oc 0 (.mv (.k (.c (.full []))))] [0])
 (.seq (.region [oc 1 (.buildSlice 1 15 [(.str [])] [(0,(.k (.c (.d (.str [43]))))),(1,(.k (.c (.d (.str [45]))))),(2,(.k (.c (.d (.str [42]))))),(3,(.k (.c (.d (.str [47,47]))))),(4,(.k (.c (.d (.str [61]))))),(5,(.k (.c (.d (.str [92,61]))))),(6,(.k (.c (.d (.str [61,61]))))),(7,(.k (.c (.d (.str [60]))))),(8,(.k (.c (.d (.str [62]))))),(9,(.k (.c (.d (.str [61,60]))))),(10,(.k (.c (.d (.str [62,61]))))),(11,(.k (.c (.d (.str [61,58,61]))))),(12,(.k (.c (.d (.str [46]))))),(13,(.k (.c (.d (.str [91,93]))))),(14,(.k (.c (.d (.str [33])))))]),
 oa 0 1] [1])
 (.ret))
theorem ac131_ok : cFunc Tryz.prog [] [(0,[0],[]),(1,[1],[])] Tryz.f131 = some (ac131,[.tmp 0],2) := by kernel_rfl
-- 42 slices.Index[[]string,string] params 2 ntmps 19
-- loop head live: [0,1,7,8]
def ac42 : Cd := .seq (.region [oc 4 (.mv (ki 0))] [4])
 (.seq (.seq (.region [oa 6 0,
 oc 7 (.len 1 (.t 6)),
 oc 8 (.mv (ki 0))] [6])
 (.block 0 (.loop (.seq (.region [oc 9 (.bin .lss (.t 8) (.t 7))] [])
 (.seq (.cond (.t 9)
 (.skip)
 (.exit 0))
 (.seq (.block 1 (.seq (.region [oa 10 8,
 oa 5 10] [9,10])
 (.seq (.region [oa 11 1,
 oa 12 0,
 oa 13 5,
 oc 14 (.indexAddr 1 (.t 12) (.t 13)),
 oc 15 (.load none (.t 14)),
 oc 16 (.bin .eql (.t 11) (.t 15))] [11,12,13,14,15])
 (.cond (.t 16)
 (.seq (.region [oa 17 5,
 oa 4 17] [0,1,5,7,8,16,17])
 (.ret))
 (.skip)))))
 (.region [oc 18 (.bin .add (.t 8) (ki 1)),
 oa 8 18] [4,5,16,18])))))))
 (.seq (.region [oc 4 (.mv (ki (-1)))] [])
 (.ret)))
theorem ac42_ok : cFunc Tryz.prog [] [(0,[4],[]),(1,[6],[]),(2,[],[]),(3,[9,10],[]),(4,[11,12,13,14,15],[]),(5,[0,1,5,7,8,16,17],[]),(6,[4,5,16,18],[]),(7,[],[])] Tryz.f42 = some (ac42,[.tmp 4],19) := by kernel_rfl
-- 20 slices.Contains[[]string,string] params 2 ntmps 9
def ac20 : Cd := .seq (.region [oc 4 (.mv (.k (.c (.d (.bool false)))))] [4])
 (.seq (.region [oa 5 0,
 oa 6 1,
 oc 7 (.call false 42 [(.t 5),(.t 6)]),
 oc 8 (.bin .geq (.t 7) (ki 0)),
 oa 4 8] [0,1,5,6,7,8])
 (.ret))
theorem ac20_ok : cFunc Tryz.prog [] [(0,[4],[]),(1,[0,1,5,6,7,8],[])] Tryz.f20 = some (ac20,[.tmp 4],9) := by kernel_rfl
-- 130 loop.example/prologserver/spec.l1Has params 2 ntmps 18
-- loop head live: [0,1,5]
def ac130 : Cd := .seq (.region [oc 4 (.mv (.k (.c (.d (.bool false)))))] [4])
 (.seq (.seq (.region [oc 5 (.mv (ki 0))] [])
 (.block 0 (.loop (.seq (.seq (.region [oa 6 5,
 oa 7 0,
 oc 8 (.len 1 (.t 7)),
 oc 9 (.bin .lss (.t 6) (.t 8))] [6,7,8])
 (.cond (.t 9)
 (.skip)
 (.exit 0)))
 (.seq (.block 1 (.seq (.region [oa 12 0,
 oa 13 5,
 oc 14 (.indexAddr 1 (.t 12) (.t 13)),
 oc 15 (.load none (.t 14)),
 oa 16 1,
 oc 17 (.bin .eql (.t 15) (.t 16))] [9,12,13,14,15,16])
 (.cond (.t 17)
 (.seq (.region [oc 4 (.mv (.k (.c (.d (.bool true)))))] [0,1,5,17])
 (.ret))
 (.skip))))
 (.region [oa 10 5,
 oc 11 (.bin .add (.t 10) (ki 1)),
 oa 5 11] [4,10,11,17]))))))
 (.seq (.region [oc 4 (.mv (.k (.c (.d (.bool false)))))] [])
 (.ret)))
theorem ac130_ok : cFunc Tryz.prog [] [(0,[4],[]),(1,[],[]),(2,[6,7,8],[]),(4,[9,12,13,14,15,16],[]),(5,[0,1,5,17],[]),(3,[4,10,11,17],[]),(6,[],[])] Tryz.f130 = some (ac130,[.tmp 4],18) := by kernel_rfl
-- 106 loop.example/prologserver/impl.NameValid params 1 ntmps 10
def ac106 : Cd := .seq (.region [oc 2 (.mv (.k (.c (.d (.bool false)))))] [2])
 (.seq (.region [oa 3 0,
 oc 4 (.qcall 39 [(.t 3)]),
 oa 5 4,
 ⟨some 6,.qcall 117 [],some (5,false)⟩,
 ⟨some 7,.mv (.t 0),some (5,false)⟩,
 ⟨some 8,.qcall 20 [(.t 6),(.t 7)],some (5,false)⟩,
 oc 9 (.pick (.t 5) (.k (.c (.d (.bool true)))) (.t 8)),
 oa 2 9] [0,3,4,5,6,7,8,9])
 (.ret))
theorem ac106_ok : cFunc Tryz.prog [1000020,1000039,1000117] [(0,[2],[]),(1,[0,3,4,5,6,7,8,9],[])] Tryz.f106 = some (ac106,[.tmp 2],10) := by kernel_rfl
-- 119 loop.example/prologserver/spec.NameValid params 1 ntmps 10
def ac119 : Cd := .seq (.region [oc 2 (.mv (.k (.c (.d (.bool false)))))] [2])
 (.seq (.region [oa 3 0,
 oc 4 (.qcall 48 [(.t 3)]),
 oa 5 4,
 ⟨some 6,.qcall 131 [],some (5,false)⟩,
 ⟨some 7,.mv (.t 0),some (5,false)⟩,
 ⟨some 8,.qcall 130 [(.t 6),(.t 7)],some (5,false)⟩,
 oc 9 (.pick (.t 5) (.k (.c (.d (.bool true)))) (.t 8)),
 oa 2 9] [0,3,4,5,6,7,8,9])
 (.ret))
theorem ac119_ok : cFunc Tryz.prog [1000048,1000130,1000131] [(0,[2],[]),(1,[0,3,4,5,6,7,8,9],[])] Tryz.f119 = some (ac119,[.tmp 2],10) := by kernel_rfl
def lowB (b : UInt8) : Bool := decide ((97 : Int) ≤ b.toNat) && decide ((b.toNat : Int) ≤ 122)
/-- a name of letters -/
def lettersB (s : List UInt8) : Bool := s.all lowB && (decide ((1 : Int) ≤ s.length) && decide ((s.length : Int) ≤ 6))
def signs : List (List UInt8) := [[43], [45], [42], [47, 47], [61], [92, 61], [61, 61], [60], [62], [61, 60], [62, 61], [61, 58, 61], [46], [91, 93], [33]]
def strRow (s : List UInt8) : List D := [.str s]
theorem low_take_succ {p : UInt8 → Bool} {s : List UInt8} {i : Nat} (h : i < s.length) (ha : ∀ b ∈ s.take i, p b = true) (hb : p s[i] = true) : ∀ b ∈ s.take (i + 1), p b = true := by
  intro b h'
  rw [List.take_add_one, List.mem_append] at h'
  rcases h' with h' | h'
  · exact ha b h'
  · rw [List.getElem?_eq_getElem h] at h'
    simp at h'; subst h'; exact hb
set_option maxHeartbeats 3200000 in
theorem isLetters_calls (s : List UInt8) (hs : s.length ≤ 1000000000000) (H : Heap) : ACalls Tryz.prog 39 [.c (.d (.str s))] H (fun r H' => H' = H ∧ r = .c (.d (.bool (lettersB s)))) := by
  refine acalls Tryz.func39 (by kernel_rfl) ac39_ok fun hf => ?_
  have hlen : inR .i64 (s.length : Int) := small_i64 (by omega) (by omega)
  simp -implicitDefEqProofs [ac39, hlen, go_sem, -List.set_cons_succ, -List.set_cons_zero]
  refine loop_set (σ := Nat) (fun i => [(6, .c (.d (.int .i64 i)))]) (fun _ => H) (fun _ => []) (fun i => i ≤ s.length ∧ ∀ b ∈ s.take i, lowB b = true) (fun i => s.length - i) 0 rfl ⟨Nat.zero_le _, by simp⟩ ?_
  rintro i ⟨hi, hall⟩
  simp -implicitDefEqProofs [setAll, hlen, go_sem, -List.set_cons_succ, -List.set_cons_zero]
  refine ⟨fun hlt => byte_nat hlt ?_, fun hge => ?_⟩
  · have hadd : inR .i64 ((i : Int) + 1) := small_i64 (by omega) (by omega)
    have bad : lowB s[i] = false → lettersB s = false := fun h => by
      have : s.all lowB = false := by
        rw [List.all_eq_false]
        exact ⟨s[i], List.getElem_mem hlt, by simp [h]⟩
      simp [lettersB, this]
    by_cases h97 : (s[i].toNat : Int) < 97
    · simp -implicitDefEqProofs [h97, go_sem, -List.set_cons_succ, -List.set_cons_zero]
      refine byte_off 0 ?_
      simp -implicitDefEqProofs [go_sem, -List.set_cons_succ, -List.set_cons_zero]
      rw [bad (by simp [lowB]; omega)]
    · simp -implicitDefEqProofs [h97, go_sem, -List.set_cons_succ, -List.set_cons_zero]
      refine byte_nat hlt ?_
      simp -implicitDefEqProofs [hadd, go_sem, -List.set_cons_succ, -List.set_cons_zero]
      refine ⟨fun h => by rw [bad (by simp [lowB]; omega)], fun h => ?_⟩
      exact loop_back (i + 1) (by simp [setAll]) ⟨hlt, low_take_succ hlt hall (by simp [lowB]; omega)⟩ (by show s.length - (i + 1) < s.length - i; omega)
  · have hil : i = s.length := by omega
    subst hil
    rw [List.take_length] at hall
    have hok : s.all lowB = true := List.all_eq_true.2 hall
    refine qcall_pure (within_calls s.length 1 6) hf rfl ?_
    simp -implicitDefEqProofs [lettersB, hok, go_sem, -List.set_cons_succ, -List.set_cons_zero]
set_option maxHeartbeats 3200000 in
theorem l1Word_calls (s : List UInt8) (hs : s.length ≤ 1000000000000) (H : Heap) : ACalls Tryz.prog 48 [.c (.d (.str s))] H (fun r H' => H' = H ∧ r = .c (.d (.bool (lettersB s)))) := by
  refine acalls Tryz.func48 (by kernel_rfl) ac48_ok fun hf => ?_
  have hlen : inR .i64 (s.length : Int) := small_i64 (by omega) (by omega)
  simp -implicitDefEqProofs [ac48, hlen, go_sem, -List.set_cons_succ, -List.set_cons_zero]
  refine loop_set (σ := Nat) (fun i => [(3, .c (.d (.int .i64 i)))]) (fun _ => H) (fun _ => []) (fun i => i ≤ s.length ∧ ∀ b ∈ s.take i, lowB b = true) (fun i => s.length - i) 0 rfl ⟨Nat.zero_le _, by simp⟩ ?_
  rintro i ⟨hi, hall⟩
  simp -implicitDefEqProofs [setAll, hlen, go_sem, -List.set_cons_succ, -List.set_cons_zero]
  refine ⟨fun hlt => byte_nat hlt ?_, fun hge => ?_⟩
  · have hadd : inR .i64 ((i : Int) + 1) := small_i64 (by omega) (by omega)
    have bad : lowB s[i] = false → lettersB s = false := fun h => by
      have : s.all lowB = false := by
        rw [List.all_eq_false]
        exact ⟨s[i], List.getElem_mem hlt, by simp [h]⟩
      simp [lettersB, this]
    by_cases h97 : (s[i].toNat : Int) < 97
    · simp -implicitDefEqProofs [h97, go_sem, -List.set_cons_succ, -List.set_cons_zero]
      refine byte_off 0 ?_
      simp -implicitDefEqProofs [go_sem, -List.set_cons_succ, -List.set_cons_zero]
      rw [bad (by simp [lowB]; omega)]
    · simp -implicitDefEqProofs [h97, go_sem, -List.set_cons_succ, -List.set_cons_zero]
      refine byte_nat hlt ?_
      simp -implicitDefEqProofs [hadd, go_sem, -List.set_cons_succ, -List.set_cons_zero]
      refine ⟨fun h => by rw [bad (by simp [lowB]; omega)], fun h => ?_⟩
      exact loop_back (i + 1) (by simp [setAll]) ⟨hlt, low_take_succ hlt hall (by simp [lowB]; omega)⟩ (by show s.length - (i + 1) < s.length - i; omega)
  · have hil : i = s.length := by omega
    subst hil
    rw [List.take_length] at hall
    have hok : s.all lowB = true := List.all_eq_true.2 hall
    simp [lettersB, hok]
set_option maxHeartbeats 3200000 in
theorem symbols_calls (H : Heap) : ACalls Tryz.prog 117 [] H (fun r H' => H' = H ∧ r = .c (.d (.sl (signs.map strRow)))) := by
  refine acalls Tryz.func117 (by kernel_rfl) ac117_ok fun hf => ?_
  simp -implicitDefEqProofs [ac117, signs, strRow, go_sem, -List.set_cons_succ, -List.set_cons_zero]
set_option maxHeartbeats 3200000 in
theorem l1Signs_calls (H : Heap) : ACalls Tryz.prog 131 [] H (fun r H' => H' = H ∧ r = .c (.d (.sl (signs.map strRow)))) := by
  refine acalls Tryz.func131 (by kernel_rfl) ac131_ok fun hf => ?_
  simp -implicitDefEqProofs [ac131, signs, strRow, go_sem, -List.set_cons_succ, -List.set_cons_zero]
set_option maxHeartbeats 3200000 in
theorem index_calls (l : List (List UInt8)) (hl : l.length ≤ 1048576) (s : List UInt8) (H : Heap) : ACalls Tryz.prog 42 [.c (.d (.sl (l.map strRow))), .c (.d (.str s))] H (fun r H' => H' = H ∧ ∃ k : Int, r = .c (.d (.int .i64 k)) ∧ decide (0 ≤ k) = l.contains s) := by
  refine acalls Tryz.func42 (by kernel_rfl) ac42_ok fun hf => ?_
  have hli : inR .i64 (l.length : Int) := small_i64 (by omega) (by omega)
  simp -implicitDefEqProofs [ac42, hli, go_sem, -List.set_cons_succ, -List.set_cons_zero]
  refine loop_set (σ := Nat) (fun i => [(8, .c (.d (.int .i64 i)))]) (fun _ => H) (fun _ => []) (fun i => i ≤ l.length ∧ s ∉ l.take i) (fun i => l.length - i) 0 rfl ⟨Nat.zero_le _, by simp⟩ ?_
  rintro i ⟨hi, hno⟩
  simp -implicitDefEqProofs [setAll, hli, go_sem, -List.set_cons_succ, -List.set_cons_zero]
  refine ⟨fun hlt => ?_, fun hge => ?_⟩
  · refine row_of hlt rfl ?_
    have hadd : inR .i64 ((i : Int) + 1) := small_i64 (by omega) (by omega)
    simp -implicitDefEqProofs [strRow, hadd, go_sem, -List.set_cons_succ, -List.set_cons_zero]
    refine ⟨fun h => ?_, fun h => ?_⟩
    · subst h; exact List.getElem_mem hlt
    · refine loop_back (i + 1) (by simp [setAll]) ⟨hlt, ?_⟩ (by show l.length - (i + 1) < l.length - i; omega)
      rw [List.take_succ_eq_append_getElem hlt, List.mem_append]
      rintro (h' | h')
      · exact hno h'
      · simp at h'; exact h h'
  · rw [List.take_of_length_le hge] at hno
    simp [hno]
set_option maxHeartbeats 3200000 in
theorem contains_calls (l : List (List UInt8)) (hl : l.length ≤ 1048576) (s : List UInt8) (H : Heap) : ACalls Tryz.prog 20 [.c (.d (.sl (l.map strRow))), .c (.d (.str s))] H (fun r H' => H' = H ∧ r = .c (.d (.bool (l.contains s)))) := by
  refine acalls Tryz.func20 (by kernel_rfl) ac20_ok fun hf => ?_
  simp -implicitDefEqProofs [ac20, go_sem, -List.set_cons_succ, -List.set_cons_zero]
  refine call_some (index_calls l hl s _) (by simp) (fun r ⟨k, hk, _⟩ => by subst hk; rfl) hf ?_
  rintro _ ⟨k, rfl, hk⟩
  simp -implicitDefEqProofs [go_sem, -List.set_cons_succ, -List.set_cons_zero]
  simpa using hk
set_option maxHeartbeats 3200000 in
theorem l1Has_calls (l : List (List UInt8)) (hl : l.length ≤ 1048576) (s : List UInt8) (H : Heap) : ACalls Tryz.prog 130 [.c (.d (.sl (l.map strRow))), .c (.d (.str s))] H (fun r H' => H' = H ∧ r = .c (.d (.bool (l.contains s)))) := by
  refine acalls Tryz.func130 (by kernel_rfl) ac130_ok fun hf => ?_
  have hli : inR .i64 (l.length : Int) := small_i64 (by omega) (by omega)
  simp -implicitDefEqProofs [ac130, hli, go_sem, -List.set_cons_succ, -List.set_cons_zero]
  refine loop_set (σ := Nat) (fun i => [(5, .c (.d (.int .i64 i)))]) (fun _ => H) (fun _ => []) (fun i => i ≤ l.length ∧ s ∉ l.take i) (fun i => l.length - i) 0 rfl ⟨Nat.zero_le _, by simp⟩ ?_
  rintro i ⟨hi, hno⟩
  simp -implicitDefEqProofs [setAll, hli, go_sem, -List.set_cons_succ, -List.set_cons_zero]
  refine ⟨fun hlt => ?_, fun hge => ?_⟩
  · refine row_of hlt rfl ?_
    have hadd : inR .i64 ((i : Int) + 1) := small_i64 (by omega) (by omega)
    simp -implicitDefEqProofs [strRow, hadd, go_sem, -List.set_cons_succ, -List.set_cons_zero]
    refine ⟨fun h => ?_, fun h => ?_⟩
    · subst h; exact List.getElem_mem hlt
    · refine loop_back (i + 1) (by simp [setAll]) ⟨hlt, ?_⟩ (by show l.length - (i + 1) < l.length - i; omega)
      rw [List.take_succ_eq_append_getElem hlt, List.mem_append]
      rintro (h' | h')
      · exact hno h'
      · simp at h'; exact h h'.symm
  · rw [List.take_of_length_le hge] at hno
    simpa using hno
/-- a name -/
def nameB (s : List UInt8) : Bool := lettersB s || signs.contains s
set_option maxHeartbeats 3200000 in
theorem nvImpl_calls (s : List UInt8) (hs : s.length ≤ 1000000000000) (H : Heap) : ACalls Tryz.prog 106 [.c (.d (.str s))] H (fun r H' => H' = H ∧ r = .c (.d (.bool (nameB s)))) := by
  refine acalls Tryz.func106 (by kernel_rfl) ac106_ok fun hf => ?_
  simp -implicitDefEqProofs [ac106, go_sem, -List.set_cons_succ, -List.set_cons_zero]
  refine qcall_pure (isLetters_calls s hs) hf rfl ?_
  cases h : lettersB s with
  | true => simp -implicitDefEqProofs [h, nameB, go_sem, -List.set_cons_succ, -List.set_cons_zero]
  | false =>
    simp -implicitDefEqProofs [h, go_sem, -List.set_cons_succ, -List.set_cons_zero]
    refine qcall_pure symbols_calls hf rfl ?_
    simp -implicitDefEqProofs [go_sem, -List.set_cons_succ, -List.set_cons_zero]
    refine qcall_pure (contains_calls signs (by decide) s) hf rfl ?_
    simp -implicitDefEqProofs [h, nameB, go_sem, -List.set_cons_succ, -List.set_cons_zero]
set_option maxHeartbeats 3200000 in
theorem nvSpec_calls (s : List UInt8) (hs : s.length ≤ 1000000000000) (H : Heap) : ACalls Tryz.prog 119 [.c (.d (.str s))] H (fun r H' => H' = H ∧ r = .c (.d (.bool (nameB s)))) := by
  refine acalls Tryz.func119 (by kernel_rfl) ac119_ok fun hf => ?_
  simp -implicitDefEqProofs [ac119, go_sem, -List.set_cons_succ, -List.set_cons_zero]
  refine qcall_pure (l1Word_calls s hs) hf rfl ?_
  cases h : lettersB s with
  | true => simp -implicitDefEqProofs [h, nameB, go_sem, -List.set_cons_succ, -List.set_cons_zero]
  | false =>
    simp -implicitDefEqProofs [h, go_sem, -List.set_cons_succ, -List.set_cons_zero]
    refine qcall_pure l1Signs_calls hf rfl ?_
    simp -implicitDefEqProofs [go_sem, -List.set_cons_succ, -List.set_cons_zero]
    refine qcall_pure (l1Has_calls signs (by decide) s) hf rfl ?_
    simp -implicitDefEqProofs [h, nameB, go_sem, -List.set_cons_succ, -List.set_cons_zero]
-- 46 slices.IndexFunc[[]loop.example/prologserver/impl.Term,loop.example/prologserver/impl.Term] params 2 ntmps 19
-- loop head live: [0,1,7,8]
def ac46 : Cd := .seq (.region [oc 4 (.mv (ki 0))] [4])
 (.seq (.seq (.region [oa 6 0,
 oc 7 (.len 1 (.t 6)),
 oc 8 (.mv (ki 0))] [6])
 (.block 0 (.loop (.seq (.region [oc 9 (.bin .lss (.t 8) (.t 7))] [])
 (.seq (.cond (.t 9)
 (.skip)
 (.exit 0))
 (.seq (.block 1 (.seq (.region [oa 10 8,
 oa 5 10] [9,10])
 (.seq (.region [oa 11 1,
 oa 12 0,
 oa 13 5,
 oc 14 (.indexAddr 4 (.t 12) (.t 13)),
 oc 15 (.load (some 4) (.t 14)),
 oc 16 (.callv (.t 11) [(.t 15)])] [11,12,13,14,15])
 (.cond (.t 16)
 (.seq (.region [oa 17 5,
 oa 4 17] [0,1,5,7,8,16,17])
 (.ret))
 (.skip)))))
 (.region [oc 18 (.bin .add (.t 8) (ki 1)),
 oa 8 18] [4,5,16,18])))))))
 (.seq (.region [oc 4 (.mv (ki (-1)))] [])
 (.ret)))
theorem ac46_ok : cFunc Tryz.prog [] [(0,[4],[]),(1,[6],[]),(2,[],[]),(3,[9,10],[]),(4,[11,12,13,14,15],[]),(5,[0,1,5,7,8,16,17],[]),(6,[4,5,16,18],[]),(7,[],[])] Tryz.f46 = some (ac46,[.tmp 4],19) := by kernel_rfl
-- 24 slices.ContainsFunc[[]loop.example/prologserver/impl.Term,loop.example/prologserver/impl.Term] params 2 ntmps 9
def ac24 : Cd := .seq (.region [oc 4 (.mv (.k (.c (.d (.bool false)))))] [4])
 (.seq (.region [oa 5 0,
 oa 6 1,
 oc 7 (.call false 46 [(.t 5),(.t 6)]),
 oc 8 (.bin .geq (.t 7) (ki 0)),
 oa 4 8] [0,1,5,6,7,8])
 (.ret))
theorem ac24_ok : cFunc Tryz.prog [] [(0,[4],[]),(1,[0,1,5,6,7,8],[])] Tryz.f24 = some (ac24,[.tmp 4],9) := by kernel_rfl
theorem tmF_idx {σ : Type} (Hp : σ → Heap) (n : Nat) (hn : ∀ s, (Hp s).length = n) (hfit : ∀ s, Obs.fits n 0 (Hp s)) (g : FuncId) (caps : List (Nat × Nat)) (step : σ → Tm → Bool × σ) (P : σ → Prop) (l : List Tm) (hl : l.length ≤ 1048576)
    (h : ∀ s, P s → ∀ t ∈ l, ACalls Tryz.prog g (.agg ((Tm.row t).map .d) :: caps.map fun x => .c (.ptr (.e x.1) x.2)) (Hp s) (fun r H' => r = .c (.d (.bool (step s t).1)) ∧ H' = Hp (step s t).2)) (hP : ∀ s, P s → ∀ t ∈ l, (step s t).1 = false → P (step s t).2) (s : σ) (h0 : P s) :
    ACalls Tryz.prog 46 [.c (.d (.sl (l.map Tm.row))), .c (.fn g (caps.map fun x => (.e x.1, x.2)))] (Hp s) (fun r H' => (∃ k : Int, r = .c (.d (.int .i64 k)) ∧ decide (0 ≤ k) = (anyS step l s).1) ∧ H' = Hp (anyS step l s).2) := by
  refine acalls Tryz.func46 (by kernel_rfl) ac46_ok fun hf => ?_
  have hli : inR .i64 (l.length : Int) := small_i64 (by omega) (by omega)
  simp -implicitDefEqProofs [ac46, hli, go_sem, -List.set_cons_succ, -List.set_cons_zero]
  refine loop_set (σ := Nat × σ) (fun x => [(8, .c (.d (.int .i64 x.1)))]) (fun x => Hp x.2) (fun _ => []) (fun x => x.1 ≤ l.length ∧ P x.2 ∧ anyS step (l.drop x.1) x.2 = anyS step l s) (fun x => l.length - x.1) (0, s) rfl ⟨Nat.zero_le _, h0, rfl⟩ ?_
  rintro ⟨i, q⟩ ⟨hi, hq, hrun⟩
  simp only at hi hq hrun
  simp -implicitDefEqProofs [setAll, hli, go_sem, -List.set_cons_succ, -List.set_cons_zero]
  refine ⟨fun hlt => ?_, fun hge => ?_⟩
  · refine row_of hlt (row_len _) ?_
    simp -implicitDefEqProofs [row_len, take_row, pure_d, re_d, callArgs_ptrs, go_sem, -List.set_cons_succ, -List.set_cons_zero]
    have hd : l.drop i = l[i] :: l.drop (i + 1) := List.drop_eq_getElem_cons hlt
    rw [hd, anyS] at hrun
    have hadd : inR .i64 ((i : Int) + 1) := small_i64 (by omega) (by omega)
    refine (h q hq l[i] (List.getElem_mem hlt)).mono fun r H' ⟨h1, h2⟩ => ⟨Hp (step q l[i]).2, [], .c (.d (.bool (step q l[i]).1)), by simpa using h2, by simp only [hn], Nat.le_refl _, by simp only [hn]; exact hfit _, h1, ?_⟩
    cases hs : (step q l[i]).1 with
    | true =>
      rw [if_pos hs] at hrun
      simp -implicitDefEqProofs [hs, go_sem, -List.set_cons_succ, -List.set_cons_zero]
      rw [← hrun]
      exact ⟨by simp, rfl⟩
    | false =>
      rw [if_neg (by simp [hs])] at hrun
      simp -implicitDefEqProofs [hs, hadd, go_sem, -List.set_cons_succ, -List.set_cons_zero]
      exact loop_back (i + 1, (step q l[i]).2) (by simp [setAll]) ⟨hlt, hP q hq _ (List.getElem_mem hlt) hs, hrun⟩ (by show l.length - (i + 1) < l.length - i; omega)
  · rw [List.drop_of_length_le hge] at hrun
    simp only [anyS] at hrun
    rw [← hrun]
    exact ⟨by simp, rfl⟩
theorem tmF_con {σ : Type} (Hp : σ → Heap) (n : Nat) (hn : ∀ s, (Hp s).length = n) (hfit : ∀ s, Obs.fits n 0 (Hp s)) (g : FuncId) (caps : List (Nat × Nat)) (step : σ → Tm → Bool × σ) (P : σ → Prop) (l : List Tm) (hl : l.length ≤ 1048576)
    (h : ∀ s, P s → ∀ t ∈ l, ACalls Tryz.prog g (.agg ((Tm.row t).map .d) :: caps.map fun x => .c (.ptr (.e x.1) x.2)) (Hp s) (fun r H' => r = .c (.d (.bool (step s t).1)) ∧ H' = Hp (step s t).2)) (hP : ∀ s, P s → ∀ t ∈ l, (step s t).1 = false → P (step s t).2) (s : σ) (h0 : P s) :
    ACalls Tryz.prog 24 [.c (.d (.sl (l.map Tm.row))), .c (.fn g (caps.map fun x => (.e x.1, x.2)))] (Hp s) (fun r H' => r = .c (.d (.bool (anyS step l s).1)) ∧ H' = Hp (anyS step l s).2) := by
  refine acalls Tryz.func24 (by kernel_rfl) ac24_ok fun hf => ?_
  simp -implicitDefEqProofs [ac24, go_sem, -List.set_cons_succ, -List.set_cons_zero]
  simp only [List.map_map, Function.comp_def, Ref.re]
  refine (tmF_idx Hp n hn hfit g caps step P l hl h hP s h0).mono fun r H' ⟨⟨k, h1, h2⟩, h3⟩ => ⟨Hp (anyS step l s).2, [], .c (.d (.int .i64 k)), by simpa using h3, by simp only [hn], Nat.le_refl _, by simp only [hn]; exact hfit _, h1, ?_⟩
  simp -implicitDefEqProofs [go_sem, -List.set_cons_succ, -List.set_cons_zero]
  rw [← h2]
/-- .. where the function looks at what it is given alone -/
theorem tmF_any (g : FuncId) (p : Tm → Bool) (l : List Tm) (hl : l.length ≤ 1048576) (h : ∀ t ∈ l, ∀ H, ACalls Tryz.prog g [.agg ((Tm.row t).map .d)] H (fun r H' => H' = H ∧ r = .c (.d (.bool (p t))))) (H : Heap) :
    ACalls Tryz.prog 24 [.c (.d (.sl (l.map Tm.row))), .c (.fn g [])] H (fun r H' => H' = H ∧ r = .c (.d (.bool (l.any p)))) := by
  refine acalls_fits Tryz.func24 (by kernel_rfl) (by kernel_rfl) fun hf => ?_
  have := tmF_con (σ := Unit) (fun _ => H) H.length (fun _ => rfl) (fun _ => hf) g [] (fun _ t => (p t, ())) (fun _ => True) l hl (fun s _ t ht => (h t ht H).mono fun r H' ⟨h1, h2⟩ => ⟨h2, h1⟩) (fun _ _ _ _ _ => trivial) () trivial
  rw [anyS_const] at this
  exact this.mono fun r H' ⟨h1, h2⟩ => ⟨h2, h1⟩

/-- a node's own fields -/
def Tm.ownB : Tm → Bool
  | .mk k n s l => if k = 1 then ((decide (0 ≤ n) && decide (n ≤ 25)) && s == []) && l.isEmpty
    else if k = 2 then ((decide (-999 ≤ n) && decide (n ≤ 999)) && s == []) && l.isEmpty
    else if k = 3 then (decide (n = 0) && nameB s) && decide (l.length ≤ 4)
    else false
mutual
/-- well-formed, down to a depth -/
def Tm.shape : Nat → Tm → Bool
  | d, .mk k n s l => decide (1 ≤ d) && ((Tm.mk k n s l).ownB && shapes (d - 1) l)
def shapes : Nat → List Tm → Bool
  | _, [] => true
  | d, t :: l => t.shape d && shapes d l
end
mutual
/-- the number of nodes -/
def Tm.size : Tm → Nat
  | .mk _ _ _ l => 1 + sizes l
def sizes : List Tm → Nat
  | [] => 0
  | t :: l => t.size + sizes l
end
def Tm.valid (t : Tm) : Bool := t.shape 30 && decide (t.size ≤ 120)
mutual
/-- the program's check: nodes are counted -/
def scanT : Nat → Tm → Nat → Bool × Nat
  | deep, .mk k n s l, c => if 120 < c + 1 ∨ 30 < deep then (false, c + 1) else if !(Tm.mk k n s l).ownB then (false, c + 1) else scanL (deep + 1) l (c + 1)
def scanL : Nat → List Tm → Nat → Bool × Nat
  | _, [], c => (true, c)
  | deep, t :: l, c => if (scanT deep t c).1 = true then scanL deep l (scanT deep t c).2 else (false, (scanT deep t c).2)
end
theorem shapes_all : ∀ (l : List Tm) (d : Nat), shapes d l = l.all fun t => t.shape d
  | [], _ => rfl
  | t :: l, d => by rw [shapes, shapes_all l d]; rfl
theorem own_leaf {k n : Int} {s : List UInt8} {l : List Tm} (hk : k ≠ 3) (h : (Tm.mk k n s l).ownB = true) : l = [] := by
  simp only [Tm.ownB] at h
  by_cases k1 : k = 1
  · rw [if_pos k1] at h; simp at h; exact h.2
  · rw [if_neg k1] at h
    by_cases k2 : k = 2
    · rw [if_pos k2] at h; simp at h; exact h.2
    · rw [if_neg k2, if_neg hk] at h; cases h
/-- what the program's check answers -/
theorem scan_spec : ∀ t : Tm, ∀ (deep c : Nat), c ≤ 120 → ((scanT deep t c).1 = true → (scanT deep t c).2 = c + t.size ∧ (scanT deep t c).2 ≤ 120) ∧ ((scanT deep t c).1 = (t.shape (31 - deep) && decide (c + t.size ≤ 120))) := by
  refine Tm.ind fun k n s l ih deep c hc => ?_
  have hl : ∀ (l : List Tm), (∀ t ∈ l, ∀ (deep c : Nat), c ≤ 120 → ((scanT deep t c).1 = true → (scanT deep t c).2 = c + t.size ∧ (scanT deep t c).2 ≤ 120) ∧ ((scanT deep t c).1 = (t.shape (31 - deep) && decide (c + t.size ≤ 120)))) →
      ∀ (deep c : Nat), c ≤ 120 → ((scanL deep l c).1 = true → (scanL deep l c).2 = c + sizes l ∧ (scanL deep l c).2 ≤ 120) ∧ ((scanL deep l c).1 = (shapes (31 - deep) l && decide (c + sizes l ≤ 120))) := by
    intro l
    induction l with
    | nil => intro _ deep c hc; simp [scanL, shapes, sizes, hc]
    | cons t l ih2 =>
      intro h deep c hc
      obtain ⟨h1, h2⟩ := h t (by simp) deep c hc
      rw [scanL, shapes, sizes]
      cases hs : (scanT deep t c).1 with
      | true =>
        obtain ⟨h3, h4⟩ := h1 hs
        obtain ⟨h5, h6⟩ := ih2 (fun x hx => h x (by simp [hx])) deep (scanT deep t c).2 h4
        rw [hs] at h2
        simp only [if_true]
        rw [h3] at h5 h6 ⊢
        have h7 := h2.symm
        simp only [Bool.and_eq_true] at h7
        rw [h7.1, Bool.true_and]
        refine ⟨fun h => ⟨by have := (h5 h).1; omega, (h5 h).2⟩, ?_⟩
        rw [h6, show c + t.size + sizes l = c + (t.size + sizes l) by omega]
      | false =>
        rw [hs] at h2
        simp only [Bool.false_eq_true, if_false]
        refine ⟨fun h => (by cases h), ?_⟩
        have h7 := h2.symm
        rw [Bool.and_eq_false_iff] at h7
        symm
        rcases h7 with h7 | h7
        · simp [h7]
        · simp only [decide_eq_false_iff_not] at h7
          have : ¬ c + (t.size + sizes l) ≤ 120 := by omega
          simp [this]
  rw [scanT, Tm.shape, Tm.size]
  by_cases h1 : 120 < c + 1 ∨ 30 < deep
  · rw [if_pos h1]
    refine ⟨fun h => (by cases h), ?_⟩
    symm
    rcases h1 with h1 | h1
    · have : ¬ c + (1 + sizes l) ≤ 120 := by omega
      simp [this]
    · have : ¬ 1 ≤ 31 - deep := by omega
      simp [this]
  · rw [if_neg h1]
    have hd : 1 ≤ 31 - deep := by omega
    cases ho : (Tm.mk k n s l).ownB with
    | false => exact ⟨fun h => (by simp at h), by simp⟩
    | true =>
      simp only [Bool.not_true, Bool.false_eq_true, if_false]
      obtain ⟨h3, h4⟩ := hl l ih (deep + 1) (c + 1) (by omega)
      refine ⟨fun h => ⟨by have := (h3 h).1; omega, (h3 h).2⟩, ?_⟩
      rw [h4, show 31 - (deep + 1) = 31 - deep - 1 by omega, show c + 1 + sizes l = c + (1 + sizes l) by omega]
      simp [hd]
theorem scan_valid (t : Tm) : (scanT 1 t 0).1 = t.valid := by
  have := (scan_spec t 1 0 (by omega)).2
  rw [this, Tm.valid]
  simp
-- 85 loop.example/prologserver/impl.scan params 3 ntmps 76
def ac85 : Cd := .seq (.region [oc 3 (.box (.t 0)),
 oc 4 (.box (.t 1)),
 oc 5 (.box (.t 2)),
 oc 6 (.mv (.k (.c (.d (.bool false)))))] [0,1,2,6])
 (.seq (.region [oc 7 (.load none (.t 5)),
 oc 8 (.nilCheck (.t 7)),
 oc 9 (.load none (.t 8)),
 oc 10 (.bin .add (.t 9) (ki 1)),
 oc 11 (.nilCheck (.t 7)),
 ⟨none,.store 1 (.t 11) (.t 10),none⟩] [7,8,9,10,11])
 (.seq (.seq (.region [oc 12 (.load none (.t 5)),
 oc 13 (.nilCheck (.t 12)),
 oc 14 (.load none (.t 13)),
 oc 15 (.bin .gtr (.t 14) (ki 120)),
 oa 16 15,
 ⟨some 17,.load none (.t 4),some (16,false)⟩,
 ⟨some 18,.bin .gtr (.t 17) (ki 30),some (16,false)⟩,
 oc 19 (.pick (.t 16) (.k (.c (.d (.bool true)))) (.t 18))] [12,13,14,15,16,17,18])
 (.cond (.t 19)
 (.seq (.region [oc 6 (.mv (.k (.c (.d (.bool false)))))] [3,4,5,19])
 (.ret))
 (.skip)))
 (.seq (.seq (.region [oc 20 (.fieldAddr 0 (.t 3)),
 oc 21 (.load none (.t 20))] [6,19,20])
 (.block 0 (.seq (.region [oc 23 (.bin .eql (.t 21) (ki 1)),
 oa 22 23] [23])
 (.cond (.t 22)
 (.seq (.region [oc 24 (.fieldAddr 1 (.t 3)),
 oc 25 (.load none (.t 24)),
 oc 26 (.qcall 61 [(.t 25),(ki 0),(ki 25)]),
 oa 27 26,
 ⟨some 28,.fieldAddr 2 (.t 3),some (27,true)⟩,
 ⟨some 29,.load none (.t 28),some (27,true)⟩,
 ⟨some 30,.bin .eql (.t 29) (.k (.c (.d (.str [])))),some (27,true)⟩,
 oc 31 (.pick (.t 27) (.t 30) (.k (.c (.d (.bool false))))),
 oa 32 31,
 ⟨some 33,.fieldAddr 3 (.t 3),some (32,true)⟩,
 ⟨some 34,.load none (.t 33),some (32,true)⟩,
 ⟨some 35,.len 1 (.t 34),some (32,true)⟩,
 ⟨some 36,.bin .eql (.t 35) (ki 0),some (32,true)⟩,
 oc 37 (.pick (.t 32) (.t 36) (.k (.c (.d (.bool false))))),
 oa 6 37] [3,4,5,21,22,24,25,26,27,28,29,30,31,32,33,34,35,36,37])
 (.ret))
 (.seq (.region [oc 39 (.bin .eql (.t 21) (ki 2)),
 oa 38 39] [22,39])
 (.cond (.t 38)
 (.seq (.region [oc 40 (.fieldAddr 1 (.t 3)),
 oc 41 (.load none (.t 40)),
 oc 42 (.qcall 61 [(.t 41),(ki (-999)),(ki 999)]),
 oa 43 42,
 ⟨some 44,.fieldAddr 2 (.t 3),some (43,true)⟩,
 ⟨some 45,.load none (.t 44),some (43,true)⟩,
 ⟨some 46,.bin .eql (.t 45) (.k (.c (.d (.str [])))),some (43,true)⟩,
 oc 47 (.pick (.t 43) (.t 46) (.k (.c (.d (.bool false))))),
 oa 48 47,
 ⟨some 49,.fieldAddr 3 (.t 3),some (48,true)⟩,
 ⟨some 50,.load none (.t 49),some (48,true)⟩,
 ⟨some 51,.len 1 (.t 50),some (48,true)⟩,
 ⟨some 52,.bin .eql (.t 51) (ki 0),some (48,true)⟩,
 oc 53 (.pick (.t 48) (.t 52) (.k (.c (.d (.bool false))))),
 oa 6 53] [3,4,5,21,38,40,41,42,43,44,45,46,47,48,49,50,51,52,53])
 (.ret))
 (.seq (.region [oc 55 (.bin .eql (.t 21) (ki 3)),
 oa 54 55] [21,38,55])
 (.cond (.t 54)
 (.seq (.seq (.region [oc 56 (.fieldAddr 1 (.t 3)),
 oc 57 (.load none (.t 56)),
 oc 58 (.bin .neq (.t 57) (ki 0)),
 oa 59 58,
 ⟨some 60,.fieldAddr 2 (.t 3),some (59,false)⟩,
 ⟨some 61,.load none (.t 60),some (59,false)⟩,
 ⟨some 62,.qcall 106 [(.t 61)],some (59,false)⟩,
 ⟨some 63,.un .not (.t 62),some (59,false)⟩,
 oc 64 (.pick (.t 59) (.k (.c (.d (.bool true)))) (.t 63)),
 oa 65 64,
 ⟨some 66,.fieldAddr 3 (.t 3),some (65,false)⟩,
 ⟨some 67,.load none (.t 66),some (65,false)⟩,
 ⟨some 68,.len 1 (.t 67),some (65,false)⟩,
 ⟨some 69,.bin .gtr (.t 68) (ki 4),some (65,false)⟩,
 oc 70 (.pick (.t 65) (.k (.c (.d (.bool true)))) (.t 69))] [54,56,57,58,59,60,61,62,63,64,65,66,67,68,69])
 (.cond (.t 70)
 (.seq (.region [oc 6 (.mv (.k (.c (.d (.bool false)))))] [3,4,5,70])
 (.ret))
 (.skip)))
 (.seq (.region [oc 71 (.fieldAddr 3 (.t 3)),
 oc 72 (.load none (.t 71)),
 oc 73 (.mkFunc 107 [(.t 4),(.t 5)]),
 oc 74 (.call false 24 [(.t 72),(.t 73)]),
 oc 75 (.un .not (.t 74)),
 oa 6 75] [3,4,5,70,71,72,73,74,75])
 (.ret)))
 (.skip)))))))))
 (.seq (.region [oc 6 (.mv (.k (.c (.d (.bool false)))))] [3,4,5,54])
 (.ret)))))
theorem ac85_ok : cFunc Tryz.prog [1000061,1000106] [(0,[0,1,2,6],[]),(1,[7,8,9,10,11],[]),(2,[12,13,14,15,16,17,18],[]),(3,[3,4,5,19],[]),(4,[6,19,20],[]),(5,[23],[]),(6,[3,4,5,21,22,24,25,26,27,28,29,30,31,32,33,34,35,36,37],[]),(7,[22,39],[]),(8,[3,4,5,21,38,40,41,42,43,44,45,46,47,48,49,50,51,52,53],[]),(9,[21,38,55],[]),(10,[54,56,57,58,59,60,61,62,63,64,65,66,67,68,69],[]),(11,[3,4,5,70],[]),(12,[3,4,5,70,71,72,73,74,75],[]),(13,[3,4,5,54],[])] Tryz.f85 = some (ac85,[.tmp 6],76) := by kernel_rfl
-- 107 loop.example/prologserver/impl.scan$1 params 1 ntmps 11
def ac107 : Cd := .seq (.region [oc 3 (.box (.t 0)),
 oc 4 (.mv (.k (.c (.d (.bool false)))))] [0,4])
 (.seq (.region [oc 5 (.load (some 4) (.t 3)),
 oc 6 (.load none (.t 1)),
 oc 7 (.bin .add (.t 6) (ki 1)),
 oc 8 (.load none (.t 2)),
 oc 9 (.call false 85 [(.t 5),(.t 7),(.t 8)]),
 oc 10 (.un .not (.t 9)),
 oa 4 10] [3,5,6,7,8,9,10])
 (.ret))
theorem ac107_ok : cFunc Tryz.prog [] [(0,[0,4],[]),(1,[3,5,6,7,8,9,10],[])] Tryz.f107 = some (ac107,[.tmp 4],11) := by kernel_rfl
-- 64 loop.example/prologserver/impl.TermValid params 1 ntmps 6
def ac64 : Cd := .seq (.region [oc 1 (.box (.t 0)),
 oc 2 (.mv (.k (.c (.d (.bool false)))))] [0,2])
 (.seq (.region [oc 3 (.alloc [(.d (.int .i64 0))]),
 ⟨none,.store 1 (.t 3) (ki 0),none⟩] [])
 (.seq (.region [oc 4 (.load (some 4) (.t 1)),
 oc 5 (.call false 85 [(.t 4),(ki 1),(.t 3)]),
 oa 2 5] [1,3,4,5])
 (.ret)))
theorem ac64_ok : cFunc Tryz.prog [] [(0,[0,2],[]),(1,[],[]),(2,[1,3,4,5],[])] Tryz.f64 = some (ac64,[.tmp 2],6) := by kernel_rfl
-- 109 loop.example/prologserver/spec.l1Own params 1 ntmps 63
def ac109 : Cd := .seq (.region [oc 1 (.box (.t 0)),
 oc 2 (.mv (.k (.c (.d (.bool false)))))] [0,2])
 (.seq (.seq (.region [oc 3 (.fieldAddr 0 (.t 1)),
 oc 4 (.load none (.t 3))] [3])
 (.block 0 (.seq (.region [oc 6 (.bin .eql (.t 4) (ki 1)),
 oa 5 6] [6])
 (.cond (.t 5)
 (.seq (.region [oc 7 (.fieldAddr 1 (.t 1)),
 oc 8 (.load none (.t 7)),
 oc 9 (.bin .geq (.t 8) (ki 0)),
 oa 10 9,
 ⟨some 11,.fieldAddr 1 (.t 1),some (10,true)⟩,
 ⟨some 12,.load none (.t 11),some (10,true)⟩,
 ⟨some 13,.bin .leq (.t 12) (ki 25),some (10,true)⟩,
 oc 14 (.pick (.t 10) (.t 13) (.k (.c (.d (.bool false))))),
 oa 15 14,
 ⟨some 16,.fieldAddr 2 (.t 1),some (15,true)⟩,
 ⟨some 17,.load none (.t 16),some (15,true)⟩,
 ⟨some 18,.bin .eql (.t 17) (.k (.c (.d (.str [])))),some (15,true)⟩,
 oc 19 (.pick (.t 15) (.t 18) (.k (.c (.d (.bool false))))),
 oa 20 19,
 ⟨some 21,.fieldAddr 3 (.t 1),some (20,true)⟩,
 ⟨some 22,.load none (.t 21),some (20,true)⟩,
 ⟨some 23,.len 1 (.t 22),some (20,true)⟩,
 ⟨some 24,.bin .eql (.t 23) (ki 0),some (20,true)⟩,
 oc 25 (.pick (.t 20) (.t 24) (.k (.c (.d (.bool false))))),
 oa 2 25] [1,4,5,7,8,9,10,11,12,13,14,15,16,17,18,19,20,21,22,23,24,25])
 (.ret))
 (.seq (.region [oc 27 (.bin .eql (.t 4) (ki 2)),
 oa 26 27] [5,27])
 (.cond (.t 26)
 (.seq (.region [oc 28 (.fieldAddr 1 (.t 1)),
 oc 29 (.load none (.t 28)),
 oc 30 (.bin .geq (.t 29) (ki (-999))),
 oa 31 30,
 ⟨some 32,.fieldAddr 1 (.t 1),some (31,true)⟩,
 ⟨some 33,.load none (.t 32),some (31,true)⟩,
 ⟨some 34,.bin .leq (.t 33) (ki 999),some (31,true)⟩,
 oc 35 (.pick (.t 31) (.t 34) (.k (.c (.d (.bool false))))),
 oa 36 35,
 ⟨some 37,.fieldAddr 2 (.t 1),some (36,true)⟩,
 ⟨some 38,.load none (.t 37),some (36,true)⟩,
 ⟨some 39,.bin .eql (.t 38) (.k (.c (.d (.str [])))),some (36,true)⟩,
 oc 40 (.pick (.t 36) (.t 39) (.k (.c (.d (.bool false))))),
 oa 41 40,
 ⟨some 42,.fieldAddr 3 (.t 1),some (41,true)⟩,
 ⟨some 43,.load none (.t 42),some (41,true)⟩,
 ⟨some 44,.len 1 (.t 43),some (41,true)⟩,
 ⟨some 45,.bin .eql (.t 44) (ki 0),some (41,true)⟩,
 oc 46 (.pick (.t 41) (.t 45) (.k (.c (.d (.bool false))))),
 oa 2 46] [1,4,26,28,29,30,31,32,33,34,35,36,37,38,39,40,41,42,43,44,45,46])
 (.ret))
 (.seq (.region [oc 48 (.bin .eql (.t 4) (ki 3)),
 oa 47 48] [4,26,48])
 (.cond (.t 47)
 (.seq (.region [oc 49 (.fieldAddr 1 (.t 1)),
 oc 50 (.load none (.t 49)),
 oc 51 (.bin .eql (.t 50) (ki 0)),
 oa 52 51,
 ⟨some 53,.fieldAddr 2 (.t 1),some (52,true)⟩,
 ⟨some 54,.load none (.t 53),some (52,true)⟩,
 ⟨some 55,.qcall 119 [(.t 54)],some (52,true)⟩,
 oc 56 (.pick (.t 52) (.t 55) (.k (.c (.d (.bool false))))),
 oa 57 56,
 ⟨some 58,.fieldAddr 3 (.t 1),some (57,true)⟩,
 ⟨some 59,.load none (.t 58),some (57,true)⟩,
 ⟨some 60,.len 1 (.t 59),some (57,true)⟩,
 ⟨some 61,.bin .leq (.t 60) (ki 4),some (57,true)⟩,
 oc 62 (.pick (.t 57) (.t 61) (.k (.c (.d (.bool false))))),
 oa 2 62] [1,47,49,50,51,52,53,54,55,56,57,58,59,60,61,62])
 (.ret))
 (.skip)))))))))
 (.seq (.region [oc 2 (.mv (.k (.c (.d (.bool false)))))] [1,47])
 (.ret)))
theorem ac109_ok : cFunc Tryz.prog [1000119] [(0,[0,2],[]),(1,[3],[]),(2,[6],[]),(3,[1,4,5,7,8,9,10,11,12,13,14,15,16,17,18,19,20,21,22,23,24,25],[]),(4,[5,27],[]),(5,[1,4,26,28,29,30,31,32,33,34,35,36,37,38,39,40,41,42,43,44,45,46],[]),(6,[4,26,48],[]),(7,[1,47,49,50,51,52,53,54,55,56,57,58,59,60,61,62],[]),(8,[1,47],[])] Tryz.f109 = some (ac109,[.tmp 2],63) := by kernel_rfl
-- 89 loop.example/prologserver/spec.l1Shape params 2 ntmps 29
-- loop head live: [1,2,5]
def ac89 : Cd := .seq (.region [oc 2 (.box (.t 0)),
 oc 4 (.mv (.k (.c (.d (.bool false)))))] [0,4])
 (.seq (.seq (.region [oa 6 1,
 oc 7 (.bin .lss (.t 6) (ki 1)),
 oa 8 7,
 ⟨some 9,.load (some 4) (.t 2),some (8,false)⟩,
 ⟨some 10,.qcall 109 [(.t 9)],some (8,false)⟩,
 ⟨some 11,.un .not (.t 10),some (8,false)⟩,
 oc 12 (.pick (.t 8) (.k (.c (.d (.bool true)))) (.t 11))] [6,7,8,9,10,11])
 (.cond (.t 12)
 (.seq (.region [oc 4 (.mv (.k (.c (.d (.bool false)))))] [1,2,12])
 (.ret))
 (.skip)))
 (.seq (.seq (.region [oc 5 (.mv (ki 0))] [4,12])
 (.block 0 (.loop (.seq (.seq (.region [oa 13 5,
 oc 14 (.fieldAddr 3 (.t 2)),
 oc 15 (.load none (.t 14)),
 oc 16 (.len 1 (.t 15)),
 oc 17 (.bin .lss (.t 13) (.t 16))] [13,14,15,16])
 (.cond (.t 17)
 (.skip)
 (.exit 0)))
 (.seq (.block 1 (.seq (.region [oc 20 (.fieldAddr 3 (.t 2)),
 oc 21 (.load none (.t 20)),
 oa 22 5,
 oc 23 (.indexAddr 4 (.t 21) (.t 22)),
 oc 24 (.load (some 4) (.t 23)),
 oa 25 1,
 oc 26 (.bin .sub (.t 25) (ki 1)),
 oc 27 (.qcall 89 [(.t 24),(.t 26)]),
 oc 28 (.un .not (.t 27))] [17,20,21,22,23,24,25,26,27])
 (.cond (.t 28)
 (.seq (.region [oc 4 (.mv (.k (.c (.d (.bool false)))))] [1,2,5,28])
 (.ret))
 (.skip))))
 (.region [oa 18 5,
 oc 19 (.bin .add (.t 18) (ki 1)),
 oa 5 19] [4,18,19,28]))))))
 (.seq (.region [oc 4 (.mv (.k (.c (.d (.bool true)))))] [])
 (.ret))))
theorem ac89_ok : cFunc Tryz.prog [1000089,1000109] [(0,[0,4],[]),(1,[6,7,8,9,10,11],[]),(2,[1,2,12],[]),(3,[4,12],[]),(4,[13,14,15,16],[]),(6,[17,20,21,22,23,24,25,26,27],[]),(7,[1,2,5,28],[]),(5,[4,18,19,28],[]),(8,[],[])] Tryz.f89 = some (ac89,[.tmp 4],29) := by kernel_rfl
-- 90 loop.example/prologserver/spec.l1Count params 2 ntmps 31
-- loop head live: [1,2,5,6]
def ac90 : Cd := .seq (.region [oc 2 (.box (.t 0)),
 oc 4 (.mv (ki 0))] [0,4])
 (.seq (.region [oc 5 (.mv (ki 1))] [])
 (.seq (.seq (.region [oc 6 (.mv (ki 0))] [])
 (.block 0 (.loop (.seq (.seq (.region [oa 7 6,
 oc 8 (.fieldAddr 3 (.t 2)),
 oc 9 (.load none (.t 8)),
 oc 10 (.len 1 (.t 9)),
 oc 11 (.bin .lss (.t 7) (.t 10)),
 oa 12 11,
 ⟨some 13,.mv (.t 5),some (12,true)⟩,
 ⟨some 14,.mv (.t 1),some (12,true)⟩,
 ⟨some 15,.bin .leq (.t 13) (.t 14),some (12,true)⟩,
 oc 16 (.pick (.t 12) (.t 15) (.k (.c (.d (.bool false)))))] [7,8,9,10,11,12,13,14,15])
 (.cond (.t 16)
 (.skip)
 (.exit 0)))
 (.seq (.block 1 (.region [oa 19 5,
 oc 20 (.fieldAddr 3 (.t 2)),
 oc 21 (.load none (.t 20)),
 oa 22 6,
 oc 23 (.indexAddr 4 (.t 21) (.t 22)),
 oc 24 (.load (some 4) (.t 23)),
 oa 25 1,
 oa 26 5,
 oc 27 (.bin .sub (.t 25) (.t 26)),
 oc 28 (.qcall 90 [(.t 24),(.t 27)]),
 oc 29 (.bin .add (.t 19) (.t 28)),
 oa 5 29] [16,19,20,21,22,23,24,25,26,27,28,29]))
 (.region [oa 17 6,
 oc 18 (.bin .add (.t 17) (ki 1)),
 oa 6 18] [17,18]))))))
 (.seq (.region [oa 30 5,
 oa 4 30] [5,30])
 (.ret))))
theorem ac90_ok : cFunc Tryz.prog [1000090] [(0,[0,4],[]),(1,[],[]),(2,[],[]),(3,[7,8,9,10,11,12,13,14,15],[]),(5,[16,19,20,21,22,23,24,25,26,27,28,29],[]),(4,[17,18],[]),(6,[5,30],[])] Tryz.f90 = some (ac90,[.tmp 4],31) := by kernel_rfl
-- 67 loop.example/prologserver/spec.TermValid params 1 ntmps 10
def ac67 : Cd := .seq (.region [oc 1 (.box (.t 0)),
 oc 2 (.mv (.k (.c (.d (.bool false)))))] [0,2])
 (.seq (.region [oc 3 (.load (some 4) (.t 1)),
 oc 4 (.qcall 89 [(.t 3),(ki 30)]),
 oa 5 4,
 ⟨some 6,.load (some 4) (.t 1),some (5,true)⟩,
 ⟨some 7,.qcall 90 [(.t 6),(ki 120)],some (5,true)⟩,
 ⟨some 8,.bin .leq (.t 7) (ki 120),some (5,true)⟩,
 oc 9 (.pick (.t 5) (.t 8) (.k (.c (.d (.bool false))))),
 oa 2 9] [1,3,4,5,6,7,8,9])
 (.ret))
theorem ac67_ok : cFunc Tryz.prog [1000089,1000090] [(0,[0,2],[]),(1,[1,3,4,5,6,7,8,9],[])] Tryz.f67 = some (ac67,[.tmp 2],10) := by kernel_rfl
def Cn (c : Nat) : Ob := .cells [.d (.int .i64 c)]
def ScanOk (t : Tm) : Prop := ∀ (deep c : Nat) (H : Heap) (i : Nat), deep ≤ 31 → c ≤ 120 → i < H.length →
  ACalls Tryz.prog 85 [.agg (t.row.map .d), .c (.d (.int .i64 deep)), .c (.ptr (.e i) 0)] (H.set i (Cn c)) (fun r H' => r = .c (.d (.bool (scanT deep t c).1)) ∧ H' = H.set i (Cn (scanT deep t c).2))
theorem anyS_scan (d : Nat) : ∀ (l : List Tm) (c : Nat), anyS (fun c t => (!(scanT d t c).1, (scanT d t c).2)) l c = (!(scanL d l c).1, (scanL d l c).2)
  | [], _ => rfl
  | t :: l, c => by
    rw [anyS, scanL]
    cases h : (scanT d t c).1 with
    | true => simp [anyS_scan d l]
    | false => simp
def scanHeap (H : Heap) (i deep : Nat) (x : Ob) (c : Nat) : Heap := H.set i (Cn c) ++ [x, .cells [.d (.int .i64 deep)], .cells [.ptr (.e i) 0]]
theorem scan1_calls (t : Tm) (h : ScanOk t) (deep c : Nat) (H : Heap) (i : Nat) (x : Ob) (hd : deep ≤ 30) (hc : c ≤ 120) (hi : i < H.length) (hfit : ∀ c, Obs.fits (H.length + 3) 0 (scanHeap H i deep x c)) :
    ACalls Tryz.prog 107 [.agg (t.row.map .d), .c (.ptr (.e (H.length + 1)) 0), .c (.ptr (.e (H.length + 2)) 0)] (scanHeap H i deep x c) (fun r H' => r = .c (.d (.bool (!(scanT (deep + 1) t c).1))) ∧ H' = scanHeap H i deep x (scanT (deep + 1) t c).2) := by
  refine acalls Tryz.func107 (by kernel_rfl) ac107_ok fun hf => ?_
  have hlen : ∀ c, (scanHeap H i deep x c).length = H.length + 3 := fun c => by simp [scanHeap]
  have g1 : (scanHeap H i deep x c)[H.length + 1]? = some (.cells [.d (.int .i64 deep)]) := by
    rw [scanHeap, List.getElem?_append_right (by simp)]; simp
  have g2 : (scanHeap H i deep x c)[H.length + 2]? = some (.cells [.ptr (.e i) 0]) := by
    rw [scanHeap, List.getElem?_append_right (by simp)]; simp
  have hadd : inR .i64 ((deep : Int) + 1) := small_i64 (by omega) (by omega)
  simp -implicitDefEqProofs [ac107, g1, g2, hadd, row_len, take_row, go_sem, -List.set_cons_succ, -List.set_cons_zero]
  have hset : ∀ c, (H ++ ([x, .cells [.d (.int .i64 deep)], .cells [.ptr (.e i) 0]] ++ [Ob.cells (t.row.map C.d)])).set i (Cn c) = scanHeap H i deep x c ++ [Ob.cells (t.row.map C.d)] := fun c => by
    rw [List.set_append_left _ _ hi, scanHeap, List.append_assoc]
  have h2 := h (deep + 1) c (H ++ ([x, .cells [.d (.int .i64 deep)], .cells [.ptr (.e i) 0]] ++ [Ob.cells (t.row.map C.d)])) i (by omega) hc (by simp; omega)
  rw [hset] at h2
  simp -implicitDefEqProofs [pure_d, re_d, Ref.re, go_sem, -List.set_cons_succ, -List.set_cons_zero]
  refine h2.mono fun r H' ⟨h3, h4⟩ => ⟨scanHeap H i deep x (scanT (deep + 1) t c).2, [Ob.cells (t.row.map C.d)], .c (.d (.bool (scanT (deep + 1) t c).1)), ?_, ?_, Nat.le_refl _, ?_, h3, ?_⟩
  · rw [h4, hset]; simp [Ob.re, re_d]
  · simp only [hlen]
  · simp only [hlen]; exact hfit _
  · simp -implicitDefEqProofs [go_sem, -List.set_cons_succ, -List.set_cons_zero]
theorem scanT_bad {deep c : Nat} {t : Tm} (h : 120 < c + 1 ∨ 30 < deep) : scanT deep t c = (false, c + 1) := by
  obtain ⟨k, n, s, l⟩ := t
  rw [scanT, if_pos h]
theorem scanT_own {deep c : Nat} {t : Tm} (h1 : c + 1 ≤ 120) (h2 : deep ≤ 30) (h : t.ownB = false) : scanT deep t c = (false, c + 1) := by
  obtain ⟨k, n, s, l⟩ := t
  rw [scanT, if_neg (by omega), h]; rfl
theorem scanT_go {deep c : Nat} {t : Tm} (h1 : c + 1 ≤ 120) (h2 : deep ≤ 30) (h : t.ownB = true) : scanT deep t c = scanL (deep + 1) t.kids (c + 1) := by
  obtain ⟨k, n, s, l⟩ := t
  rw [scanT, if_neg (by omega), h]; rfl
theorem scanT_leaf {deep c : Nat} {k n : Int} {s : List UInt8} {l : List Tm} (h1 : c + 1 ≤ 120) (h2 : deep ≤ 30) (h : k ≠ 3) : scanT deep (.mk k n s l) c = ((Tm.mk k n s l).ownB, c + 1) := by
  cases ho : (Tm.mk k n s l).ownB with
  | false => exact scanT_own h1 h2 ho
  | true =>
    rw [scanT_go h1 h2 ho, Tm.kids, own_leaf h ho]
    rfl
theorem scan_calls : ∀ t : Tm, t.fits → ScanOk t := by
  refine Tm.ind fun k n s l ih hfits deep c H i hd hc hi => ?_
  obtain ⟨hk, hn, hs, hl, hkids⟩ := hfits
  refine acalls Tryz.func85 (by kernel_rfl) ac85_ok fun hf => ?_
  simp only [List.length_set] at hf
  have hadd : inR .i64 ((c : Int) + 1) := small_i64 (by omega) (by omega)
  have hli : inR .i64 (l.length : Int) := small_i64 (by omega) (by omega)
  have hf1 : Obs.fits H.length 0 (H.set i (.cells [.d (.int .i64 ((c : Int) + 1))])) := fits_reset hf ⟨trivial, trivial⟩
  simp -implicitDefEqProofs [ac85, Cn, row_mk, hadd, hi, hf1, hli, List.getElem?_set, go_sem, -List.set_cons_succ, -List.set_cons_zero]
  have done : ∀ b : Bool, scanT deep (.mk k n s l) c = (b, c + 1) → b = (scanT deep (.mk k n s l) c).1 ∧ H.set i (Ob.cells [C.d (D.int IntKind.i64 ((c : Int) + 1))]) = H.set i (Ob.cells [C.d (D.int IntKind.i64 ((scanT deep (.mk k n s l) c).2 : Nat))]) := fun b h => by rw [h]; exact ⟨rfl, rfl⟩
  refine ⟨fun h => ?_, fun h1 h2 => ⟨fun k1 => ?_, fun k1 => ⟨fun k2 => ?_, fun k2 => ⟨fun k3 => ⟨fun n0 => ⟨n0, ?_⟩, fun n0 => ?_⟩, fun k3 => ?_⟩⟩⟩⟩
  · have := done false (scanT_bad (by omega))
    exact ⟨this.1.symm, this.2⟩
  · subst k1
    refine qcall_pure (within_calls n 0 25) (by simpa using hf1) rfl ?_
    have hd := done _ (scanT_leaf (by omega) (by omega) (by omega))
    simp -implicitDefEqProofs [hi, hli, isEmpty_len, List.getElem?_set, go_sem, -List.set_cons_succ, -List.set_cons_zero]
    rw [← hd.1]
    refine ⟨?_, hd.2⟩
    simp [Tm.ownB]
  · subst k2
    refine qcall_pure (within_calls n (-999) 999) (by simpa using hf1) rfl ?_
    have hd := done _ (scanT_leaf (by omega) (by omega) (by omega))
    simp -implicitDefEqProofs [hi, hli, isEmpty_len, List.getElem?_set, go_sem, -List.set_cons_succ, -List.set_cons_zero]
    rw [← hd.1]
    refine ⟨?_, hd.2⟩
    simp [Tm.ownB]
  · subst n0 k3
    refine qcall_pure (nvImpl_calls s (by omega)) (by simpa using hf1) rfl ?_
    cases hnm : nameB s with
    | false =>
      have hd := done _ (scanT_own (by omega) (by omega) (by simp [Tm.ownB, hnm]))
      simp -implicitDefEqProofs [hnm, hi, hli, List.getElem?_set, go_sem, -List.set_cons_succ, -List.set_cons_zero]
      exact ⟨hd.1.symm, hd.2⟩
    | true =>
      by_cases h4 : 4 < l.length
      · have h4' : ¬ l.length ≤ 4 := by omega
        have hd := done _ (scanT_own (by omega) (by omega) (by simp [Tm.ownB, hnm, h4']))
        simp -implicitDefEqProofs [hnm, hi, hli, h4, List.getElem?_set, go_sem, -List.set_cons_succ, -List.set_cons_zero]
        exact ⟨fun _ => ⟨hd.1.symm, hd.2⟩, fun h => by omega⟩
      · have h4' : l.length ≤ 4 := by omega
        have hgo := scanT_go (t := .mk 3 0 s l) (show c + 1 ≤ 120 by omega) (show deep ≤ 30 by omega) (by simp [Tm.ownB, hnm, h4'])
        simp -implicitDefEqProofs [hnm, hi, hli, h4, List.getElem?_set, go_sem, -List.set_cons_succ, -List.set_cons_zero]
        refine ⟨fun h => by omega, fun _ => ?_⟩
        have hfit : ∀ c, Obs.fits (H.length + 3) 0 (scanHeap H i deep (Ob.cells [C.d (D.int IntKind.i64 3), C.d (D.int IntKind.i64 0), C.d (D.str s), C.d (D.sl (List.map Tm.row l))]) c) := fun c =>
          fits_append (fits_mono (by omega) (fits_reset (b := Cn c) hf ⟨trivial, trivial⟩)) ⟨⟨trivial, trivial, trivial, trivial, trivial⟩, ⟨trivial, trivial⟩, ⟨by show i < H.length + 3 + 0; omega, trivial⟩, trivial⟩
        have con := tmF_con (fun c => scanHeap H i deep (Ob.cells [C.d (D.int IntKind.i64 3), C.d (D.int IntKind.i64 0), C.d (D.str s), C.d (D.sl (List.map Tm.row l))]) c) (H.length + 3) (fun c => by simp [scanHeap]) hfit 107 [(H.length + 1, 0), (H.length + 2, 0)]
          (fun c t => (!(scanT (deep + 1) t c).1, (scanT (deep + 1) t c).2)) (fun c => c ≤ 120) l (by omega) (fun c hc t ht => scan1_calls t (ih t ht (hkids t ht)) deep c H i _ (by omega) hc hi hfit)
          (fun c hc t ht h => ((scan_spec t (deep + 1) c hc).1 (by simpa using h)).2) (c + 1) (by omega)
        rw [anyS_scan] at con
        simp only [Tm.kids] at hgo
        rw [← hgo] at con
        refine con.mono fun r H' ⟨h5, h6⟩ => ⟨H.set i (Cn (scanT deep (Tm.mk 3 0 s l) c).2), [Ob.cells [C.d (D.int IntKind.i64 3), C.d (D.int IntKind.i64 0), C.d (D.str s), C.d (D.sl (List.map Tm.row l))], Ob.cells [C.d (D.int IntKind.i64 deep)], Ob.cells [C.ptr (.e i) 0]], .c (.d (.bool (!(scanT deep (Tm.mk 3 0 s l) c).1))), by rw [h6]; rfl, by simp, Nat.le_refl _, by simpa using fits_reset (b := Cn (scanT deep (Tm.mk 3 0 s l) c).2) hf ⟨trivial, trivial⟩, h5, ?_⟩
        simp -implicitDefEqProofs [go_sem, -List.set_cons_succ, -List.set_cons_zero]
        rfl
  · have := done false (scanT_own (by omega) (by omega) (by simp [Tm.ownB, k3, n0]))
    exact ⟨this.1.symm, this.2⟩
  · have := done false (scanT_own (by omega) (by omega) (by simp [Tm.ownB, k1, k2, k3]))
    exact ⟨this.1.symm, this.2⟩
theorem tvImpl_calls (t : Tm) (ht : t.fits) (H : Heap) : ACalls Tryz.prog 64 [.agg (t.row.map .d)] H (fun r H' => H' = H ∧ r = .c (.d (.bool t.valid))) := by
  refine acalls Tryz.func64 (by kernel_rfl) ac64_ok fun hf => ?_
  simp -implicitDefEqProofs [ac64, hf, row_len, take_row, go_sem, -List.set_cons_succ, -List.set_cons_zero]
  have h := scan_calls t ht 1 0 (H ++ [Ob.cells (t.row.map C.d), Cn 0]) (H.length + 1) (by omega) (by omega) (by simp)
  have hset : ∀ c, (H ++ [Ob.cells (t.row.map C.d), Cn 0]).set (H.length + 1) (Cn c) = H ++ [Ob.cells (t.row.map C.d), Cn c] := fun c => by
    rw [List.set_append_right _ _ (by omega)]; simp
  rw [hset, scan_valid, hset] at h
  simp -implicitDefEqProofs [pure_d, re_d, Ref.re, go_sem, -List.set_cons_succ, -List.set_cons_zero]
  refine h.mono fun r H' ⟨h3, h4⟩ => ⟨H, [Ob.cells (t.row.map C.d), Cn (scanT 1 t 0).2], .c (.d (.bool t.valid)), ?_, rfl, Nat.le_refl _, hf, h3, ?_⟩
  · rw [h4]; simp [Cn, Ob.re, C.re, re_d]
  · simp -implicitDefEqProofs [go_sem, -List.set_cons_succ, -List.set_cons_zero]
theorem sizes_take : ∀ {l : List Tm} {i : Nat} (h : i < l.length), sizes (l.take (i + 1)) = sizes (l.take i) + l[i].size
  | [], i, h => by simp at h
  | t :: l, 0, h => by simp [sizes]
  | t :: l, i + 1, h => by
    have := sizes_take (l := l) (i := i) (by simpa using h)
    simp only [List.take_succ_cons, sizes, List.getElem_cons_succ, this]
    omega
theorem sizes_le : ∀ (l : List Tm) (i : Nat), sizes (l.take i) ≤ sizes l
  | [], i => by simp
  | t :: l, 0 => by simp [sizes]
  | t :: l, i + 1 => by
    have := sizes_le l i
    simp only [List.take_succ_cons, sizes]
    omega
theorem own_calls (t : Tm) (ht : t.fits) (H : Heap) : ACalls Tryz.prog 109 [.agg (t.row.map .d)] H (fun r H' => H' = H ∧ r = .c (.d (.bool t.ownB))) := by
  obtain ⟨k, n, s, l⟩ := t
  obtain ⟨hk, hn, hs, hl, hkids⟩ := ht
  refine acalls Tryz.func109 (by kernel_rfl) ac109_ok fun hf => ?_
  have hli : inR .i64 (l.length : Int) := small_i64 (by omega) (by omega)
  by_cases k1 : k = 1
  · subst k1
    simp -implicitDefEqProofs [ac109, row_mk, hli, Tm.ownB, isEmpty_len, go_sem, -List.set_cons_succ, -List.set_cons_zero]
  · by_cases k2 : k = 2
    · subst k2
      simp -implicitDefEqProofs [ac109, row_mk, hli, Tm.ownB, isEmpty_len, go_sem, -List.set_cons_succ, -List.set_cons_zero]
    · by_cases k3 : k = 3
      · subst k3
        by_cases n0 : n = 0
        · simp -implicitDefEqProofs [ac109, row_mk, hli, n0, go_sem, -List.set_cons_succ, -List.set_cons_zero]
          refine qcall_pure (nvSpec_calls s (by omega)) hf rfl ?_
          simp -implicitDefEqProofs [hli, n0, Tm.ownB, go_sem, -List.set_cons_succ, -List.set_cons_zero]
          congr 1
          simp
          omega
        · simp -implicitDefEqProofs [ac109, row_mk, hli, n0, Tm.ownB, go_sem, -List.set_cons_succ, -List.set_cons_zero]
      · simp -implicitDefEqProofs [ac109, row_mk, hli, k1, k2, k3, Tm.ownB, go_sem, -List.set_cons_succ, -List.set_cons_zero]
theorem shape_calls : ∀ t : Tm, t.fits → ∀ (d : Nat), d ≤ 30 → ∀ H, ACalls Tryz.prog 89 [.agg (t.row.map .d), .c (.d (.int .i64 d))] H (fun r H' => H' = H ∧ r = .c (.d (.bool (t.shape d)))) := by
  refine Tm.ind fun k n s l ih hfits d hd H => ?_
  have how := own_calls _ hfits
  obtain ⟨hk, hn, hs, hl, hkids⟩ := hfits
  rw [row_mk] at how
  simp only [List.map_cons, List.map_nil] at how
  refine acalls Tryz.func89 (by kernel_rfl) ac89_ok fun hf => ?_
  have hli : inR .i64 (l.length : Int) := small_i64 (by omega) (by omega)
  have hsub : 1 ≤ d → inR .i64 ((d : Int) - 1) := fun h => small_i64 (by omega) (by omega)
  simp -implicitDefEqProofs [ac89, row_mk, hli, go_sem, -List.set_cons_succ, -List.set_cons_zero]
  refine ⟨fun h1 => ⟨h1, ?_⟩, fun h1 => ?_⟩
  · have hd1 : 1 ≤ d := by omega
    refine qcall_pure how hf rfl ?_
    cases ho : (Tm.mk k n s l).ownB with
    | false => simp -implicitDefEqProofs [ho, Tm.shape, go_sem, -List.set_cons_succ, -List.set_cons_zero]
    | true =>
      simp -implicitDefEqProofs [ho, go_sem, -List.set_cons_succ, -List.set_cons_zero]
      refine loop_set (σ := Nat) (fun i => [(5, .c (.d (.int .i64 i)))]) (fun _ => H) (fun _ => [_]) (fun i => i ≤ l.length ∧ ∀ t ∈ l.take i, t.shape (d - 1) = true) (fun i => l.length - i) 0 rfl ⟨Nat.zero_le _, by simp⟩ ?_
      rintro i ⟨hi, hall⟩
      simp -implicitDefEqProofs [setAll, hli, go_sem, -List.set_cons_succ, -List.set_cons_zero]
      refine ⟨fun hlt => ?_, fun hge => ?_⟩
      · refine row_of hlt (row_len _) ?_
        simp -implicitDefEqProofs [row_len, take_row, pure_d, re_d, hsub hd1, go_sem, -List.set_cons_succ, -List.set_cons_zero]
        have hc := ih l[i] (List.getElem_mem hlt) (hkids _ (List.getElem_mem hlt)) (d - 1) (by omega)
        rw [show ((d - 1 : Nat) : Int) = (d : Int) - 1 by omega] at hc
        refine qcall_pure hc hf rfl ?_
        have hadd : inR .i64 ((i : Int) + 1) := small_i64 (by omega) (by omega)
        simp -implicitDefEqProofs [hadd, go_sem, -List.set_cons_succ, -List.set_cons_zero]
        refine ⟨fun hg => ?_, fun hg => loop_back (i + 1) (by simp [setAll]) ⟨hlt, fun t ht => ?_⟩ (by show l.length - (i + 1) < l.length - i; omega)⟩
        · rw [Tm.shape, shapes_all]
          have : (l.all fun t => t.shape (d - 1)) = false := by
            rw [List.all_eq_false]
            exact ⟨l[i], List.getElem_mem hlt, by simp [hg]⟩
          simp [this]
        · rw [List.take_succ_eq_append_getElem hlt, List.mem_append] at ht
          rcases ht with ht | ht
          · exact hall t ht
          · simp at ht; subst ht; exact hg
      · rw [List.take_of_length_le hge] at hall
        rw [Tm.shape, shapes_all, ho, List.all_eq_true.2 hall]
        simp [hd1]
  · rw [Tm.shape]
    have : ¬ 1 ≤ d := by omega
    simp [this]
theorem count_calls : ∀ t : Tm, t.fits → ∀ (m : Nat), m ≤ 1000 → ∀ H, ACalls Tryz.prog 90 [.agg (t.row.map .d), .c (.d (.int .i64 m))] H (fun r H' => H' = H ∧ r = .c (.d (.int .i64 (min t.size (m + 1) : Nat)))) := by
  refine Tm.ind fun k n s l ih hfits m hm H => ?_
  obtain ⟨hk, hn, hs, hl, hkids⟩ := hfits
  refine acalls Tryz.func90 (by kernel_rfl) ac90_ok fun hf => ?_
  have hli : inR .i64 (l.length : Int) := small_i64 (by omega) (by omega)
  simp -implicitDefEqProofs [ac90, row_mk, hli, go_sem, -List.set_cons_succ, -List.set_cons_zero]
  refine loop_set (σ := Nat × Nat) (fun x => [(6, .c (.d (.int .i64 x.1))), (5, .c (.d (.int .i64 x.2)))]) (fun _ => H) (fun _ => [_]) (fun x => x.1 ≤ l.length ∧ x.2 = min (1 + sizes (l.take x.1)) (m + 1)) (fun x => l.length - x.1) (0, 1) rfl ⟨Nat.zero_le _, by simp [sizes]⟩ ?_
  rintro ⟨i, c⟩ ⟨hi, hcnt⟩
  simp only at hi hcnt
  have htk : ∀ h : i < l.length, sizes (l.take (i + 1)) = sizes (l.take i) + (l[i]'h).size := fun h => sizes_take h
  by_cases hlt : i < l.length
  · by_cases hcm : c ≤ m
    · have hsub : inR .i64 ((m : Int) - (c : Int)) := small_i64 (by omega) (by omega)
      have hadd : inR .i64 ((i : Int) + 1) := small_i64 (by omega) (by omega)
      simp -implicitDefEqProofs [setAll, hli, hlt, hcm, hsub, go_sem, -List.set_cons_succ, -List.set_cons_zero]
      refine row_of hlt (row_len _) ?_
      simp -implicitDefEqProofs [row_len, take_row, pure_d, re_d, hsub, go_sem, -List.set_cons_succ, -List.set_cons_zero]
      have hc := ih l[i] (List.getElem_mem hlt) (hkids _ (List.getElem_mem hlt)) (m - c) (by omega)
      rw [show ((m - c : Nat) : Int) = (m : Int) - c by omega] at hc
      refine qcall_pure hc hf rfl ?_
      have e := htk hlt
      have hcs : c + min l[i].size (m - c + 1) = min (1 + sizes (l.take (i + 1))) (m + 1) := by omega
      have hadd2 : inR .i64 ((c : Int) + ((min l[i].size (m - c + 1) : Nat) : Int)) := small_i64 (by omega) (by omega)
      simp -implicitDefEqProofs [hadd, hadd2, go_sem, -List.set_cons_succ, -List.set_cons_zero]
      refine loop_back (i + 1, c + min l[i].size (m - c + 1)) (by simp [setAll]) ⟨hlt, hcs⟩ (by show l.length - (i + 1) < l.length - i; omega)
    · simp -implicitDefEqProofs [setAll, hli, hlt, hcm, go_sem, -List.set_cons_succ, -List.set_cons_zero]
      have h1 := sizes_le l i
      rw [Tm.size]
      omega
  · have hil : i = l.length := by omega
    subst hil
    rw [List.take_length] at hcnt
    simp -implicitDefEqProofs [setAll, hli, go_sem, -List.set_cons_succ, -List.set_cons_zero]
    rw [Tm.size, hcnt]
theorem tvSpec_calls (t : Tm) (ht : t.fits) (H : Heap) : ACalls Tryz.prog 67 [.agg (t.row.map .d)] H (fun r H' => H' = H ∧ r = .c (.d (.bool t.valid))) := by
  refine acalls Tryz.func67 (by kernel_rfl) ac67_ok fun hf => ?_
  simp -implicitDefEqProofs [ac67, row_len, take_row, pure_d, re_d, go_sem, -List.set_cons_succ, -List.set_cons_zero]
  refine qcall_pure (shape_calls t ht 30 (by omega)) hf rfl ?_
  cases h : t.shape 30 with
  | false => simp -implicitDefEqProofs [h, Tm.valid, row_len, take_row, go_sem, -List.set_cons_succ, -List.set_cons_zero]
  | true =>
    simp -implicitDefEqProofs [h, Tm.valid, row_len, take_row, pure_d, re_d, go_sem, -List.set_cons_succ, -List.set_cons_zero]
    refine qcall_pure (count_calls t ht 120 (by omega)) hf rfl ?_
    simp -implicitDefEqProofs [go_sem, -List.set_cons_succ, -List.set_cons_zero]
    omega
-- 62 loop.example/prologserver/impl.OpLevel params 1 ntmps 22
def ac62 : Cd := .seq (.region [oc 2 (.mv (ki 0)),
 oc 3 (.mv (.k (.c (.d (.bool false)))))] [2,3])
 (.seq (.seq (.region [oa 4 0] [0])
 (.block 0 (.seq (.seq (.region [oc 6 (.bin .eql (.t 4) (.k (.c (.d (.str [61]))))),
 oa 5 6] [6])
 (.cond (.t 5)
 (.skip)
 (.seq (.region [oc 7 (.bin .eql (.t 4) (.k (.c (.d (.str [92,61]))))),
 oa 5 7] [7])
 (.cond (.t 5)
 (.skip)
 (.seq (.region [oc 8 (.bin .eql (.t 4) (.k (.c (.d (.str [61,61]))))),
 oa 5 8] [8])
 (.cond (.t 5)
 (.skip)
 (.seq (.region [oc 9 (.bin .eql (.t 4) (.k (.c (.d (.str [60]))))),
 oa 5 9] [9])
 (.cond (.t 5)
 (.skip)
 (.seq (.region [oc 10 (.bin .eql (.t 4) (.k (.c (.d (.str [62]))))),
 oa 5 10] [10])
 (.cond (.t 5)
 (.skip)
 (.seq (.region [oc 11 (.bin .eql (.t 4) (.k (.c (.d (.str [61,60]))))),
 oa 5 11] [11])
 (.cond (.t 5)
 (.skip)
 (.seq (.region [oc 12 (.bin .eql (.t 4) (.k (.c (.d (.str [62,61]))))),
 oa 5 12] [12])
 (.cond (.t 5)
 (.skip)
 (.seq (.region [oc 13 (.bin .eql (.t 4) (.k (.c (.d (.str [61,58,61]))))),
 oa 5 13] [13])
 (.cond (.t 5)
 (.skip)
 (.region [oc 14 (.bin .eql (.t 4) (.k (.c (.d (.str [105,115]))))),
 oa 5 14] [14])))))))))))))))))
 (.cond (.t 5)
 (.seq (.region [oc 2 (.mv (ki 3)),
 oc 3 (.mv (.k (.c (.d (.bool false)))))] [4,5])
 (.ret))
 (.seq (.seq (.region [oc 16 (.bin .eql (.t 4) (.k (.c (.d (.str [43]))))),
 oa 15 16] [5,16])
 (.cond (.t 15)
 (.skip)
 (.region [oc 17 (.bin .eql (.t 4) (.k (.c (.d (.str [45]))))),
 oa 15 17] [17])))
 (.cond (.t 15)
 (.seq (.region [oc 2 (.mv (ki 2)),
 oc 3 (.mv (.k (.c (.d (.bool true)))))] [4,15])
 (.ret))
 (.seq (.seq (.region [oc 19 (.bin .eql (.t 4) (.k (.c (.d (.str [42]))))),
 oa 18 19] [15,19])
 (.cond (.t 18)
 (.skip)
 (.seq (.region [oc 20 (.bin .eql (.t 4) (.k (.c (.d (.str [47,47]))))),
 oa 18 20] [20])
 (.cond (.t 18)
 (.skip)
 (.region [oc 21 (.bin .eql (.t 4) (.k (.c (.d (.str [109,111,100]))))),
 oa 18 21] [4,21])))))
 (.cond (.t 18)
 (.seq (.region [oc 2 (.mv (ki 1)),
 oc 3 (.mv (.k (.c (.d (.bool true)))))] [4,18])
 (.ret))
 (.skip)))))))))
 (.seq (.region [oc 2 (.mv (ki 0)),
 oc 3 (.mv (.k (.c (.d (.bool false)))))] [4,18])
 (.ret)))
theorem ac62_ok : cFunc Tryz.prog [] [(0,[2,3],[]),(1,[0],[]),(2,[6],[]),(3,[7],[]),(4,[8],[]),(5,[9],[]),(6,[10],[]),(7,[11],[]),(8,[12],[]),(9,[13],[]),(10,[14],[]),(11,[4,5],[]),(12,[5,16],[]),(13,[17],[]),(14,[4,15],[]),(15,[15,19],[]),(16,[20],[]),(17,[4,21],[]),(18,[4,18],[]),(19,[4,18],[])] Tryz.f62 = some (ac62,[.tmp 2,.tmp 3],22) := by kernel_rfl
-- 50 loop.example/prologserver/spec.l2Level params 1 ntmps 21
def ac50 : Cd := .seq (.region [oc 2 (.mv (ki 0))] [2])
 (.seq (.seq (.region [oa 3 0] [0])
 (.block 0 (.seq (.seq (.region [oc 5 (.bin .eql (.t 3) (.k (.c (.d (.str [61]))))),
 oa 4 5] [5])
 (.cond (.t 4)
 (.skip)
 (.seq (.region [oc 6 (.bin .eql (.t 3) (.k (.c (.d (.str [92,61]))))),
 oa 4 6] [6])
 (.cond (.t 4)
 (.skip)
 (.seq (.region [oc 7 (.bin .eql (.t 3) (.k (.c (.d (.str [61,61]))))),
 oa 4 7] [7])
 (.cond (.t 4)
 (.skip)
 (.seq (.region [oc 8 (.bin .eql (.t 3) (.k (.c (.d (.str [60]))))),
 oa 4 8] [8])
 (.cond (.t 4)
 (.skip)
 (.seq (.region [oc 9 (.bin .eql (.t 3) (.k (.c (.d (.str [62]))))),
 oa 4 9] [9])
 (.cond (.t 4)
 (.skip)
 (.seq (.region [oc 10 (.bin .eql (.t 3) (.k (.c (.d (.str [61,60]))))),
 oa 4 10] [10])
 (.cond (.t 4)
 (.skip)
 (.seq (.region [oc 11 (.bin .eql (.t 3) (.k (.c (.d (.str [62,61]))))),
 oa 4 11] [11])
 (.cond (.t 4)
 (.skip)
 (.seq (.region [oc 12 (.bin .eql (.t 3) (.k (.c (.d (.str [61,58,61]))))),
 oa 4 12] [12])
 (.cond (.t 4)
 (.skip)
 (.region [oc 13 (.bin .eql (.t 3) (.k (.c (.d (.str [105,115]))))),
 oa 4 13] [13])))))))))))))))))
 (.cond (.t 4)
 (.seq (.region [oc 2 (.mv (ki 3))] [3,4])
 (.ret))
 (.seq (.seq (.region [oc 15 (.bin .eql (.t 3) (.k (.c (.d (.str [43]))))),
 oa 14 15] [4,15])
 (.cond (.t 14)
 (.skip)
 (.region [oc 16 (.bin .eql (.t 3) (.k (.c (.d (.str [45]))))),
 oa 14 16] [16])))
 (.cond (.t 14)
 (.seq (.region [oc 2 (.mv (ki 2))] [3,14])
 (.ret))
 (.seq (.seq (.region [oc 18 (.bin .eql (.t 3) (.k (.c (.d (.str [42]))))),
 oa 17 18] [14,18])
 (.cond (.t 17)
 (.skip)
 (.seq (.region [oc 19 (.bin .eql (.t 3) (.k (.c (.d (.str [47,47]))))),
 oa 17 19] [19])
 (.cond (.t 17)
 (.skip)
 (.region [oc 20 (.bin .eql (.t 3) (.k (.c (.d (.str [109,111,100]))))),
 oa 17 20] [3,20])))))
 (.cond (.t 17)
 (.seq (.region [oc 2 (.mv (ki 1))] [3,17])
 (.ret))
 (.skip)))))))))
 (.seq (.region [oc 2 (.mv (ki 0))] [3,17])
 (.ret)))
theorem ac50_ok : cFunc Tryz.prog [] [(0,[2],[]),(1,[0],[]),(2,[5],[]),(3,[6],[]),(4,[7],[]),(5,[8],[]),(6,[9],[]),(7,[10],[]),(8,[11],[]),(9,[12],[]),(10,[13],[]),(11,[3,4],[]),(12,[4,15],[]),(13,[16],[]),(14,[3,14],[]),(15,[14,18],[]),(16,[19],[]),(17,[3,20],[]),(18,[3,17],[]),(19,[3,17],[])] Tryz.f50 = some (ac50,[.tmp 2],21) := by kernel_rfl
-- 40 loop.example/prologserver/impl.isOp params 1 ntmps 12
def ac40 : Cd := .seq (.region [oc 2 (.mv (.k (.c (.d (.bool false)))))] [2])
 (.seq (.region [oa 6 0,
 oc 7 (.qcall 62 [(.t 6)]),
 oa 5 7,
 oc 8 (.extract 0 (.t 5)),
 oc 9 (.extract 1 (.t 5)),
 oa 3 8,
 oa 4 9] [0,4,5,6,7,8,9])
 (.seq (.region [oa 10 3,
 oc 11 (.bin .gtr (.t 10) (ki 0)),
 oa 2 11] [3,10,11])
 (.ret)))
theorem ac40_ok : cFunc Tryz.prog [1000062] [(0,[2],[]),(1,[0,4,5,6,7,8,9],[]),(2,[3,10,11],[])] Tryz.f40 = some (ac40,[.tmp 2],12) := by kernel_rfl
-- 63 loop.example/prologserver/impl.IsBuiltin params 2 ntmps 34
def ac63 : Cd := .seq (.region [oc 4 (.mv (.k (.c (.d (.bool false)))))] [4])
 (.seq (.seq (.region [oa 5 0] [0])
 (.block 0 (.seq (.seq (.region [oc 7 (.bin .eql (.t 5) (.k (.c (.d (.str [61]))))),
 oa 6 7] [7])
 (.cond (.t 6)
 (.skip)
 (.seq (.region [oc 8 (.bin .eql (.t 5) (.k (.c (.d (.str [92,61]))))),
 oa 6 8] [8])
 (.cond (.t 6)
 (.skip)
 (.seq (.region [oc 9 (.bin .eql (.t 5) (.k (.c (.d (.str [61,61]))))),
 oa 6 9] [9])
 (.cond (.t 6)
 (.skip)
 (.seq (.region [oc 10 (.bin .eql (.t 5) (.k (.c (.d (.str [60]))))),
 oa 6 10] [10])
 (.cond (.t 6)
 (.skip)
 (.seq (.region [oc 11 (.bin .eql (.t 5) (.k (.c (.d (.str [62]))))),
 oa 6 11] [11])
 (.cond (.t 6)
 (.skip)
 (.seq (.region [oc 12 (.bin .eql (.t 5) (.k (.c (.d (.str [61,60]))))),
 oa 6 12] [12])
 (.cond (.t 6)
 (.skip)
 (.seq (.region [oc 13 (.bin .eql (.t 5) (.k (.c (.d (.str [62,61]))))),
 oa 6 13] [13])
 (.cond (.t 6)
 (.skip)
 (.seq (.region [oc 14 (.bin .eql (.t 5) (.k (.c (.d (.str [61,58,61]))))),
 oa 6 14] [14])
 (.cond (.t 6)
 (.skip)
 (.region [oc 15 (.bin .eql (.t 5) (.k (.c (.d (.str [105,115]))))),
 oa 6 15] [15])))))))))))))))))
 (.cond (.t 6)
 (.seq (.region [oa 16 1,
 oc 17 (.bin .eql (.t 16) (ki 2)),
 oa 4 17] [1,5,6,16,17])
 (.ret))
 (.seq (.seq (.region [oc 19 (.bin .eql (.t 5) (.k (.c (.d (.str [116,114,117,101]))))),
 oa 18 19] [6,19])
 (.cond (.t 18)
 (.skip)
 (.region [oc 20 (.bin .eql (.t 5) (.k (.c (.d (.str [102,97,105,108]))))),
 oa 18 20] [20])))
 (.cond (.t 18)
 (.seq (.region [oa 21 1,
 oc 22 (.bin .eql (.t 21) (ki 0)),
 oa 4 22] [1,5,18,21,22])
 (.ret))
 (.seq (.seq (.region [oc 24 (.bin .eql (.t 5) (.k (.c (.d (.str [118,97,114]))))),
 oa 23 24] [18,24])
 (.cond (.t 23)
 (.skip)
 (.seq (.region [oc 25 (.bin .eql (.t 5) (.k (.c (.d (.str [110,111,110,118,97,114]))))),
 oa 23 25] [25])
 (.cond (.t 23)
 (.skip)
 (.seq (.region [oc 26 (.bin .eql (.t 5) (.k (.c (.d (.str [97,116,111,109]))))),
 oa 23 26] [26])
 (.cond (.t 23)
 (.skip)
 (.region [oc 27 (.bin .eql (.t 5) (.k (.c (.d (.str [105,110,116]))))),
 oa 23 27] [27])))))))
 (.cond (.t 23)
 (.seq (.region [oa 28 1,
 oc 29 (.bin .eql (.t 28) (ki 1)),
 oa 4 29] [1,5,23,28,29])
 (.ret))
 (.seq (.region [oc 31 (.bin .eql (.t 5) (.k (.c (.d (.str [97,114,103]))))),
 oa 30 31] [5,23,31])
 (.cond (.t 30)
 (.seq (.region [oa 32 1,
 oc 33 (.bin .eql (.t 32) (ki 3)),
 oa 4 33] [1,30,32,33])
 (.ret))
 (.skip)))))))))))
 (.seq (.region [oc 4 (.mv (.k (.c (.d (.bool false)))))] [1,30])
 (.ret)))
theorem ac63_ok : cFunc Tryz.prog [] [(0,[4],[]),(1,[0],[]),(2,[7],[]),(3,[8],[]),(4,[9],[]),(5,[10],[]),(6,[11],[]),(7,[12],[]),(8,[13],[]),(9,[14],[]),(10,[15],[]),(11,[1,5,6,16,17],[]),(12,[6,19],[]),(13,[20],[]),(14,[1,5,18,21,22],[]),(15,[18,24],[]),(16,[25],[]),(17,[26],[]),(18,[27],[]),(19,[1,5,23,28,29],[]),(20,[5,23,31],[]),(21,[1,30,32,33],[]),(22,[1,30],[])] Tryz.f63 = some (ac63,[.tmp 4],34) := by kernel_rfl
-- 49 loop.example/prologserver/spec.IsBuiltin params 2 ntmps 34
def ac49 : Cd := .seq (.region [oc 4 (.mv (.k (.c (.d (.bool false)))))] [4])
 (.seq (.seq (.region [oa 5 0] [0])
 (.block 0 (.seq (.seq (.region [oc 7 (.bin .eql (.t 5) (.k (.c (.d (.str [61]))))),
 oa 6 7] [7])
 (.cond (.t 6)
 (.skip)
 (.seq (.region [oc 8 (.bin .eql (.t 5) (.k (.c (.d (.str [92,61]))))),
 oa 6 8] [8])
 (.cond (.t 6)
 (.skip)
 (.seq (.region [oc 9 (.bin .eql (.t 5) (.k (.c (.d (.str [61,61]))))),
 oa 6 9] [9])
 (.cond (.t 6)
 (.skip)
 (.seq (.region [oc 10 (.bin .eql (.t 5) (.k (.c (.d (.str [60]))))),
 oa 6 10] [10])
 (.cond (.t 6)
 (.skip)
 (.seq (.region [oc 11 (.bin .eql (.t 5) (.k (.c (.d (.str [62]))))),
 oa 6 11] [11])
 (.cond (.t 6)
 (.skip)
 (.seq (.region [oc 12 (.bin .eql (.t 5) (.k (.c (.d (.str [61,60]))))),
 oa 6 12] [12])
 (.cond (.t 6)
 (.skip)
 (.seq (.region [oc 13 (.bin .eql (.t 5) (.k (.c (.d (.str [62,61]))))),
 oa 6 13] [13])
 (.cond (.t 6)
 (.skip)
 (.seq (.region [oc 14 (.bin .eql (.t 5) (.k (.c (.d (.str [61,58,61]))))),
 oa 6 14] [14])
 (.cond (.t 6)
 (.skip)
 (.region [oc 15 (.bin .eql (.t 5) (.k (.c (.d (.str [105,115]))))),
 oa 6 15] [15])))))))))))))))))
 (.cond (.t 6)
 (.seq (.region [oa 16 1,
 oc 17 (.bin .eql (.t 16) (ki 2)),
 oa 4 17] [1,5,6,16,17])
 (.ret))
 (.seq (.seq (.region [oc 19 (.bin .eql (.t 5) (.k (.c (.d (.str [116,114,117,101]))))),
 oa 18 19] [6,19])
 (.cond (.t 18)
 (.skip)
 (.region [oc 20 (.bin .eql (.t 5) (.k (.c (.d (.str [102,97,105,108]))))),
 oa 18 20] [20])))
 (.cond (.t 18)
 (.seq (.region [oa 21 1,
 oc 22 (.bin .eql (.t 21) (ki 0)),
 oa 4 22] [1,5,18,21,22])
 (.ret))
 (.seq (.seq (.region [oc 24 (.bin .eql (.t 5) (.k (.c (.d (.str [118,97,114]))))),
 oa 23 24] [18,24])
 (.cond (.t 23)
 (.skip)
 (.seq (.region [oc 25 (.bin .eql (.t 5) (.k (.c (.d (.str [110,111,110,118,97,114]))))),
 oa 23 25] [25])
 (.cond (.t 23)
 (.skip)
 (.seq (.region [oc 26 (.bin .eql (.t 5) (.k (.c (.d (.str [97,116,111,109]))))),
 oa 23 26] [26])
 (.cond (.t 23)
 (.skip)
 (.region [oc 27 (.bin .eql (.t 5) (.k (.c (.d (.str [105,110,116]))))),
 oa 23 27] [27])))))))
 (.cond (.t 23)
 (.seq (.region [oa 28 1,
 oc 29 (.bin .eql (.t 28) (ki 1)),
 oa 4 29] [1,5,23,28,29])
 (.ret))
 (.seq (.region [oc 31 (.bin .eql (.t 5) (.k (.c (.d (.str [97,114,103]))))),
 oa 30 31] [5,23,31])
 (.cond (.t 30)
 (.seq (.region [oa 32 1,
 oc 33 (.bin .eql (.t 32) (ki 3)),
 oa 4 33] [1,30,32,33])
 (.ret))
 (.skip)))))))))))
 (.seq (.region [oc 4 (.mv (.k (.c (.d (.bool false)))))] [1,30])
 (.ret)))
theorem ac49_ok : cFunc Tryz.prog [] [(0,[4],[]),(1,[0],[]),(2,[7],[]),(3,[8],[]),(4,[9],[]),(5,[10],[]),(6,[11],[]),(7,[12],[]),(8,[13],[]),(9,[14],[]),(10,[15],[]),(11,[1,5,6,16,17],[]),(12,[6,19],[]),(13,[20],[]),(14,[1,5,18,21,22],[]),(15,[18,24],[]),(16,[25],[]),(17,[26],[]),(18,[27],[]),(19,[1,5,23,28,29],[]),(20,[5,23,31],[]),(21,[1,30,32,33],[]),(22,[1,30],[])] Tryz.f49 = some (ac49,[.tmp 4],34) := by kernel_rfl
-- 41 loop.example/prologserver/impl.isBuilt params 1 ntmps 14
def ac41 : Cd := .seq (.region [oc 1 (.box (.t 0)),
 oc 2 (.mv (.k (.c (.d (.bool false)))))] [0,2])
 (.seq (.region [oc 3 (.fieldAddr 0 (.t 1)),
 oc 4 (.load none (.t 3)),
 oc 5 (.bin .eql (.t 4) (ki 3)),
 oa 6 5,
 ⟨some 7,.fieldAddr 2 (.t 1),some (6,true)⟩,
 ⟨some 8,.load none (.t 7),some (6,true)⟩,
 ⟨some 9,.fieldAddr 3 (.t 1),some (6,true)⟩,
 ⟨some 10,.load none (.t 9),some (6,true)⟩,
 ⟨some 11,.len 1 (.t 10),some (6,true)⟩,
 ⟨some 12,.qcall 63 [(.t 8),(.t 11)],some (6,true)⟩,
 oc 13 (.pick (.t 6) (.t 12) (.k (.c (.d (.bool false))))),
 oa 2 13] [1,3,4,5,6,7,8,9,10,11,12,13])
 (.ret))
theorem ac41_ok : cFunc Tryz.prog [1000063] [(0,[0,2],[]),(1,[1,3,4,5,6,7,8,9,10,11,12,13],[])] Tryz.f41 = some (ac41,[.tmp 2],14) := by kernel_rfl
-- 19 loop.example/prologserver/impl.isPlain params 1 ntmps 22
def ac19 : Cd := .seq (.region [oc 1 (.box (.t 0)),
 oc 2 (.mv (.k (.c (.d (.bool false)))))] [0,2])
 (.seq (.region [oc 3 (.fieldAddr 0 (.t 1)),
 oc 4 (.load none (.t 3)),
 oc 5 (.bin .eql (.t 4) (ki 3)),
 oa 6 5,
 ⟨some 7,.fieldAddr 2 (.t 1),some (6,true)⟩,
 ⟨some 8,.load none (.t 7),some (6,true)⟩,
 ⟨some 9,.qcall 39 [(.t 8)],some (6,true)⟩,
 oc 10 (.pick (.t 6) (.t 9) (.k (.c (.d (.bool false))))),
 oa 11 10,
 ⟨some 12,.fieldAddr 2 (.t 1),some (11,true)⟩,
 ⟨some 13,.load none (.t 12),some (11,true)⟩,
 ⟨some 14,.qcall 40 [(.t 13)],some (11,true)⟩,
 ⟨some 15,.un .not (.t 14),some (11,true)⟩,
 oc 16 (.pick (.t 11) (.t 15) (.k (.c (.d (.bool false))))),
 oa 17 16,
 ⟨some 18,.load (some 4) (.t 1),some (17,true)⟩,
 ⟨some 19,.qcall 41 [(.t 18)],some (17,true)⟩,
 ⟨some 20,.un .not (.t 19),some (17,true)⟩,
 oc 21 (.pick (.t 17) (.t 20) (.k (.c (.d (.bool false))))),
 oa 2 21] [1,3,4,5,6,7,8,9,10,11,12,13,14,15,16,17,18,19,20,21])
 (.ret))
theorem ac19_ok : cFunc Tryz.prog [1000039,1000040,1000041] [(0,[0,2],[]),(1,[1,3,4,5,6,7,8,9,10,11,12,13,14,15,16,17,18,19,20,21],[])] Tryz.f19 = some (ac19,[.tmp 2],22) := by kernel_rfl
-- 108 loop.example/prologserver/impl.isCut params 1 ntmps 10
def ac108 : Cd := .seq (.region [oc 1 (.box (.t 0)),
 oc 2 (.mv (.k (.c (.d (.bool false)))))] [0,2])
 (.seq (.region [oc 3 (.load (some 4) (.t 1)),
 oc 4 (.qcall 118 [(.t 3)]),
 oa 5 4,
 ⟨some 6,.fieldAddr 2 (.t 1),some (5,true)⟩,
 ⟨some 7,.load none (.t 6),some (5,true)⟩,
 ⟨some 8,.bin .eql (.t 7) (.k (.c (.d (.str [33])))),some (5,true)⟩,
 oc 9 (.pick (.t 5) (.t 8) (.k (.c (.d (.bool false))))),
 oa 2 9] [1,3,4,5,6,7,8,9])
 (.ret))
theorem ac108_ok : cFunc Tryz.prog [1000118] [(0,[0,2],[]),(1,[1,3,4,5,6,7,8,9],[])] Tryz.f108 = some (ac108,[.tmp 2],10) := by kernel_rfl
-- 78 loop.example/prologserver/spec.l4Cut params 1 ntmps 17
def ac78 : Cd := .seq (.region [oc 1 (.box (.t 0)),
 oc 2 (.mv (.k (.c (.d (.bool false)))))] [0,2])
 (.seq (.region [oc 3 (.fieldAddr 0 (.t 1)),
 oc 4 (.load none (.t 3)),
 oc 5 (.bin .eql (.t 4) (ki 3)),
 oa 6 5,
 ⟨some 7,.fieldAddr 2 (.t 1),some (6,true)⟩,
 ⟨some 8,.load none (.t 7),some (6,true)⟩,
 ⟨some 9,.bin .eql (.t 8) (.k (.c (.d (.str [33])))),some (6,true)⟩,
 oc 10 (.pick (.t 6) (.t 9) (.k (.c (.d (.bool false))))),
 oa 11 10,
 ⟨some 12,.fieldAddr 3 (.t 1),some (11,true)⟩,
 ⟨some 13,.load none (.t 12),some (11,true)⟩,
 ⟨some 14,.len 1 (.t 13),some (11,true)⟩,
 ⟨some 15,.bin .eql (.t 14) (ki 0),some (11,true)⟩,
 oc 16 (.pick (.t 11) (.t 15) (.k (.c (.d (.bool false))))),
 oa 2 16] [1,3,4,5,6,7,8,9,10,11,12,13,14,15,16])
 (.ret))
theorem ac78_ok : cFunc Tryz.prog [] [(0,[0,2],[]),(1,[1,3,4,5,6,7,8,9,10,11,12,13,14,15,16],[])] Tryz.f78 = some (ac78,[.tmp 2],17) := by kernel_rfl
-- 27 loop.example/prologserver/spec.l4Plain params 1 ntmps 26
def ac27 : Cd := .seq (.region [oc 1 (.box (.t 0)),
 oc 2 (.mv (.k (.c (.d (.bool false)))))] [0,2])
 (.seq (.region [oc 3 (.fieldAddr 0 (.t 1)),
 oc 4 (.load none (.t 3)),
 oc 5 (.bin .eql (.t 4) (ki 3)),
 oa 6 5,
 ⟨some 7,.fieldAddr 2 (.t 1),some (6,true)⟩,
 ⟨some 8,.load none (.t 7),some (6,true)⟩,
 ⟨some 9,.qcall 48 [(.t 8)],some (6,true)⟩,
 oc 10 (.pick (.t 6) (.t 9) (.k (.c (.d (.bool false))))),
 oa 11 10,
 ⟨some 12,.fieldAddr 2 (.t 1),some (11,true)⟩,
 ⟨some 13,.load none (.t 12),some (11,true)⟩,
 ⟨some 14,.fieldAddr 3 (.t 1),some (11,true)⟩,
 ⟨some 15,.load none (.t 14),some (11,true)⟩,
 ⟨some 16,.len 1 (.t 15),some (11,true)⟩,
 ⟨some 17,.qcall 49 [(.t 13),(.t 16)],some (11,true)⟩,
 ⟨some 18,.un .not (.t 17),some (11,true)⟩,
 oc 19 (.pick (.t 11) (.t 18) (.k (.c (.d (.bool false))))),
 oa 20 19,
 ⟨some 21,.fieldAddr 2 (.t 1),some (20,true)⟩,
 ⟨some 22,.load none (.t 21),some (20,true)⟩,
 ⟨some 23,.qcall 50 [(.t 22)],some (20,true)⟩,
 ⟨some 24,.bin .eql (.t 23) (ki 0),some (20,true)⟩,
 oc 25 (.pick (.t 20) (.t 24) (.k (.c (.d (.bool false))))),
 oa 2 25] [1,3,4,5,6,7,8,9,10,11,12,13,14,15,16,17,18,19,20,21,22,23,24,25])
 (.ret))
theorem ac27_ok : cFunc Tryz.prog [1000048,1000049,1000050] [(0,[0,2],[]),(1,[1,3,4,5,6,7,8,9,10,11,12,13,14,15,16,17,18,19,20,21,22,23,24,25],[])] Tryz.f27 = some (ac27,[.tmp 2],26) := by kernel_rfl
-- 88 loop.example/prologserver/spec.l4Goal params 1 ntmps 22
def ac88 : Cd := .seq (.region [oc 1 (.box (.t 0)),
 oc 2 (.mv (.k (.c (.d (.bool false)))))] [0,2])
 (.seq (.region [oc 3 (.load (some 4) (.t 1)),
 oc 4 (.qcall 78 [(.t 3)]),
 oa 5 4,
 ⟨some 6,.load (some 4) (.t 1),some (5,false)⟩,
 ⟨some 7,.qcall 27 [(.t 6)],some (5,false)⟩,
 oc 8 (.pick (.t 5) (.k (.c (.d (.bool true)))) (.t 7)),
 oa 9 8,
 ⟨some 10,.fieldAddr 0 (.t 1),some (9,false)⟩,
 ⟨some 11,.load none (.t 10),some (9,false)⟩,
 ⟨some 12,.bin .eql (.t 11) (ki 3),some (9,false)⟩,
 ⟨some 13,.mv (.t 12),some (9,false)⟩,
 ⟨some 14,.fieldAddr 2 (.t 1),some (13,true)⟩,
 ⟨some 15,.load none (.t 14),some (13,true)⟩,
 ⟨some 16,.fieldAddr 3 (.t 1),some (13,true)⟩,
 ⟨some 17,.load none (.t 16),some (13,true)⟩,
 ⟨some 18,.len 1 (.t 17),some (13,true)⟩,
 ⟨some 19,.qcall 49 [(.t 15),(.t 18)],some (13,true)⟩,
 ⟨some 20,.pick (.t 13) (.t 19) (.k (.c (.d (.bool false)))),some (9,false)⟩,
 oc 21 (.pick (.t 9) (.k (.c (.d (.bool true)))) (.t 20)),
 oa 2 21] [1,3,4,5,6,7,8,9,10,11,12,13,14,15,16,17,18,19,20,21])
 (.ret))
theorem ac88_ok : cFunc Tryz.prog [1000027,1000049,1000078] [(0,[0,2],[]),(1,[1,3,4,5,6,7,8,9,10,11,12,13,14,15,16,17,18,19,20,21],[])] Tryz.f88 = some (ac88,[.tmp 2],22) := by kernel_rfl
-- 87 loop.example/prologserver/impl.GoalValid params 1 ntmps 17
def ac87 : Cd := .seq (.region [oc 1 (.box (.t 0)),
 oc 2 (.mv (.k (.c (.d (.bool false)))))] [0,2])
 (.seq (.region [oc 3 (.load (some 4) (.t 1)),
 oc 4 (.qcall 64 [(.t 3)]),
 oa 5 4,
 ⟨some 6,.load (some 4) (.t 1),some (5,true)⟩,
 ⟨some 7,.qcall 19 [(.t 6)],some (5,true)⟩,
 ⟨some 8,.mv (.t 7),some (5,true)⟩,
 ⟨some 9,.load (some 4) (.t 1),some (8,false)⟩,
 ⟨some 10,.qcall 41 [(.t 9)],some (8,false)⟩,
 ⟨some 11,.pick (.t 8) (.k (.c (.d (.bool true)))) (.t 10),some (5,true)⟩,
 ⟨some 12,.mv (.t 11),some (5,true)⟩,
 ⟨some 13,.load (some 4) (.t 1),some (12,false)⟩,
 ⟨some 14,.qcall 108 [(.t 13)],some (12,false)⟩,
 ⟨some 15,.pick (.t 12) (.k (.c (.d (.bool true)))) (.t 14),some (5,true)⟩,
 oc 16 (.pick (.t 5) (.t 15) (.k (.c (.d (.bool false))))),
 oa 2 16] [1,3,4,5,6,7,8,9,10,11,12,13,14,15,16])
 (.ret))
theorem ac87_ok : cFunc Tryz.prog [1000019,1000041,1000064,1000108] [(0,[0,2],[]),(1,[1,3,4,5,6,7,8,9,10,11,12,13,14,15,16],[])] Tryz.f87 = some (ac87,[.tmp 2],17) := by kernel_rfl
-- 66 loop.example/prologserver/spec.GoalValid params 1 ntmps 9
def ac66 : Cd := .seq (.region [oc 1 (.box (.t 0)),
 oc 2 (.mv (.k (.c (.d (.bool false)))))] [0,2])
 (.seq (.region [oc 3 (.load (some 4) (.t 1)),
 oc 4 (.qcall 67 [(.t 3)]),
 oa 5 4,
 ⟨some 6,.load (some 4) (.t 1),some (5,true)⟩,
 ⟨some 7,.qcall 88 [(.t 6)],some (5,true)⟩,
 oc 8 (.pick (.t 5) (.t 7) (.k (.c (.d (.bool false))))),
 oa 2 8] [1,3,4,5,6,7,8])
 (.ret))
theorem ac66_ok : cFunc Tryz.prog [1000067,1000088] [(0,[0,2],[]),(1,[1,3,4,5,6,7,8],[])] Tryz.f66 = some (ac66,[.tmp 2],9) := by kernel_rfl
def ops3 : List (List UInt8) := [[61], [92, 61], [61, 61], [60], [62], [61, 60], [62, 61], [61, 58, 61], [105, 115]]
def levelN (s : List UInt8) : Int := if ops3.contains s then 3 else if [[43], [45]].contains s then 2 else if [[42], [47, 47], [109, 111, 100]].contains s then 1 else 0
def leftB (s : List UInt8) : Bool := decide (levelN s = 1) || decide (levelN s = 2)
def builtB (s : List UInt8) (a : Int) : Bool :=
  if ops3.contains s then (a == 2) else if [[116, 114, 117, 101], [102, 97, 105, 108]].contains s then (a == 0)
  else if [[118, 97, 114], [110, 111, 110, 118, 97, 114], [97, 116, 111, 109], [105, 110, 116]].contains s then (a == 1) else if s = [97, 114, 103] then (a == 3) else false
theorem beq_dec {α : Type} [DecidableEq α] (a b : α) : (a == b) = decide (a = b) := by rw [Bool.eq_iff_iff]; simp
theorem level_calls (s : List UInt8) (H : Heap) : ACalls Tryz.prog 50 [.c (.d (.str s))] H (fun r H' => H' = H ∧ r = .c (.d (.int .i64 (levelN s)))) := by
  refine acalls Tryz.func50 (by kernel_rfl) ac50_ok fun hf => ?_
  simp -implicitDefEqProofs [ac50, go_sem, -List.set_cons_succ, -List.set_cons_zero]
  (repeat' (first | (refine And.intro ?_ ?_) | intro _)) <;> simp_all [levelN, leftB, builtB, ops3]
theorem opLevel_calls (s : List UInt8) (H : Heap) : ACalls Tryz.prog 62 [.c (.d (.str s))] H (fun r H' => H' = H ∧ r = .tup [.c (.d (.int .i64 (levelN s))), .c (.d (.bool (leftB s)))]) := by
  refine acalls Tryz.func62 (by kernel_rfl) ac62_ok fun hf => ?_
  simp -implicitDefEqProofs [ac62, go_sem, -List.set_cons_succ, -List.set_cons_zero]
  (repeat' (first | (refine And.intro ?_ ?_) | intro _)) <;> simp_all [levelN, leftB, builtB, ops3]
theorem isOp_calls (s : List UInt8) (H : Heap) : ACalls Tryz.prog 40 [.c (.d (.str s))] H (fun r H' => H' = H ∧ r = .c (.d (.bool (decide (0 < levelN s))))) := by
  refine acalls Tryz.func40 (by kernel_rfl) ac40_ok fun hf => ?_
  simp -implicitDefEqProofs [ac40, go_sem, -List.set_cons_succ, -List.set_cons_zero]
  refine qcall_pure (opLevel_calls s) hf rfl ?_
  simp -implicitDefEqProofs [go_sem, -List.set_cons_succ, -List.set_cons_zero]
theorem builtImpl_calls (s : List UInt8) (a : Int) (H : Heap) : ACalls Tryz.prog 63 [.c (.d (.str s)), .c (.d (.int .i64 a))] H (fun r H' => H' = H ∧ r = .c (.d (.bool (builtB s a)))) := by
  refine acalls Tryz.func63 (by kernel_rfl) ac63_ok fun hf => ?_
  simp -implicitDefEqProofs [ac63, go_sem, -List.set_cons_succ, -List.set_cons_zero]
  (repeat' (first | (refine And.intro ?_ ?_) | intro _)) <;> simp_all [levelN, leftB, builtB, ops3]
theorem builtSpec_calls (s : List UInt8) (a : Int) (H : Heap) : ACalls Tryz.prog 49 [.c (.d (.str s)), .c (.d (.int .i64 a))] H (fun r H' => H' = H ∧ r = .c (.d (.bool (builtB s a)))) := by
  refine acalls Tryz.func49 (by kernel_rfl) ac49_ok fun hf => ?_
  simp -implicitDefEqProofs [ac49, go_sem, -List.set_cons_succ, -List.set_cons_zero]
  (repeat' (first | (refine And.intro ?_ ?_) | intro _)) <;> simp_all [levelN, leftB, builtB, ops3]
theorem level_nonneg (s : List UInt8) : 0 ≤ levelN s := by
  unfold levelN
  (repeat' split) <;> omega
/-- a goal that is built in -/
def Tm.built (t : Tm) : Bool := decide (t.k = 3) && builtB t.s t.kids.length
/-- a goal for clauses -/
def Tm.plain (t : Tm) : Bool := decide (t.k = 3) && (lettersB t.s && ((levelN t.s == 0) && !builtB t.s t.kids.length))
def Tm.cutB (t : Tm) : Bool := decide (t.k = 3) && (t.kids.isEmpty && t.s == [33])
def Tm.goal (t : Tm) : Bool := t.valid && (t.plain || t.built || t.cutB)
theorem isBuilt_calls (t : Tm) (ht : t.fits) (H : Heap) : ACalls Tryz.prog 41 [.agg (t.row.map .d)] H (fun r H' => H' = H ∧ r = .c (.d (.bool t.built))) := by
  obtain ⟨k, n, s, l⟩ := t
  obtain ⟨_, _, hs, hl, hkids⟩ := ht
  have hli : inR .i64 (l.length : Int) := small_i64 (by omega) (by omega)
  refine acalls Tryz.func41 (by kernel_rfl) ac41_ok fun hf => ?_
  by_cases hk : k = 3
  · simp -implicitDefEqProofs [ac41, row_mk, hk, hli, go_sem, -List.set_cons_succ, -List.set_cons_zero]
    refine qcall_pure (builtImpl_calls s l.length) hf rfl ?_
    simp -implicitDefEqProofs [Tm.built, Tm.k, Tm.s, Tm.kids, hk, go_sem, -List.set_cons_succ, -List.set_cons_zero]
  · simp -implicitDefEqProofs [ac41, row_mk, hk, hli, Tm.built, Tm.k, go_sem, -List.set_cons_succ, -List.set_cons_zero]
theorem plainImpl_calls (t : Tm) (ht : t.fits) (H : Heap) : ACalls Tryz.prog 19 [.agg (t.row.map .d)] H (fun r H' => H' = H ∧ r = .c (.d (.bool t.plain))) := by
  have c3 := isBuilt_calls t ht
  obtain ⟨k, n, s, l⟩ := t
  obtain ⟨_, _, hs, hl, hkids⟩ := ht
  rw [row_mk] at c3
  simp only [List.map_cons, List.map_nil] at c3
  have hnn := level_nonneg s
  refine acalls Tryz.func19 (by kernel_rfl) ac19_ok fun hf => ?_
  by_cases hk : k = 3
  · simp -implicitDefEqProofs [ac19, row_mk, hk, go_sem, -List.set_cons_succ, -List.set_cons_zero]
    refine qcall_pure (isLetters_calls s (by omega)) hf rfl ?_
    cases h1 : lettersB s with
    | false => simp -implicitDefEqProofs [h1, hk, Tm.plain, Tm.k, Tm.s, go_sem, -List.set_cons_succ, -List.set_cons_zero]
    | true =>
      simp -implicitDefEqProofs [h1, hk, go_sem, -List.set_cons_succ, -List.set_cons_zero]
      refine qcall_pure (isOp_calls s) hf rfl ?_
      by_cases h2 : levelN s = 0
      · simp -implicitDefEqProofs [h1, h2, hk, go_sem, -List.set_cons_succ, -List.set_cons_zero]
        rw [hk] at c3
        refine qcall_pure c3 hf rfl ?_
        simp -implicitDefEqProofs [h1, h2, hk, Tm.plain, Tm.built, Tm.k, Tm.s, Tm.kids, go_sem, -List.set_cons_succ, -List.set_cons_zero]
      · have h3 : 0 < levelN s := by omega
        simp -implicitDefEqProofs [h1, h2, h3, hk, Tm.plain, Tm.k, Tm.s, go_sem, -List.set_cons_succ, -List.set_cons_zero]
  · simp -implicitDefEqProofs [ac19, row_mk, hk, Tm.plain, Tm.k, go_sem, -List.set_cons_succ, -List.set_cons_zero]
theorem cutImpl_calls (t : Tm) (ht : t.fits) (H : Heap) : ACalls Tryz.prog 108 [.agg (t.row.map .d)] H (fun r H' => H' = H ∧ r = .c (.d (.bool t.cutB))) := by
  have c3 := isAtom_calls t ht
  obtain ⟨k, n, s, l⟩ := t
  obtain ⟨_, _, hs, hl, hkids⟩ := ht
  rw [row_mk] at c3
  simp only [List.map_cons, List.map_nil] at c3
  refine acalls Tryz.func108 (by kernel_rfl) ac108_ok fun hf => ?_
  simp -implicitDefEqProofs [ac108, row_mk, go_sem, -List.set_cons_succ, -List.set_cons_zero]
  refine qcall_pure c3 hf rfl ?_
  simp -implicitDefEqProofs [Tm.cutB, Tm.k, Tm.s, Tm.kids, Bool.and_assoc, go_sem, -List.set_cons_succ, -List.set_cons_zero]
theorem cutSpec_calls (t : Tm) (ht : t.fits) (H : Heap) : ACalls Tryz.prog 78 [.agg (t.row.map .d)] H (fun r H' => H' = H ∧ r = .c (.d (.bool t.cutB))) := by
  obtain ⟨k, n, s, l⟩ := t
  obtain ⟨_, _, hs, hl, hkids⟩ := ht
  have hli : inR .i64 (l.length : Int) := small_i64 (by omega) (by omega)
  refine acalls Tryz.func78 (by kernel_rfl) ac78_ok fun hf => ?_
  by_cases hk : k = 3
  · by_cases h2 : s = [33]
    · simp -implicitDefEqProofs [ac78, row_mk, hk, h2, hli, Tm.cutB, Tm.k, Tm.s, Tm.kids, isEmpty_len, go_sem, -List.set_cons_succ, -List.set_cons_zero]
    · have h2b : (s == [33]) = false := by simpa using h2
      simp -implicitDefEqProofs [ac78, row_mk, hk, h2, h2b, hli, Tm.cutB, Tm.k, Tm.s, Tm.kids, go_sem, -List.set_cons_succ, -List.set_cons_zero]
  · simp -implicitDefEqProofs [ac78, row_mk, hk, hli, Tm.cutB, Tm.k, go_sem, -List.set_cons_succ, -List.set_cons_zero]
theorem plainSpec_calls (t : Tm) (ht : t.fits) (H : Heap) : ACalls Tryz.prog 27 [.agg (t.row.map .d)] H (fun r H' => H' = H ∧ r = .c (.d (.bool t.plain))) := by
  obtain ⟨k, n, s, l⟩ := t
  obtain ⟨_, _, hs, hl, hkids⟩ := ht
  have hli : inR .i64 (l.length : Int) := small_i64 (by omega) (by omega)
  refine acalls Tryz.func27 (by kernel_rfl) ac27_ok fun hf => ?_
  by_cases hk : k = 3
  · simp -implicitDefEqProofs [ac27, row_mk, hk, go_sem, -List.set_cons_succ, -List.set_cons_zero]
    refine qcall_pure (l1Word_calls s (by omega)) hf rfl ?_
    cases h1 : lettersB s with
    | false => simp -implicitDefEqProofs [h1, hk, hli, Tm.plain, Tm.k, Tm.s, go_sem, -List.set_cons_succ, -List.set_cons_zero]
    | true =>
      simp -implicitDefEqProofs [h1, hk, hli, go_sem, -List.set_cons_succ, -List.set_cons_zero]
      refine qcall_pure (builtSpec_calls s l.length) hf rfl ?_
      cases h2 : builtB s l.length with
      | true => simp -implicitDefEqProofs [h1, h2, hk, Tm.plain, Tm.k, Tm.s, Tm.kids, go_sem, -List.set_cons_succ, -List.set_cons_zero]
      | false =>
        simp -implicitDefEqProofs [h1, h2, hk, go_sem, -List.set_cons_succ, -List.set_cons_zero]
        refine qcall_pure (level_calls s) hf rfl ?_
        simp -implicitDefEqProofs [h1, h2, hk, Tm.plain, Tm.k, Tm.s, Tm.kids, go_sem, -List.set_cons_succ, -List.set_cons_zero]
  · simp -implicitDefEqProofs [ac27, row_mk, hk, Tm.plain, Tm.k, go_sem, -List.set_cons_succ, -List.set_cons_zero]
theorem l4Goal_calls (t : Tm) (ht : t.fits) (H : Heap) : ACalls Tryz.prog 88 [.agg (t.row.map .d)] H (fun r H' => H' = H ∧ r = .c (.d (.bool (t.plain || t.built || t.cutB)))) := by
  have c1 := cutSpec_calls t ht
  have c2 := plainSpec_calls t ht
  have e : ∀ x y z : Bool, (x || y || z) = (z || x || y) := by decide
  rw [e]
  generalize hc : t.cutB = b1 at c1
  generalize hp : t.plain = b2 at c2
  obtain ⟨k, n, s, l⟩ := t
  obtain ⟨_, _, hs, hl, hkids⟩ := ht
  have hli : inR .i64 (l.length : Int) := small_i64 (by omega) (by omega)
  rw [row_mk] at c1 c2
  simp only [List.map_cons, List.map_nil] at c1 c2
  refine acalls Tryz.func88 (by kernel_rfl) ac88_ok fun hf => ?_
  simp -implicitDefEqProofs [ac88, row_mk, go_sem, -List.set_cons_succ, -List.set_cons_zero]
  refine qcall_pure c1 hf rfl ?_
  cases b1 with
  | true =>
            by_cases hk : k = 3
            · simp -implicitDefEqProofs [hk, hli, go_sem, -List.set_cons_succ, -List.set_cons_zero]
            · have hkb : (k == 3) = false := by simpa using hk
              simp -implicitDefEqProofs [hk, hkb, hli, go_sem, -List.set_cons_succ, -List.set_cons_zero]
  | false =>
    simp -implicitDefEqProofs [go_sem, -List.set_cons_succ, -List.set_cons_zero]
    refine qcall_pure c2 hf rfl ?_
    cases b2 with
    | true =>
            by_cases hk : k = 3
            · simp -implicitDefEqProofs [hk, hli, go_sem, -List.set_cons_succ, -List.set_cons_zero]
            · have hkb : (k == 3) = false := by simpa using hk
              simp -implicitDefEqProofs [hk, hkb, hli, go_sem, -List.set_cons_succ, -List.set_cons_zero]
    | false =>
      by_cases hk : k = 3
      · simp -implicitDefEqProofs [hk, hli, go_sem, -List.set_cons_succ, -List.set_cons_zero]
        refine qcall_pure (builtSpec_calls s l.length) hf rfl ?_
        simp -implicitDefEqProofs [hk, Tm.built, Tm.k, Tm.s, Tm.kids, go_sem, -List.set_cons_succ, -List.set_cons_zero]
      · have hkb : (k == 3) = false := by simpa using hk
        simp -implicitDefEqProofs [hk, hkb, Tm.built, Tm.k, go_sem, -List.set_cons_succ, -List.set_cons_zero]
theorem goalSpec_calls (t : Tm) (ht : t.fits) (H : Heap) : ACalls Tryz.prog 66 [.agg (t.row.map .d)] H (fun r H' => H' = H ∧ r = .c (.d (.bool t.goal))) := by
  refine acalls Tryz.func66 (by kernel_rfl) ac66_ok fun hf => ?_
  simp -implicitDefEqProofs [ac66, row_len, take_row, pure_d, re_d, go_sem, -List.set_cons_succ, -List.set_cons_zero]
  refine qcall_pure (tvSpec_calls t ht) hf rfl ?_
  cases h : t.valid with
  | false => simp -implicitDefEqProofs [h, Tm.goal, row_len, take_row, go_sem, -List.set_cons_succ, -List.set_cons_zero]
  | true =>
    simp -implicitDefEqProofs [h, row_len, take_row, pure_d, re_d, go_sem, -List.set_cons_succ, -List.set_cons_zero]
    refine qcall_pure (l4Goal_calls t ht) hf rfl ?_
    simp -implicitDefEqProofs [h, Tm.goal, go_sem, -List.set_cons_succ, -List.set_cons_zero]
theorem goalImpl_calls (t : Tm) (ht : t.fits) (H : Heap) : ACalls Tryz.prog 87 [.agg (t.row.map .d)] H (fun r H' => H' = H ∧ r = .c (.d (.bool t.goal))) := by
  refine acalls Tryz.func87 (by kernel_rfl) ac87_ok fun hf => ?_
  simp -implicitDefEqProofs [ac87, row_len, take_row, pure_d, re_d, go_sem, -List.set_cons_succ, -List.set_cons_zero]
  refine qcall_pure (tvImpl_calls t ht) hf rfl ?_
  cases h : t.valid with
  | false => simp -implicitDefEqProofs [h, Tm.goal, row_len, take_row, go_sem, -List.set_cons_succ, -List.set_cons_zero]
  | true =>
    simp -implicitDefEqProofs [h, row_len, take_row, pure_d, re_d, go_sem, -List.set_cons_succ, -List.set_cons_zero]
    refine qcall_pure (plainImpl_calls t ht) hf rfl ?_
    cases h1 : t.plain with
    | true => simp -implicitDefEqProofs [h, h1, Tm.goal, row_len, take_row, go_sem, -List.set_cons_succ, -List.set_cons_zero]
    | false =>
      simp -implicitDefEqProofs [h, h1, row_len, take_row, pure_d, re_d, go_sem, -List.set_cons_succ, -List.set_cons_zero]
      refine qcall_pure (isBuilt_calls t ht) hf rfl ?_
      cases h2 : t.built with
      | true => simp -implicitDefEqProofs [h, h1, h2, Tm.goal, row_len, take_row, go_sem, -List.set_cons_succ, -List.set_cons_zero]
      | false =>
        simp -implicitDefEqProofs [h, h1, h2, row_len, take_row, pure_d, re_d, go_sem, -List.set_cons_succ, -List.set_cons_zero]
        refine qcall_pure (cutImpl_calls t ht) hf rfl ?_
        simp -implicitDefEqProofs [h, h1, h2, Tm.goal, go_sem, -List.set_cons_succ, -List.set_cons_zero]
/-- well-formed, whatever the depth -/
inductive Tm.good : Tm → Prop
  | mk {k n : Int} {s : List UInt8} {l : List Tm} : (Tm.mk k n s l).ownB = true → (∀ t ∈ l, t.good) → (Tm.mk k n s l).good
theorem shape_good : ∀ t : Tm, ∀ d, t.shape d = true → t.good := by
  refine Tm.ind fun k n s l ih d h => ?_
  simp only [Tm.shape, Bool.and_eq_true] at h
  have h2 := h.2.2
  rw [shapes_all, List.all_eq_true] at h2
  exact .mk h.2.1 fun t ht => ih t ht _ (h2 t ht)
theorem valid_good {t : Tm} (h : t.valid = true) : t.good := by
  simp only [Tm.valid, Bool.and_eq_true] at h
  exact shape_good t _ h.1
theorem name_len {s : List UInt8} (h : nameB s = true) : 1 ≤ s.length ∧ s.length ≤ 6 := by
  simp only [nameB, Bool.or_eq_true] at h
  rcases h with h | h
  · simp only [lettersB, Bool.and_eq_true, decide_eq_true_eq] at h
    omega
  · simp [signs] at h
    rcases h with rfl | rfl | rfl | rfl | rfl | rfl | rfl | rfl | rfl | rfl | rfl | rfl | rfl | rfl | rfl <;> decide
/-- the three kinds of nodes -/
theorem own_cases {k n : Int} {s : List UInt8} {l : List Tm} (h : (Tm.mk k n s l).ownB = true) :
    (k = 1 ∧ 0 ≤ n ∧ n ≤ 25 ∧ s = [] ∧ l = []) ∨ (k = 2 ∧ -999 ≤ n ∧ n ≤ 999 ∧ s = [] ∧ l = []) ∨ (k = 3 ∧ n = 0 ∧ nameB s = true ∧ l.length ≤ 4) := by
  simp only [Tm.ownB] at h
  split at h
  · rename_i hk
    simp at h
    exact .inl ⟨hk, h.1.1.1, h.1.1.2, h.1.2, h.2⟩
  · split at h
    · rename_i hk
      simp at h
      exact .inr (.inl ⟨hk, h.1.1.1, h.1.1.2, h.1.2, h.2⟩)
    · split at h
      · rename_i hk
        simp at h
        exact .inr (.inr ⟨hk, h.1.1, h.1.2, h.2⟩)
      · cases h
end Go.Proofs.YtcapnainldlnjaaGreat

open Go Go.AM Go.Proofs
namespace Go.Proofs.YtcapnainldlnjaaGreat
set_option linter.unusedVariables false
set_option linter.unusedSimpArgs false
set_option maxRecDepth 100000
theorem good_kids {t : Tm} (h : t.good) : ∀ x ∈ t.kids, x.good := by
  cases h with
  | mk ho hk => exact hk
theorem good_var {t : Tm} (h : t.good) (hk : t.k = 1) : 0 ≤ t.n ∧ t.n ≤ 25 ∧ t.kids = [] ∧ t = .mk 1 t.n [] [] := by
  cases h with
  | mk ho _ =>
    rcases own_cases ho with ⟨rfl, h1, h2, rfl, rfl⟩ | ⟨rfl, h1, h2, rfl, rfl⟩ | ⟨rfl, rfl, h1, h2⟩
    · exact ⟨h1, h2, rfl, rfl⟩
    · cases hk
    · cases hk
/-! ### what variables stand for -/
abbrev Sto := List (Int × Tm)
def look : Sto → Int → Option Tm
  | [], _ => none
  | (k, t) :: l, n => if k = n then some t else look l n
theorem look_snoc : ∀ (σ : Sto) (n : Int) (t : Tm) (m : Int), look (σ ++ [(n, t)]) m = match look σ m with | some u => some u | none => if n = m then some t else none
  | [], n, t, m => by simp [look]
  | (k, u) :: σ, n, t, m => by
    simp only [List.cons_append, look]
    by_cases h : k = m
    · simp [h]
    · simp [h, look_snoc σ n t m]
theorem look_mem : ∀ {σ : Sto} {n : Int} {t : Tm}, look σ n = some t → (n, t) ∈ σ
  | (k, u) :: σ, n, t, h => by
    simp only [look] at h
    split at h
    · rename_i e; subst e; cases h; simp
    · exact List.mem_cons_of_mem _ (look_mem h)
/-! ### weights -/
mutual
def Tm.tw (W : Int → Nat) : Tm → Nat
  | .mk k n s l => if k = 1 then W n else 1 + twL W l
def twL (W : Int → Nat) : List Tm → Nat
  | [] => 0
  | t :: l => t.tw W + twL W l
end
theorem tw_mk (W : Int → Nat) (k n : Int) (s : List UInt8) (l : List Tm) : (Tm.mk k n s l).tw W = if k = 1 then W n else 1 + twL W l := by rw [Tm.tw]
theorem tw_var {W : Int → Nat} {t : Tm} (h : t.k = 1) : t.tw W = W t.n := by
  obtain ⟨k, n, s, l⟩ := t
  exact (tw_mk W k n s l).trans (if_pos h)
theorem tw_kids {W : Int → Nat} {t : Tm} (h : t.k ≠ 1) : t.tw W = 1 + twL W t.kids := by
  obtain ⟨k, n, s, l⟩ := t
  exact (tw_mk W k n s l).trans (if_neg h)
theorem twL_mem {W : Int → Nat} : ∀ {l : List Tm} {x : Tm}, x ∈ l → x.tw W ≤ twL W l
  | t :: l, x, h => by
    rw [twL]
    rcases List.mem_cons.1 h with rfl | h
    · omega
    · have := twL_mem (W := W) h; omega
theorem tw_kid {W : Int → Nat} {t x : Tm} (h : t.k ≠ 1) (hx : x ∈ t.kids) : x.tw W < t.tw W := by
  rw [tw_kids h]
  have := twL_mem (W := W) hx
  omega
/-! variables of a term -/
mutual
def Tm.vin (v : Int) : Tm → Prop
  | .mk k n s l => if k = 1 then n = v else vinL v l
def vinL (v : Int) : List Tm → Prop
  | [] => False
  | t :: l => t.vin v ∨ vinL v l
end
theorem vinL_iff {v : Int} : ∀ {l : List Tm}, vinL v l ↔ ∃ x ∈ l, x.vin v
  | [] => by simp [vinL]
  | t :: l => by rw [vinL, vinL_iff]; simp
theorem vin_var {v : Int} {t : Tm} (h : t.k = 1) : t.vin v ↔ t.n = v := by
  obtain ⟨k, n, s, l⟩ := t
  rw [Tm.vin]
  exact iff_of_eq (if_pos h)
theorem vin_kids {v : Int} {t : Tm} (h : t.k ≠ 1) : t.vin v ↔ ∃ x ∈ t.kids, x.vin v := by
  obtain ⟨k, n, s, l⟩ := t
  rw [Tm.vin]
  exact (iff_of_eq (if_neg h)).trans vinL_iff
theorem tw_congr {W W' : Int → Nat} : ∀ t : Tm, (∀ v, t.vin v → W v = W' v) → t.tw W = t.tw W' := by
  refine Tm.ind fun k n s l ih h => ?_
  rw [tw_mk, tw_mk]
  split
  · rename_i hk
    exact h n ((vin_var (t := .mk k n s l) hk).2 rfl)
  · rename_i hk
    have h2 : ∀ x ∈ l, ∀ v, x.vin v → W v = W' v := fun x hx v hv => h v ((vin_kids (t := .mk k n s l) hk).2 ⟨x, hx, hv⟩)
    clear h
    congr 1
    induction l with
    | nil => rfl
    | cons t l ih2 =>
      rw [twL, twL, ih t (by simp) (h2 t (by simp)), ih2 (fun x hx => ih x (by simp [hx])) (fun x hx => h2 x (by simp [hx]))]
theorem tw_mul {W W' : Int → Nat} {C : Nat} (hC : 1 ≤ C) (h : ∀ v, W' v ≤ C * W v) : ∀ t : Tm, t.tw W' ≤ C * t.tw W := by
  refine Tm.ind fun k n s l ih => ?_
  rw [tw_mk, tw_mk]
  split
  · exact h n
  · have : twL W' l ≤ C * twL W l := by
      induction l with
      | nil => simp [twL]
      | cons t l ih2 =>
        have h1 := ih t (by simp)
        have h2 := ih2 fun x hx => ih x (by simp [hx])
        rw [twL, twL, Nat.mul_add]
        omega
    rw [Nat.mul_add]
    omega
theorem vin_tw {W : Int → Nat} {v : Int} : ∀ t : Tm, t.vin v → W v ≤ t.tw W := by
  refine Tm.ind fun k n s l ih h => ?_
  by_cases hk : k = 1
  · rw [vin_var (t := .mk k n s l) hk] at h
    rw [tw_mk, if_pos hk, ← h]
    exact Nat.le_refl _
  · obtain ⟨x, hx, hv⟩ := (vin_kids (t := .mk k n s l) hk).1 h
    have h1 := ih x hx hv
    have h2 := tw_kid (W := W) (t := .mk k n s l) hk hx
    omega
/-- weights under which what a variable stands for is lighter than the variable -/
structure Wt (σ : Sto) (W : Int → Nat) : Prop where
  pos : ∀ n, 1 ≤ W n
  lt : ∀ n u, look σ n = some u → u.tw W < W n
/-! ### walks -/
def wkF : Nat → Sto → Tm → Tm
  | 0, _, t => t
  | f + 1, σ, t => if t.k = 1 then match look σ t.n with | some u => wkF f σ u | none => t else t
theorem wkF_eq {σ : Sto} {W : Int → Nat} (hW : Wt σ W) : ∀ (f g : Nat) (t : Tm), t.tw W ≤ f → t.tw W ≤ g → wkF f σ t = wkF g σ t := by
  intro f
  induction f with
  | zero =>
    intro g t hf hg
    by_cases hk : t.k = 1
    · rw [tw_var hk] at hf
      have := hW.pos t.n
      omega
    · cases g with
      | zero => rfl
      | succ g => simp [wkF, hk]
  | succ f ih =>
    intro g t hf hg
    cases g with
    | zero =>
      by_cases hk : t.k = 1
      · rw [tw_var hk] at hg
        have := hW.pos t.n
        omega
      · simp [wkF, hk]
    | succ g =>
      by_cases hk : t.k = 1
      · simp only [wkF, hk, if_true]
        cases hl : look σ t.n with
        | none => rfl
        | some u =>
          have := hW.lt _ _ hl
          rw [tw_var hk] at hf hg
          exact ih g u (by omega) (by omega)
      · simp [wkF, hk]
open Classical in
/-- a term, or what it stands for -/
noncomputable def wk (σ : Sto) (t : Tm) : Tm := if h : ∃ W, Wt σ W then wkF (t.tw h.choose) σ t else t
theorem wk_some {σ : Sto} (h : ∃ W, Wt σ W) {t u : Tm} (hk : t.k = 1) (hl : look σ t.n = some u) : wk σ t = wk σ u := by
  have hW := h.choose_spec
  unfold wk
  rw [dif_pos h, dif_pos h]
  have h1 := hW.lt _ _ hl
  have h2 := tw_var (W := h.choose) hk
  obtain ⟨m, hm⟩ : ∃ m, t.tw h.choose = m + 1 := ⟨t.tw h.choose - 1, by have := hW.pos t.n; omega⟩
  rw [hm]
  simp only [wkF, hk, if_true, hl]
  exact wkF_eq hW _ _ u (by omega) (Nat.le_refl _)
theorem wk_none {σ : Sto} {t : Tm} (hl : look σ t.n = none) : wk σ t = t := by
  unfold wk
  split
  · rename_i h
    generalize t.tw h.choose = f
    cases f with
    | zero => rfl
    | succ f => simp [wkF, hl]
  · rfl
theorem wk_nonvar {σ : Sto} {t : Tm} (hk : t.k ≠ 1) : wk σ t = t := by
  unfold wk
  split
  · rename_i h
    generalize t.tw h.choose = f
    cases f with
    | zero => rfl
    | succ f => simp [wkF, hk]
  · rfl
theorem wk_ind {σ : Sto} {W : Int → Nat} (hW : Wt σ W) {M : Tm → Tm → Prop} (h1 : ∀ t, t.k ≠ 1 → M t t) (h2 : ∀ t, t.k = 1 → look σ t.n = none → M t t) (h3 : ∀ t u, t.k = 1 → look σ t.n = some u → M u (wk σ u) → M t (wk σ u)) : ∀ t, M t (wk σ t) := by
  have key : ∀ (f : Nat) t, t.tw W ≤ f → M t (wk σ t) := by
    intro f
    induction f with
    | zero =>
      intro t hf
      by_cases hk : t.k = 1
      · rw [tw_var hk] at hf
        have := hW.pos t.n
        omega
      · rw [wk_nonvar hk]; exact h1 t hk
    | succ f ih =>
      intro t hf
      by_cases hk : t.k = 1
      · cases hl : look σ t.n with
        | none => rw [wk_none hl]; exact h2 t hk hl
        | some u =>
          rw [wk_some ⟨W, hW⟩ hk hl]
          have := hW.lt _ _ hl
          rw [tw_var hk] at hf
          exact h3 t u hk hl (ih u (by omega))
      · rw [wk_nonvar hk]; exact h1 t hk
  exact fun t => key _ t (Nat.le_refl _)
theorem wk_tw {σ : Sto} {W : Int → Nat} (hW : Wt σ W) (t : Tm) : (wk σ t).tw W ≤ t.tw W :=
  wk_ind hW (M := fun t u => u.tw W ≤ t.tw W) (fun t _ => Nat.le_refl _) (fun t _ _ => Nat.le_refl _) (fun t u hk hl h => by have := hW.lt _ _ hl; rw [tw_var hk]; omega) t
theorem wk_end {σ : Sto} {W : Int → Nat} (hW : Wt σ W) (t : Tm) : (wk σ t).k = 1 → look σ (wk σ t).n = none :=
  wk_ind hW (M := fun t u => u.k = 1 → look σ u.n = none) (fun t h h' => absurd h' h) (fun t _ h _ => h) (fun t u _ _ h => h) t
theorem wk_wk {σ : Sto} {W : Int → Nat} (hW : Wt σ W) (t : Tm) : wk σ (wk σ t) = wk σ t := by
  by_cases hk : (wk σ t).k = 1
  · exact wk_none (wk_end hW t hk)
  · exact wk_nonvar hk
theorem wk_good {σ : Sto} {W : Int → Nat} (hW : Wt σ W) (hg : ∀ x ∈ σ, x.2.good) (t : Tm) (ht : t.good) : (wk σ t).good :=
  wk_ind hW (M := fun t u => t.good → u.good) (fun t _ h => h) (fun t _ _ h => h) (fun t u _ hl h _ => h (hg _ (look_mem hl))) t ht
end Go.Proofs.YtcapnainldlnjaaGreat

open Go Go.AM Go.Proofs
namespace Go.Proofs.YtcapnainldlnjaaGreat
set_option linter.unusedVariables false
set_option linter.unusedSimpArgs false
set_option maxRecDepth 100000
/-! ### a variable in a term -/
noncomputable def occF : Nat → Sto → Int → Tm → List Int → Bool × List Int
  | 0, _, _, _, M => (false, M)
  | f + 1, σ, n, t, M =>
    if t.k = 1 then
      if t.n ∈ M then (false, M)
      else if (wk σ t).k = 1 then (decide ((wk σ t).n = n), M ++ [t.n])
      else occF f σ n (wk σ t) (M ++ [t.n])
    else anyS (fun M x => occF f σ n x M) t.kids M
theorem wk_lt {σ : Sto} {W : Int → Nat} (hW : Wt σ W) {t : Tm} (hk : t.k = 1) (hu : (wk σ t).k ≠ 1) : (wk σ t).tw W < t.tw W := by
  cases hl : look σ t.n with
  | none => rw [wk_none hl] at hu; exact absurd hk hu
  | some u =>
    rw [wk_some ⟨W, hW⟩ hk hl]
    have h1 := wk_tw hW u
    have h2 := hW.lt _ _ hl
    rw [tw_var hk]
    omega
def varT (v : Int) : Tm := .mk 1 v [] []
/-- what is known of a variable that has been met -/
def Pw (σ : Sto) (n : Int) (M : List Int) (v : Int) : Prop := ((wk σ (varT v)).k = 1 → (wk σ (varT v)).n ≠ n) ∧ ((wk σ (varT v)).k ≠ 1 → ∀ y, (wk σ (varT v)).vin y → y ∈ M)
theorem Pw.mono {σ : Sto} {n : Int} {M M' : List Int} {v : Int} (h : Pw σ n M v) (hM : ∀ y ∈ M, y ∈ M') : Pw σ n M' v := ⟨h.1, fun hk y hy => hM y (h.2 hk y hy)⟩
def OccS (σ : Sto) (n : Int) (V : Int → Prop) (M M' : List Int) : Prop := (∀ y ∈ M, y ∈ M') ∧ (∀ y, V y → y ∈ M') ∧ ∀ v ∈ M', v ∈ M ∨ Pw σ n M' v
theorem occL_spec {σ : Sto} {n : Int} (step : List Int → Tm → Bool × List Int) : ∀ (l : List Tm) (M : List Int), (∀ x ∈ l, ∀ M, (step M x).1 = false → OccS σ n (fun y => x.vin y) M (step M x).2) → (anyS step l M).1 = false → OccS σ n (fun y => ∃ x ∈ l, x.vin y) M (anyS step l M).2
  | [], M, _, _ => ⟨fun y h => h, fun y ⟨x, hx, _⟩ => by simp at hx, fun v hv => .inl hv⟩
  | t :: l, M, h, hb => by
    simp only [anyS] at hb ⊢
    cases h1 : (step M t).1 with
    | true => rw [h1] at hb; simp at hb
    | false =>
      rw [h1] at hb
      simp only [Bool.false_eq_true, if_false] at hb ⊢
      obtain ⟨a1, a2, a3⟩ := h t (by simp) M h1
      obtain ⟨b1, b2, b3⟩ := occL_spec step l (step M t).2 (fun x hx => h x (by simp [hx])) hb
      refine ⟨fun y hy => b1 y (a1 y hy), fun y ⟨x, hx, hv⟩ => ?_, fun v hv => ?_⟩
      · rcases List.mem_cons.1 hx with rfl | hx
        · exact b1 y (a2 y hv)
        · exact b2 y ⟨x, hx, hv⟩
      · rcases b3 v hv with h2 | h2
        · rcases a3 v h2 with h3 | h3
          · exact .inl h3
          · exact .inr (h3.mono b1)
        · exact .inr h2
theorem occF_spec {σ : Sto} {W : Int → Nat} (hW : Wt σ W) (hg : ∀ x ∈ σ, x.2.good) (n : Int) : ∀ (f : Nat) (t : Tm) (M : List Int), t.good → t.tw W < f → (occF f σ n t M).1 = false → OccS σ n (fun y => t.vin y) M (occF f σ n t M).2 := by
  intro f
  induction f with
  | zero => intro t M _ h; omega
  | succ f ih =>
    intro t M ht hf hb
    by_cases hk : t.k = 1
    · have hv := (good_var ht hk).2.2.2
      have hvt : wk σ (varT t.n) = wk σ t := by
        show wk σ (.mk 1 t.n [] []) = _
        rw [← hv]
      simp only [occF, hk, if_true] at hb ⊢
      by_cases hm : t.n ∈ M
      · rw [if_pos hm] at hb ⊢
        exact ⟨fun y h => h, fun y h => by rw [← (vin_var hk).1 h]; exact hm, fun v hv => .inl hv⟩
      · rw [if_neg hm] at hb ⊢
        by_cases hu : (wk σ t).k = 1
        · rw [if_pos hu] at hb ⊢
          refine ⟨fun y h => by simp [h], fun y h => by rw [← (vin_var hk).1 h]; simp, fun v hv => ?_⟩
          rcases List.mem_append.1 hv with h | h
          · exact .inl h
          · rw [List.mem_singleton.1 h]
            refine .inr ⟨fun _ => ?_, fun h => ?_⟩
            · rw [hvt]; simpa using hb
            · rw [hvt] at h; exact absurd hu h
        · rw [if_neg hu] at hb ⊢
          obtain ⟨a1, a2, a3⟩ := ih (wk σ t) (M ++ [t.n]) (wk_good hW hg t ht) (by have := wk_lt hW hk hu; omega) hb
          refine ⟨fun y h => a1 y (by simp [h]), fun y h => by rw [← (vin_var hk).1 h]; exact a1 _ (by simp), fun v hv => ?_⟩
          rcases a3 v hv with h | h
          · rcases List.mem_append.1 h with h | h
            · exact .inl h
            · rw [List.mem_singleton.1 h]
              refine .inr ⟨fun h => ?_, fun _ y hy => ?_⟩
              · rw [hvt] at h; exact absurd h hu
              · rw [hvt] at hy; exact a2 y hy
          · exact .inr h
    · simp only [occF, hk, if_false] at hb ⊢
      obtain ⟨a1, a2, a3⟩ := occL_spec (fun M x => occF f σ n x M) t.kids M (fun x hx M h => ih x M (good_kids ht x hx) (by have := tw_kid (W := W) hk hx; omega) h) hb
      exact ⟨a1, fun y hy => a2 y ((vin_kids hk).1 hy), a3⟩
inductive Rch (σ : Sto) (n : Int) : Int → Prop
  | refl : Rch σ n n
  | step {v : Int} {u : Tm} {y : Int} : look σ v = some u → u.vin y → Rch σ n y → Rch σ n v
theorem not_rch {σ : Sto} {W : Int → Nat} (hW : Wt σ W) (hg : ∀ x ∈ σ, x.2.good) {n : Int} (hn : look σ n = none) {M : List Int} (hM : ∀ v ∈ M, Pw σ n M v) : ∀ (f : Nat) (v : Int), W v ≤ f → Pw σ n M v → ¬ Rch σ n v := by
  intro f
  induction f with
  | zero => intro v h; have := hW.pos v; omega
  | succ f ih =>
    intro v hf hp hr
    cases hr with
    | refl =>
      have e : wk σ (varT n) = varT n := wk_none hn
      have := hp.1 (by rw [e]; rfl)
      rw [e] at this
      exact this rfl
    | @step _ u y hl hy hr =>
      have e : wk σ (varT v) = wk σ u := wk_some ⟨W, hW⟩ rfl hl
      have hlt := hW.lt _ _ hl
      have h1 := vin_tw (W := W) u hy
      by_cases hk : u.k = 1
      · have hv := (good_var (hg _ (look_mem hl)) hk).2.2.2
        rw [vin_var hk] at hy
        subst hy
        have e2 : wk σ (varT u.n) = wk σ u := by
          show wk σ (.mk 1 u.n [] []) = _
          rw [← hv]
        refine ih u.n (by omega) ?_ hr
        unfold Pw
        rw [e2, ← e]
        exact hp
      · refine ih y (by omega) (hM y (hp.2 ?_ y ?_)) hr
        · rw [e, wk_nonvar hk]; exact hk
        · rw [e, wk_nonvar hk]; exact hy
open Classical in
/-- does a variable occur in a term? -/
noncomputable def occ (σ : Sto) (n : Int) (t : Tm) : Bool := if h : ∃ W, Wt σ W then (occF (t.tw h.choose + 1) σ n t []).1 else false
open Classical in
theorem bind_wt {σ : Sto} (hw : ∃ W, Wt σ W) (hg : ∀ x ∈ σ, x.2.good) {n : Int} {t : Tm} (hn : look σ n = none) (ht : t.good) (ho : occ σ n t = false) : ∃ W, Wt (σ ++ [(n, t)]) W := by
  unfold occ at ho
  rw [dif_pos hw] at ho
  have hW := hw.choose_spec
  generalize hw.choose = W at hW ho
  obtain ⟨a1, a2, a3⟩ := occF_spec hW hg n (t.tw W + 1) t [] ht (by omega) ho
  generalize (occF (t.tw W + 1) σ n t []).2 = M at a1 a2 a3
  have hM : ∀ v ∈ M, Pw σ n M v := fun v hv => (a3 v hv).resolve_left (by simp)
  have hno : ∀ y, t.vin y → ¬ Rch σ n y := fun y hy => not_rch hW hg hn hM (W y) y (Nat.le_refl _) (hM y (a2 y hy))
  refine ⟨fun v => if Rch σ n v then (t.tw W + 1) * W v else W v, fun v => ?_, fun m u hl => ?_⟩
  · have h1 := hW.pos v
    show 1 ≤ if Rch σ n v then _ else _
    split
    · exact Nat.le_trans h1 (Nat.le_mul_of_pos_left _ (by omega))
    · exact h1
  · rw [look_snoc] at hl
    cases hlm : look σ m with
    | some u' =>
      rw [hlm] at hl
      obtain rfl := Option.some.inj hl
      have hlt := hW.lt _ _ hlm
      show u'.tw _ < if Rch σ n m then _ else _
      split
      · refine Nat.lt_of_le_of_lt (tw_mul (C := t.tw W + 1) (W := W) (by omega) (fun v => ?_) u') (Nat.mul_lt_mul_of_pos_left hlt (by omega))
        show (if Rch σ n v then _ else _) ≤ _
        split
        · exact Nat.le_refl _
        · exact Nat.le_mul_of_pos_left _ (by omega)
      · rename_i hr
        rw [← tw_congr (W := W) u' fun v hv => ?_]
        · exact hlt
        · show W v = if Rch σ n v then _ else _
          rw [if_neg fun h => hr (.step hlm hv h)]
    | none =>
      rw [hlm] at hl
      simp only at hl
      split at hl
      · rename_i e
        subst e
        obtain rfl := Option.some.inj hl
        show t.tw _ < if Rch σ n n then _ else _
        rw [if_pos .refl, ← tw_congr (W := W) t fun v hv => ?_]
        · have := hW.pos n
          exact Nat.lt_of_lt_of_le (Nat.lt_succ_self _) (Nat.le_mul_of_pos_right _ this)
        · show W v = if Rch σ n v then _ else _
          rw [if_neg (hno v hv)]
      · cases hl
/-! ### how many variables stand for nothing -/
def free (σ : Sto) : Nat := (List.range 26).countP fun i : Nat => (look σ (i : Int)).isNone
theorem countP_lt {p q : Nat → Bool} : ∀ {l : List Nat}, (∀ x ∈ l, q x = true → p x = true) → (∃ x ∈ l, p x = true ∧ q x = false) → l.countP q < l.countP p
  | [], _, ⟨x, hx, _⟩ => by simp at hx
  | a :: l, h, ⟨x, hx, h1, h2⟩ => by
    have hle : l.countP q ≤ l.countP p := List.countP_mono_left fun x hx => h x (by simp [hx])
    rw [List.countP_cons, List.countP_cons]
    rcases List.mem_cons.1 hx with rfl | hx
    · rw [h1, h2]; simp; omega
    · have := countP_lt (l := l) (fun x hx => h x (by simp [hx])) ⟨x, hx, h1, h2⟩
      have h3 := h a (by simp)
      cases ha : q a with
      | true => rw [h3 ha]; simp; omega
      | false => simp; omega
theorem free_bind {σ : Sto} {n : Int} {t : Tm} (hn : look σ n = none) (h0 : 0 ≤ n) (h1 : n ≤ 25) : free (σ ++ [(n, t)]) < free σ := by
  refine countP_lt (fun x _ h => ?_) ⟨n.toNat, by simp; omega, ?_, ?_⟩
  · rw [look_snoc] at h
    cases hx : look σ (x : Int) with
    | none => rfl
    | some u => rw [hx] at h; cases h
  · rw [Int.toNat_of_nonneg h0, hn]; rfl
  · rw [Int.toNat_of_nonneg h0, look_snoc, hn]; simp
structure Sok (σ : Sto) : Prop where
  wt : ∃ W, Wt σ W
  good : ∀ x ∈ σ, x.2.good
  cnt : σ.length + free σ ≤ 26
def Nx (σ σ' : Sto) : Prop := Sok σ' ∧ (σ' = σ ∨ free σ' < free σ)
theorem Nx.refl {σ : Sto} (h : Sok σ) : Nx σ σ := ⟨h, .inl rfl⟩
theorem Nx.trans {a b c : Sto} (h : Nx a b) (h' : Nx b c) : Nx a c := by
  refine ⟨h'.1, ?_⟩
  rcases h.2 with rfl | h1
  · exact h'.2
  · rcases h'.2 with rfl | h2
    · exact .inr h1
    · exact .inr (by omega)
theorem bind_nx {σ : Sto} (hs : Sok σ) {n : Int} {t : Tm} (hn : look σ n = none) (h0 : 0 ≤ n) (h1 : n ≤ 25) (ht : t.good) (ho : occ σ n t = false) : Nx σ (σ ++ [(n, t)]) := by
  have hf := free_bind (t := t) hn h0 h1
  refine ⟨⟨bind_wt hs.wt hs.good hn ht ho, fun x hx => ?_, by have := hs.cnt; simp; omega⟩, .inr hf⟩
  rcases List.mem_append.1 hx with h | h
  · exact hs.good x h
  · rw [List.mem_singleton.1 h]; exact ht
/-! ### unification -/
end Go.Proofs.YtcapnainldlnjaaGreat

open Go Go.AM Go.Proofs
namespace Go.Proofs.YtcapnainldlnjaaGreat
open Go.ChangeShapes Go.WideShapes Go.ChangeAt Go.RowKit
set_option linter.unusedVariables false
set_option linter.unusedSimpArgs false
set_option maxRecDepth 100000
mutual
/-- what a law's size takes off for a term -/
def Tm.wt : Tm → Nat
  | .mk _ _ s l => s.length + Tm.wts l
def Tm.wts : List Tm → Nat
  | [] => 0
  | t :: l => 1 + t.wt + Tm.wts l
end
mutual
/-- the terms below a term -/
def Tm.sub : Tm → Nat
  | .mk _ _ _ l => Tm.cnt l
def Tm.cnt : List Tm → Nat
  | [] => 0
  | t :: l => 1 + t.sub + Tm.cnt l
end
theorem sub_mk (k n : Int) (s : List UInt8) (l : List Tm) : (Tm.mk k n s l).sub = Tm.cnt l := by rw [Tm.sub]
theorem sub_eq (t : Tm) : t.sub = Tm.cnt t.kids := by cases t; rw [Tm.sub]; rfl
theorem cnt_nil : Tm.cnt [] = 0 := by rw [Tm.cnt]
theorem cnt_cons (t : Tm) (l : List Tm) : Tm.cnt (t :: l) = 1 + t.sub + Tm.cnt l := by rw [Tm.cnt]
theorem cnt_append (l r : List Tm) : Tm.cnt (l ++ r) = Tm.cnt l + Tm.cnt r := by
  induction l with
  | nil => simp [Tm.cnt]
  | cons t l ih => rw [List.cons_append, cnt_cons, cnt_cons, ih]; omega
theorem cnt_take_succ (l : List Tm) {i : Nat} (h : i < l.length) : Tm.cnt (l.take (i + 1)) = Tm.cnt (l.take i) + 1 + l[i].sub := by
  rw [List.take_succ_eq_append_getElem h, cnt_append, cnt_cons, cnt_nil]; omega
theorem cnt_take_le (l : List Tm) (i : Nat) : Tm.cnt (l.take i) ≤ Tm.cnt l := by
  have := cnt_append (l.take i) (l.drop i)
  rw [List.take_append_drop] at this
  omega
theorem cnt_take_sub (l : List Tm) {i : Nat} (h : i < l.length) : Tm.cnt (l.take i) + 1 + l[i].sub ≤ Tm.cnt l := by
  rw [← cnt_take_succ l h]; exact cnt_take_le l _
/-- what is left, where enough is -/
def LeftW (m : Int) (p : Prop) (w : Nat) (r : A) : Prop := ∃ q : Int, r = .c (.d (.int .i64 q)) ∧ -1 ≤ q ∧ q ≤ m ∧ (0 ≤ q → p ∧ q + w ≤ m)
theorem LeftW.re {n : Nat} {m : Int} {p : Prop} {w : Nat} {r : A} (h : LeftW m p w r) : A.re n r = r := by
  obtain ⟨q, rfl, _⟩ := h
  rfl
theorem LeftW.left {m : Int} {p : Prop} {w : Nat} {r : A} (h : LeftW m p w r) : Left m p r := by
  obtain ⟨q, h1, h2, h3, h4⟩ := h
  exact ⟨q, h1, h2, h3, fun h => (h4 h).1⟩
end Go.Proofs.YtcapnainldlnjaaGreat

open Go Go.AM Go.Proofs
namespace Go.Proofs.YtcapnainldlnjaaGreat
set_option linter.unusedVariables false
set_option linter.unusedSimpArgs false
set_option maxRecDepth 100000
namespace Sv
abbrev Fn := Int → Option Tm
/-- weights under which what a variable stands for is lighter than the variable -/
structure Wt (σ : Fn) (W : Int → Nat) : Prop where
  pos : ∀ n, 1 ≤ W n
  lt : ∀ n u, σ n = some u → u.tw W < W n
/-! ### walks -/
def wkF : Nat → Fn → Tm → Tm
  | 0, _, t => t
  | f + 1, σ, t => if t.k = 1 then match σ t.n with | some u => wkF f σ u | none => t else t
theorem wkF_eq {σ : Fn} {W : Int → Nat} (hW : Wt σ W) : ∀ (f g : Nat) (t : Tm), t.tw W ≤ f → t.tw W ≤ g → wkF f σ t = wkF g σ t := by
  intro f
  induction f with
  | zero =>
    intro g t hf hg
    by_cases hk : t.k = 1
    · rw [tw_var hk] at hf
      have := hW.pos t.n
      omega
    · cases g with
      | zero => rfl
      | succ g => simp [wkF, hk]
  | succ f ih =>
    intro g t hf hg
    cases g with
    | zero =>
      by_cases hk : t.k = 1
      · rw [tw_var hk] at hg
        have := hW.pos t.n
        omega
      · simp [wkF, hk]
    | succ g =>
      by_cases hk : t.k = 1
      · simp only [wkF, hk, if_true]
        cases hl : σ t.n with
        | none => rfl
        | some u =>
          have := hW.lt _ _ hl
          rw [tw_var hk] at hf hg
          exact ih g u (by omega) (by omega)
      · simp [wkF, hk]
open Classical in
/-- a term, or what it stands for -/
noncomputable def wk (σ : Fn) (t : Tm) : Tm := if h : ∃ W, Wt σ W then wkF (t.tw h.choose) σ t else t
theorem wk_some {σ : Fn} (h : ∃ W, Wt σ W) {t u : Tm} (hk : t.k = 1) (hl : σ t.n = some u) : wk σ t = wk σ u := by
  have hW := h.choose_spec
  unfold wk
  rw [dif_pos h, dif_pos h]
  have h1 := hW.lt _ _ hl
  have h2 := tw_var (W := h.choose) hk
  obtain ⟨m, hm⟩ : ∃ m, t.tw h.choose = m + 1 := ⟨t.tw h.choose - 1, by have := hW.pos t.n; omega⟩
  rw [hm]
  simp only [wkF, hk, if_true, hl]
  exact wkF_eq hW _ _ u (by omega) (Nat.le_refl _)
theorem wk_none {σ : Fn} {t : Tm} (hl : σ t.n = none) : wk σ t = t := by
  unfold wk
  split
  · rename_i h
    generalize t.tw h.choose = f
    cases f with
    | zero => rfl
    | succ f => simp [wkF, hl]
  · rfl
theorem wk_nonvar {σ : Fn} {t : Tm} (hk : t.k ≠ 1) : wk σ t = t := by
  unfold wk
  split
  · rename_i h
    generalize t.tw h.choose = f
    cases f with
    | zero => rfl
    | succ f => simp [wkF, hk]
  · rfl
theorem wk_ind {σ : Fn} {W : Int → Nat} (hW : Wt σ W) {M : Tm → Tm → Prop} (h1 : ∀ t, t.k ≠ 1 → M t t) (h2 : ∀ t, t.k = 1 → σ t.n = none → M t t) (h3 : ∀ t u, t.k = 1 → σ t.n = some u → M u (wk σ u) → M t (wk σ u)) : ∀ t, M t (wk σ t) := by
  have key : ∀ (f : Nat) t, t.tw W ≤ f → M t (wk σ t) := by
    intro f
    induction f with
    | zero =>
      intro t hf
      by_cases hk : t.k = 1
      · rw [tw_var hk] at hf
        have := hW.pos t.n
        omega
      · rw [wk_nonvar hk]; exact h1 t hk
    | succ f ih =>
      intro t hf
      by_cases hk : t.k = 1
      · cases hl : σ t.n with
        | none => rw [wk_none hl]; exact h2 t hk hl
        | some u =>
          rw [wk_some ⟨W, hW⟩ hk hl]
          have := hW.lt _ _ hl
          rw [tw_var hk] at hf
          exact h3 t u hk hl (ih u (by omega))
      · rw [wk_nonvar hk]; exact h1 t hk
  exact fun t => key _ t (Nat.le_refl _)
theorem wk_tw {σ : Fn} {W : Int → Nat} (hW : Wt σ W) (t : Tm) : (wk σ t).tw W ≤ t.tw W :=
  wk_ind hW (M := fun t u => u.tw W ≤ t.tw W) (fun t _ => Nat.le_refl _) (fun t _ _ => Nat.le_refl _) (fun t u hk hl h => by have := hW.lt _ _ hl; rw [tw_var hk]; omega) t
theorem wk_end {σ : Fn} {W : Int → Nat} (hW : Wt σ W) (t : Tm) : (wk σ t).k = 1 → σ (wk σ t).n = none :=
  wk_ind hW (M := fun t u => u.k = 1 → σ u.n = none) (fun t h h' => absurd h' h) (fun t _ h _ => h) (fun t u _ _ h => h) t
theorem wk_wk {σ : Fn} {W : Int → Nat} (hW : Wt σ W) (t : Tm) : wk σ (wk σ t) = wk σ t := by
  by_cases hk : (wk σ t).k = 1
  · exact wk_none (wk_end hW t hk)
  · exact wk_nonvar hk
/-- what is true of what variables stand for is true of walks -/
theorem wk_pred {σ : Fn} {W : Int → Nat} (hW : Wt σ W) {P : Tm → Prop} (hg : ∀ n u, σ n = some u → P u) (t : Tm) (ht : P t) : P (wk σ t) :=
  wk_ind hW (M := fun t u => P t → P u) (fun t _ h => h) (fun t _ _ h => h) (fun t u _ hl h _ => h (hg _ _ hl)) t ht
inductive Rch (σ : Fn) (n : Int) : Int → Prop
  | refl : Rch σ n n
  | step {v : Int} {u : Tm} {y : Int} : σ v = some u → u.vin y → Rch σ n y → Rch σ n v
def upd (σ : Fn) (n : Int) (t : Tm) (m : Int) : Option Tm := if m = n then some t else σ m
open Classical in
/-- a binding keeps it so that variables stand for lighter terms -/
theorem upd_wt {σ : Fn} (hw : ∃ W, Wt σ W) {n : Int} {t : Tm} (hn : σ n = none) (hno : ∀ y, t.vin y → ¬ Rch σ n y) : ∃ W, Wt (upd σ n t) W := by
  obtain ⟨W, hW⟩ := hw
  refine ⟨fun v => if Rch σ n v then (t.tw W + 1) * W v else W v, fun v => ?_, fun m u hl => ?_⟩
  · have h1 := hW.pos v
    show 1 ≤ if Rch σ n v then _ else _
    split
    · exact Nat.le_trans h1 (Nat.le_mul_of_pos_left _ (by omega))
    · exact h1
  · unfold upd at hl
    by_cases hm : m = n
    · rw [if_pos hm] at hl
      subst hm
      obtain rfl := Option.some.inj hl
      show t.tw _ < if Rch σ m m then _ else _
      rw [if_pos .refl, ← tw_congr (W := W) t fun v hv => ?_]
      · have := hW.pos m
        exact Nat.lt_of_lt_of_le (Nat.lt_succ_self _) (Nat.le_mul_of_pos_right _ this)
      · show W v = if Rch σ m v then _ else _
        rw [if_neg (hno v hv)]
    · rw [if_neg hm] at hl
      have hlt := hW.lt _ _ hl
      show u.tw _ < if Rch σ n m then _ else _
      split
      · refine Nat.lt_of_le_of_lt (tw_mul (C := t.tw W + 1) (W := W) (by omega) (fun v => ?_) u) (Nat.mul_lt_mul_of_pos_left hlt (by omega))
        show (if Rch σ n v then _ else _) ≤ _
        split
        · exact Nat.le_refl _
        · exact Nat.le_mul_of_pos_left _ (by omega)
      · rename_i hr
        rw [← tw_congr (W := W) u fun v hv => ?_]
        · exact hlt
        · show W v = if Rch σ n v then _ else _
          rw [if_neg fun h => hr (.step hl hv h)]
/-- a set of variables that is closed and misses n reaches n nowhere -/
theorem closed_rch {σ : Fn} {n : Int} {M : Int → Prop} (hn : ¬ M n) (hc : ∀ v u y, M v → σ v = some u → u.vin y → M y) : ∀ v, M v → ¬ Rch σ n v := by
  intro v hv hr
  induction hr with
  | refl => exact hn hv
  | step h1 h2 _ ih => exact ih (hc _ _ _ hv h1 h2)
/-! ## stores that are lists -/
/-- a term whose variables have numbers below N -/
inductive Tn (N : Nat) : Tm → Prop
  | var {n : Int} : 0 ≤ n → n < N → Tn N (.mk 1 n [] [])
  | int {n : Int} {s : List UInt8} {l : List Tm} : -999 ≤ n ∧ n ≤ 999 → s.length ≤ 6 → l.length ≤ 4 → (∀ t ∈ l, Tn N t) → Tn N (.mk 2 n s l)
  | str {n : Int} {s : List UInt8} {l : List Tm} : inR .i64 n → s.length ≤ 6 → l.length ≤ 4 → (∀ t ∈ l, Tn N t) → Tn N (.mk 3 n s l)
theorem Tn.fits {N : Nat} (hN : N ≤ 1000000) {t : Tm} (h : Tn N t) : t.fits := by
  induction h with
  | var h0 h1 => exact .mk (small_i64 (by omega) (by omega)) (small_i64 (by omega) (by omega)) (by simp) (by simp) (by simp)
  | int h1 h2 h3 _ ih => exact .mk (small_i64 (by omega) (by omega)) (small_i64 (by omega) (by omega)) (by omega) (by omega) ih
  | str h1 h2 h3 _ ih => exact .mk (small_i64 (by omega) (by omega)) h1 (by omega) (by omega) ih
theorem Tn.mono {N M : Nat} (h : N ≤ M) {t : Tm} (ht : Tn N t) : Tn M t := by
  induction ht with
  | var h0 h1 => exact .var h0 (by omega)
  | int h1 h2 h3 _ ih => exact .int h1 h2 h3 ih
  | str h1 h2 h3 _ ih => exact .str h1 h2 h3 ih
theorem Tn.kids {N : Nat} {t : Tm} (h : Tn N t) : t.kids.length ≤ 4 ∧ ∀ x ∈ t.kids, Tn N x := by
  cases h with
  | var _ _ => exact ⟨by simp [Tm.kids], by simp [Tm.kids]⟩
  | int _ _ h3 h4 => exact ⟨h3, h4⟩
  | str _ _ h3 h4 => exact ⟨h3, h4⟩
theorem Tn.kpos {N : Nat} {t : Tm} (h : Tn N t) : t.k = 1 ∨ t.k = 2 ∨ t.k = 3 := by
  cases h with
  | var _ _ => exact .inl rfl
  | int _ _ _ _ => exact .inr (.inl rfl)
  | str _ _ _ _ => exact .inr (.inr rfl)
theorem Tn.isVar {N : Nat} {t : Tm} (h : Tn N t) (hk : t.k = 1) : 0 ≤ t.n ∧ t.n < N ∧ t = .mk 1 t.n [] [] := by
  cases h with
  | var h0 h1 => exact ⟨h0, h1, rfl⟩
  | int _ _ _ _ => cases hk
  | str _ _ _ _ => cases hk
theorem good_tn : ∀ t : Tm, t.good → Tn 26 t := by
  refine Tm.ind fun k n s l ih h => ?_
  cases h with
  | mk ho hk =>
    rcases own_cases ho with ⟨rfl, h1, h2, rfl, rfl⟩ | ⟨rfl, h1, h2, rfl, rfl⟩ | ⟨rfl, rfl, h1, h2⟩
    · exact .var h1 (by omega)
    · exact .int ⟨by omega, by omega⟩ (by simp) (by simp) (by simp)
    · have := name_len h1
      exact .str (small_i64 (by omega) (by omega)) (by omega) (by omega) fun t ht => ih t ht (hk t ht)
theorem sub_kid {t x : Tm} (h : x ∈ t.kids) : x.sub + 1 ≤ t.sub := by
  rw [sub_eq t]
  generalize t.kids = l at h
  induction l with
  | nil => simp at h
  | cons a l ih =>
    rw [cnt_cons]
    rcases List.mem_cons.1 h with rfl | h
    · omega
    · have := ih h; omega
/-- .. and that is small -/
def Tz (N : Nat) (t : Tm) : Prop := Tn N t ∧ t.sub ≤ 1000
theorem Tz.kid {N : Nat} {t x : Tm} (h : Tz N t) (hx : x ∈ t.kids) : Tz N x := ⟨h.1.kids.2 x hx, by have := sub_kid hx; have := h.2; omega⟩
theorem Tz.mono {N M : Nat} (h : N ≤ M) {t : Tm} (ht : Tz N t) : Tz M t := ⟨ht.1.mono h, ht.2⟩
/-- what a list of terms says of a variable: entries of kind 0 say nothing -/
def lkL (L : List Tm) (n : Int) : Option Tm := if n < 0 then none else match L[n.toNat]? with
  | some u => if u.k = 0 then none else some u
  | none => none
/-- a store: entries are empty or have variables below N, and variables stand for lighter terms -/
structure Sok (N : Nat) (L : List Tm) : Prop where
  len : L.length = N
  ent : ∀ u ∈ L, u = .mk 0 0 [] [] ∨ Tz N u
  wt : ∃ W, Wt (lkL L) W
theorem lkL_some {L : List Tm} {n : Int} {u : Tm} (h : lkL L n = some u) : 0 ≤ n ∧ L[n.toNat]? = some u ∧ u.k ≠ 0 := by
  unfold lkL at h
  split at h
  · cases h
  · split at h
    · rename_i v hv
      split at h
      · cases h
      · rename_i hk
        cases h
        exact ⟨by omega, hv, hk⟩
    · cases h
theorem lkL_tn {N : Nat} {L : List Tm} (h : Sok N L) {n : Int} {u : Tm} (hl : lkL L n = some u) : Tz N u := by
  obtain ⟨_, h2, h3⟩ := lkL_some hl
  rcases h.ent u (List.mem_of_getElem? h2) with rfl | h4
  · exact absurd rfl h3
  · exact h4
theorem lkL_set {L : List Tm} {n : Int} {t : Tm} (h0 : 0 ≤ n) (h1 : n < L.length) (hk : t.k ≠ 0) : lkL (L.set n.toNat t) = upd (lkL L) n t := by
  funext m
  have e : upd (lkL L) n t m = if m = n then some t else lkL L m := rfl
  rw [e]
  by_cases hm : m = n
  · subst hm
    rw [if_pos rfl]
    unfold lkL
    rw [if_neg (by omega), List.getElem?_set_self (by omega)]
    simp [hk]
  · rw [if_neg hm]
    unfold lkL
    by_cases hm0 : m < 0
    · rw [if_pos hm0, if_pos hm0]
    · rw [if_neg hm0, if_neg hm0, List.getElem?_set_ne (by omega)]
/-- how many entries are empty -/
def free (L : List Tm) : Nat := L.countP fun u => decide (u.k = 0)
theorem free_set {L : List Tm} {i : Nat} {t : Tm} (hi : i < L.length) (h0 : L[i].k = 0) (hk : t.k ≠ 0) : free (L.set i t) < free L := by
  unfold free
  induction L generalizing i with
  | nil => simp at hi
  | cons a l ih =>
    cases i with
    | zero =>
      simp only [List.getElem_cons_zero] at h0
      simp [List.set_cons_zero, List.countP_cons, h0, hk]
    | succ i =>
      have := ih (i := i) (by simpa using hi) (by simpa using h0)
      rw [List.set_cons_succ, List.countP_cons, List.countP_cons]
      omega
def Nx (N : Nat) (L L' : List Tm) : Prop := Sok N L' ∧ (L' = L ∨ free L' < free L)
theorem Nx.refl {N : Nat} {L : List Tm} (h : Sok N L) : Nx N L L := ⟨h, .inl rfl⟩
theorem Nx.trans {N : Nat} {a b c : List Tm} (h : Nx N a b) (h' : Nx N b c) : Nx N a c := by
  refine ⟨h'.1, ?_⟩
  rcases h.2 with rfl | h1
  · exact h'.2
  · rcases h'.2 with rfl | h2
    · exact .inr h1
    · exact .inr (by omega)
theorem wk_tn {N : Nat} {L : List Tm} (h : Sok N L) {t : Tm} (ht : Tz N t) : Tz N (wk (lkL L) t) := by
  obtain ⟨W, hW⟩ := h.wt
  exact wk_pred hW (fun n u hl => lkL_tn h hl) t ht
/-- a variable that stands for nothing is bound -/
theorem bind_nx {N : Nat} {L : List Tm} (h : Sok N L) {n : Int} {t : Tm} (h0 : 0 ≤ n) (h1 : n < N) (hn : lkL L n = none) (ht : Tz N t) (hno : ∀ y, t.vin y → ¬ Rch (lkL L) n y) : Nx N L (L.set n.toNat t) := by
  have hk : t.k ≠ 0 := by rcases ht.1.kpos with h | h | h <;> omega
  have hlt : n.toNat < L.length := by rw [h.len]; omega
  refine ⟨⟨by simpa using h.len, fun u hu => ?_, ?_⟩, .inr (free_set hlt ?_ hk)⟩
  · rcases List.mem_or_eq_of_mem_set hu with hu | rfl
    · exact h.ent u hu
    · exact .inr ht
  · rw [lkL_set h0 (by rw [h.len]; omega) hk]
    exact upd_wt h.wt hn hno
  · unfold lkL at hn
    rw [if_neg (by omega), List.getElem?_eq_getElem hlt] at hn
    simp only at hn
    split at hn
    · assumption
    · cases hn
end Sv
end Go.Proofs.YtcapnainldlnjaaGreat

open Go Go.AM Go.Proofs
namespace Go.Proofs.YtcapnainldlnjaaGreat
open Go.ChangeShapes Go.WideShapes Go.ChangeAt Go.RowKit
set_option linter.unusedVariables false
set_option linter.unusedSimpArgs false
set_option maxRecDepth 100000
def addI (l : List Int) (n : Int) : List Int := if l.contains n then l else l ++ [n]
theorem addI_len (l : List Int) (n : Int) : (addI l n).length ≤ l.length + 1 := by unfold addI; split <;> simp
mutual
/-- the variables of a term behind others -/
def Tm.vars : Tm → List Int → List Int
  | .mk k n _ kids, l => varsL kids (if k = 1 then addI l n else l)
def varsL : List Tm → List Int → List Int
  | [], l => l
  | t :: ts, l => varsL ts (t.vars l)
end
theorem vars_mk (k n : Int) (s : List UInt8) (kids : List Tm) (l : List Int) : (Tm.mk k n s kids).vars l = varsL kids (if k = 1 then addI l n else l) := by rw [Tm.vars]
theorem varsL_nil (l : List Int) : varsL [] l = l := by rw [varsL]
theorem varsL_cons (t : Tm) (ts : List Tm) (l : List Int) : varsL (t :: ts) l = varsL ts (t.vars l) := by rw [varsL]
theorem varsL_append (a b : List Tm) (l : List Int) : varsL (a ++ b) l = varsL b (varsL a l) := by
  induction a generalizing l with
  | nil => rw [List.nil_append, varsL_nil]
  | cons t a ih => rw [List.cons_append, varsL_cons, varsL_cons, ih]
theorem varsL_succ (ts : List Tm) (l : List Int) {i : Nat} (h : i < ts.length) : varsL (ts.take (i + 1)) l = ts[i].vars (varsL (ts.take i) l) := by
  rw [List.take_succ_eq_append_getElem h, varsL_append, varsL_cons, varsL_nil]
theorem vars_len : ∀ (t : Tm) (l : List Int), (t.vars l).length ≤ l.length + 1 + t.sub := by
  refine Tm.ind fun k n s kids ih l => ?_
  have hL : ∀ (ts : List Tm), (∀ t ∈ ts, ∀ l, (t.vars l).length ≤ l.length + 1 + t.sub) → ∀ l, (varsL ts l).length ≤ l.length + Tm.cnt ts := by
    intro ts
    induction ts with
    | nil => intro _ l; rw [varsL_nil]; omega
    | cons t ts ih2 =>
      intro h l
      rw [varsL_cons, cnt_cons]
      have h1 := ih2 (fun t ht => h t (by simp [ht])) (t.vars l)
      have h2 := h t (by simp) l
      omega
  rw [vars_mk, sub_mk]
  have h1 := hL kids ih (if k = 1 then addI l n else l)
  have h2 : (if k = 1 then addI l n else l).length ≤ l.length + 1 := by
    split
    · exact addI_len l n
    · omega
  omega
theorem varsL_len (ts : List Tm) (l : List Int) : (varsL ts l).length ≤ l.length + Tm.cnt ts := by
  induction ts generalizing l with
  | nil => rw [varsL_nil]; omega
  | cons t ts ih =>
    rw [varsL_cons, cnt_cons]
    have h1 := ih (t.vars l)
    have h2 := vars_len t l
    omega
theorem slr : ∀ l : List A, Sl.le l l
  | [] => trivial
  | a :: l => ⟨.refl a, slr l⟩
/-- the end of a function whose own objects are of no account -/
theorem finK_cut {rs : List Rv} {Q : A → Heap → Prop} {sl : List A} {ext loc : Heap} (r : A) (hlo : As.lo ext.length 0 sl) (hok : r_ ⟨sl, ext, []⟩ rs) (hr : resRaw ⟨sl, ext, []⟩ rs = some r) (hq : Q (r.re ext.length) ext) : FinK rs Q .ret ⟨sl, ext, loc⟩ :=
  ⟨⟨sl, ext, []⟩, St.le_cut loc (slr sl) hlo rfl trivial, hok, r, hr, by simpa using hq⟩
theorem call_addE {P : Program} {f : FuncId} {args : List A} {sl : List A} {ext loc H₂ : Heap} {i : Nat} {g : Ob} {r : A} {K : A → St → Prop} (hc : ACalls P f args H₂ (fun r' H' => H' = H₂.set i g ∧ r' = r)) (hg : g.fits ext.length 0) (hi : i < ext.length) (hr : A.re ext.length r = r)
    (hf : Obs.fits ext.length 0 ext) (hH : H₂ = ext ++ loc.map (Ob.re ext.length)) (hk : K r ⟨sl, ext.set i g, loc⟩) : ACalls P f args H₂ (CallK K ⟨sl, ext, loc⟩) := by
  subst hH
  refine hc.mono fun r' H' ⟨h1, h2⟩ => ⟨ext.set i g, loc, r, ?_, by simp, Nat.le_refl _, Obs_fits_set hf hg, by rw [h2, hr], hk⟩
  rw [h1, List.set_append_left _ _ hi]
-- 86 loop.example/prologserver/impl.goalsValid$1 params 1 ntmps 6
def ac86 : Cd := .seq (.region [oc 1 (.box (.t 0)),
 oc 2 (.mv (.k (.c (.d (.bool false)))))] [0,2])
 (.seq (.region [oc 3 (.load (some 4) (.t 1)),
 oc 4 (.qcall 87 [(.t 3)]),
 oc 5 (.un .not (.t 4)),
 oa 2 5] [1,3,4,5])
 (.ret))
theorem ac86_ok : cFunc Tryz.prog [1000087] [(0,[0,2],[]),(1,[1,3,4,5],[])] Tryz.f86 = some (ac86,[.tmp 2],6) := by kernel_rfl
-- 65 loop.example/prologserver/impl.goalsValid params 1 ntmps 11
def ac65 : Cd := .seq (.region [oc 2 (.mv (.k (.c (.d (.bool false)))))] [2])
 (.seq (.region [oa 3 0,
 oc 4 (.len 1 (.t 3)),
 oc 5 (.bin .leq (.t 4) (ki 6)),
 oa 6 5,
 ⟨some 7,.mv (.t 0),some (6,true)⟩,
 ⟨some 8,.qcall 24 [(.t 7),(.k (.c (.fn 86 [])))],some (6,true)⟩,
 ⟨some 9,.un .not (.t 8),some (6,true)⟩,
 oc 10 (.pick (.t 6) (.t 9) (.k (.c (.d (.bool false))))),
 oa 2 10] [0,3,4,5,6,7,8,9,10])
 (.ret))
theorem ac65_ok : cFunc Tryz.prog [1000024] [(0,[2],[]),(1,[0,3,4,5,6,7,8,9,10],[])] Tryz.f65 = some (ac65,[.tmp 2],11) := by kernel_rfl
/-- as many goals as a body may have -/
def goalsB (l : List Tm) : Bool := decide (l.length ≤ 6) && l.all Tm.goal
theorem any_not (l : List Tm) : (l.any fun t => !t.goal) = !l.all Tm.goal := by
  induction l with
  | nil => rfl
  | cons t l ih => simp only [List.any_cons, List.all_cons, ih, Bool.not_and]
theorem notGoal_calls (t : Tm) (ht : t.fits) (H : Heap) : ACalls Tryz.prog 86 [.agg (t.row.map .d)] H (fun r H' => H' = H ∧ r = .c (.d (.bool (!t.goal)))) := by
  refine acalls Tryz.func86 (by kernel_rfl) ac86_ok fun hf => ?_
  simp -implicitDefEqProofs [ac86, row_len, take_row, pure_d, re_d, go_sem, -List.set_cons_succ, -List.set_cons_zero]
  refine qcall_pure (goalImpl_calls t ht) hf rfl ?_
  simp -implicitDefEqProofs [go_sem, -List.set_cons_succ, -List.set_cons_zero]
theorem goalsImpl_calls (l : List Tm) (hl : l.length ≤ 1048576) (h : ∀ t ∈ l, t.fits) (H : Heap) : ACalls Tryz.prog 65 [.c (.d (.sl (l.map Tm.row)))] H (fun r H' => H' = H ∧ r = .c (.d (.bool (goalsB l)))) := by
  refine acalls Tryz.func65 (by kernel_rfl) ac65_ok fun hf => ?_
  have hli : inR .i64 (l.length : Int) := small_i64 (by omega) (by omega)
  by_cases h6 : l.length ≤ 6
  · have h6' : (l.length : Int) ≤ 6 := by omega
    simp -implicitDefEqProofs [ac65, hli, h6', go_sem, -List.set_cons_succ, -List.set_cons_zero]
    refine qcall_pure (tmF_any 86 (fun t => !t.goal) l hl fun t ht => notGoal_calls t (h t ht)) hf rfl ?_
    rw [any_not]
    simp -implicitDefEqProofs [h6, goalsB, go_sem, -List.set_cons_succ, -List.set_cons_zero]
  · have h6' : ¬ (l.length : Int) ≤ 6 := by omega
    simp -implicitDefEqProofs [ac65, hli, h6', h6, goalsB, go_sem, -List.set_cons_succ, -List.set_cons_zero]
theorem goal_take {l : List Tm} {i : Nat} (h : i < l.length) (ha : ∀ t ∈ l.take i, t.goal = true) (hb : l[i].goal = true) : ∀ t ∈ l.take (i + 1), t.goal = true := by
  intro t h'
  rw [List.take_succ_eq_append_getElem h, List.mem_append] at h'
  rcases h' with h' | h'
  · exact ha t h'
  · simp at h'; subst h'; exact hb
-- 73 loop.example/prologserver/spec.l1Vars params 2 ntmps 44
-- loop head live: [0,3,5]
-- loop head live: [0,3,6]
def ac73 : Cd := .seq (.region [oc 3 (.box (.t 1)),
 oc 4 (.mv (.k (.c (.full []))))] [1,4])
 (.seq (.seq (.region [oc 7 (.fieldAddr 0 (.t 3)),
 oc 8 (.load none (.t 7)),
 oc 9 (.bin .eql (.t 8) (ki 1))] [7,8])
 (.cond (.t 9)
 (.seq (.seq (.region [oc 5 (.mv (ki 0))] [9])
 (.block 0 (.loop (.seq (.seq (.region [oa 10 5,
 oa 11 0,
 oc 12 (.len 1 (.t 11)),
 oc 13 (.bin .lss (.t 10) (.t 12))] [10,11,12])
 (.cond (.t 13)
 (.skip)
 (.exit 0)))
 (.seq (.block 1 (.seq (.region [oa 16 0,
 oa 17 5,
 oc 18 (.indexAddr 1 (.t 16) (.t 17)),
 oc 20 (.fieldAddr 1 (.t 3)),
 oc 19 (.load none (.t 18)),
 oc 21 (.load none (.t 20)),
 oc 22 (.bin .eql (.t 19) (.t 21))] [13,16,17,18,19,20,21])
 (.cond (.t 22)
 (.seq (.region [oa 23 0,
 oa 4 23] [0,3,5,22,23])
 (.ret))
 (.skip))))
 (.region [oa 14 5,
 oc 15 (.bin .add (.t 14) (ki 1)),
 oa 5 15] [4,14,15,22]))))))
 (.seq (.region [oa 24 0,
 oc 25 (.fieldAddr 1 (.t 3)),
 oc 26 (.load none (.t 25)),
 oc 27 (.buildSlice 1 1 [(.int .i64 0)] [(0,(.t 26))]),
 oc 28 (.append false 1 (.t 24) (.t 27)),
 oa 4 28] [0,3,24,25,26,27,28])
 (.ret)))
 (.skip)))
 (.seq (.seq (.region [oc 6 (.mv (ki 0))] [4,9])
 (.block 2 (.loop (.seq (.seq (.region [oa 29 6,
 oc 30 (.fieldAddr 3 (.t 3)),
 oc 31 (.load none (.t 30)),
 oc 32 (.len 1 (.t 31)),
 oc 33 (.bin .lss (.t 29) (.t 32))] [29,30,31,32])
 (.cond (.t 33)
 (.skip)
 (.exit 2)))
 (.seq (.block 3 (.region [oa 36 0,
 oc 37 (.fieldAddr 3 (.t 3)),
 oc 38 (.load none (.t 37)),
 oa 39 6,
 oc 40 (.indexAddr 4 (.t 38) (.t 39)),
 oc 41 (.load (some 4) (.t 40)),
 oc 42 (.call true 73 [(.t 36),(.t 41)]),
 oa 0 42] [33,36,37,38,39,40,41,42]))
 (.region [oa 34 6,
 oc 35 (.bin .add (.t 34) (ki 1)),
 oa 6 35] [34,35]))))))
 (.seq (.region [oa 43 0,
 oa 4 43] [0,43])
 (.ret))))
theorem ac73_ok : cFunc Tryz.prog [73] [(0,[1,4],[]),(1,[7,8],[]),(2,[9],[]),(3,[10,11,12],[]),(5,[13,16,17,18,19,20,21],[0,1,2,4,3,5,6]),(6,[0,3,5,22,23],[]),(4,[4,14,15,22],[]),(7,[0,3,24,25,26,27,28],[]),(8,[4,9],[]),(9,[29,30,31,32],[]),(11,[33,36,37,38,39,40,41,42],[]),(10,[34,35],[]),(12,[0,43],[])] Tryz.f73 = some (ac73,[.tmp 4],44) := by kernel_rfl
-- 55 loop.example/prologserver/spec.l6Vars params 1 ntmps 19
-- loop head live: [0,3,4]
def ac55 : Cd := .seq (.region [oc 2 (.mv (.k (.c (.full []))))] [2])
 (.seq (.region [oc 5 (.buildSlice 1 0 [(.int .i64 0)] []),
 oa 3 5] [5])
 (.seq (.seq (.region [oc 4 (.mv (ki 0))] [])
 (.block 0 (.loop (.seq (.seq (.region [oa 6 4,
 oa 7 0,
 oc 8 (.len 1 (.t 7)),
 oc 9 (.bin .lss (.t 6) (.t 8))] [6,7,8])
 (.cond (.t 9)
 (.skip)
 (.exit 0)))
 (.seq (.block 1 (.region [oa 12 3,
 oa 13 0,
 oa 14 4,
 oc 15 (.indexAddr 4 (.t 13) (.t 14)),
 oc 16 (.load (some 4) (.t 15)),
 oc 17 (.call true 73 [(.t 12),(.t 16)]),
 oa 3 17] [9,12,13,14,15,16,17]))
 (.region [oa 10 4,
 oc 11 (.bin .add (.t 10) (ki 1)),
 oa 4 11] [10,11]))))))
 (.seq (.region [oa 18 3,
 oa 2 18] [3,18])
 (.ret))))
theorem ac55_ok : cFunc Tryz.prog [73] [(0,[2],[]),(1,[5],[]),(2,[],[]),(3,[6,7,8],[]),(5,[9,12,13,14,15,16,17],[]),(4,[10,11],[]),(6,[3,18],[])] Tryz.f55 = some (ac55,[.tmp 2],19) := by kernel_rfl
theorem call_addL {P : Program} {f : FuncId} {args : List A} {sl : List A} {ext loc H₂ : Heap} {j : Nat} {g : Ob} {r r0 : A} {K : A → St → Prop} (hc : ACalls P f args H₂ (fun r' H' => H' = H₂.set (ext.length + j) g ∧ r' = r0)) (hg : Ob.re ext.length g = g) (hr : r0 = A.re ext.length r)
    (hf : Obs.fits ext.length 0 ext) (hH : H₂ = ext ++ loc.map (Ob.re ext.length)) (hk : K r ⟨sl, ext, loc.set j g⟩) : ACalls P f args H₂ (CallK K ⟨sl, ext, loc⟩) := by
  subst hH
  refine hc.mono fun r' H' ⟨h1, h2⟩ => ⟨ext, loc.set j g, r, ?_, rfl, by simp, hf, by rw [h2, hr], hk⟩
  rw [h1, List.set_append_right _ _ (by omega), Nat.add_sub_cancel_left, List.map_set, hg]
theorem sl_kill : ∀ (l : List A) (i : Nat), Sl.le l (l.set i .u)
  | [], _ => trivial
  | a :: l, 0 => ⟨.u a, slr l⟩
  | a :: l, i + 1 => ⟨.refl a, sl_kill l i⟩
theorem finK_kill {rs : List Rv} {Q : A → Heap → Prop} {sl : List A} {ext loc : Heap} (i : Nat) (r : A) (hlo : As.lo ext.length 0 (sl.set i .u)) (hok : r_ ⟨sl.set i .u, ext, []⟩ rs) (hr : resRaw ⟨sl.set i .u, ext, []⟩ rs = some r) (hq : Q (r.re ext.length) ext) : FinK rs Q .ret ⟨sl, ext, loc⟩ :=
  ⟨⟨sl.set i .u, ext, []⟩, St.le_cut loc (sl_kill sl i) hlo rfl trivial, hok, r, hr, by simpa using hq⟩
/-- a term whose variables have nothing below them -/
inductive Tm.clean : Tm → Prop
  | mk {k n : Int} {s : List UInt8} {l : List Tm} : (k = 1 → l = []) → (∀ t ∈ l, t.clean) → (Tm.mk k n s l).clean
def AddS (t : Tm) : Prop := ∀ (l : List Int) (H : Heap) (i : Nat), H[i]? = some (.grow l.length 1) → l.length + t.sub ≤ 3000000 → ACalls Tryz.prog 73 [.c (.own (.e i) l.length (intRows l)), .agg (t.row.map .d)] H
  (fun r H' => H' = H.set i (.grow (t.vars l).length 1) ∧ r = .c (.own (.e i) (t.vars l).length (intRows (t.vars l))))
theorem l1Vars_calls : ∀ t : Tm, t.fits → t.clean → AddS t := by
  refine Tm.ind fun k n s kids ih hfits hclean l H i hgi hlen => ?_
  obtain ⟨hk, hn, hs, hl, hkids⟩ := hfits
  obtain ⟨hck, hckids⟩ := hclean
  rw [sub_mk] at hlen
  have hilt : i < H.length := (List.getElem?_eq_some_iff.1 hgi).1
  have hli : inR .i64 (kids.length : Int) := small_i64 (by omega) (by omega)
  have hll : inR .i64 (l.length : Int) := small_i64 (by omega) (by omega)
  have hself : H.set i (.grow l.length 1) = H := by
    refine List.ext_getElem? fun j => ?_
    by_cases hj : j = i
    · subst hj; rw [List.getElem?_set_self hilt, hgi]
    · rw [List.getElem?_set_ne (fun h => hj h.symm)]
  refine acallsK Tryz.func73 (by kernel_rfl) ac73_ok fun hf => ?_
  simp -implicitDefEqProofs [ac73, row_mk, hli, go_sem, -List.set_cons_succ, -List.set_cons_zero]
  refine ⟨fun hk1 => ?_, fun hk1 => ?_⟩
  · obtain rfl := hk1
    obtain rfl := hck rfl
    have hv : (Tm.mk 1 n s []).vars l = addI l n := by rw [vars_mk, if_pos rfl, varsL_nil]
    rw [hv]
    refine loop_set (σ := Nat) (fun j => [(5, .c (.d (.int .i64 j)))]) (fun _ => H) (fun _ => [.cells [.d (.int .i64 1), .d (.int .i64 n), .d (.str s), .d (.sl [])]]) (fun j => j ≤ l.length ∧ n ∉ l.take j) (fun j => l.length - j) 0 (by simp [setAll]) ⟨Nat.zero_le _, by simp⟩ ?_
    rintro j ⟨hj, hno⟩
    simp -implicitDefEqProofs [setAll, hll, intRows_len, go_sem, -List.set_cons_succ, -List.set_cons_zero]
    refine ⟨fun hjl => ?_, fun hje => ?_⟩
    · have hadd : inR .i64 ((j : Int) + 1) := small_i64 (by omega) (by omega)
      refine row_nat [.int .i64 l[j]] (by simp [intRows, hjl]) rfl ?_
      simp -implicitDefEqProofs [hadd, go_sem, -List.set_cons_succ, -List.set_cons_zero]
      refine ⟨fun he => ?_, fun he => ?_⟩
      · have : addI l n = l := by rw [addI, if_pos]; subst he; simp
        rw [this]
        exact finK_cut _ (by simp [hilt, Sl.le, A.le_refl_iff, A.le_u_iff, As.lo, A.lo, C.lo, Ref.lo, Cs.lo, Obs.lo, Ob.lo, setAll, and_true, true_and, List.length_nil, List.length_cons]) ⟨trivial, trivial⟩ rfl ⟨hself.symm, rfl⟩
      · refine loop_back (j + 1) (by simp [setAll]) ⟨hjl, ?_⟩ (by show l.length - (j + 1) < l.length - j; omega)
        rw [List.take_succ_eq_append_getElem hjl, List.mem_append]
        rintro (h' | h')
        · exact hno h'
        · simp at h'; exact he h'.symm
    · rw [List.take_of_length_le hje] at hno
      have : addI l n = l ++ [n] := by rw [addI, if_neg]; simpa using hno
      rw [this]
      simp -implicitDefEqProofs [hgi, allLen_ints, go_sem, -List.set_cons_succ, -List.set_cons_zero]
      refine ⟨by have := intRows_len l; unfold maxApp; omega, ?_⟩
      exact finK_cut _ (by simp [hilt, Sl.le, A.le_refl_iff, A.le_u_iff, As.lo, A.lo, C.lo, Ref.lo, Cs.lo, Obs.lo, Ob.lo, setAll, and_true, true_and, List.length_nil, List.length_cons]) ⟨trivial, trivial⟩ rfl ⟨by simp, by simp [intRows, A.re, C.re, Ref.re, A.val]⟩
  · have hv : (Tm.mk k n s kids).vars l = varsL kids l := by rw [vars_mk, if_neg hk1]
    rw [hv]
    refine loop_set (σ := Nat) (fun j => [(6, .c (.d (.int .i64 j))), (0, .c (.own (.e i) (varsL (kids.take j) l).length (intRows (varsL (kids.take j) l))))]) (fun j => H.set i (.grow (varsL (kids.take j) l).length 1)) (fun _ => [.cells [.d (.int .i64 k), .d (.int .i64 n), .d (.str s), .d (.sl (kids.map Tm.row))]]) (fun j => j ≤ kids.length) (fun j => kids.length - j) 0 (by simp [setAll, varsL_nil, hself, intRows]) (Nat.zero_le _) ?_
    intro j hj
    obtain ⟨W, hW⟩ : ∃ W, W = varsL (kids.take j) l := ⟨_, rfl⟩
    have hWH : (H.set i (.grow W.length 1))[i]? = some (.grow W.length 1) := List.getElem?_set_self hilt
    have hfW : Obs.fits (H.set i (.grow W.length 1)).length 0 (H.set i (.grow W.length 1)) := by rw [List.length_set]; exact Obs_fits_set hf trivial
    rw [← hW]
    simp -implicitDefEqProofs [setAll, hli, go_sem, -List.set_cons_succ, -List.set_cons_zero]
    refine ⟨fun hjl => ?_, fun hje => ?_⟩
    · have hadd : inR .i64 ((j : Int) + 1) := small_i64 (by omega) (by omega)
      have hw1 := varsL_succ kids l hjl
      rw [← hW] at hw1
      have hs1 := cnt_take_sub kids hjl
      have hWb : W.length + kids[j].sub ≤ 3000000 := by
        have h1 := varsL_len (kids.take j) l
        rw [hW]; omega
      refine row_of hjl (row_len _) ?_
      simp -implicitDefEqProofs [row_len, take_row, pure_d, re_d, go_sem, -List.set_cons_succ, -List.set_cons_zero]
      refine call_addE (i := i) (ih kids[j] (List.getElem_mem hjl) (hkids _ (List.getElem_mem hjl)) (hckids _ (List.getElem_mem hjl)) W _ i (by rw [List.getElem?_append_left (by simpa using hilt)]; exact hWH) hWb) trivial (by simpa using hilt) rfl (by simpa using hfW) (by simp [Ob.re, C.re, re_d]) ?_
      simp -implicitDefEqProofs [hadd, go_sem, -List.set_cons_succ, -List.set_cons_zero]
      rw [← hw1]
      exact loop_back (j + 1) (by simp [setAll]) hjl (by show kids.length - (j + 1) < kids.length - j; omega)
    · obtain rfl : j = kids.length := by omega
      have hWV : varsL kids l = W := by rw [hW, List.take_length]
      rw [hWV]
      exact finK_kill 3 _ (by simp [hilt, Sl.le, A.le_refl_iff, A.le_u_iff, As.lo, A.lo, C.lo, Ref.lo, Cs.lo, Obs.lo, Ob.lo, setAll, and_true, true_and, List.length_nil, List.length_cons]) ⟨trivial, trivial⟩ rfl ⟨rfl, rfl⟩
namespace Sv
-- 113 loop.example/prologserver/spec.l3Walk params 2 ntmps 30
-- loop head live: [1,2,4]
def ac113 : Cd := .seq (.region [oc 2 (.box (.t 0)),
 oc 4 (.alloc [(.d (.int .i64 0)),(.d (.int .i64 0)),(.d (.str [])),(.full [])])] [0])
 (.seq (.block 0 (.loop (.seq (.seq (.region [oc 5 (.fieldAddr 0 (.t 2)),
 oc 6 (.load none (.t 5)),
 oc 7 (.bin .eql (.t 6) (ki 1)),
 oa 8 7,
 ⟨some 9,.fieldAddr 1 (.t 2),some (8,true)⟩,
 ⟨some 10,.load none (.t 9),some (8,true)⟩,
 ⟨some 11,.mv (.t 1),some (8,true)⟩,
 ⟨some 12,.len 1 (.t 11),some (8,true)⟩,
 ⟨some 13,.bin .lss (.t 10) (.t 12),some (8,true)⟩,
 oc 14 (.pick (.t 8) (.t 13) (.k (.c (.d (.bool false))))),
 oa 15 14,
 ⟨some 16,.mv (.t 1),some (15,true)⟩,
 ⟨some 17,.fieldAddr 1 (.t 2),some (15,true)⟩,
 ⟨some 18,.load none (.t 17),some (15,true)⟩,
 ⟨some 19,.indexAddr 4 (.t 16) (.t 18),some (15,true)⟩,
 ⟨some 20,.fieldAddr 0 (.t 19),some (15,true)⟩,
 ⟨some 21,.load none (.t 20),some (15,true)⟩,
 ⟨some 22,.bin .neq (.t 21) (ki 0),some (15,true)⟩,
 oc 23 (.pick (.t 15) (.t 22) (.k (.c (.d (.bool false)))))] [5,6,7,8,9,10,11,12,13,14,15,16,17,18,19,20,21,22])
 (.cond (.t 23)
 (.skip)
 (.exit 0)))
 (.block 1 (.region [oa 24 1,
 oc 25 (.fieldAddr 1 (.t 2)),
 oc 26 (.load none (.t 25)),
 oc 27 (.indexAddr 4 (.t 24) (.t 26)),
 oc 28 (.load (some 4) (.t 27)),
 ⟨none,.store 4 (.t 2) (.t 28),none⟩] [23,24,25,26,27,28])))))
 (.seq (.region [oc 29 (.load (some 4) (.t 2)),
 ⟨none,.store 4 (.t 4) (.t 29),none⟩] [2,29])
 (.ret)))
theorem ac113_ok : cFunc Tryz.prog [] [(0,[0],[]),(1,[5,6,7,8,9,10,11,12,13,14,15,16,17,18,19,20,21,22],[]),(2,[23,24,25,26,27,28],[]),(3,[2,29],[])] Tryz.f113 = some (ac113,[.cell 4 (some 4)],30) := by kernel_rfl
namespace R
-- 113 loop.example/prologserver/spec.l3Walk params 2 ntmps 30
-- loop head live: [1,2,4]
def ac113 : Cd := .seq (.region [oc 2 (.box (.t 0)),
 oc 4 (.alloc [(.d (.int .i64 0)),(.d (.int .i64 0)),(.d (.str [])),(.full [])])] [0])
 (.seq (.block 0 (.loop (.seq (.seq (.region [oc 5 (.fieldAddr 0 (.t 2)),
 oc 6 (.load none (.t 5)),
 oc 7 (.bin .eql (.t 6) (ki 1)),
 oa 8 7,
 ⟨some 9,.fieldAddr 1 (.t 2),some (8,true)⟩,
 ⟨some 10,.load none (.t 9),some (8,true)⟩,
 ⟨some 11,.mv (.t 1),some (8,true)⟩,
 ⟨some 12,.len 1 (.t 11),some (8,true)⟩,
 ⟨some 13,.bin .lss (.t 10) (.t 12),some (8,true)⟩,
 oc 14 (.pick (.t 8) (.t 13) (.k (.c (.d (.bool false))))),
 oa 15 14,
 ⟨some 16,.mv (.t 1),some (15,true)⟩,
 ⟨some 17,.fieldAddr 1 (.t 2),some (15,true)⟩,
 ⟨some 18,.load none (.t 17),some (15,true)⟩,
 ⟨some 19,.indexAddr 4 (.t 16) (.t 18),some (15,true)⟩,
 ⟨some 20,.fieldAddr 0 (.t 19),some (15,true)⟩,
 ⟨some 21,.loadG none (.t 20),some (15,true)⟩,
 ⟨some 22,.bin .neq (.t 21) (ki 0),some (15,true)⟩,
 oc 23 (.pick (.t 15) (.t 22) (.k (.c (.d (.bool false)))))] [5,6,7,8,9,10,11,12,13,14,15,16,17,18,19,20,21,22])
 (.cond (.t 23)
 (.skip)
 (.exit 0)))
 (.block 1 (.region [oa 24 1,
 oc 25 (.fieldAddr 1 (.t 2)),
 oc 26 (.load none (.t 25)),
 oc 27 (.indexAddr 4 (.t 24) (.t 26)),
 oc 28 (.load (some 4) (.t 27)),
 ⟨none,.store 4 (.t 2) (.t 28),none⟩] [23,24,25,26,27,28])))))
 (.seq (.region [oc 29 (.load (some 4) (.t 2)),
 ⟨none,.store 4 (.t 4) (.t 29),none⟩] [2,29])
 (.ret)))
theorem ac113_ok : cFunc Tryz.prog [14000020] [(0,[0],[]),(1,[5,6,7,8,9,10,11,12,13,14,15,16,17,18,19,20,21,22],[]),(2,[23,24,25,26,27,28],[]),(3,[2,29],[])] Tryz.f113 = some (ac113,[.cell 4 (some 4)],30) := by kernel_rfl
end R
theorem store_fits {N : Nat} {L : List Tm} (h : Sok N L) {u : Tm} (hu : u ∈ L) : u.k = 0 ∨ Tz N u := by
  rcases h.ent u hu with rfl | h
  · exact .inl rfl
  · exact .inr h
/-- a walk, where the store is told as data -/
theorem walkD_calls {N : Nat} {L : List Tm} (hN : N ≤ 100000) (hL : Sok N L) (t : Tm) (ht : Tz N t) (H : Heap) : ACalls Tryz.prog 113 [.agg (t.row.map .d), .c (.d (.sl (L.map Tm.row)))] H (fun r H' => H' = H ∧ r = .agg ((wk (lkL L) t).row.map .d)) := by
  refine acalls Tryz.func113 (by kernel_rfl) ac113_ok fun hf => ?_
  obtain ⟨W, hW⟩ := hL.wt
  have hlen := hL.len
  have hli : inR .i64 (L.length : Int) := small_i64 (by omega) (by omega)
  simp -implicitDefEqProofs [ac113, hli, go_sem, -List.set_cons_succ, -List.set_cons_zero]
  refine loop_set (σ := Tm) (fun _ => ([] : List (Nat × A))) (fun _ => H) (fun u => [.cells (u.row.map .d), .cells [.d (.int .i64 0), .d (.int .i64 0), .d (.str []), .full []]]) (fun u => Tz N u ∧ wk (lkL L) u = wk (lkL L) t) (fun u => u.tw W) t (by simp [setAll]) ⟨ht, rfl⟩ ?_
  rintro ⟨k, n, s, l⟩ ⟨hu, hwk⟩
  by_cases hk : k = 1
  · subst hk
    obtain ⟨h0, h1, e⟩ := hu.1.isVar rfl
    have h0 : 0 ≤ n := h0
    have h1 : n < N := h1
    cases e
    have hlt : n.toNat < L.length := by omega
    have hnl : n < (L.length : Int) := by omega
    have hget : L[n.toNat]? = some L[n.toNat] := List.getElem?_eq_getElem hlt
    have hlk : lkL L n = if (L[n.toNat]).k = 0 then none else some L[n.toNat] := by
      unfold lkL
      rw [if_neg (by omega), hget]
    generalize hue : L[n.toNat] = v at hget hlk
    have hvs : v.k = 0 ∨ Tz N v := store_fits hL (List.mem_of_getElem? hget)
    have hrow : (L.map Tm.row)[n.toNat]? = some v.row := by rw [List.getElem?_map, hget]; rfl
    obtain ⟨k2, n2, s2, l2⟩ := v
    simp -implicitDefEqProofs [setAll, row_mk, hli, hnl, go_sem, -List.set_cons_succ, -List.set_cons_zero]
    refine row_int _ h0 hrow (row_len _) ?_
    simp -implicitDefEqProofs [row_mk, go_sem, -List.set_cons_succ, -List.set_cons_zero]
    by_cases hk2 : k2 = 0
    · subst hk2
      have hend : wk (lkL L) (.mk 1 n [] []) = .mk 1 n [] [] := wk_none (t := .mk 1 n [] []) (by rw [show (Tm.mk 1 n [] []).n = n from rfl, hlk]; rfl)
      rw [← hwk, hend]
      simp -implicitDefEqProofs [row_mk, hf, go_sem, -List.set_cons_succ, -List.set_cons_zero]
    · have hl2 : lkL L n = some (.mk k2 n2 s2 l2) := hlk.trans (if_neg hk2)
      have hv2 : Tz N (.mk k2 n2 s2 l2) := hvs.resolve_left hk2
      simp -implicitDefEqProofs [hk2, go_sem, -List.set_cons_succ, -List.set_cons_zero]
      refine row_int _ h0 hrow (row_len _) ?_
      simp -implicitDefEqProofs [row_mk, hf, go_sem, -List.set_cons_succ, -List.set_cons_zero]
      refine loop_back (Tm.mk k2 n2 s2 l2) (by simp [setAll, row_mk]) ⟨hv2, ?_⟩ ?_
      · rw [← hwk]
        exact (wk_some ⟨W, hW⟩ (t := .mk 1 n [] []) rfl hl2).symm
      · have := hW.lt _ _ hl2
        rw [tw_var (t := .mk 1 n [] []) rfl]
        exact this
  · have hend : wk (lkL L) (.mk k n s l) = .mk k n s l := wk_nonvar (t := .mk k n s l) hk
    have hkb : (k == 1) = false := by simp [hk]
    rw [← hwk, hend]
    simp -implicitDefEqProofs [setAll, hkb, row_mk, hli, go_sem, -List.set_cons_succ, -List.set_cons_zero]
    refine row_off [.int .i64 0, .int .i64 0, .str [], .sl []] ?_
    simp -implicitDefEqProofs [hkb, hk, row_mk, hf, go_sem, -List.set_cons_succ, -List.set_cons_zero]
/-- .. where it is told as an own row -/
theorem walkR_calls {N : Nat} {L : List Tm} (hN : N ≤ 100000) (hL : Sok N L) (t : Tm) (ht : Tz N t) (H : Heap) (i : Nat) (hi : H[i]? = some (.rows (L.map Tm.row))) : ACalls Tryz.prog 113 [.agg (t.row.map .d), .c (.fsl (.e i) N 4)] H (fun r H' => H' = H ∧ r = .agg ((wk (lkL L) t).row.map .d)) := by
  refine acalls Tryz.func113 (by kernel_rfl) R.ac113_ok fun hf => ?_
  obtain ⟨W, hW⟩ := hL.wt
  have hlen := hL.len
  have hli : inR .i64 (N : Int) := small_i64 (by omega) (by omega)
  simp -implicitDefEqProofs [R.ac113, hli, go_sem, -List.set_cons_succ, -List.set_cons_zero]
  refine loop_set (σ := Tm) (fun _ => ([] : List (Nat × A))) (fun _ => H) (fun u => [.cells (u.row.map .d), .cells [.d (.int .i64 0), .d (.int .i64 0), .d (.str []), .full []]]) (fun u => Tz N u ∧ wk (lkL L) u = wk (lkL L) t) (fun u => u.tw W) t (by simp [setAll]) ⟨ht, rfl⟩ ?_
  rintro ⟨k, n, s, l⟩ ⟨hu, hwk⟩
  by_cases hk : k = 1
  · subst hk
    obtain ⟨h0, h1, e⟩ := hu.1.isVar rfl
    have h0 : 0 ≤ n := h0
    have h1 : n < N := h1
    cases e
    have hlt : n.toNat < L.length := by omega
    have hnl : n.toNat < N := by omega
    have hget : L[n.toNat]? = some L[n.toNat] := List.getElem?_eq_getElem hlt
    have hlk : lkL L n = if (L[n.toNat]).k = 0 then none else some L[n.toNat] := by
      unfold lkL
      rw [if_neg (by omega), hget]
    generalize hue : L[n.toNat] = v at hget hlk
    have hvs : v.k = 0 ∨ Tz N v := store_fits hL (List.mem_of_getElem? hget)
    have hrow : (L.map Tm.row)[n.toNat]? = some v.row := by rw [List.getElem?_map, hget]; rfl
    obtain ⟨k2, n2, s2, l2⟩ := v
    simp -implicitDefEqProofs [setAll, row_mk, hli, hnl, hi, hrow, go_sem, -List.set_cons_succ, -List.set_cons_zero]
    refine ⟨fun _ => h0, fun _ => ⟨h1, fun hk2 => ⟨h0, hf, ?_⟩, fun hk2 => ⟨hf, ?_⟩⟩, fun h => absurd h (by omega)⟩
    · have hl2 : lkL L n = some (.mk k2 n2 s2 l2) := hlk.trans (if_neg hk2)
      have hv2 : Tz N (.mk k2 n2 s2 l2) := hvs.resolve_left hk2
      refine loop_back (Tm.mk k2 n2 s2 l2) (by simp [setAll, row_mk]) ⟨hv2, ?_⟩ ?_
      · rw [← hwk]
        exact (wk_some ⟨W, hW⟩ (t := .mk 1 n [] []) rfl hl2).symm
      · have := hW.lt _ _ hl2
        rw [tw_var (t := .mk 1 n [] []) rfl]
        exact this
    · subst hk2
      have hend : wk (lkL L) (.mk 1 n [] []) = .mk 1 n [] [] := wk_none (t := .mk 1 n [] []) (by rw [show (Tm.mk 1 n [] []).n = n from rfl, hlk]; rfl)
      rw [← hwk, hend]
      simp [row_mk]
  · have hend : wk (lkL L) (.mk k n s l) = .mk k n s l := wk_nonvar (t := .mk k n s l) hk
    have hkb : (k == 1) = false := by simp [hk]
    rw [← hwk, hend]
    simp -implicitDefEqProofs [setAll, hkb, row_mk, hli, hf, go_sem, -List.set_cons_succ, -List.set_cons_zero]
end Sv
namespace Sv
-- 114 loop.example/prologserver/spec.l3Within params 3 ntmps 50
-- loop head live: [0,2,7,8]
def ac114 : Cd := .seq (.region [oc 4 (.box (.t 1)),
 oc 6 (.mv (.k (.c (.d (.bool false)))))] [1,6])
 (.seq (.region [oc 9 (.load (some 4) (.t 4)),
 oc 10 (.call true 73 [(.k (.c (.full []))),(.t 9)]),
 oa 7 10] [4,9,10])
 (.seq (.seq (.region [oc 8 (.mv (ki 0))] [])
 (.block 0 (.loop (.seq (.seq (.region [oa 11 8,
 oa 12 7,
 oc 13 (.len 1 (.t 12)),
 oc 14 (.bin .lss (.t 11) (.t 13))] [11,12,13])
 (.cond (.t 14)
 (.skip)
 (.exit 0)))
 (.seq (.block 1 (.seq (.seq (.region [oa 17 7,
 oa 18 8,
 oc 19 (.indexAddr 1 (.t 17) (.t 18)),
 oc 20 (.load none (.t 19)),
 oa 21 0,
 oc 22 (.bin .eql (.t 20) (.t 21))] [14,17,18,19,20,21])
 (.cond (.t 22)
 (.seq (.region [oc 6 (.mv (.k (.c (.d (.bool true)))))] [0,2,7,8,22])
 (.ret))
 (.skip)))
 (.seq (.region [oa 23 7,
 oa 24 8,
 oc 25 (.indexAddr 1 (.t 23) (.t 24)),
 oc 26 (.load none (.t 25)),
 oa 27 2,
 oc 28 (.len 1 (.t 27)),
 oc 29 (.bin .lss (.t 26) (.t 28)),
 oa 30 29,
 ⟨some 31,.mv (.t 2),some (30,true)⟩,
 ⟨some 32,.mv (.t 7),some (30,true)⟩,
 ⟨some 33,.mv (.t 8),some (30,true)⟩,
 ⟨some 34,.indexAddr 1 (.t 32) (.t 33),some (30,true)⟩,
 ⟨some 35,.load none (.t 34),some (30,true)⟩,
 ⟨some 36,.indexAddr 4 (.t 31) (.t 35),some (30,true)⟩,
 ⟨some 37,.fieldAddr 0 (.t 36),some (30,true)⟩,
 ⟨some 38,.loadG none (.t 37),some (30,true)⟩,
 ⟨some 39,.bin .neq (.t 38) (ki 0),some (30,true)⟩,
 oc 40 (.pick (.t 30) (.t 39) (.k (.c (.d (.bool false)))))] [6,22,23,24,25,26,27,28,29,30,31,32,33,34,35,36,37,38,39])
 (.cond (.t 40)
 (.region [oa 41 7,
 oa 42 2,
 oa 43 7,
 oa 44 8,
 oc 45 (.indexAddr 1 (.t 43) (.t 44)),
 oc 46 (.load none (.t 45)),
 oc 47 (.indexAddr 4 (.t 42) (.t 46)),
 oc 48 (.load (some 4) (.t 47)),
 oc 49 (.call true 73 [(.t 41),(.t 48)]),
 oa 7 49] [40,41,42,43,44,45,46,47,48,49])
 (.skip)))))
 (.region [oa 15 8,
 oc 16 (.bin .add (.t 15) (ki 1)),
 oa 8 16] [15,16,40]))))))
 (.seq (.region [oc 6 (.mv (.k (.c (.d (.bool false)))))] [])
 (.ret))))
theorem ac114_ok : cFunc Tryz.prog [73,14000037] [(0,[1,6],[]),(1,[4,9,10],[]),(2,[],[]),(3,[11,12,13],[]),(5,[14,17,18,19,20,21],[]),(6,[0,2,7,8,22],[]),(7,[6,22,23,24,25,26,27,28,29,30,31,32,33,34,35,36,37,38,39],[]),(8,[40,41,42,43,44,45,46,47,48,49],[]),(4,[15,16,40],[]),(9,[],[])] Tryz.f114 = some (ac114,[.tmp 6],50) := by kernel_rfl
/-- a function that is handed nil among other things -/
theorem acalls_token2 {P : Program} {f : FuncId} {pre post : List A} {sz : Nat} {H : Heap} {Q : A → Heap → Prop} (h : ACalls P f (pre ++ .c (.own (.e H.length) 0 []) :: post) (H ++ [.grow 0 sz]) Q) : ACalls P f (pre ++ .c (.full []) :: post) H Q := by
  refine ⟨h.1, fun w ι cargs hsim hl ha => ?_⟩
  have hιl : ι.length = H.length := hsim.len
  have hx0 : Ext w ι w (ι ++ [.grow 0 none]) := (Ext.refl w ι).push (k := .grow 0 none) (fun b hb => hb.elim)
  have hs1 : Sim w (ι ++ [.grow 0 none]) (H ++ [Ob.grow 0 sz]).length (H ++ [.grow 0 sz]) :=
    (hsim.up (m := (H ++ [Ob.grow 0 sz]).length) (Nat.le_refl _)).push (k := .grow 0 none) (o := .grow 0 sz) (Ext.refl w ι) (fun _ _ => rfl) (fun b hb => hb.elim) rfl
  refine (h.2 w _ cargs hs1 (by simpa using hl) fun i a v hi hv => ?_).mono fun e w' ⟨r, H', ι', v, he, hq, hs', hr', hx, hle⟩ => ⟨r, H', ι', v, he, hq, hs', hr', hx0.trans hx, by simp at hle; omega⟩
  by_cases hp : i = pre.length
  · subst hp
    simp at hi
    subst hi
    have := ha pre.length (.c (.full [])) v (by simp) hv
    cases this with
    | c h1 => cases h1 with
      | @full _ ad len hd =>
        have hlen : len = 0 := by
          rcases RD.sl_iff.1 hd with ⟨_, h, _⟩ | ⟨_, _, _, _, h, _⟩
          · exact h
          · simpa using h
        subst hlen
        exact .c (.own (.nil _) ⟨0, none, by simp [idx, ← hιl], Nat.le_refl _, fun _ => by cases ad <;> simp [Cur]⟩)
  · have hget : (pre ++ A.c (.full []) :: post)[i]? = some a := by
      rcases Nat.lt_or_ge i pre.length with h1 | h1
      · rw [List.getElem?_append_left h1] at hi ⊢; exact hi
      · rw [List.getElem?_append_right h1] at hi ⊢
        obtain ⟨m, hm⟩ : ∃ m, i - pre.length = m + 1 := ⟨i - pre.length - 1, by omega⟩
        rw [hm] at hi ⊢
        exact hi
    exact ((ha i a v hget hv).up (m := (H ++ [Ob.grow 0 sz]).length) (by omega)).mono hx0
/-! the variables of a term -/
theorem tz_clean {N : Nat} {t : Tm} (h : Tn N t) : t.clean := by
  induction h with
  | var _ _ => exact .mk (fun _ => rfl) (by simp)
  | int _ _ _ _ ih => exact .mk (fun h => absurd h (by decide)) ih
  | str _ _ _ _ ih => exact .mk (fun h => absurd h (by decide)) ih
/-- how variables are gathered -/
structure Vs (N : Nat) (V : Int → Prop) (l l' : List Int) : Prop where
  pre : l <+: l'
  mem : ∀ y, y ∈ l' ↔ y ∈ l ∨ V y
  nod : l.Nodup → l'.Nodup
  bnd : (∀ y ∈ l, 0 ≤ y ∧ y < N) → ∀ y ∈ l', 0 ≤ y ∧ y < N
theorem vs_list {N : Nat} : ∀ (ts : List Tm), (∀ t ∈ ts, ∀ l, Vs N (fun y => t.vin y) l (t.vars l)) → ∀ l, Vs N (fun y => vinL y ts) l (varsL ts l)
  | [], _, l => by
    rw [varsL_nil]
    exact ⟨List.prefix_refl _, fun y => by simp [vinL], id, id⟩
  | t :: ts, h, l => by
    have h1 := h t (by simp) l
    have h2 := vs_list ts (fun t ht => h t (by simp [ht])) (t.vars l)
    rw [varsL_cons]
    exact ⟨h1.pre.trans h2.pre, fun y => by rw [h2.mem, h1.mem, vinL, or_assoc], fun hn => h2.nod (h1.nod hn), fun hb => h2.bnd (h1.bnd hb)⟩
theorem vs_of {N : Nat} {t : Tm} (h : Tn N t) : ∀ l, Vs N (fun y => t.vin y) l (t.vars l) := by
  induction h with
  | @var n h0 h1 =>
    intro l
    have hv : (Tm.mk 1 n [] []).vars l = addI l n := by rw [vars_mk, if_pos rfl, varsL_nil]
    have hin : ∀ y, (Tm.mk 1 n [] []).vin y ↔ n = y := fun y => vin_var (t := .mk 1 n [] []) rfl
    rw [hv]
    unfold addI
    split
    · rename_i hc
      have hc : n ∈ l := by simpa using hc
      exact ⟨List.prefix_refl _, fun y => by rw [hin]; exact ⟨.inl, fun h => by rcases h with h | rfl; exact h; exact hc⟩, id, id⟩
    · rename_i hc
      have hc : n ∉ l := by simpa using hc
      refine ⟨List.prefix_append _ _, fun y => by rw [hin]; simp [eq_comm], fun hn => ?_, fun hb y hy => ?_⟩
      · rw [List.nodup_append]
        exact ⟨hn, by simp, fun a ha b hb => by simp at hb; subst hb; rintro rfl; exact hc ha⟩
      · rcases List.mem_append.1 hy with hy | hy
        · exact hb y hy
        · simp at hy; subst hy; exact ⟨h0, h1⟩
  | @int n s l0 h1 h2 h3 _ ih =>
    intro l
    have hv : (Tm.mk 2 n s l0).vars l = varsL l0 l := by rw [vars_mk, if_neg (by decide)]
    have hin : ∀ y, (Tm.mk 2 n s l0).vin y ↔ vinL y l0 := fun y => by rw [Tm.vin, if_neg (by decide)]
    have h := vs_list l0 ih l
    rw [hv]
    exact ⟨h.pre, fun y => by rw [h.mem, hin], h.nod, h.bnd⟩
  | @str n s l0 h1 h2 h3 _ ih =>
    intro l
    have hv : (Tm.mk 3 n s l0).vars l = varsL l0 l := by rw [vars_mk, if_neg (by decide)]
    have hin : ∀ y, (Tm.mk 3 n s l0).vin y ↔ vinL y l0 := fun y => by rw [Tm.vin, if_neg (by decide)]
    have h := vs_list l0 ih l
    rw [hv]
    exact ⟨h.pre, fun y => by rw [h.mem, hin], h.nod, h.bnd⟩
theorem nodup_one (c : Int) : ∀ l : List Int, l.Nodup → l.length ≤ (l.filter fun y : Int => decide (y ≠ c)).length + 1 ∧ (c ∉ l → l.length = (l.filter fun y : Int => decide (y ≠ c)).length)
  | [], _ => by simp
  | a :: l, hn => by
    rw [List.nodup_cons] at hn
    obtain ⟨i1, i2⟩ := nodup_one c l hn.2
    by_cases ha : a = c
    · have := i2 (by rw [← ha]; exact hn.1)
      have e : ((a :: l).filter fun y : Int => decide (y ≠ c)) = l.filter fun y : Int => decide (y ≠ c) := List.filter_cons_of_neg (by simp [ha])
      rw [e]
      exact ⟨by rw [List.length_cons]; omega, fun h => absurd (by simp [ha]) h⟩
    · have e : ((a :: l).filter fun y : Int => decide (y ≠ c)) = a :: l.filter fun y : Int => decide (y ≠ c) := List.filter_cons_of_pos (by simp [ha])
      rw [e]
      exact ⟨by rw [List.length_cons, List.length_cons]; omega, fun h => by have := i2 fun h2 => h (by simp [h2]); rw [List.length_cons, List.length_cons]; omega⟩
theorem nodup_bound : ∀ (N : Nat) (W : List Int), W.Nodup → (∀ y ∈ W, 0 ≤ y ∧ y < N) → W.length ≤ N
  | 0, W, _, hb => by
    cases W with
    | nil => simp
    | cons a l => have := hb a (by simp); omega
  | N + 1, W, hn, hb => by
    have h1 := nodup_bound N (W.filter fun y : Int => decide (y ≠ (N : Int))) (hn.filter _) fun y hy => by
      rw [List.mem_filter] at hy
      have := hb y hy.1
      have h2 : y ≠ N := by simpa using hy.2
      omega
    have := (nodup_one N W hn).1
    omega
theorem call_addN {P : Program} {f : FuncId} {args : List A} {sl : List A} {ext loc H₂ : Heap} {g : Ob} {r r0 : A} {K : A → St → Prop} (hc : ACalls P f args H₂ (fun r' H' => H' = H₂ ++ [g] ∧ r' = r0)) (hg : Ob.re ext.length g = g) (hr : r0 = A.re ext.length r)
    (hf : Obs.fits ext.length 0 ext) (hH : H₂ = ext ++ loc.map (Ob.re ext.length)) (hk : K r ⟨sl, ext, loc ++ [g]⟩) : ACalls P f args H₂ (CallK K ⟨sl, ext, loc⟩) := by
  subst hH
  refine hc.mono fun r' H' ⟨h1, h2⟩ => ⟨ext, loc ++ [g], r, ?_, rfl, by simp, hf, by rw [h2, hr], hk⟩
  rw [h1, List.map_append, List.append_assoc]
  simp [hg]
/-- l1Vars of one term -/
theorem vars_new {N : Nat} {t : Tm} (hN : N ≤ 100000) (ht : Tz N t) (H : Heap) : ACalls Tryz.prog 73 [.c (.full []), .agg (t.row.map .d)] H (fun r H' => H' = H ++ [.grow (t.vars []).length 1] ∧ r = .c (.own (.e H.length) (t.vars []).length (intRows (t.vars [])))) := by
  refine acalls_token2 (pre := []) (post := [.agg (t.row.map .d)]) (sz := 1) ?_
  have h := l1Vars_calls t (ht.1.fits (by omega)) (tz_clean ht.1) [] (H ++ [.grow 0 1]) H.length (by simp) (by have := ht.2; simp; omega)
  refine h.mono fun r H' ⟨h1, h2⟩ => ⟨?_, h2⟩
  rw [h1, List.set_append_right _ _ (Nat.le_refl _)]
  simp
/-- what l3Within does: the next place of its work, and its work -/
def wiF (L : List Tm) (n : Int) : Nat → Nat → List Int → Bool
  | 0, _, _ => false
  | f + 1, j, W => if h : j < W.length then
      if W[j] = n then true else match lkL L W[j] with
        | some v => wiF L n f (j + 1) (v.vars W)
        | none => wiF L n f (j + 1) W
    else false
structure WiI (N : Nat) (L : List Tm) (n : Int) (t : Tm) (j : Nat) (W : List Int) : Prop where
  le : j ≤ W.length
  nod : W.Nodup
  bnd : ∀ y ∈ W, 0 ≤ y ∧ y < N
  all : ∀ y, t.vin y → y ∈ W
  done : ∀ v ∈ W.take j, v ≠ n ∧ ∀ u y, lkL L v = some u → u.vin y → y ∈ W
theorem wi_some {N : Nat} {L : List Tm} (hL : Sok N L) {n : Int} {t : Tm} {j : Nat} {W : List Int} (h : WiI N L n t j W) (hj : j < W.length) (he : W[j] ≠ n) {v : Tm} (hl : lkL L W[j] = some v) : WiI N L n t (j + 1) (v.vars W) := by
  have hv2 : Tz N v := lkL_tn hL hl
  have hv := vs_of hv2.1 W
  have htk : W.take (j + 1) = W.take j ++ [W[j]] := List.take_succ_eq_append_getElem hj
  obtain ⟨z, hz⟩ := hv.pre
  refine ⟨by rw [← hz]; simp; omega, hv.nod h.nod, hv.bnd h.bnd, fun y hy => (hv.mem y).2 (.inl (h.all y hy)), fun w hw => ?_⟩
  have hw' : w ∈ W.take (j + 1) := by
    rw [← hz, List.take_append_of_le_length (by omega)] at hw
    exact hw
  rw [htk] at hw'
  rcases List.mem_append.1 hw' with h1 | h1
  · obtain ⟨q1, q2⟩ := h.done w h1
    exact ⟨q1, fun u y hu hy => (hv.mem y).2 (.inl (q2 u y hu hy))⟩
  · rw [List.mem_singleton.1 h1]
    refine ⟨he, fun u y' hu hy' => (hv.mem y').2 (.inr ?_)⟩
    rw [hl] at hu
    cases hu
    exact hy'
theorem wi_none {N : Nat} {L : List Tm} {n : Int} {t : Tm} {j : Nat} {W : List Int} (h : WiI N L n t j W) (hj : j < W.length) (he : W[j] ≠ n) (hl : lkL L W[j] = none) : WiI N L n t (j + 1) W := by
  have htk : W.take (j + 1) = W.take j ++ [W[j]] := List.take_succ_eq_append_getElem hj
  refine ⟨hj, h.nod, h.bnd, h.all, fun w hw => ?_⟩
  rw [htk] at hw
  rcases List.mem_append.1 hw with h1 | h1
  · exact h.done w h1
  · rw [List.mem_singleton.1 h1]
    refine ⟨he, fun u y' hu hy' => ?_⟩
    rw [hl] at hu
    cases hu
theorem wi_false {N : Nat} {L : List Tm} (hL : Sok N L) {n : Int} {t : Tm} : ∀ (f j : Nat) (W : List Int), WiI N L n t j W → N < f + j → wiF L n f j W = false → ∀ y, t.vin y → ¬ Rch (lkL L) n y
  | 0, j, W, h, hf, _ => by
    have h1 := h.le
    have h2 := nodup_bound N W h.nod h.bnd
    omega
  | f + 1, j, W, h, hf, he => by
    rw [wiF] at he
    split at he
    · rename_i hj
      split at he
      · cases he
      · rename_i hn
        split at he
        · rename_i v hv
          exact wi_false hL f (j + 1) _ (wi_some hL h hj hn hv) (by omega) he
        · rename_i hv
          exact wi_false hL f (j + 1) _ (wi_none h hj hn hv) (by omega) he
    · rename_i hj
      intro y hy
      have hdone := h.done
      rw [List.take_of_length_le (by omega)] at hdone
      exact closed_rch (M := fun v => v ∈ W) (fun h => (hdone n h).1 rfl) (fun v u y hv hu hy => (hdone v hv).2 u y hu hy) y (h.all y hy)
set_option maxHeartbeats 1600000 in
theorem within_walk {N : Nat} {L : List Tm} (hN : N ≤ 100000) (hL : Sok N L) (n : Int) (t : Tm) (ht : Tz N t) (H : Heap) (i : Nat) (hi : H[i]? = some (.rows (L.map Tm.row))) : ACalls Tryz.prog 114 [.c (.d (.int .i64 n)), .agg (t.row.map .d), .c (.fsl (.e i) N 4)] H
    (fun r H' => H' = H ∧ r = .c (.d (.bool (wiF L n (N + 1) 0 (t.vars []))))) := by
  refine acalls Tryz.func114 (by kernel_rfl) ac114_ok fun hf => ?_
  have hlen := hL.len
  have hli : inR .i64 (N : Int) := small_i64 (by omega) (by omega)
  have hvs := vs_of ht.1 []
  generalize hB : wiF L n (N + 1) 0 (t.vars []) = B
  simp -implicitDefEqProofs [ac114, hli, row_len, take_row, pure_d, re_d, go_sem, -List.set_cons_succ, -List.set_cons_zero]
  refine call_addN (r := .c (.own (.l 1) (t.vars []).length (intRows (t.vars [])))) (vars_new hN ht (H ++ [.cells (t.row.map .d)])) rfl (by simp [A.re, C.re, Ref.re]) hf (by simp [Ob.re, C.re, re_d]) ?_
  simp -implicitDefEqProofs [go_sem, -List.set_cons_succ, -List.set_cons_zero]
  refine loop_set (σ := Nat × List Int) (fun x => [(8, .c (.d (.int .i64 x.1))), (7, .c (.own (.l 1) x.2.length (intRows x.2)))]) (fun _ => H) (fun x => [.cells (t.row.map .d), .grow x.2.length 1])
    (fun x => WiI N L n t x.1 x.2 ∧ wiF L n (N + 1 - x.1) x.1 x.2 = B) (fun x => N - x.1) (0, t.vars []) (by simp [setAll])
    ⟨⟨Nat.zero_le _, hvs.nod List.nodup_nil, hvs.bnd (by simp), fun y hy => (hvs.mem y).2 (.inr hy), by simp⟩, hB⟩ ?_
  rintro ⟨j, W⟩ ⟨hwi, hres⟩
  simp only at hwi hres
  have hj := hwi.le
  have hbd := hwi.bnd
  have hWN := nodup_bound N W hwi.nod hwi.bnd
  have hWi : inR .i64 (W.length : Int) := small_i64 (by omega) (by omega)
  simp -implicitDefEqProofs [setAll, hWi, intRows_len, go_sem, -List.set_cons_succ, -List.set_cons_zero]
  refine ⟨fun hjl => ?_, fun hje => ?_⟩
  · have hadd : inR .i64 ((j : Int) + 1) := small_i64 (by omega) (by omega)
    have hrw : (intRows W)[j]? = some [.int .i64 W[j]] := by simp [intRows, hjl]
    obtain ⟨b0, b1⟩ := hbd W[j] (List.getElem_mem hjl)
    rw [show N + 1 - j = (N + 1 - (j + 1)) + 1 by omega, wiF, dif_pos hjl] at hres
    have w1 := fun he v => @wi_some N L hL n t j W hwi hjl he v
    have w2 := fun he => @wi_none N L n t j W hwi hjl he
    refine row_nat [.int .i64 W[j]] hrw rfl ?_
    simp -implicitDefEqProofs [hadd, go_sem, -List.set_cons_succ, -List.set_cons_zero]
    have hyW : W[j] ∈ W := List.getElem_mem hjl
    generalize hye : W[j] = y at b0 b1 hrw hyW hres w1 w2
    refine ⟨fun he => by rw [if_pos he] at hres; exact hres.symm, fun he => ?_⟩
    rw [if_neg he] at hres
    have hlt : y.toNat < L.length := by omega
    have hnl : y.toNat < N := by omega
    have hget : L[y.toNat]? = some L[y.toNat] := List.getElem?_eq_getElem hlt
    have hlk : lkL L y = if (L[y.toNat]).k = 0 then none else some L[y.toNat] := by
      unfold lkL
      rw [if_neg (by omega), hget]
    generalize L[y.toNat] = v at hget hlk
    have hvs : v.k = 0 ∨ Tz N v := store_fits hL (List.mem_of_getElem? hget)
    have hrow : (L.map Tm.row)[y.toNat]? = some v.row := by rw [List.getElem?_map, hget]; rfl
    obtain ⟨k2, n2, s2, l2⟩ := v
    refine row_nat [.int .i64 y] hrw rfl ?_
    simp -implicitDefEqProofs [b1, hli, go_sem, -List.set_cons_succ, -List.set_cons_zero]
    refine row_nat [.int .i64 y] hrw rfl ?_
    simp -implicitDefEqProofs [row_mk, b1, b0, hli, hnl, hi, hrow, go_sem, -List.set_cons_succ, -List.set_cons_zero]
    refine ⟨fun hk2 => ?_, fun hk2 => ⟨hadd, ?_⟩⟩
    · have hl2 : lkL L y = some (.mk k2 n2 s2 l2) := hlk.trans (if_neg hk2)
      have hv2 : Tz N (.mk k2 n2 s2 l2) := hvs.resolve_left hk2
      have hv := vs_of hv2.1 W
      have hw := w1 he _ hl2
      rw [hl2] at hres
      simp only at hres
      have cl := l1Vars_calls (.mk k2 n2 s2 l2) (hv2.1.fits (by omega)) (tz_clean hv2.1) W (H ++ [.cells (t.row.map .d), .grow W.length 1]) (H.length + 1) (by simp) (by have := hv2.2; omega)
      generalize hWe : (Tm.mk k2 n2 s2 l2).vars W = W' at hv cl hw hres
      refine row_nat [.int .i64 y] hrw rfl ?_
      simp -implicitDefEqProofs [row_mk, b1, b0, hli, hnl, hi, hrow, go_sem, -List.set_cons_succ, -List.set_cons_zero]
      rw [row_mk] at cl
      refine call_addL (j := 1) (r := .c (.own (.l 1) W'.length (intRows W'))) cl rfl (by simp [A.re, C.re, Ref.re]) hf (by simp [Ob.re, C.re, Ref.re, re_d]) ?_
      simp -implicitDefEqProofs [hadd, go_sem, -List.set_cons_succ, -List.set_cons_zero]
      exact loop_back (j + 1, W') (by simp [setAll]) ⟨hw, hres⟩ (by show N - (j + 1) < N - j; omega)
    · have hl2 : lkL L y = none := hlk.trans (if_pos hk2)
      rw [hl2] at hres
      exact loop_back (j + 1, W) (by simp [setAll]) ⟨w2 he hl2, hres⟩ (by show N - (j + 1) < N - j; omega)
  · rw [show N + 1 - j = (N + 1 - (j + 1)) + 1 by omega, wiF, dif_neg (by omega)] at hres
    exact hres.symm
theorem withinR_calls {N : Nat} {L : List Tm} (hN : N ≤ 100000) (hL : Sok N L) (n : Int) (t : Tm) (ht : Tz N t) : ∃ b : Bool, (b = false → ∀ y, t.vin y → ¬ Rch (lkL L) n y) ∧ ∀ (H : Heap) (i : Nat), H[i]? = some (.rows (L.map Tm.row)) →
    ACalls Tryz.prog 114 [.c (.d (.int .i64 n)), .agg (t.row.map .d), .c (.fsl (.e i) N 4)] H (fun r H' => H' = H ∧ r = .c (.d (.bool b))) := by
  have hvs := vs_of ht.1 []
  exact ⟨_, fun hb => wi_false hL (N + 1) 0 (t.vars []) ⟨Nat.zero_le _, hvs.nod List.nodup_nil, hvs.bnd (by simp), fun y hy => (hvs.mem y).2 (.inr hy), by simp⟩ (by omega) hb, fun H i hi => within_walk hN hL n t ht H i hi⟩
end Sv
namespace Sv
-- 99 loop.example/prologserver/spec.l3Unify params 3 ntmps 97
-- loop head live: [2,3,4,7]
def ac99 : Cd := .seq (.region [oc 3 (.box (.t 0)),
 oc 4 (.box (.t 1)),
 oc 6 (.mv (.k (.c (.d (.bool false)))))] [0,1,6])
 (.seq (.region [oc 8 (.load (some 4) (.t 3)),
 oa 9 2,
 oc 10 (.call false 113 [(.t 8),(.t 9)]),
 ⟨none,.store 4 (.t 3) (.t 10),none⟩] [8,9,10])
 (.seq (.region [oc 11 (.load (some 4) (.t 4)),
 oa 12 2,
 oc 13 (.call false 113 [(.t 11),(.t 12)]),
 ⟨none,.store 4 (.t 4) (.t 13),none⟩] [11,12,13])
 (.seq (.seq (.region [oc 14 (.fieldAddr 0 (.t 3)),
 oc 15 (.load none (.t 14)),
 oc 16 (.bin .eql (.t 15) (ki 1)),
 oa 17 16,
 ⟨some 18,.fieldAddr 0 (.t 4),some (17,true)⟩,
 ⟨some 19,.load none (.t 18),some (17,true)⟩,
 ⟨some 20,.bin .eql (.t 19) (ki 1),some (17,true)⟩,
 oc 21 (.pick (.t 17) (.t 20) (.k (.c (.d (.bool false))))),
 oa 22 21,
 ⟨some 23,.fieldAddr 1 (.t 3),some (22,true)⟩,
 ⟨some 24,.load none (.t 23),some (22,true)⟩,
 ⟨some 25,.fieldAddr 1 (.t 4),some (22,true)⟩,
 ⟨some 26,.load none (.t 25),some (22,true)⟩,
 ⟨some 27,.bin .eql (.t 24) (.t 26),some (22,true)⟩,
 oc 28 (.pick (.t 22) (.t 27) (.k (.c (.d (.bool false)))))] [14,15,16,17,18,19,20,21,22,23,24,25,26,27])
 (.cond (.t 28)
 (.seq (.region [oc 6 (.mv (.k (.c (.d (.bool true)))))] [2,3,4,28])
 (.ret))
 (.skip)))
 (.seq (.seq (.region [oc 29 (.fieldAddr 0 (.t 3)),
 oc 30 (.load none (.t 29)),
 oc 31 (.bin .eql (.t 30) (ki 1))] [6,28,29,30])
 (.cond (.t 31)
 (.seq (.seq (.region [oc 32 (.fieldAddr 1 (.t 3)),
 oc 33 (.load none (.t 32)),
 oc 34 (.load (some 4) (.t 4)),
 oa 35 2,
 oc 36 (.call false 114 [(.t 33),(.t 34),(.t 35)])] [31,32,33,34,35])
 (.cond (.t 36)
 (.seq (.region [oc 6 (.mv (.k (.c (.d (.bool false)))))] [2,3,4,36])
 (.ret))
 (.skip)))
 (.seq (.region [oa 37 2,
 oc 38 (.fieldAddr 1 (.t 3)),
 oc 39 (.load none (.t 38)),
 oc 40 (.load (some 4) (.t 4)),
 oc 41 (.indexAddr 4 (.t 37) (.t 39)),
 ⟨none,.store 4 (.t 41) (.t 40),none⟩] [2,3,4,6,36,37,38,39,40,41])
 (.seq (.region [oc 6 (.mv (.k (.c (.d (.bool true)))))] [])
 (.ret))))
 (.skip)))
 (.seq (.seq (.region [oc 42 (.fieldAddr 0 (.t 4)),
 oc 43 (.load none (.t 42)),
 oc 44 (.bin .eql (.t 43) (ki 1))] [6,31,42,43])
 (.cond (.t 44)
 (.seq (.region [oc 45 (.load (some 4) (.t 4)),
 oc 46 (.load (some 4) (.t 3)),
 oa 47 2,
 oc 48 (.call false 99 [(.t 45),(.t 46),(.t 47)]),
 oa 6 48] [2,3,4,44,45,46,47,48])
 (.ret))
 (.skip)))
 (.seq (.seq (.region [oc 49 (.fieldAddr 0 (.t 3)),
 oc 50 (.load none (.t 49)),
 oc 51 (.fieldAddr 0 (.t 4)),
 oc 52 (.load none (.t 51)),
 oc 53 (.bin .neq (.t 50) (.t 52)),
 oa 54 53,
 ⟨some 55,.fieldAddr 1 (.t 3),some (54,false)⟩,
 ⟨some 56,.load none (.t 55),some (54,false)⟩,
 ⟨some 57,.fieldAddr 1 (.t 4),some (54,false)⟩,
 ⟨some 58,.load none (.t 57),some (54,false)⟩,
 ⟨some 59,.bin .neq (.t 56) (.t 58),some (54,false)⟩,
 oc 60 (.pick (.t 54) (.k (.c (.d (.bool true)))) (.t 59)),
 oa 61 60,
 ⟨some 62,.fieldAddr 2 (.t 3),some (61,false)⟩,
 ⟨some 63,.load none (.t 62),some (61,false)⟩,
 ⟨some 64,.fieldAddr 2 (.t 4),some (61,false)⟩,
 ⟨some 65,.load none (.t 64),some (61,false)⟩,
 ⟨some 66,.bin .neq (.t 63) (.t 65),some (61,false)⟩,
 oc 67 (.pick (.t 61) (.k (.c (.d (.bool true)))) (.t 66)),
 oa 68 67,
 ⟨some 69,.fieldAddr 3 (.t 3),some (68,false)⟩,
 ⟨some 70,.load none (.t 69),some (68,false)⟩,
 ⟨some 71,.len 1 (.t 70),some (68,false)⟩,
 ⟨some 72,.fieldAddr 3 (.t 4),some (68,false)⟩,
 ⟨some 73,.load none (.t 72),some (68,false)⟩,
 ⟨some 74,.len 1 (.t 73),some (68,false)⟩,
 ⟨some 75,.bin .neq (.t 71) (.t 74),some (68,false)⟩,
 oc 76 (.pick (.t 68) (.k (.c (.d (.bool true)))) (.t 75))] [6,44,49,50,51,52,53,54,55,56,57,58,59,60,61,62,63,64,65,66,67,68,69,70,71,72,73,74,75])
 (.cond (.t 76)
 (.seq (.region [oc 6 (.mv (.k (.c (.d (.bool false)))))] [2,3,4,76])
 (.ret))
 (.skip)))
 (.seq (.seq (.region [oc 7 (.mv (ki 0))] [6,76])
 (.block 0 (.loop (.seq (.seq (.region [oa 77 7,
 oc 78 (.fieldAddr 3 (.t 3)),
 oc 79 (.load none (.t 78)),
 oc 80 (.len 1 (.t 79)),
 oc 81 (.bin .lss (.t 77) (.t 80))] [77,78,79,80])
 (.cond (.t 81)
 (.skip)
 (.exit 0)))
 (.seq (.block 1 (.seq (.region [oc 84 (.fieldAddr 3 (.t 3)),
 oa 86 7,
 oc 89 (.fieldAddr 3 (.t 4)),
 oa 91 7,
 oa 94 2,
 oc 85 (.load none (.t 84)),
 oc 87 (.indexAddr 4 (.t 85) (.t 86)),
 oc 88 (.load (some 4) (.t 87)),
 oc 90 (.load none (.t 89)),
 oc 92 (.indexAddr 4 (.t 90) (.t 91)),
 oc 93 (.load (some 4) (.t 92)),
 oc 95 (.call false 99 [(.t 88),(.t 93),(.t 94)]),
 oc 96 (.un .not (.t 95))] [81,84,85,86,87,88,89,90,91,92,93,94,95])
 (.cond (.t 96)
 (.seq (.region [oc 6 (.mv (.k (.c (.d (.bool false)))))] [2,3,4,7,96])
 (.ret))
 (.skip))))
 (.region [oa 82 7,
 oc 83 (.bin .add (.t 82) (ki 1)),
 oa 7 83] [6,82,83,96]))))))
 (.seq (.region [oc 6 (.mv (.k (.c (.d (.bool true)))))] [])
 (.ret)))))))))
theorem ac99_ok : cFunc Tryz.prog [] [(0,[0,1,6],[]),(1,[8,9,10],[]),(2,[11,12,13],[]),(3,[14,15,16,17,18,19,20,21,22,23,24,25,26,27],[]),(4,[2,3,4,28],[]),(5,[6,28,29,30],[]),(6,[31,32,33,34,35],[]),(7,[2,3,4,36],[]),(8,[2,3,4,6,36,37,38,39,40,41],[]),(9,[],[]),(10,[6,31,42,43],[]),(11,[2,3,4,44,45,46,47,48],[]),(12,[6,44,49,50,51,52,53,54,55,56,57,58,59,60,61,62,63,64,65,66,67,68,69,70,71,72,73,74,75],[]),(13,[2,3,4,76],[]),(14,[6,76],[]),(15,[77,78,79,80],[]),(17,[81,84,85,86,87,88,89,90,91,92,93,94,95],[0,2,5,7,10,1,3,4,6,8,9,11,12]),(18,[2,3,4,7,96],[]),(16,[6,82,83,96],[]),(19,[],[])] Tryz.f99 = some (ac99,[.tmp 6],97) := by kernel_rfl
/-- the store in the heap -/
def stO (L : List Tm) : Ob := .rows (L.map Tm.row)
/-- unification ends: what it answers, and the store behind it -/
def Un (N : Nat) (L : List Tm) (a b : Tm) : Prop := ∃ (bo : Bool) (L' : List Tm), Nx N L L' ∧ ∀ (H : Heap) (i : Nat), H[i]? = some (stO L) → ACalls Tryz.prog 99 [.agg (a.row.map .d), .agg (b.row.map .d), .c (.fsl (.e i) N 4)] H
    (fun r H' => r = .c (.d (.bool bo)) ∧ H' = H.set i (stO L'))
open Classical in
noncomputable def pk (N : Nat) (L : List Tm) (x y : Tm) : Bool × List Tm := if h : Un N L x y then (h.choose, h.choose_spec.choose) else (false, L)
theorem pk_spec {N : Nat} {L : List Tm} {x y : Tm} (h : Un N L x y) : Nx N L (pk N L x y).2 ∧ ∀ (H : Heap) (i : Nat), H[i]? = some (stO L) → ACalls Tryz.prog 99 [.agg (x.row.map .d), .agg (y.row.map .d), .c (.fsl (.e i) N 4)] H
    (fun r H' => r = .c (.d (.bool (pk N L x y).1)) ∧ H' = H.set i (stO (pk N L x y).2)) := by
  unfold pk
  rw [dif_pos h]
  exact h.choose_spec.choose_spec
noncomputable def pkL (N : Nat) : List Tm → List Tm → List Tm → Bool × List Tm
  | L, x :: xs, y :: ys => if (pk N L x y).1 = true then pkL N (pk N L x y).2 xs ys else (false, (pk N L x y).2)
  | L, _, _ => (true, L)
theorem set_self {H : Heap} {i : Nat} {o : Ob} (h : H[i]? = some o) : H.set i o = H := by
  refine List.ext_getElem? fun j => ?_
  by_cases hj : j = i
  · subst hj; rw [List.getElem?_set_self (List.getElem?_eq_some_iff.1 h).1, h]
  · rw [List.getElem?_set_ne (fun h => hj h.symm)]
theorem call_pk {N : Nat} {L : List Tm} {x y : Tm} (hc : Un N L x y) {ext : Heap} {i : Nat} {sl : List A} {loc H₂ : Heap} {K : A → St → Prop} (hi : ext[i]? = some (stO L)) (hf : Obs.fits ext.length 0 ext) (hH : H₂ = ext ++ loc.map (Ob.re ext.length))
    (hk : K (.c (.d (.bool (pk N L x y).1))) ⟨sl, ext.set i (stO (pk N L x y).2), loc⟩) : ACalls Tryz.prog 99 [.agg (x.row.map .d), .agg (y.row.map .d), .c (.fsl (.e i) N 4)] H₂ (CallK K ⟨sl, ext, loc⟩) := by
  subst hH
  have hlt := (List.getElem?_eq_some_iff.1 hi).1
  refine ((pk_spec hc).2 _ i (by rw [List.getElem?_append_left hlt]; exact hi)).mono fun r H' ⟨h1, h3⟩ => ?_
  refine ⟨ext.set i (stO (pk N L x y).2), loc, _, ?_, by simp, Nat.le_refl _, ?_, ?_, hk⟩
  · rw [h3, List.set_append_left _ _ hlt]
  · exact Obs_fits_set hf trivial
  · rw [h1]; rfl
theorem call_un {N : Nat} {L : List Tm} {x y : Tm} (hc : Un N L x y) {ext : Heap} {i : Nat} {sl : List A} {loc H₂ : Heap} {K : A → St → Prop} (hi : ext[i]? = some (stO L)) (hf : Obs.fits ext.length 0 ext) (hH : H₂ = ext ++ loc.map (Ob.re ext.length))
    (hk : ∀ bo L', Nx N L L' → K (.c (.d (.bool bo))) ⟨sl, ext.set i (stO L'), loc⟩) : ACalls Tryz.prog 99 [.agg (x.row.map .d), .agg (y.row.map .d), .c (.fsl (.e i) N 4)] H₂ (CallK K ⟨sl, ext, loc⟩) :=
  call_pk hc hi hf hH (hk _ _ (pk_spec hc).1)
/-- a quiet step that looks at the store -/
theorem call_st {f : FuncId} {xs : List A} {r : A} {i : Nat} {L : List Tm} (hc : ∀ H : Heap, H[i]? = some (.rows (L.map Tm.row)) → ACalls Tryz.prog f xs H (fun r' H' => H' = H ∧ r' = r)) {ext : Heap} {sl : List A} {loc H₂ : Heap} {K : A → St → Prop} (hi : ext[i]? = some (stO L)) (hf : Obs.fits ext.length 0 ext)
    (hr : A.re ext.length r = r) (hH : H₂ = ext ++ loc.map (Ob.re ext.length)) (hk : K r ⟨sl, ext, loc⟩) : ACalls Tryz.prog f xs H₂ (CallK K ⟨sl, ext, loc⟩) := by
  subst hH
  have hlt := (List.getElem?_eq_some_iff.1 hi).1
  exact (hc _ (by rw [List.getElem?_append_left hlt]; exact hi)).mono fun r' H' ⟨h1, h2⟩ => ⟨ext, loc, r, h1, rfl, Nat.le_refl _, hf, by rw [h2]; exact hr.symm, hk⟩
theorem drop_row4 (t : Tm) : List.drop 4 (t.row.map C.d) = [] := List.drop_of_length_le (by simp [row_len])
theorem row_re (t : Tm) (n : Nat) : A.re n (.agg (t.row.map .d)) = .agg (t.row.map .d) := by simp [A.re, re_d]
theorem pkL_nx {N : Nat} : ∀ (xs ys : List Tm) (L : List Tm), Sok N L → (∀ (j : Nat) x y, xs[j]? = some x → ys[j]? = some y → ∀ L₁, Nx N L L₁ → Un N L₁ x y) → Nx N L (pkL N L xs ys).2
  | [], _, L, hL, _ => by rw [pkL]; exact .refl hL; intros; simp_all
  | x :: xs, [], L, hL, _ => by rw [pkL]; exact .refl hL; intros; simp_all
  | x :: xs, y :: ys, L, hL, h => by
    have h1 := (pk_spec (h 0 x y rfl rfl L (.refl hL))).1
    rw [pkL]
    split
    · exact h1.trans (pkL_nx xs ys _ h1.1 fun j a b ha hb L₁ hx => h (j + 1) a b ha hb L₁ (h1.trans hx))
    · exact h1
set_option maxHeartbeats 3200000 in
theorem un_step {N : Nat} {L : List Tm} (hN : N ≤ 100000) (hL : Sok N L) (a b : Tm) (ha : Tz N a) (hb : Tz N b) (hsw : (wk (lkL L) a).k ≠ 1 → (wk (lkL L) b).k = 1 → Un N L (wk (lkL L) b) (wk (lkL L) a))
    (hkid : (wk (lkL L) a).k ≠ 1 → ∀ (j : Nat) x y, (wk (lkL L) a).kids[j]? = some x → (wk (lkL L) b).kids[j]? = some y → ∀ L₁, Nx N L L₁ → Un N L₁ x y) : Un N L a b := by
  obtain ⟨W, hW⟩ := hL.wt
  have hwa := wk_tn hL ha
  have hwb := wk_tn hL hb
  have cwa := fun H i hi => walkR_calls hN hL a ha H i hi
  have cwb := fun H i hi => walkR_calls hN hL b hb H i hi
  have hea : (wk (lkL L) a).k = 1 → lkL L (wk (lkL L) a).n = none := wk_end hW a
  generalize wk (lkL L) a = a' at hsw hkid hwa cwa hea
  generalize wk (lkL L) b = b' at hsw hkid hwb cwb
  obtain ⟨k1, n1, s1, l1⟩ := a'
  obtain ⟨k2, n2, s2, l2⟩ := b'
  obtain ⟨w, hw, cwi⟩ := withinR_calls hN hL n1 (.mk k2 n2 s2 l2) hwb
  obtain ⟨F, hF⟩ : ∃ F : Bool × List Tm, F = if k1 = 1 ∧ k2 = 1 ∧ n1 = n2 then (true, L) else if k1 = 1 then (if w = true then (false, L) else (true, L.set n1.toNat (.mk k2 n2 s2 l2)))
    else if k2 = 1 then pk N L (.mk k2 n2 s2 l2) (.mk k1 n1 s1 l1) else if k1 = k2 ∧ n1 = n2 ∧ s1 = s2 ∧ l1.length = l2.length then pkL N L l1 l2 else (false, L) := ⟨_, rfl⟩
  have hsw : k1 ≠ 1 → k2 = 1 → Un N L (.mk k2 n2 s2 l2) (.mk k1 n1 s1 l1) := hsw
  have hkid : k1 ≠ 1 → ∀ (j : Nat) x y, l1[j]? = some x → l2[j]? = some y → ∀ L₁, Nx N L L₁ → Un N L₁ x y := hkid
  have hnx : Nx N L F.2 := by
    rw [hF]
    split
    · exact .refl hL
    split
    · rename_i hk1
      subst hk1
      obtain ⟨h0, h1, e⟩ := hwa.1.isVar rfl
      split
      · exact .refl hL
      · rename_i hwf
        exact bind_nx hL h0 h1 (hea rfl) hwb (hw (by simpa using hwf))
    rename_i hk1
    split
    · rename_i hk2
      exact (pk_spec (hsw hk1 hk2)).1
    split
    · exact pkL_nx l1 l2 L hL (hkid hk1)
    · exact .refl hL
  refine ⟨F.1, F.2, hnx, fun H i hi => ?_⟩
  refine acalls Tryz.func99 (by kernel_rfl) ac99_ok fun hf => ?_
  have hlen := hL.len
  have hilt : i < H.length := (List.getElem?_eq_some_iff.1 hi).1
  have hi2 : H[i]? = some (.rows (L.map Tm.row)) := hi
  have hli : inR .i64 (N : Int) := small_i64 (by omega) (by omega)
  simp -implicitDefEqProofs [ac99, row_len, take_row, pure_d, re_d, hf, go_sem, -List.set_cons_succ, -List.set_cons_zero]
  refine call_st (fun H hi => cwa H i hi) hi hf (row_re _ _) (by first | rfl | simp [Ob.re, C.re, re_d]) ?_
  simp -implicitDefEqProofs [row_len, take_row, drop_row4, pure_d, re_d, hf, go_sem, -List.set_cons_succ, -List.set_cons_zero]
  refine call_st (fun H hi => cwb H i hi) hi hf (row_re _ _) (by first | rfl | simp [Ob.re, C.re, re_d]) ?_
  simp -implicitDefEqProofs [row_len, take_row, drop_row4, pure_d, re_d, hf, go_sem, -List.set_cons_succ, -List.set_cons_zero]
  simp only [row_mk, List.map_cons, List.map_nil] at cwi
  have self : ∀ bo, F = (bo, L) → (F.1 = bo ∧ H = H.set i (stO F.2)) := fun bo h => by rw [h]; exact ⟨rfl, (set_self hi).symm⟩
  simp -implicitDefEqProofs [row_mk, hf, go_sem, -List.set_cons_succ, -List.set_cons_zero]
  refine ⟨fun e1 e2 e3 => self _ (hF.trans (if_pos ⟨e1, e2, e3⟩)), fun hne => ?_⟩
  have hF1 := hF.trans (if_neg (fun h => hne h.1 h.2.1 h.2.2))
  clear hF
  refine ⟨fun hk1 => ?_, fun hk1 => ?_⟩
  · have hF2 := hF1.trans (if_pos hk1)
    clear hF1
    subst hk1
    obtain ⟨h0, h1, e⟩ := hwa.1.isVar rfl
    have h0 : 0 ≤ n1 := h0
    have h1 : n1 < N := h1
    refine call_st (fun H hi => cwi H i hi) hi hf rfl (by first | rfl | simp [Ob.re, C.re, re_d]) ?_
    simp -implicitDefEqProofs [row_mk, hf, go_sem, -List.set_cons_succ, -List.set_cons_zero]
    refine ⟨fun hwt => self _ (hF2.trans (if_pos hwt)), fun hwf => ⟨⟨h0, by omega⟩, ?_⟩⟩
    have hF := hF2.trans (if_neg (by simp [hwf]))
    have hnl : n1.toNat < L.length := by omega
    simp -implicitDefEqProofs [hi2, hnl, row_len, StoreK, go_sem, -List.set_cons_succ, -List.set_cons_zero]
    have hd4 : List.drop 4 (L[n1.toNat]).row = [] := List.drop_of_length_le (by simp [row_len])
    refine ⟨Obs_fits_set hf trivial, ?_⟩
    rw [hF]
    simp [stO, List.map_set, row_mk, hd4]
  have hF := hF1.trans (if_neg hk1)
  clear hF1
  refine ⟨fun hk2 => ?_, fun hk2 => ?_⟩
  · have hF := hF.trans (if_pos hk2)
    have cu := @call_pk N L _ _ (hsw hk1 hk2)
    rw [← hF] at cu
    simp only [row_mk, List.map_cons, List.map_nil] at cu
    refine cu hi hf (by first | rfl | simp [Ob.re, C.re, re_d]) ?_
    simp -implicitDefEqProofs [row_mk, hf, go_sem, -List.set_cons_succ, -List.set_cons_zero]
  · have hF := hF.trans (if_neg hk2)
    have hl1 : l1.length ≤ 4 := hwa.1.kids.1
    have hl2 : l2.length ≤ 4 := hwb.1.kids.1
    refine ⟨fun _ _ _ => small_i64 (by omega) (by omega), fun _ _ _ => small_i64 (by omega) (by omega), fun h => self _ (hF.trans (if_neg fun g => by
      obtain ⟨g1, g2, g3, g4⟩ := g
      rcases h with ((h | h) | h) | h
      · exact h g1
      · exact h g2
      · exact h g3
      · exact h (by omega))), fun g1 g2 g3 hll => ?_⟩
    have hll : l1.length = l2.length := by omega
    have hF := hF.trans (if_pos ⟨g1, g2, g3, hll⟩)
    refine loop_set (σ := Nat × List Tm) (fun x => [(7, .c (.d (.int .i64 x.1)))]) (fun x => H.set i (stO x.2)) (fun x => [.cells ((Tm.mk k1 n1 s1 l1).row.map .d), .cells ((Tm.mk k2 n2 s2 l2).row.map .d)]) (fun x => x.1 ≤ l1.length ∧ Nx N L x.2 ∧ F = pkL N x.2 (l1.drop x.1) (l2.drop x.1)) (fun x => l1.length - x.1) (0, L) (by simp [setAll, row_mk, set_self hi]) ⟨Nat.zero_le _, Nx.refl hL, hF⟩ ?_
    rintro ⟨j, L₁⟩ ⟨hj, hx, hF1⟩
    simp only at hj hx hF1
    have hlj : inR .i64 (l1.length : Int) := small_i64 (by omega) (by omega)
    simp -implicitDefEqProofs [setAll, row_mk, hf, hlj, go_sem, -List.set_cons_succ, -List.set_cons_zero]
    refine ⟨fun hjl => ?_, fun hge => ?_⟩
    · have hjl2 : j < l2.length := by omega
      have hr1 : (l1.map Tm.row)[j]? = some (l1[j]).row := by rw [List.getElem?_map, List.getElem?_eq_getElem hjl]; rfl
      have hr2 : (l2.map Tm.row)[j]? = some (l2[j]).row := by rw [List.getElem?_map, List.getElem?_eq_getElem hjl2]; rfl
      have hk := hkid hk1 j _ _ (List.getElem?_eq_getElem hjl) (List.getElem?_eq_getElem hjl2) L₁ hx
      rw [List.drop_eq_getElem_cons hjl, List.drop_eq_getElem_cons hjl2, pkL] at hF1
      generalize l1[j] = x at hr1 hk hF1
      generalize l2[j] = y at hr2 hk hF1
      refine row_nat _ hr1 (row_len _) ?_
      simp -implicitDefEqProofs [row_mk, hf, hlj, row_len, take_row, drop_row4, go_sem, -List.set_cons_succ, -List.set_cons_zero]
      refine row_nat _ hr2 (row_len _) ?_
      simp -implicitDefEqProofs [row_mk, hf, hlj, row_len, take_row, drop_row4, go_sem, -List.set_cons_succ, -List.set_cons_zero]
      have hnx := (pk_spec hk).1
      refine call_pk hk (by simp [hilt]) (by rw [List.length_set]; exact Obs_fits_set hf trivial) (by first | rfl | simp [Ob.re, C.re, re_d]) ?_
      generalize pk N L₁ x y = R at hF1 hnx
      obtain ⟨bo, L₂⟩ := R
      have hadd : inR .i64 ((j : Int) + 1) := small_i64 (by omega) (by omega)
      simp -implicitDefEqProofs [row_mk, hf, hadd, go_sem, -List.set_cons_succ, -List.set_cons_zero]
      refine ⟨fun hb => ?_, fun hb => ?_⟩
      · rw [if_neg (by simp [hb])] at hF1
        rw [hF1]
        exact ⟨rfl, rfl⟩
      · rw [if_pos hb] at hF1
        exact loop_back (j + 1, L₂) (by simp [setAll, row_mk]) ⟨hjl, hx.trans hnx, hF1⟩ (by show l1.length - (j + 1) < l1.length - j; omega)
    · rw [List.drop_of_length_le hge, pkL] at hF1
      · rw [hF1]; exact ⟨rfl, rfl⟩
      · simp
theorem un_ind {N : Nat} (hN : N ≤ 100000) (u : Nat) : ∀ L, free L = u → Sok N L → ∀ a b, Tz N a → Tz N b → Un N L a b := by
  induction u using Nat.strongRecOn with
  | _ u ihu =>
    intro L hu hs
    obtain ⟨W, hW⟩ := hs.wt
    have key : ∀ w a b, Tz N a → Tz N b → a.tw W = w → Un N L a b := by
      intro w
      induction w using Nat.strongRecOn with
      | _ w ihw =>
        intro a b ha hb hw
        have hwa := wk_tn hs ha
        have hwb := wk_tn hs hb
        refine un_step hN hs a b ha hb (fun ka kb => ?_) fun ka j x y hx hy L₁ hx1 => ?_
        · have e2 := wk_wk hW b
          refine un_step hN hs _ _ hwb hwa (fun h _ => ?_) fun h => ?_
          · rw [e2] at h; exact absurd kb h
          · rw [e2] at h; exact absurd kb h
        · have mx := List.mem_of_getElem? hx
          have my := List.mem_of_getElem? hy
          rcases hx1.2 with rfl | hlt
          · exact ihw _ (by have := tw_kid (W := W) ka mx; have := wk_tw hW a; omega) x y (hwa.kid mx) (hwb.kid my) rfl
          · exact ihu _ (by omega) L₁ rfl hx1.1 x y (hwa.kid mx) (hwb.kid my)
    exact fun a b ha hb => key _ a b ha hb rfl
/-- unification ends, and keeps the store in order -/
theorem un_all {N : Nat} (hN : N ≤ 100000) {L : List Tm} (hL : Sok N L) (a b : Tm) (ha : Tz N a) (hb : Tz N b) : Un N L a b := un_ind hN _ L rfl hL a b ha hb
end Sv
-- 72 loop.example/prologserver/spec.QueryValid params 1 ntmps 23
-- loop head live: [0,3]
def ac72 : Cd := .seq (.region [oc 2 (.mv (.k (.c (.d (.bool false)))))] [2])
 (.seq (.seq (.region [oc 3 (.mv (ki 0))] [])
 (.block 0 (.loop (.seq (.seq (.region [oa 4 3,
 oa 5 0,
 oc 6 (.len 1 (.t 5)),
 oc 7 (.bin .lss (.t 4) (.t 6)),
 oa 8 7,
 ⟨some 9,.mv (.t 3),some (8,true)⟩,
 ⟨some 10,.bin .leq (.t 9) (ki 6),some (8,true)⟩,
 oc 11 (.pick (.t 8) (.t 10) (.k (.c (.d (.bool false)))))] [4,5,6,7,8,9,10])
 (.cond (.t 11)
 (.skip)
 (.exit 0)))
 (.seq (.block 1 (.seq (.region [oa 14 0,
 oa 15 3,
 oc 16 (.indexAddr 4 (.t 14) (.t 15)),
 oc 17 (.load (some 4) (.t 16)),
 oc 18 (.qcall 66 [(.t 17)]),
 oc 19 (.un .not (.t 18))] [11,14,15,16,17,18])
 (.cond (.t 19)
 (.seq (.region [oc 2 (.mv (.k (.c (.d (.bool false)))))] [0,3,19])
 (.ret))
 (.skip))))
 (.region [oa 12 3,
 oc 13 (.bin .add (.t 12) (ki 1)),
 oa 3 13] [2,12,13,19]))))))
 (.seq (.region [oa 20 0,
 oc 21 (.len 1 (.t 20)),
 oc 22 (.bin .leq (.t 21) (ki 6)),
 oa 2 22] [0,20,21,22])
 (.ret)))
theorem ac72_ok : cFunc Tryz.prog [1000066] [(0,[2],[]),(1,[],[]),(2,[4,5,6,7,8,9,10],[]),(4,[11,14,15,16,17,18],[]),(5,[0,3,19],[]),(3,[2,12,13,19],[]),(6,[0,20,21,22],[])] Tryz.f72 = some (ac72,[.tmp 2],23) := by kernel_rfl
theorem qvSpec_calls (l : List Tm) (hl : l.length ≤ 1048576) (h : ∀ t ∈ l, t.fits) (H : Heap) : ACalls Tryz.prog 72 [.c (.d (.sl (l.map Tm.row)))] H (fun r H' => H' = H ∧ r = .c (.d (.bool (goalsB l)))) := by
  refine acalls Tryz.func72 (by kernel_rfl) ac72_ok fun hf => ?_
  have hli : inR .i64 (l.length : Int) := small_i64 (by omega) (by omega)
  simp -implicitDefEqProofs [ac72, hli, go_sem, -List.set_cons_succ, -List.set_cons_zero]
  refine loop_set (σ := Nat) (fun i => [(3, .c (.d (.int .i64 i)))]) (fun _ => H) (fun _ => []) (fun i => i ≤ l.length ∧ ∀ t ∈ l.take i, t.goal = true) (fun i => l.length - i) 0 rfl ⟨Nat.zero_le _, by simp⟩ ?_
  rintro i ⟨hi, hall⟩
  by_cases hlt : i < l.length
  · by_cases hi6 : i ≤ 6
    · have hi6' : (i : Int) ≤ 6 := by omega
      simp -implicitDefEqProofs [setAll, hli, hlt, hi6, hi6', go_sem, -List.set_cons_succ, -List.set_cons_zero]
      refine row_of hlt (row_len _) ?_
      simp -implicitDefEqProofs [row_len, take_row, pure_d, re_d, go_sem, -List.set_cons_succ, -List.set_cons_zero]
      refine qcall_pure (goalSpec_calls l[i] (h _ (List.getElem_mem hlt))) hf rfl ?_
      have hadd : inR .i64 ((i : Int) + 1) := small_i64 (by omega) (by omega)
      simp -implicitDefEqProofs [hadd, go_sem, -List.set_cons_succ, -List.set_cons_zero]
      refine ⟨fun hg => ?_, fun hg => loop_back (i + 1) (by simp [setAll]) ⟨hlt, goal_take hlt hall hg⟩ (by show l.length - (i + 1) < l.length - i; omega)⟩
      have : l.all Tm.goal = false := by
        rw [List.all_eq_false]
        exact ⟨l[i], List.getElem_mem hlt, by simp [hg]⟩
      simp [goalsB, this]
    · have hl6 : ¬ l.length ≤ 6 := by omega
      have hl6' : ¬ (l.length : Int) ≤ 6 := by omega
      have hi6' : ¬ (i : Int) ≤ 6 := by omega
      simp -implicitDefEqProofs [setAll, hli, hlt, hi6, hi6', hl6, hl6', goalsB, go_sem, -List.set_cons_succ, -List.set_cons_zero]
  · have hil : i = l.length := by omega
    subst hil
    rw [List.take_length] at hall
    have hal : l.all Tm.goal = true := List.all_eq_true.2 hall
    simp -implicitDefEqProofs [setAll, hli, goalsB, hal, go_sem, -List.set_cons_succ, -List.set_cons_zero]
    all_goals omega
theorem l6Vars_calls (l : List Tm) (hl : l.length ≤ 1048576) (h : ∀ t ∈ l, t.fits) (hcl : ∀ t ∈ l, t.clean) (hc : Tm.cnt l ≤ 3000000) (H : Heap) : ACalls Tryz.prog 55 [.c (.d (.sl (l.map Tm.row)))] H
    (fun r H' => H' = H ∧ r = .c (.d (.sl (intRows (varsL l []))))) := by
  have hli : inR .i64 (l.length : Int) := small_i64 (by omega) (by omega)
  refine acalls Tryz.func55 (by kernel_rfl) ac55_ok fun hf => ?_
  simp -implicitDefEqProofs [ac55, hli, go_sem, -List.set_cons_succ, -List.set_cons_zero]
  refine loop_enter (St.le_token 3 1 rfl) ?_
  refine loop_set (σ := Nat) (fun j => [(4, .c (.d (.int .i64 j))), (3, .c (.own (.l 0) (varsL (l.take j) []).length (intRows (varsL (l.take j) []))))]) (fun _ => H) (fun j => [.grow (varsL (l.take j) []).length 1]) (fun j => j ≤ l.length) (fun j => l.length - j) 0 (by simp [setAll, varsL_nil, intRows]) (Nat.zero_le _) ?_
  intro j hj
  obtain ⟨W, hW⟩ : ∃ W, W = varsL (l.take j) [] := ⟨_, rfl⟩
  have hWl : W.length ≤ Tm.cnt (l.take j) := by
    have h1 := varsL_len (l.take j) []
    rw [hW]; simpa using h1
  rw [← hW]
  simp -implicitDefEqProofs [setAll, hli, go_sem, -List.set_cons_succ, -List.set_cons_zero]
  refine ⟨fun hjl => ?_, fun hje => ?_⟩
  · have hadd : inR .i64 ((j : Int) + 1) := small_i64 (by omega) (by omega)
    have hw1 := varsL_succ l [] hjl
    rw [← hW] at hw1
    have hs1 := cnt_take_sub l hjl
    refine row_of hjl (row_len _) ?_
    simp -implicitDefEqProofs [row_len, take_row, pure_d, re_d, hf, go_sem, -List.set_cons_succ, -List.set_cons_zero]
    refine call_addL (j := 0) (r := .c (.own (.l 0) (l[j].vars W).length (intRows (l[j].vars W)))) (l1Vars_calls l[j] (h _ (List.getElem_mem hjl)) (hcl _ (List.getElem_mem hjl)) W _ (H.length + 0) (by simp) (by omega)) rfl rfl hf (by simp [Ob.re, C.re, re_d]) ?_
    simp -implicitDefEqProofs [hadd, go_sem, -List.set_cons_succ, -List.set_cons_zero]
    rw [← hw1]
    exact loop_back (j + 1) (by simp [setAll]) hjl (by show l.length - (j + 1) < l.length - j; omega)
  · obtain rfl : j = l.length := by omega
    rw [List.take_length] at hW
    rw [← hW]
theorem sub_size : ∀ t : Tm, t.sub + 1 ≤ t.size := by
  refine Tm.ind fun k n s l ih => ?_
  simp only [sub_mk, Tm.size]
  have : Tm.cnt l ≤ sizes l := by
    clear k n s
    induction l with
    | nil => simp [cnt_nil]
    | cons t l ih2 =>
      rw [cnt_cons]
      have h1 := ih t (by simp)
      have h2 := ih2 fun t ht => ih t (by simp [ht])
      simp only [sizes]
      omega
  omega
theorem cnt_le {B : Nat} : ∀ (l : List Tm), (∀ t ∈ l, t.sub ≤ B) → Tm.cnt l ≤ l.length * (B + 1)
  | [], _ => by simp [cnt_nil]
  | t :: l, h => by
    have h1 := cnt_le l fun t ht => h t (by simp [ht])
    have h2 := h t (by simp)
    rw [cnt_cons, List.length_cons, Nat.succ_mul]
    omega
end Go.Proofs.YtcapnainldlnjaaGreat
