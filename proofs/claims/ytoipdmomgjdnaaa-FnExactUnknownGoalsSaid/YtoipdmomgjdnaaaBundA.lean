/-
  Contracts of functions that the law reaches, and plain lemmas: several texts in one.
  Conditions: none.
-/
import Derived.Test.YtoipdmomgjdnaaaRows
import Derived.KernelRfl
import Derived.Test.YtoipdmomgjdnaaaAbsN
open Go Go.AM Go.Proofs
attribute [local go_sem] kw ew sw tw a_ b_ c_ A.ok A.val d_ e_ f_ g_ h_ i_ j_ k_ l_ m_ unA unD n_ AOp.total o_ p_ q_ r_ s_ t_ u_ v_ A.thaw C.thaw A.fits As.fits C.fits evs oks w_ A.pure C.pure A.re C.re x_ y_ cut A.cells C.rows? z_ A_ B_ C_ a0_ b0_ D_ Ob.re Cs.fits E_ F_ G_ H_ I_ J_ K_ L_ M_ N_ O_ C.toD P_ Q_ R_ S_ T_ Obs.fits U_ eqD V_ W_ X_ Y_ Z_
/-
  Small facts that the proofs of this seat share.
  Conditions: none.
-/
open Go Go.AM Go.Proofs
namespace Go.Proofs.Ytoipdmomgjdnaaa
set_option linter.unusedVariables false
set_option linter.unusedSimpArgs false
theorem small_i64 {n : Int} (h : -1000000000000000 ≤ n) (h' : n ≤ 1000000000000000) : inR .i64 n := by
  unfold inR
  simp [IntKind.min, IntKind.max, IntKind.signed, IntKind.bits]
  omega
theorem reach_i64 {n : Nat} (h : n ≤ reachBytes) : inR .i64 (n : Int) := by simp only [inR, IntKind.min, IntKind.max, IntKind.signed, IntKind.bits, reachBytes] at *; omega
theorem reach_small {n : Nat} (h : n ≤ reachBytes) : (n : Int) ≤ 140737488355328 := by simp only [reachBytes] at *; omega
/-- the result of a call of a size: how much is left; where something is left, P holds -/
def Left (m : Int) (P : Prop) (r : A) : Prop := ∃ n : Int, r = .c (.d (.int .i64 n)) ∧ -1 ≤ n ∧ n ≤ m ∧ (0 ≤ n → P)
theorem Left.re {m : Int} {P : Prop} {r : A} {n : Nat} (h : Left m P r) : A.re n r = r := by
  obtain ⟨k, rfl, _⟩ := h
  rfl
/-- rows that are laid one by one -/
def fill {α : Type} (f : α → List D) (z : List D) (l : List α) (i : Nat) : List (List D) := (l.take i).map f ++ List.replicate (l.length - i) z
theorem fill_zero {α : Type} (f : α → List D) (z : List D) (l : List α) : fill f z l 0 = List.replicate l.length z := by simp [fill]
theorem fill_all {α : Type} (f : α → List D) (z : List D) (l : List α) : fill f z l l.length = l.map f := by simp [fill]
theorem fill_get {α : Type} (f : α → List D) (z : List D) (l : List α) {i : Nat} (h : i < l.length) : (fill f z l i)[i]? = some z := by
  unfold fill
  rw [List.getElem?_append_right (by simp; omega), List.getElem?_replicate, if_pos (by simp; omega)]
theorem fill_set {α : Type} (f : α → List D) (z : List D) (l : List α) {i : Nat} (h : i < l.length) : (fill f z l i).set i (f l[i]) = fill f z l (i + 1) := by
  unfold fill
  obtain ⟨k, hk⟩ : ∃ k, l.length - i = k + 1 := ⟨l.length - i - 1, by omega⟩
  rw [List.set_append_right _ _ (by simp; omega), hk, List.replicate_succ, List.take_succ_eq_append_getElem h]
  simp only [List.length_map, List.length_take, Nat.min_eq_left (Nat.le_of_lt h), Nat.sub_self, List.set_cons_zero, List.map_append, List.map_cons, List.map_nil, List.append_assoc, List.cons_append, List.nil_append]
  rw [show l.length - (i + 1) = k by omega]
theorem list_of_ty {α : Type} {f : α → List D} {p : α → Prop} : ∀ {rows : List (List D)}, (∀ r ∈ rows, ∃ x : α, r = f x ∧ p x) → ∃ l : List α, rows = l.map f ∧ ∀ x ∈ l, p x
  | [], _ => ⟨[], rfl, fun x h => by cases h⟩
  | r :: rs, h => by
    obtain ⟨x, rfl, hx⟩ := h r (by simp)
    obtain ⟨l, rfl, hl⟩ := list_of_ty (rows := rs) (f := f) (p := p) (fun r hr => h r (by simp [hr]))
    refine ⟨x :: l, rfl, fun y hy => ?_⟩
    rcases List.mem_cons.1 hy with rfl | hy
    · exact hx
    · exact hl y hy
theorem isEmpty_len {α : Type} (l : List α) : ((l.length : Int) == 0) = l.isEmpty := by cases l <;> simp; omega
def intRows (l : List Int) : List (List D) := l.map fun n => [.int .i64 n]
theorem intRows_len (l : List Int) : (intRows l).length = l.length := by simp [intRows]
theorem allLen_ints (l : List Int) : allLen 1 (intRows l) := allLen_map fun _ => rfl
end Go.Proofs.Ytoipdmomgjdnaaa

/-
  Terms as data: what the laws' sizes, copies and comparisons of terms answer, and TermSame.
  Conditions: none.
-/
open Go Go.AM Go.Proofs
namespace Go.Proofs.Ytoipdmomgjdnaaa
open Go.ChangeShapes Go.WideShapes Go.ChangeAt Go.RowKit
set_option linter.unusedVariables false
set_option linter.unusedSimpArgs false
set_option maxRecDepth 100000
/-- a term -/
inductive Tm where
  | mk (k n : Int) (s : List UInt8) (kids : List Tm)
  deriving Inhabited
def Tm.k : Tm → Int | .mk k _ _ _ => k
def Tm.n : Tm → Int | .mk _ n _ _ => n
def Tm.s : Tm → List UInt8 | .mk _ _ s _ => s
def Tm.kids : Tm → List Tm | .mk _ _ _ l => l
noncomputable instance : DecidableEq Tm := fun a b => Classical.propDecidable (a = b)
mutual
def Tm.row : Tm → List D
  | .mk k n s l => [.int .i64 k, .int .i64 n, .str s, .sl (Tm.rows l)]
def Tm.rows : List Tm → List (List D)
  | [] => []
  | t :: l => t.row :: Tm.rows l
end
theorem rows_map : ∀ l : List Tm, Tm.rows l = l.map Tm.row
  | [] => rfl
  | t :: l => by rw [Tm.rows, rows_map l]; rfl
theorem row_mk (k n : Int) (s : List UInt8) (l : List Tm) : (Tm.mk k n s l).row = [.int .i64 k, .int .i64 n, .str s, .sl (l.map Tm.row)] := by rw [Tm.row, rows_map]
theorem row_eq (t : Tm) : t.row = [.int .i64 t.k, .int .i64 t.n, .str t.s, .sl (t.kids.map Tm.row)] := by
  obtain ⟨k, n, s, l⟩ := t
  exact row_mk k n s l
theorem row_len (t : Tm) : t.row.length = 4 := by cases t; rfl
theorem Tm.ind {p : Tm → Prop} (h : ∀ k n s l, (∀ t ∈ l, p t) → p (.mk k n s l)) : ∀ t, p t := by
  intro t
  induction hs : SizeOf.sizeOf t using Nat.strongRecOn generalizing t with
  | ind m ih =>
    obtain ⟨k, n, s, l⟩ := t
    refine h k n s l fun t ht => ih (SizeOf.sizeOf t) ?_ t rfl
    have := List.sizeOf_lt_of_mem ht
    simp at hs
    omega
/-- a term that can be handed in -/
inductive Tm.fine : Tm → Prop
  | mk {k n : Int} {s : List UInt8} {l : List Tm} : inR .i64 k → inR .i64 n → s.length ≤ reachBytes → l.length ≤ reachBytes → (∀ t ∈ l, t.fine) → (Tm.mk k n s l).fine
/-- a term that a law looks at -/
inductive Tm.fits : Tm → Prop
  | mk {k n : Int} {s : List UInt8} {l : List Tm} : inR .i64 k → inR .i64 n → s.length ≤ 1048576 → l.length ≤ 1048576 → (∀ t ∈ l, t.fits) → (Tm.mk k n s l).fits
theorem take_row (t : Tm) : List.take 4 (List.map C.d t.row) = List.map C.d t.row := List.take_of_length_le (by simp [row_len])
def ac11 : Cd := .seq (.region [⟨(some 4),.mv (.k (.c (.d (.int .i64 0)))),none⟩] [4])
 (.seq (.region [⟨(some 6),.mv (.t 1),none⟩,
 ⟨(some 7),.mv (.t 0),none⟩,
 ⟨(some 8),.len 1 (.t 7),none⟩,
 ⟨(some 9),.bin .sub (.t 6) (.t 8),none⟩,
 ⟨(some 1),.mv (.t 9),none⟩] [6,7,8,9])
 (.seq (.seq (.region [⟨(some 10),.mv (.t 1),none⟩,
 ⟨(some 11),.bin .lss (.t 10) (.k (.c (.d (.int .i64 0)))),none⟩] [10])
 (.cond (.t 11)
 (.seq (.region [⟨(some 4),.mv (.k (.c (.d (.int .i64 (-1))))),none⟩] [0,1,11])
 (.ret))
 (.skip)))
 (.seq (.seq (.region [⟨(some 5),.mv (.k (.c (.d (.int .i64 0)))),none⟩] [4,11])
 (.block 0 (.loop (.seq (.seq (.region [⟨(some 12),.mv (.t 5),none⟩,
 ⟨(some 13),.mv (.t 0),none⟩,
 ⟨(some 14),.len 1 (.t 13),none⟩,
 ⟨(some 15),.bin .lss (.t 12) (.t 14),none⟩] [12,13,14])
 (.cond (.t 15)
 (.skip)
 (.exit 0)))
 (.seq (.block 1 (.seq (.region [⟨(some 18),.mv (.t 0),none⟩,
 ⟨(some 19),.mv (.t 5),none⟩,
 ⟨(some 20),.indexAddr 4 (.t 18) (.t 19),none⟩,
 ⟨(some 21),.load (some 4) (.t 20),none⟩,
 ⟨(some 22),.mv (.t 1),none⟩,
 ⟨(some 23),.call false 36 [(.t 21),(.t 22)],none⟩,
 ⟨(some 1),.mv (.t 23),none⟩] [15,18,19,20,21,22,23])
 (.seq (.region [⟨(some 24),.mv (.t 1),none⟩,
 ⟨(some 25),.bin .lss (.t 24) (.k (.c (.d (.int .i64 0)))),none⟩] [24])
 (.cond (.t 25)
 (.seq (.region [⟨(some 4),.mv (.k (.c (.d (.int .i64 (-1))))),none⟩] [0,1,5,25])
 (.ret))
 (.skip)))))
 (.region [⟨(some 16),.mv (.t 5),none⟩,
 ⟨(some 17),.bin .add (.t 16) (.k (.c (.d (.int .i64 1)))),none⟩,
 ⟨(some 5),.mv (.t 17),none⟩] [4,16,17,25]))))))
 (.seq (.region [⟨(some 26),.mv (.t 1),none⟩,
 ⟨(some 4),.mv (.t 26),none⟩] [1,26])
 (.ret)))))
theorem ac11_ok : cFunc Try.prog [] [(0,[4],[]),(1,[6,7,8,9],[]),(2,[10],[]),(3,[0,1,11],[]),(4,[4,11],[]),(5,[12,13,14],[]),(7,[15,18,19,20,21,22,23],[]),(8,[24],[]),(9,[0,1,5,25],[]),(6,[4,16,17,25],[]),(10,[1,26],[])] Try.f11 = some (ac11,[.tmp 4],27) := by kernel_rfl
-- 36 loop.example/prologserver/laws.szTerm params 2 ntmps 19
def ac36 : Cd := .seq (.region [⟨(some 2),.box (.t 0),none⟩,
 ⟨(some 4),.mv (.k (.c (.d (.int .i64 0)))),none⟩] [0,4])
 (.seq (.region [⟨(some 5),.mv (.t 1),none⟩,
 ⟨(some 6),.fieldAddr 2 (.t 2),none⟩,
 ⟨(some 7),.load none (.t 6),none⟩,
 ⟨(some 8),.len 0 (.t 7),none⟩,
 ⟨(some 9),.bin .sub (.t 5) (.t 8),none⟩,
 ⟨(some 1),.mv (.t 9),none⟩] [5,6,7,8,9])
 (.seq (.seq (.region [⟨(some 10),.mv (.t 1),none⟩,
 ⟨(some 11),.bin .lss (.t 10) (.k (.c (.d (.int .i64 0)))),none⟩] [10])
 (.cond (.t 11)
 (.seq (.region [⟨(some 4),.mv (.k (.c (.d (.int .i64 (-1))))),none⟩] [1,2,11])
 (.ret))
 (.skip)))
 (.seq (.region [⟨(some 12),.fieldAddr 3 (.t 2),none⟩,
 ⟨(some 13),.load none (.t 12),none⟩,
 ⟨(some 14),.mv (.t 1),none⟩,
 ⟨(some 15),.call false 11 [(.t 13),(.t 14)],none⟩,
 ⟨(some 1),.mv (.t 15),none⟩] [2,4,11,12,13,14,15])
 (.seq (.seq (.region [⟨(some 16),.mv (.t 1),none⟩,
 ⟨(some 17),.bin .lss (.t 16) (.k (.c (.d (.int .i64 0)))),none⟩] [16])
 (.cond (.t 17)
 (.seq (.region [⟨(some 4),.mv (.k (.c (.d (.int .i64 (-1))))),none⟩] [1,17])
 (.ret))
 (.skip)))
 (.seq (.region [⟨(some 18),.mv (.t 1),none⟩,
 ⟨(some 4),.mv (.t 18),none⟩] [1,17,18])
 (.ret))))))
theorem ac36_ok : cFunc Try.prog [] [(0,[0,4],[]),(1,[5,6,7,8,9],[]),(2,[10],[]),(3,[1,2,11],[]),(4,[2,4,11,12,13,14,15],[]),(5,[16],[]),(6,[1,17],[]),(7,[1,17,18],[])] Try.f36 = some (ac36,[.tmp 4],19) := by kernel_rfl
-- 13 loop.example/prologserver/laws.toTermS params 1 ntmps 23
-- loop head live: [0,3,4]
def ac13 : Cd := .seq (.region [⟨(some 2),.mv (.k (.c (.full []))),none⟩] [2])
 (.seq (.region [⟨(some 5),.mv (.t 0),none⟩,
 ⟨(some 6),.len 1 (.t 5),none⟩,
 ⟨(some 7),.mkSlice [(.int .i64 0),(.int .i64 0),(.str []),(.sl [])] (.t 6),none⟩,
 ⟨(some 3),.mv (.t 7),none⟩] [5,6,7])
 (.seq (.seq (.region [⟨(some 4),.mv (.k (.c (.d (.int .i64 0)))),none⟩] [])
 (.block 0 (.loop (.seq (.seq (.region [⟨(some 8),.mv (.t 4),none⟩,
 ⟨(some 9),.mv (.t 0),none⟩,
 ⟨(some 10),.len 1 (.t 9),none⟩,
 ⟨(some 11),.bin .lss (.t 8) (.t 10),none⟩] [8,9,10])
 (.cond (.t 11)
 (.skip)
 (.exit 0)))
 (.seq (.block 1 (.region [⟨(some 14),.mv (.t 3),none⟩,
 ⟨(some 15),.mv (.t 4),none⟩,
 ⟨(some 16),.mv (.t 0),none⟩,
 ⟨(some 17),.mv (.t 4),none⟩,
 ⟨(some 18),.indexAddr 4 (.t 16) (.t 17),none⟩,
 ⟨(some 19),.load (some 4) (.t 18),none⟩,
 ⟨(some 20),.qcall 39 [(.t 19)],none⟩,
 ⟨(some 21),.indexAddr 4 (.t 14) (.t 15),none⟩,
 ⟨none,.store 4 (.t 21) (.t 20),none⟩] [11,14,15,16,17,18,19,20,21]))
 (.region [⟨(some 12),.mv (.t 4),none⟩,
 ⟨(some 13),.bin .add (.t 12) (.k (.c (.d (.int .i64 1)))),none⟩,
 ⟨(some 4),.mv (.t 13),none⟩] [12,13]))))))
 (.seq (.region [⟨(some 22),.mv (.t 3),none⟩,
 ⟨(some 2),.mv (.t 22),none⟩] [3,22])
 (.ret))))
theorem ac13_ok : cFunc Try.prog [1000039] [(0,[2],[]),(1,[5,6,7],[]),(2,[],[]),(3,[8,9,10],[]),(5,[11,14,15,16,17,18,19,20,21],[]),(4,[12,13],[]),(6,[3,22],[])] Try.f13 = some (ac13,[.tmp 2],23) := by kernel_rfl
-- 39 loop.example/prologserver/laws.toTerm params 1 ntmps 18
def ac39 : Cd := .seq (.region [⟨(some 1),.box (.t 0),none⟩,
 ⟨(some 2),.alloc [(.d (.int .i64 0)),(.d (.int .i64 0)),(.d (.str [])),(.full [])],none⟩] [0])
 (.seq (.region [⟨(some 3),.alloc [(.d (.int .i64 0)),(.d (.int .i64 0)),(.d (.str [])),(.full [])],none⟩] [])
 (.seq (.region [⟨(some 4),.fieldAddr 0 (.t 1),none⟩,
 ⟨(some 5),.load none (.t 4),none⟩,
 ⟨(some 6),.fieldAddr 0 (.t 3),none⟩,
 ⟨none,.store 1 (.t 6) (.t 5),none⟩] [4,5,6])
 (.seq (.region [⟨(some 7),.fieldAddr 1 (.t 1),none⟩,
 ⟨(some 8),.load none (.t 7),none⟩,
 ⟨(some 9),.fieldAddr 1 (.t 3),none⟩,
 ⟨none,.store 1 (.t 9) (.t 8),none⟩] [7,8,9])
 (.seq (.region [⟨(some 10),.fieldAddr 2 (.t 1),none⟩,
 ⟨(some 11),.load none (.t 10),none⟩,
 ⟨(some 12),.fieldAddr 2 (.t 3),none⟩,
 ⟨none,.store 1 (.t 12) (.t 11),none⟩] [10,11,12])
 (.seq (.region [⟨(some 13),.fieldAddr 3 (.t 1),none⟩,
 ⟨(some 14),.load none (.t 13),none⟩,
 ⟨(some 15),.qcall 13 [(.t 14)],none⟩,
 ⟨(some 16),.fieldAddr 3 (.t 3),none⟩,
 ⟨none,.store 1 (.t 16) (.t 15),none⟩] [1,13,14,15,16])
 (.seq (.region [⟨(some 17),.load (some 4) (.t 3),none⟩,
 ⟨none,.store 4 (.t 2) (.t 17),none⟩] [3,17])
 (.ret)))))))
theorem ac39_ok : cFunc Try.prog [1000013] [(0,[0],[]),(1,[],[]),(2,[4,5,6],[]),(3,[7,8,9],[]),(4,[10,11,12],[]),(5,[1,13,14,15,16],[]),(6,[3,17],[])] Try.f39 = some (ac39,[.cell 2 (some 4)],18) := by kernel_rfl
-- 16 loop.example/prologserver/laws.eqTermS params 2 ntmps 27
-- loop head live: [0,1,5]
def ac16 : Cd := .seq (.region [⟨(some 4),.mv (.k (.c (.d (.bool false)))),none⟩] [4])
 (.seq (.seq (.region [⟨(some 6),.mv (.t 0),none⟩,
 ⟨(some 7),.len 1 (.t 6),none⟩,
 ⟨(some 8),.mv (.t 1),none⟩,
 ⟨(some 9),.len 1 (.t 8),none⟩,
 ⟨(some 10),.bin .neq (.t 7) (.t 9),none⟩] [6,7,8,9])
 (.cond (.t 10)
 (.seq (.region [⟨(some 4),.mv (.k (.c (.d (.bool false)))),none⟩] [0,1,10])
 (.ret))
 (.skip)))
 (.seq (.seq (.region [⟨(some 5),.mv (.k (.c (.d (.int .i64 0)))),none⟩] [4,10])
 (.block 0 (.loop (.seq (.seq (.region [⟨(some 11),.mv (.t 5),none⟩,
 ⟨(some 12),.mv (.t 0),none⟩,
 ⟨(some 13),.len 1 (.t 12),none⟩,
 ⟨(some 14),.bin .lss (.t 11) (.t 13),none⟩] [11,12,13])
 (.cond (.t 14)
 (.skip)
 (.exit 0)))
 (.seq (.block 1 (.seq (.region [⟨(some 17),.mv (.t 0),none⟩,
 ⟨(some 18),.mv (.t 5),none⟩,
 ⟨(some 19),.indexAddr 4 (.t 17) (.t 18),none⟩,
 ⟨(some 21),.mv (.t 1),none⟩,
 ⟨(some 22),.mv (.t 5),none⟩,
 ⟨(some 23),.indexAddr 4 (.t 21) (.t 22),none⟩,
 ⟨(some 20),.load (some 4) (.t 19),none⟩,
 ⟨(some 24),.load (some 4) (.t 23),none⟩,
 ⟨(some 25),.qcall 42 [(.t 20),(.t 24)],none⟩,
 ⟨(some 26),.un .not (.t 25),none⟩] [14,17,18,19,20,21,22,23,24,25])
 (.cond (.t 26)
 (.seq (.region [⟨(some 4),.mv (.k (.c (.d (.bool false)))),none⟩] [0,1,5,26])
 (.ret))
 (.skip))))
 (.region [⟨(some 15),.mv (.t 5),none⟩,
 ⟨(some 16),.bin .add (.t 15) (.k (.c (.d (.int .i64 1)))),none⟩,
 ⟨(some 5),.mv (.t 16),none⟩] [4,15,16,26]))))))
 (.seq (.region [⟨(some 4),.mv (.k (.c (.d (.bool true)))),none⟩] [])
 (.ret))))
theorem ac16_ok : cFunc Try.prog [1000042] [(0,[4],[]),(1,[6,7,8,9],[]),(2,[0,1,10],[]),(3,[4,10],[]),(4,[11,12,13],[]),(6,[14,17,18,19,20,21,22,23,24,25],[0,1,2,4,5,6,3,7,8,9]),(7,[0,1,5,26],[]),(5,[4,15,16,26],[]),(8,[],[])] Try.f16 = some (ac16,[.tmp 4],27) := by kernel_rfl
-- 42 loop.example/prologserver/laws.eqTerm params 2 ntmps 26
def ac42 : Cd := .seq (.region [⟨(some 2),.box (.t 0),none⟩,
 ⟨(some 3),.box (.t 1),none⟩,
 ⟨(some 4),.mv (.k (.c (.d (.bool false)))),none⟩] [0,1,4])
 (.seq (.seq (.region [⟨(some 5),.fieldAddr 0 (.t 2),none⟩,
 ⟨(some 6),.load none (.t 5),none⟩,
 ⟨(some 7),.fieldAddr 0 (.t 3),none⟩,
 ⟨(some 8),.load none (.t 7),none⟩,
 ⟨(some 9),.bin .neq (.t 6) (.t 8),none⟩] [5,6,7,8])
 (.cond (.t 9)
 (.seq (.region [⟨(some 4),.mv (.k (.c (.d (.bool false)))),none⟩] [2,3,9])
 (.ret))
 (.skip)))
 (.seq (.seq (.region [⟨(some 10),.fieldAddr 1 (.t 2),none⟩,
 ⟨(some 11),.load none (.t 10),none⟩,
 ⟨(some 12),.fieldAddr 1 (.t 3),none⟩,
 ⟨(some 13),.load none (.t 12),none⟩,
 ⟨(some 14),.bin .neq (.t 11) (.t 13),none⟩] [4,9,10,11,12,13])
 (.cond (.t 14)
 (.seq (.region [⟨(some 4),.mv (.k (.c (.d (.bool false)))),none⟩] [2,3,14])
 (.ret))
 (.skip)))
 (.seq (.seq (.region [⟨(some 15),.fieldAddr 2 (.t 2),none⟩,
 ⟨(some 16),.load none (.t 15),none⟩,
 ⟨(some 17),.fieldAddr 2 (.t 3),none⟩,
 ⟨(some 18),.load none (.t 17),none⟩,
 ⟨(some 19),.bin .neq (.t 16) (.t 18),none⟩] [4,14,15,16,17,18])
 (.cond (.t 19)
 (.seq (.region [⟨(some 4),.mv (.k (.c (.d (.bool false)))),none⟩] [2,3,19])
 (.ret))
 (.skip)))
 (.seq (.seq (.region [⟨(some 20),.fieldAddr 3 (.t 2),none⟩,
 ⟨(some 21),.load none (.t 20),none⟩,
 ⟨(some 22),.fieldAddr 3 (.t 3),none⟩,
 ⟨(some 23),.load none (.t 22),none⟩,
 ⟨(some 24),.qcall 16 [(.t 21),(.t 23)],none⟩,
 ⟨(some 25),.un .not (.t 24),none⟩] [2,3,4,19,20,21,22,23,24])
 (.cond (.t 25)
 (.seq (.region [⟨(some 4),.mv (.k (.c (.d (.bool false)))),none⟩] [25])
 (.ret))
 (.skip)))
 (.seq (.region [⟨(some 4),.mv (.k (.c (.d (.bool true)))),none⟩] [25])
 (.ret))))))
theorem ac42_ok : cFunc Try.prog [1000016] [(0,[0,1,4],[]),(1,[5,6,7,8],[]),(2,[2,3,9],[]),(3,[4,9,10,11,12,13],[]),(4,[2,3,14],[]),(5,[4,14,15,16,17,18],[]),(6,[2,3,19],[]),(7,[2,3,4,19,20,21,22,23,24],[]),(8,[25],[]),(9,[25],[])] Try.f42 = some (ac42,[.tmp 4],26) := by kernel_rfl
/-- a call of a function of one term that gives it back -/
def ToT (t : Tm) : Prop := ∀ H, ACalls Try.prog 39 [.agg (t.row.map .d)] H (fun r H' => H' = H ∧ r = .agg (t.row.map .d))
theorem toTermS_of (l : List Tm) (hl : l.length ≤ 1048576) (h : ∀ t ∈ l, ToT t) (H : Heap) :
    ACalls Try.prog 13 [.c (.d (.sl (l.map Tm.row)))] H (fun r H' => H' = H ∧ r = .c (.d (.sl (l.map Tm.row)))) := by
  refine acalls Try.func13 (by kernel_rfl) ac13_ok fun hf => ?_
  have hli : inR .i64 (l.length : Int) := small_i64 (by omega) (by omega)
  simp -implicitDefEqProofs [ac13, hli, go_sem, -List.set_cons_succ, -List.set_cons_zero]
  refine ⟨by unfold maxApp; omega, ?_⟩
  refine loop_set (σ := Nat) (fun i => [(4, .c (.d (.int .i64 i)))]) (fun _ => H) (fun i => [.rows (fill Tm.row [.int .i64 0, .int .i64 0, .str [], .sl []] l i)]) (fun i => i ≤ l.length) (fun i => l.length - i) 0 (by simp [setAll, fill_zero]) (Nat.zero_le _) ?_
  intro i hi
  simp -implicitDefEqProofs [setAll, hli, go_sem, -List.set_cons_succ, -List.set_cons_zero]
  refine ⟨fun hlt => ?_, fun hge => by rw [show i = l.length by omega, fill_all]⟩
  have hadd : inR .i64 ((i : Int) + 1) := small_i64 (by omega) (by omega)
  refine row_of hlt (row_len _) ?_
  simp -implicitDefEqProofs [row_len, take_row, pure_d, re_d, go_sem, -List.set_cons_succ, -List.set_cons_zero]
  refine qcall_pure (h l[i] (List.getElem_mem hlt)) hf (by simp [A.re, re_d]) ?_
  simp -implicitDefEqProofs [hadd, hlt, fill_get _ _ _ hlt, toDs_map, row_len, go_sem, -List.set_cons_succ, -List.set_cons_zero]
  have hset := fill_set Tm.row [.int .i64 0, .int .i64 0, .str [], .sl []] l hlt
  exact ⟨hf, loop_back (i + 1) (by simp [setAll]; exact hset) hlt (by show l.length - (i + 1) < l.length - i; omega)⟩
theorem toTerm_calls : ∀ t : Tm, t.fits → ToT t := by
  refine Tm.ind fun k n s l ih hfits H => ?_
  obtain ⟨hk, hn, hs, hl, hkids⟩ := hfits
  refine acalls Try.func39 (by kernel_rfl) ac39_ok fun hf => ?_
  simp -implicitDefEqProofs [ac39, row_mk, hf, go_sem, -List.set_cons_succ, -List.set_cons_zero]
  refine qcall_pure (toTermS_of l hl fun t ht => ih t ht (hkids t ht)) hf rfl ?_
  simp -implicitDefEqProofs [hf, go_sem, -List.set_cons_succ, -List.set_cons_zero]
theorem toTermS_calls (l : List Tm) (hl : l.length ≤ 1048576) (h : ∀ t ∈ l, t.fits) (H : Heap) : ACalls Try.prog 13 [.c (.d (.sl (l.map Tm.row)))] H (fun r H' => H' = H ∧ r = .c (.d (.sl (l.map Tm.row)))) :=
  toTermS_of l hl (fun t ht => toTerm_calls t (h t ht)) H

/-- a call that compares two terms -/
def Same2 (f : FuncId) (a b : Tm) : Prop := ∀ H, ACalls Try.prog f [.agg (a.row.map .d), .agg (b.row.map .d)] H (fun r H' => H' = H ∧ r = .c (.d (.bool (decide (a = b)))))
theorem eqTermS_of (l : List Tm) (hl : l.length ≤ 1048576) (h : ∀ t ∈ l, Same2 42 t t) (H : Heap) :
    ACalls Try.prog 16 [.c (.d (.sl (l.map Tm.row))), .c (.d (.sl (l.map Tm.row)))] H (fun r H' => H' = H ∧ r = .c (.d (.bool true))) := by
  refine acalls Try.func16 (by kernel_rfl) ac16_ok fun hf => ?_
  have hli : inR .i64 (l.length : Int) := small_i64 (by omega) (by omega)
  simp -implicitDefEqProofs [ac16, hli, go_sem, -List.set_cons_succ, -List.set_cons_zero]
  refine loop_set (σ := Nat) (fun i => [(5, .c (.d (.int .i64 i)))]) (fun _ => H) (fun _ => []) (fun i => i ≤ l.length) (fun i => l.length - i) 0 rfl (Nat.zero_le _) ?_
  intro i hi
  simp -implicitDefEqProofs [setAll, hli, go_sem, -List.set_cons_succ, -List.set_cons_zero]
  intro hlt
  have hadd : inR .i64 ((i : Int) + 1) := small_i64 (by omega) (by omega)
  refine row_of hlt (row_len _) ?_
  simp -implicitDefEqProofs [go_sem, -List.set_cons_succ, -List.set_cons_zero]
  refine row_of hlt (row_len _) ?_
  simp -implicitDefEqProofs [row_len, take_row, pure_d, re_d, go_sem, -List.set_cons_succ, -List.set_cons_zero]
  refine qcall_pure (h l[i] (List.getElem_mem hlt)) hf rfl ?_
  simp -implicitDefEqProofs [hadd, go_sem, -List.set_cons_succ, -List.set_cons_zero]
  exact loop_back (i + 1) (by simp [setAll]) hlt (by show l.length - (i + 1) < l.length - i; omega)
theorem eqTerm_calls : ∀ t : Tm, t.fits → Same2 42 t t := by
  refine Tm.ind fun k n s l ih hfits H => ?_
  obtain ⟨hk, hn, hs, hl, hkids⟩ := hfits
  refine acalls Try.func42 (by kernel_rfl) ac42_ok fun hf => ?_
  simp -implicitDefEqProofs [ac42, row_mk, go_sem, -List.set_cons_succ, -List.set_cons_zero]
  refine qcall_pure (eqTermS_of l hl fun t ht => ih t ht (hkids t ht)) hf rfl ?_
  simp -implicitDefEqProofs [hf, go_sem, -List.set_cons_succ, -List.set_cons_zero]
theorem eqTermS_calls (l : List Tm) (hl : l.length ≤ 1048576) (h : ∀ t ∈ l, t.fits) (H : Heap) : ACalls Try.prog 16 [.c (.d (.sl (l.map Tm.row))), .c (.d (.sl (l.map Tm.row)))] H (fun r H' => H' = H ∧ r = .c (.d (.bool true))) :=
  eqTermS_of l hl (fun t ht => eqTerm_calls t (h t ht)) H

end Go.Proofs.Ytoipdmomgjdnaaa

/-
  Atoms.
  Conditions: none.
-/
open Go Go.AM Go.Proofs
namespace Go.Proofs.Ytoipdmomgjdnaaa
open Go.ChangeShapes Go.WideShapes Go.ChangeAt Go.RowKit
set_option linter.unusedVariables false
set_option linter.unusedSimpArgs false
set_option maxRecDepth 100000
-- 84 loop.example/prologserver/impl.isAtom params 1 ntmps 12
def ac84 : Cd := .seq (.region [⟨(some 1),.box (.t 0),none⟩,
 ⟨(some 2),.mv (.k (.c (.d (.bool false)))),none⟩] [0,2])
 (.seq (.region [⟨(some 3),.fieldAddr 0 (.t 1),none⟩,
 ⟨(some 4),.load none (.t 3),none⟩,
 ⟨(some 5),.bin .eql (.t 4) (.k (.c (.d (.int .i64 3)))),none⟩,
 ⟨(some 6),.mv (.t 5),none⟩,
 ⟨(some 7),.fieldAddr 3 (.t 1),some (6,true)⟩,
 ⟨(some 8),.load none (.t 7),some (6,true)⟩,
 ⟨(some 9),.len 1 (.t 8),some (6,true)⟩,
 ⟨(some 10),.bin .eql (.t 9) (.k (.c (.d (.int .i64 0)))),some (6,true)⟩,
 ⟨(some 11),.pick (.t 6) (.t 10) (.k (.c (.d (.bool false)))),none⟩,
 ⟨(some 2),.mv (.t 11),none⟩] [1,3,4,5,6,7,8,9,10,11])
 (.ret))
theorem ac84_ok : cFunc Try.prog [] [(0,[0,2],[]),(1,[1,3,4,5,6,7,8,9,10,11],[])] Try.f84 = some (ac84,[.tmp 2],12) := by kernel_rfl
theorem isAtom_calls (t : Tm) (ht : t.fits) (H : Heap) : ACalls Try.prog 84 [.agg (t.row.map .d)] H (fun r H' => H' = H ∧ r = .c (.d (.bool (decide (t.k = 3) && t.kids.isEmpty)))) := by
  obtain ⟨k, n, s, l⟩ := t
  obtain ⟨_, _, hs, hl, hkids⟩ := ht
  have hli : inR .i64 (l.length : Int) := small_i64 (by omega) (by omega)
  refine acalls Try.func84 (by kernel_rfl) ac84_ok fun hf => ?_
  by_cases hk : k = 3
  · simp -implicitDefEqProofs [ac84, row_mk, hk, hli, Tm.k, Tm.kids, isEmpty_len, go_sem, -List.set_cons_succ, -List.set_cons_zero]
  · simp -implicitDefEqProofs [ac84, row_mk, hk, hli, Tm.k, go_sem, -List.set_cons_succ, -List.set_cons_zero]
end Go.Proofs.Ytoipdmomgjdnaaa

/-
  A number in a range.
  Conditions: none.
-/
open Go Go.AM Go.Proofs
namespace Go.Proofs.Ytoipdmomgjdnaaa
open Go.ChangeShapes Go.WideShapes Go.ChangeAt Go.RowKit
set_option linter.unusedVariables false
set_option linter.unusedSimpArgs false
set_option maxRecDepth 100000
-- 67 loop.example/prologserver/impl.within params 3 ntmps 15
def ac67 : Cd := .seq (.region [⟨(some 6),.mv (.k (.c (.d (.bool false)))),none⟩] [6])
 (.seq (.region [⟨(some 7),.mv (.t 1),none⟩,
 ⟨(some 8),.mv (.t 0),none⟩,
 ⟨(some 9),.bin .leq (.t 7) (.t 8),none⟩,
 ⟨(some 10),.mv (.t 9),none⟩,
 ⟨(some 11),.mv (.t 0),some (10,true)⟩,
 ⟨(some 12),.mv (.t 2),some (10,true)⟩,
 ⟨(some 13),.bin .leq (.t 11) (.t 12),some (10,true)⟩,
 ⟨(some 14),.pick (.t 10) (.t 13) (.k (.c (.d (.bool false)))),none⟩,
 ⟨(some 6),.mv (.t 14),none⟩] [0,1,2,7,8,9,10,11,12,13,14])
 (.ret))
theorem ac67_ok : cFunc Try.prog [] [(0,[6],[]),(1,[0,1,2,7,8,9,10,11,12,13,14],[])] Try.f67 = some (ac67,[.tmp 6],15) := by kernel_rfl
theorem within_calls (x lo hi : Int) (H : Heap) : ACalls Try.prog 67 [.c (.d (.int .i64 x)), .c (.d (.int .i64 lo)), .c (.d (.int .i64 hi))] H (fun r H' => H' = H ∧ r = .c (.d (.bool (decide (lo ≤ x) && decide (x ≤ hi))))) := by
  refine acalls Try.func67 (by kernel_rfl) ac67_ok fun hf => ?_
  simp -implicitDefEqProofs [ac67, go_sem, -List.set_cons_succ, -List.set_cons_zero]
end Go.Proofs.Ytoipdmomgjdnaaa

/-
  Names: letters and signs.
  Conditions: none.
-/
open Go Go.AM Go.Proofs
namespace Go.Proofs.Ytoipdmomgjdnaaa
open Go.ChangeShapes Go.WideShapes Go.ChangeAt Go.RowKit
set_option linter.unusedVariables false
set_option linter.unusedSimpArgs false
set_option maxRecDepth 100000
-- 53 loop.example/prologserver/impl.isLetters params 1 ntmps 23
-- loop head live: [0,5,6]
def ac53 : Cd := .seq (.region [⟨(some 2),.mv (.k (.c (.d (.bool false)))),none⟩] [2])
 (.seq (.seq (.region [⟨(some 4),.mv (.t 0),none⟩,
 ⟨(some 5),.len 0 (.t 4),none⟩,
 ⟨(some 6),.mv (.k (.c (.d (.int .i64 0)))),none⟩] [4])
 (.block 0 (.loop (.seq (.region [⟨(some 7),.bin .lss (.t 6) (.t 5),none⟩] [])
 (.seq (.cond (.t 7)
 (.skip)
 (.exit 0))
 (.seq (.block 1 (.seq (.region [⟨(some 8),.mv (.t 6),none⟩,
 ⟨(some 3),.mv (.t 8),none⟩] [7,8])
 (.seq (.region [⟨(some 9),.mv (.t 0),none⟩,
 ⟨(some 10),.mv (.t 3),none⟩,
 ⟨(some 11),.index (.t 9) (.t 10),none⟩,
 ⟨(some 12),.bin .lss (.t 11) (.k (.c (.d (.int .u8 97)))),none⟩,
 ⟨(some 13),.mv (.t 12),none⟩,
 ⟨(some 14),.mv (.t 0),some (13,false)⟩,
 ⟨(some 15),.mv (.t 3),some (13,false)⟩,
 ⟨(some 16),.index (.t 14) (.t 15),some (13,false)⟩,
 ⟨(some 17),.bin .gtr (.t 16) (.k (.c (.d (.int .u8 122)))),some (13,false)⟩,
 ⟨(some 18),.pick (.t 13) (.k (.c (.d (.bool true)))) (.t 17),none⟩] [3,9,10,11,12,13,14,15,16,17])
 (.cond (.t 18)
 (.seq (.region [⟨(some 2),.mv (.k (.c (.d (.bool false)))),none⟩] [0,5,6,18])
 (.ret))
 (.skip)))))
 (.region [⟨(some 19),.bin .add (.t 6) (.k (.c (.d (.int .i64 1)))),none⟩,
 ⟨(some 6),.mv (.t 19),none⟩] [2,18,19])))))))
 (.seq (.region [⟨(some 20),.mv (.t 0),none⟩,
 ⟨(some 21),.len 0 (.t 20),none⟩,
 ⟨(some 22),.qcall 67 [(.t 21),(.k (.c (.d (.int .i64 1)))),(.k (.c (.d (.int .i64 6))))],none⟩,
 ⟨(some 2),.mv (.t 22),none⟩] [0,20,21,22])
 (.ret)))
theorem ac53_ok : cFunc Try.prog [1000067] [(0,[2],[]),(1,[4],[]),(2,[],[]),(3,[7,8],[]),(4,[3,9,10,11,12,13,14,15,16,17],[]),(5,[0,5,6,18],[]),(6,[2,18,19],[]),(7,[0,20,21,22],[])] Try.f53 = some (ac53,[.tmp 2],23) := by kernel_rfl
-- 50 loop.example/prologserver/spec.l1Word params 1 ntmps 28
-- loop head live: [0,3]
def ac50 : Cd := .seq (.region [⟨(some 2),.mv (.k (.c (.d (.bool false)))),none⟩] [2])
 (.seq (.seq (.region [⟨(some 3),.mv (.k (.c (.d (.int .i64 0)))),none⟩] [])
 (.block 0 (.loop (.seq (.seq (.region [⟨(some 4),.mv (.t 3),none⟩,
 ⟨(some 5),.mv (.t 0),none⟩,
 ⟨(some 6),.len 0 (.t 5),none⟩,
 ⟨(some 7),.bin .lss (.t 4) (.t 6),none⟩] [4,5,6])
 (.cond (.t 7)
 (.skip)
 (.exit 0)))
 (.seq (.block 1 (.seq (.region [⟨(some 10),.mv (.t 0),none⟩,
 ⟨(some 11),.mv (.t 3),none⟩,
 ⟨(some 12),.index (.t 10) (.t 11),none⟩,
 ⟨(some 13),.bin .lss (.t 12) (.k (.c (.d (.int .u8 97)))),none⟩,
 ⟨(some 14),.mv (.t 13),none⟩,
 ⟨(some 15),.mv (.t 0),some (14,false)⟩,
 ⟨(some 16),.mv (.t 3),some (14,false)⟩,
 ⟨(some 17),.index (.t 15) (.t 16),some (14,false)⟩,
 ⟨(some 18),.bin .gtr (.t 17) (.k (.c (.d (.int .u8 122)))),some (14,false)⟩,
 ⟨(some 19),.pick (.t 14) (.k (.c (.d (.bool true)))) (.t 18),none⟩] [7,10,11,12,13,14,15,16,17,18])
 (.cond (.t 19)
 (.seq (.region [⟨(some 2),.mv (.k (.c (.d (.bool false)))),none⟩] [0,3,19])
 (.ret))
 (.skip))))
 (.region [⟨(some 8),.mv (.t 3),none⟩,
 ⟨(some 9),.bin .add (.t 8) (.k (.c (.d (.int .i64 1)))),none⟩,
 ⟨(some 3),.mv (.t 9),none⟩] [2,8,9,19]))))))
 (.seq (.region [⟨(some 20),.mv (.t 0),none⟩,
 ⟨(some 21),.len 0 (.t 20),none⟩,
 ⟨(some 22),.bin .geq (.t 21) (.k (.c (.d (.int .i64 1)))),none⟩,
 ⟨(some 23),.mv (.t 22),none⟩,
 ⟨(some 24),.mv (.t 0),some (23,true)⟩,
 ⟨(some 25),.len 0 (.t 24),some (23,true)⟩,
 ⟨(some 26),.bin .leq (.t 25) (.k (.c (.d (.int .i64 6)))),some (23,true)⟩,
 ⟨(some 27),.pick (.t 23) (.t 26) (.k (.c (.d (.bool false)))),none⟩,
 ⟨(some 2),.mv (.t 27),none⟩] [0,20,21,22,23,24,25,26,27])
 (.ret)))
theorem ac50_ok : cFunc Try.prog [] [(0,[2],[]),(1,[],[]),(2,[4,5,6],[]),(4,[7,10,11,12,13,14,15,16,17,18],[]),(5,[0,3,19],[]),(3,[2,8,9,19],[]),(6,[0,20,21,22,23,24,25,26,27],[])] Try.f50 = some (ac50,[.tmp 2],28) := by kernel_rfl
-- 86 loop.example/prologserver/impl.symbols params 0 ntmps 2
def ac86 : Cd := .seq (.region [⟨(some 0),.mv (.k (.c (.full []))),none⟩] [0])
 (.seq (.region [⟨(some 1),.buildSlice 1 15 [(.str [])] [(0,(.k (.c (.d (.str [43]))))),(1,(.k (.c (.d (.str [45]))))),(2,(.k (.c (.d (.str [42]))))),(3,(.k (.c (.d (.str [47,47]))))),(4,(.k (.c (.d (.str [61]))))),(5,(.k (.c (.d (.str [92,61]))))),(6,(.k (.c (.d (.str [61,61]))))),(7,(.k (.c (.d (.str [60]))))),(8,(.k (.c (.d (.str [62]))))),(9,(.k (.c (.d (.str [61,60]))))),(10,(.k (.c (.d (.str [62,61]))))),(11,(.k (.c (.d (.str [61,58,61]))))),(12,(.k (.c (.d (.str [46]))))),(13,(.k (.c (.d (.str [91,93]))))),(14,(.k (.c (.d (.str [33])))))],none⟩,
 ⟨(some 0),.mv (.t 1),none⟩] [1])
 (.ret))
theorem ac86_ok : cFunc Try.prog [] [(0,[0],[]),(1,[1],[])] Try.f86 = some (ac86,[.tmp 0],2) := by kernel_rfl
-- 88 loop.example/prologserver/spec.l1Signs params 0 ntmps 2
def ac88 : Cd := .seq (.region [⟨(some 0),.mv (.k (.c (.full []))),none⟩] [0])
 (.seq (.region [⟨(some 1),.buildSlice 1 15 [(.str [])] [(0,(.k (.c (.d (.str [43]))))),(1,(.k (.c (.d (.str [45]))))),(2,(.k (.c (.d (.str [42]))))),(3,(.k (.c (.d (.str [47,47]))))),(4,(.k (.c (.d (.str [61]))))),(5,(.k (.c (.d (.str [92,61]))))),(6,(.k (.c (.d (.str [61,61]))))),(7,(.k (.c (.d (.str [60]))))),(8,(.k (.c (.d (.str [62]))))),(9,(.k (.c (.d (.str [61,60]))))),(10,(.k (.c (.d (.str [62,61]))))),(11,(.k (.c (.d (.str [61,58,61]))))),(12,(.k (.c (.d (.str [46]))))),(13,(.k (.c (.d (.str [91,93]))))),(14,(.k (.c (.d (.str [33])))))],none⟩,
 ⟨(some 0),.mv (.t 1),none⟩] [1])
 (.ret))
theorem ac88_ok : cFunc Try.prog [] [(0,[0],[]),(1,[1],[])] Try.f88 = some (ac88,[.tmp 0],2) := by kernel_rfl
-- 56 slices.Index[[]string,string] params 2 ntmps 19
-- loop head live: [0,1,7,8]
def ac56 : Cd := .seq (.region [⟨(some 4),.mv (.k (.c (.d (.int .i64 0)))),none⟩] [4])
 (.seq (.seq (.region [⟨(some 6),.mv (.t 0),none⟩,
 ⟨(some 7),.len 1 (.t 6),none⟩,
 ⟨(some 8),.mv (.k (.c (.d (.int .i64 0)))),none⟩] [6])
 (.block 0 (.loop (.seq (.region [⟨(some 9),.bin .lss (.t 8) (.t 7),none⟩] [])
 (.seq (.cond (.t 9)
 (.skip)
 (.exit 0))
 (.seq (.block 1 (.seq (.region [⟨(some 10),.mv (.t 8),none⟩,
 ⟨(some 5),.mv (.t 10),none⟩] [9,10])
 (.seq (.region [⟨(some 11),.mv (.t 1),none⟩,
 ⟨(some 12),.mv (.t 0),none⟩,
 ⟨(some 13),.mv (.t 5),none⟩,
 ⟨(some 14),.indexAddr 1 (.t 12) (.t 13),none⟩,
 ⟨(some 15),.load none (.t 14),none⟩,
 ⟨(some 16),.bin .eql (.t 11) (.t 15),none⟩] [11,12,13,14,15])
 (.cond (.t 16)
 (.seq (.region [⟨(some 17),.mv (.t 5),none⟩,
 ⟨(some 4),.mv (.t 17),none⟩] [0,1,5,7,8,16,17])
 (.ret))
 (.skip)))))
 (.region [⟨(some 18),.bin .add (.t 8) (.k (.c (.d (.int .i64 1)))),none⟩,
 ⟨(some 8),.mv (.t 18),none⟩] [4,5,16,18])))))))
 (.seq (.region [⟨(some 4),.mv (.k (.c (.d (.int .i64 (-1))))),none⟩] [])
 (.ret)))
theorem ac56_ok : cFunc Try.prog [] [(0,[4],[]),(1,[6],[]),(2,[],[]),(3,[9,10],[]),(4,[11,12,13,14,15],[]),(5,[0,1,5,7,8,16,17],[]),(6,[4,5,16,18],[]),(7,[],[])] Try.f56 = some (ac56,[.tmp 4],19) := by kernel_rfl
-- 30 slices.Contains[[]string,string] params 2 ntmps 9
def ac30 : Cd := .seq (.region [⟨(some 4),.mv (.k (.c (.d (.bool false)))),none⟩] [4])
 (.seq (.region [⟨(some 5),.mv (.t 0),none⟩,
 ⟨(some 6),.mv (.t 1),none⟩,
 ⟨(some 7),.call false 56 [(.t 5),(.t 6)],none⟩,
 ⟨(some 8),.bin .geq (.t 7) (.k (.c (.d (.int .i64 0)))),none⟩,
 ⟨(some 4),.mv (.t 8),none⟩] [0,1,5,6,7,8])
 (.ret))
theorem ac30_ok : cFunc Try.prog [] [(0,[4],[]),(1,[0,1,5,6,7,8],[])] Try.f30 = some (ac30,[.tmp 4],9) := by kernel_rfl
-- 87 loop.example/prologserver/spec.l1Has params 2 ntmps 18
-- loop head live: [0,1,5]
def ac87 : Cd := .seq (.region [⟨(some 4),.mv (.k (.c (.d (.bool false)))),none⟩] [4])
 (.seq (.seq (.region [⟨(some 5),.mv (.k (.c (.d (.int .i64 0)))),none⟩] [])
 (.block 0 (.loop (.seq (.seq (.region [⟨(some 6),.mv (.t 5),none⟩,
 ⟨(some 7),.mv (.t 0),none⟩,
 ⟨(some 8),.len 1 (.t 7),none⟩,
 ⟨(some 9),.bin .lss (.t 6) (.t 8),none⟩] [6,7,8])
 (.cond (.t 9)
 (.skip)
 (.exit 0)))
 (.seq (.block 1 (.seq (.region [⟨(some 12),.mv (.t 0),none⟩,
 ⟨(some 13),.mv (.t 5),none⟩,
 ⟨(some 14),.indexAddr 1 (.t 12) (.t 13),none⟩,
 ⟨(some 15),.load none (.t 14),none⟩,
 ⟨(some 16),.mv (.t 1),none⟩,
 ⟨(some 17),.bin .eql (.t 15) (.t 16),none⟩] [9,12,13,14,15,16])
 (.cond (.t 17)
 (.seq (.region [⟨(some 4),.mv (.k (.c (.d (.bool true)))),none⟩] [0,1,5,17])
 (.ret))
 (.skip))))
 (.region [⟨(some 10),.mv (.t 5),none⟩,
 ⟨(some 11),.bin .add (.t 10) (.k (.c (.d (.int .i64 1)))),none⟩,
 ⟨(some 5),.mv (.t 11),none⟩] [4,10,11,17]))))))
 (.seq (.region [⟨(some 4),.mv (.k (.c (.d (.bool false)))),none⟩] [])
 (.ret)))
theorem ac87_ok : cFunc Try.prog [] [(0,[4],[]),(1,[],[]),(2,[6,7,8],[]),(4,[9,12,13,14,15,16],[]),(5,[0,1,5,17],[]),(3,[4,10,11,17],[]),(6,[],[])] Try.f87 = some (ac87,[.tmp 4],18) := by kernel_rfl
-- 82 loop.example/prologserver/impl.NameValid params 1 ntmps 10
def ac82 : Cd := .seq (.region [⟨(some 2),.mv (.k (.c (.d (.bool false)))),none⟩] [2])
 (.seq (.region [⟨(some 3),.mv (.t 0),none⟩,
 ⟨(some 4),.qcall 53 [(.t 3)],none⟩,
 ⟨(some 5),.mv (.t 4),none⟩,
 ⟨(some 6),.qcall 86 [],some (5,false)⟩,
 ⟨(some 7),.mv (.t 0),some (5,false)⟩,
 ⟨(some 8),.qcall 30 [(.t 6),(.t 7)],some (5,false)⟩,
 ⟨(some 9),.pick (.t 5) (.k (.c (.d (.bool true)))) (.t 8),none⟩,
 ⟨(some 2),.mv (.t 9),none⟩] [0,3,4,5,6,7,8,9])
 (.ret))
theorem ac82_ok : cFunc Try.prog [1000030,1000053,1000086] [(0,[2],[]),(1,[0,3,4,5,6,7,8,9],[])] Try.f82 = some (ac82,[.tmp 2],10) := by kernel_rfl
-- 85 loop.example/prologserver/spec.NameValid params 1 ntmps 10
def ac85 : Cd := .seq (.region [⟨(some 2),.mv (.k (.c (.d (.bool false)))),none⟩] [2])
 (.seq (.region [⟨(some 3),.mv (.t 0),none⟩,
 ⟨(some 4),.qcall 50 [(.t 3)],none⟩,
 ⟨(some 5),.mv (.t 4),none⟩,
 ⟨(some 6),.qcall 88 [],some (5,false)⟩,
 ⟨(some 7),.mv (.t 0),some (5,false)⟩,
 ⟨(some 8),.qcall 87 [(.t 6),(.t 7)],some (5,false)⟩,
 ⟨(some 9),.pick (.t 5) (.k (.c (.d (.bool true)))) (.t 8),none⟩,
 ⟨(some 2),.mv (.t 9),none⟩] [0,3,4,5,6,7,8,9])
 (.ret))
theorem ac85_ok : cFunc Try.prog [1000050,1000087,1000088] [(0,[2],[]),(1,[0,3,4,5,6,7,8,9],[])] Try.f85 = some (ac85,[.tmp 2],10) := by kernel_rfl
def lowB (b : UInt8) : Bool := decide ((97 : Int) ≤ b.toNat) && decide ((b.toNat : Int) ≤ 122)
/-- a name of letters -/
def lettersB (s : List UInt8) : Bool := s.all lowB && (decide ((1 : Int) ≤ s.length) && decide ((s.length : Int) ≤ 6))
def signs : List (List UInt8) := [[43], [45], [42], [47, 47], [61], [92, 61], [61, 61], [60], [62], [61, 60], [62, 61], [61, 58, 61], [46], [91, 93], [33]]
def strRow (s : List UInt8) : List D := [.str s]
theorem low_take_succ {p : UInt8 → Bool} {s : List UInt8} {i : Nat} (h : i < s.length) (ha : ∀ b ∈ s.take i, p b = true) (hb : p s[i] = true) : ∀ b ∈ s.take (i + 1), p b = true := by
  intro b h'
  rw [List.take_add_one, List.mem_append] at h'
  rcases h' with h' | h'
  · exact ha b h'
  · rw [List.getElem?_eq_getElem h] at h'
    simp at h'; subst h'; exact hb
set_option maxHeartbeats 3200000 in
theorem isLetters_calls (s : List UInt8) (hs : s.length ≤ 1000000000000) (H : Heap) : ACalls Try.prog 53 [.c (.d (.str s))] H (fun r H' => H' = H ∧ r = .c (.d (.bool (lettersB s)))) := by
  refine acalls Try.func53 (by kernel_rfl) ac53_ok fun hf => ?_
  have hlen : inR .i64 (s.length : Int) := small_i64 (by omega) (by omega)
  simp -implicitDefEqProofs [ac53, hlen, go_sem, -List.set_cons_succ, -List.set_cons_zero]
  refine loop_set (σ := Nat) (fun i => [(6, .c (.d (.int .i64 i)))]) (fun _ => H) (fun _ => []) (fun i => i ≤ s.length ∧ ∀ b ∈ s.take i, lowB b = true) (fun i => s.length - i) 0 rfl ⟨Nat.zero_le _, by simp⟩ ?_
  rintro i ⟨hi, hall⟩
  simp -implicitDefEqProofs [setAll, hlen, go_sem, -List.set_cons_succ, -List.set_cons_zero]
  refine ⟨fun hlt => byte_nat hlt ?_, fun hge => ?_⟩
  · have hadd : inR .i64 ((i : Int) + 1) := small_i64 (by omega) (by omega)
    have bad : lowB s[i] = false → lettersB s = false := fun h => by
      have : s.all lowB = false := by
        rw [List.all_eq_false]
        exact ⟨s[i], List.getElem_mem hlt, by simp [h]⟩
      simp [lettersB, this]
    by_cases h97 : (s[i].toNat : Int) < 97
    · simp -implicitDefEqProofs [h97, go_sem, -List.set_cons_succ, -List.set_cons_zero]
      refine byte_off 0 ?_
      simp -implicitDefEqProofs [go_sem, -List.set_cons_succ, -List.set_cons_zero]
      rw [bad (by simp [lowB]; omega)]
    · simp -implicitDefEqProofs [h97, go_sem, -List.set_cons_succ, -List.set_cons_zero]
      refine byte_nat hlt ?_
      simp -implicitDefEqProofs [hadd, go_sem, -List.set_cons_succ, -List.set_cons_zero]
      refine ⟨fun h => by rw [bad (by simp [lowB]; omega)], fun h => ?_⟩
      exact loop_back (i + 1) (by simp [setAll]) ⟨hlt, low_take_succ hlt hall (by simp [lowB]; omega)⟩ (by show s.length - (i + 1) < s.length - i; omega)
  · have hil : i = s.length := by omega
    subst hil
    rw [List.take_length] at hall
    have hok : s.all lowB = true := List.all_eq_true.2 hall
    refine qcall_pure (within_calls s.length 1 6) hf rfl ?_
    simp -implicitDefEqProofs [lettersB, hok, go_sem, -List.set_cons_succ, -List.set_cons_zero]
set_option maxHeartbeats 3200000 in
theorem l1Word_calls (s : List UInt8) (hs : s.length ≤ 1000000000000) (H : Heap) : ACalls Try.prog 50 [.c (.d (.str s))] H (fun r H' => H' = H ∧ r = .c (.d (.bool (lettersB s)))) := by
  refine acalls Try.func50 (by kernel_rfl) ac50_ok fun hf => ?_
  have hlen : inR .i64 (s.length : Int) := small_i64 (by omega) (by omega)
  simp -implicitDefEqProofs [ac50, hlen, go_sem, -List.set_cons_succ, -List.set_cons_zero]
  refine loop_set (σ := Nat) (fun i => [(3, .c (.d (.int .i64 i)))]) (fun _ => H) (fun _ => []) (fun i => i ≤ s.length ∧ ∀ b ∈ s.take i, lowB b = true) (fun i => s.length - i) 0 rfl ⟨Nat.zero_le _, by simp⟩ ?_
  rintro i ⟨hi, hall⟩
  simp -implicitDefEqProofs [setAll, hlen, go_sem, -List.set_cons_succ, -List.set_cons_zero]
  refine ⟨fun hlt => byte_nat hlt ?_, fun hge => ?_⟩
  · have hadd : inR .i64 ((i : Int) + 1) := small_i64 (by omega) (by omega)
    have bad : lowB s[i] = false → lettersB s = false := fun h => by
      have : s.all lowB = false := by
        rw [List.all_eq_false]
        exact ⟨s[i], List.getElem_mem hlt, by simp [h]⟩
      simp [lettersB, this]
    by_cases h97 : (s[i].toNat : Int) < 97
    · simp -implicitDefEqProofs [h97, go_sem, -List.set_cons_succ, -List.set_cons_zero]
      refine byte_off 0 ?_
      simp -implicitDefEqProofs [go_sem, -List.set_cons_succ, -List.set_cons_zero]
      rw [bad (by simp [lowB]; omega)]
    · simp -implicitDefEqProofs [h97, go_sem, -List.set_cons_succ, -List.set_cons_zero]
      refine byte_nat hlt ?_
      simp -implicitDefEqProofs [hadd, go_sem, -List.set_cons_succ, -List.set_cons_zero]
      refine ⟨fun h => by rw [bad (by simp [lowB]; omega)], fun h => ?_⟩
      exact loop_back (i + 1) (by simp [setAll]) ⟨hlt, low_take_succ hlt hall (by simp [lowB]; omega)⟩ (by show s.length - (i + 1) < s.length - i; omega)
  · have hil : i = s.length := by omega
    subst hil
    rw [List.take_length] at hall
    have hok : s.all lowB = true := List.all_eq_true.2 hall
    simp [lettersB, hok]
set_option maxHeartbeats 3200000 in
theorem symbols_calls (H : Heap) : ACalls Try.prog 86 [] H (fun r H' => H' = H ∧ r = .c (.d (.sl (signs.map strRow)))) := by
  refine acalls Try.func86 (by kernel_rfl) ac86_ok fun hf => ?_
  simp -implicitDefEqProofs [ac86, signs, strRow, go_sem, -List.set_cons_succ, -List.set_cons_zero]
set_option maxHeartbeats 3200000 in
theorem l1Signs_calls (H : Heap) : ACalls Try.prog 88 [] H (fun r H' => H' = H ∧ r = .c (.d (.sl (signs.map strRow)))) := by
  refine acalls Try.func88 (by kernel_rfl) ac88_ok fun hf => ?_
  simp -implicitDefEqProofs [ac88, signs, strRow, go_sem, -List.set_cons_succ, -List.set_cons_zero]
set_option maxHeartbeats 3200000 in
theorem index_calls (l : List (List UInt8)) (hl : l.length ≤ 1048576) (s : List UInt8) (H : Heap) : ACalls Try.prog 56 [.c (.d (.sl (l.map strRow))), .c (.d (.str s))] H (fun r H' => H' = H ∧ ∃ k : Int, r = .c (.d (.int .i64 k)) ∧ decide (0 ≤ k) = l.contains s) := by
  refine acalls Try.func56 (by kernel_rfl) ac56_ok fun hf => ?_
  have hli : inR .i64 (l.length : Int) := small_i64 (by omega) (by omega)
  simp -implicitDefEqProofs [ac56, hli, go_sem, -List.set_cons_succ, -List.set_cons_zero]
  refine loop_set (σ := Nat) (fun i => [(8, .c (.d (.int .i64 i)))]) (fun _ => H) (fun _ => []) (fun i => i ≤ l.length ∧ s ∉ l.take i) (fun i => l.length - i) 0 rfl ⟨Nat.zero_le _, by simp⟩ ?_
  rintro i ⟨hi, hno⟩
  simp -implicitDefEqProofs [setAll, hli, go_sem, -List.set_cons_succ, -List.set_cons_zero]
  refine ⟨fun hlt => ?_, fun hge => ?_⟩
  · refine row_of hlt rfl ?_
    have hadd : inR .i64 ((i : Int) + 1) := small_i64 (by omega) (by omega)
    simp -implicitDefEqProofs [strRow, hadd, go_sem, -List.set_cons_succ, -List.set_cons_zero]
    refine ⟨fun h => ?_, fun h => ?_⟩
    · subst h; exact List.getElem_mem hlt
    · refine loop_back (i + 1) (by simp [setAll]) ⟨hlt, ?_⟩ (by show l.length - (i + 1) < l.length - i; omega)
      rw [List.take_succ_eq_append_getElem hlt, List.mem_append]
      rintro (h' | h')
      · exact hno h'
      · simp at h'; exact h h'
  · rw [List.take_of_length_le hge] at hno
    simp [hno]
set_option maxHeartbeats 3200000 in
theorem contains_calls (l : List (List UInt8)) (hl : l.length ≤ 1048576) (s : List UInt8) (H : Heap) : ACalls Try.prog 30 [.c (.d (.sl (l.map strRow))), .c (.d (.str s))] H (fun r H' => H' = H ∧ r = .c (.d (.bool (l.contains s)))) := by
  refine acalls Try.func30 (by kernel_rfl) ac30_ok fun hf => ?_
  simp -implicitDefEqProofs [ac30, go_sem, -List.set_cons_succ, -List.set_cons_zero]
  refine call_some (index_calls l hl s _) (by simp) (fun r ⟨k, hk, _⟩ => by subst hk; rfl) hf ?_
  rintro _ ⟨k, rfl, hk⟩
  simp -implicitDefEqProofs [go_sem, -List.set_cons_succ, -List.set_cons_zero]
  simpa using hk
set_option maxHeartbeats 3200000 in
theorem l1Has_calls (l : List (List UInt8)) (hl : l.length ≤ 1048576) (s : List UInt8) (H : Heap) : ACalls Try.prog 87 [.c (.d (.sl (l.map strRow))), .c (.d (.str s))] H (fun r H' => H' = H ∧ r = .c (.d (.bool (l.contains s)))) := by
  refine acalls Try.func87 (by kernel_rfl) ac87_ok fun hf => ?_
  have hli : inR .i64 (l.length : Int) := small_i64 (by omega) (by omega)
  simp -implicitDefEqProofs [ac87, hli, go_sem, -List.set_cons_succ, -List.set_cons_zero]
  refine loop_set (σ := Nat) (fun i => [(5, .c (.d (.int .i64 i)))]) (fun _ => H) (fun _ => []) (fun i => i ≤ l.length ∧ s ∉ l.take i) (fun i => l.length - i) 0 rfl ⟨Nat.zero_le _, by simp⟩ ?_
  rintro i ⟨hi, hno⟩
  simp -implicitDefEqProofs [setAll, hli, go_sem, -List.set_cons_succ, -List.set_cons_zero]
  refine ⟨fun hlt => ?_, fun hge => ?_⟩
  · refine row_of hlt rfl ?_
    have hadd : inR .i64 ((i : Int) + 1) := small_i64 (by omega) (by omega)
    simp -implicitDefEqProofs [strRow, hadd, go_sem, -List.set_cons_succ, -List.set_cons_zero]
    refine ⟨fun h => ?_, fun h => ?_⟩
    · subst h; exact List.getElem_mem hlt
    · refine loop_back (i + 1) (by simp [setAll]) ⟨hlt, ?_⟩ (by show l.length - (i + 1) < l.length - i; omega)
      rw [List.take_succ_eq_append_getElem hlt, List.mem_append]
      rintro (h' | h')
      · exact hno h'
      · simp at h'; exact h h'.symm
  · rw [List.take_of_length_le hge] at hno
    simpa using hno
/-- a name -/
def nameB (s : List UInt8) : Bool := lettersB s || signs.contains s
set_option maxHeartbeats 3200000 in
theorem nvImpl_calls (s : List UInt8) (hs : s.length ≤ 1000000000000) (H : Heap) : ACalls Try.prog 82 [.c (.d (.str s))] H (fun r H' => H' = H ∧ r = .c (.d (.bool (nameB s)))) := by
  refine acalls Try.func82 (by kernel_rfl) ac82_ok fun hf => ?_
  simp -implicitDefEqProofs [ac82, go_sem, -List.set_cons_succ, -List.set_cons_zero]
  refine qcall_pure (isLetters_calls s hs) hf rfl ?_
  cases h : lettersB s with
  | true => simp -implicitDefEqProofs [h, nameB, go_sem, -List.set_cons_succ, -List.set_cons_zero]
  | false =>
    simp -implicitDefEqProofs [h, go_sem, -List.set_cons_succ, -List.set_cons_zero]
    refine qcall_pure symbols_calls hf rfl ?_
    simp -implicitDefEqProofs [go_sem, -List.set_cons_succ, -List.set_cons_zero]
    refine qcall_pure (contains_calls signs (by decide) s) hf rfl ?_
    simp -implicitDefEqProofs [h, nameB, go_sem, -List.set_cons_succ, -List.set_cons_zero]
set_option maxHeartbeats 3200000 in
theorem nvSpec_calls (s : List UInt8) (hs : s.length ≤ 1000000000000) (H : Heap) : ACalls Try.prog 85 [.c (.d (.str s))] H (fun r H' => H' = H ∧ r = .c (.d (.bool (nameB s)))) := by
  refine acalls Try.func85 (by kernel_rfl) ac85_ok fun hf => ?_
  simp -implicitDefEqProofs [ac85, go_sem, -List.set_cons_succ, -List.set_cons_zero]
  refine qcall_pure (l1Word_calls s hs) hf rfl ?_
  cases h : lettersB s with
  | true => simp -implicitDefEqProofs [h, nameB, go_sem, -List.set_cons_succ, -List.set_cons_zero]
  | false =>
    simp -implicitDefEqProofs [h, go_sem, -List.set_cons_succ, -List.set_cons_zero]
    refine qcall_pure l1Signs_calls hf rfl ?_
    simp -implicitDefEqProofs [go_sem, -List.set_cons_succ, -List.set_cons_zero]
    refine qcall_pure (l1Has_calls signs (by decide) s) hf rfl ?_
    simp -implicitDefEqProofs [h, nameB, go_sem, -List.set_cons_succ, -List.set_cons_zero]
end Go.Proofs.Ytoipdmomgjdnaaa

/-
  Valid terms: TermValid of the program and of the reference.
  Conditions: none.
-/
open Go Go.AM Go.Proofs
namespace Go.Proofs.Ytoipdmomgjdnaaa
open Go.ChangeShapes Go.WideShapes Go.ChangeAt Go.RowKit
set_option linter.unusedVariables false
set_option linter.unusedSimpArgs false
set_option maxRecDepth 100000
-- 60 slices.IndexFunc[[]loop.example/prologserver/impl.Term,loop.example/prologserver/impl.Term] params 2 ntmps 19
-- loop head live: [0,1,7,8]
def ac60 : Cd := .seq (.region [⟨(some 4),.mv (.k (.c (.d (.int .i64 0)))),none⟩] [4])
 (.seq (.seq (.region [⟨(some 6),.mv (.t 0),none⟩,
 ⟨(some 7),.len 1 (.t 6),none⟩,
 ⟨(some 8),.mv (.k (.c (.d (.int .i64 0)))),none⟩] [6])
 (.block 0 (.loop (.seq (.region [⟨(some 9),.bin .lss (.t 8) (.t 7),none⟩] [])
 (.seq (.cond (.t 9)
 (.skip)
 (.exit 0))
 (.seq (.block 1 (.seq (.region [⟨(some 10),.mv (.t 8),none⟩,
 ⟨(some 5),.mv (.t 10),none⟩] [9,10])
 (.seq (.region [⟨(some 11),.mv (.t 1),none⟩,
 ⟨(some 12),.mv (.t 0),none⟩,
 ⟨(some 13),.mv (.t 5),none⟩,
 ⟨(some 14),.indexAddr 4 (.t 12) (.t 13),none⟩,
 ⟨(some 15),.load (some 4) (.t 14),none⟩,
 ⟨(some 16),.callv (.t 11) [(.t 15)],none⟩] [11,12,13,14,15])
 (.cond (.t 16)
 (.seq (.region [⟨(some 17),.mv (.t 5),none⟩,
 ⟨(some 4),.mv (.t 17),none⟩] [0,1,5,7,8,16,17])
 (.ret))
 (.skip)))))
 (.region [⟨(some 18),.bin .add (.t 8) (.k (.c (.d (.int .i64 1)))),none⟩,
 ⟨(some 8),.mv (.t 18),none⟩] [4,5,16,18])))))))
 (.seq (.region [⟨(some 4),.mv (.k (.c (.d (.int .i64 (-1))))),none⟩] [])
 (.ret)))
theorem ac60_ok : cFunc Try.prog [] [(0,[4],[]),(1,[6],[]),(2,[],[]),(3,[9,10],[]),(4,[11,12,13,14,15],[]),(5,[0,1,5,7,8,16,17],[]),(6,[4,5,16,18],[]),(7,[],[])] Try.f60 = some (ac60,[.tmp 4],19) := by kernel_rfl
-- 34 slices.ContainsFunc[[]loop.example/prologserver/impl.Term,loop.example/prologserver/impl.Term] params 2 ntmps 9
def ac34 : Cd := .seq (.region [⟨(some 4),.mv (.k (.c (.d (.bool false)))),none⟩] [4])
 (.seq (.region [⟨(some 5),.mv (.t 0),none⟩,
 ⟨(some 6),.mv (.t 1),none⟩,
 ⟨(some 7),.call false 60 [(.t 5),(.t 6)],none⟩,
 ⟨(some 8),.bin .geq (.t 7) (.k (.c (.d (.int .i64 0)))),none⟩,
 ⟨(some 4),.mv (.t 8),none⟩] [0,1,5,6,7,8])
 (.ret))
theorem ac34_ok : cFunc Try.prog [] [(0,[4],[]),(1,[0,1,5,6,7,8],[])] Try.f34 = some (ac34,[.tmp 4],9) := by kernel_rfl
theorem tmF_idx {σ : Type} (Hp : σ → Heap) (n : Nat) (hn : ∀ s, (Hp s).length = n) (hfit : ∀ s, Obs.fits n 0 (Hp s)) (g : FuncId) (caps : List (Nat × Nat)) (step : σ → Tm → Bool × σ) (P : σ → Prop) (l : List Tm) (hl : l.length ≤ 1048576)
    (h : ∀ s, P s → ∀ t ∈ l, ACalls Try.prog g (.agg ((Tm.row t).map .d) :: caps.map fun x => .c (.ptr (.e x.1) x.2)) (Hp s) (fun r H' => r = .c (.d (.bool (step s t).1)) ∧ H' = Hp (step s t).2)) (hP : ∀ s, P s → ∀ t ∈ l, (step s t).1 = false → P (step s t).2) (s : σ) (h0 : P s) :
    ACalls Try.prog 60 [.c (.d (.sl (l.map Tm.row))), .c (.fn g (caps.map fun x => (.e x.1, x.2)))] (Hp s) (fun r H' => (∃ k : Int, r = .c (.d (.int .i64 k)) ∧ decide (0 ≤ k) = (anyS step l s).1) ∧ H' = Hp (anyS step l s).2) := by
  refine acalls Try.func60 (by kernel_rfl) ac60_ok fun hf => ?_
  have hli : inR .i64 (l.length : Int) := small_i64 (by omega) (by omega)
  simp -implicitDefEqProofs [ac60, hli, go_sem, -List.set_cons_succ, -List.set_cons_zero]
  refine loop_set (σ := Nat × σ) (fun x => [(8, .c (.d (.int .i64 x.1)))]) (fun x => Hp x.2) (fun _ => []) (fun x => x.1 ≤ l.length ∧ P x.2 ∧ anyS step (l.drop x.1) x.2 = anyS step l s) (fun x => l.length - x.1) (0, s) rfl ⟨Nat.zero_le _, h0, rfl⟩ ?_
  rintro ⟨i, q⟩ ⟨hi, hq, hrun⟩
  simp only at hi hq hrun
  simp -implicitDefEqProofs [setAll, hli, go_sem, -List.set_cons_succ, -List.set_cons_zero]
  refine ⟨fun hlt => ?_, fun hge => ?_⟩
  · refine row_of hlt (row_len _) ?_
    simp -implicitDefEqProofs [row_len, take_row, pure_d, re_d, callArgs_ptrs, go_sem, -List.set_cons_succ, -List.set_cons_zero]
    have hd : l.drop i = l[i] :: l.drop (i + 1) := List.drop_eq_getElem_cons hlt
    rw [hd, anyS] at hrun
    have hadd : inR .i64 ((i : Int) + 1) := small_i64 (by omega) (by omega)
    refine (h q hq l[i] (List.getElem_mem hlt)).mono fun r H' ⟨h1, h2⟩ => ⟨Hp (step q l[i]).2, [], .c (.d (.bool (step q l[i]).1)), by simpa using h2, by simp only [hn], Nat.le_refl _, by simp only [hn]; exact hfit _, h1, ?_⟩
    cases hs : (step q l[i]).1 with
    | true =>
      rw [if_pos hs] at hrun
      simp -implicitDefEqProofs [hs, go_sem, -List.set_cons_succ, -List.set_cons_zero]
      rw [← hrun]
      exact ⟨by simp, rfl⟩
    | false =>
      rw [if_neg (by simp [hs])] at hrun
      simp -implicitDefEqProofs [hs, hadd, go_sem, -List.set_cons_succ, -List.set_cons_zero]
      exact loop_back (i + 1, (step q l[i]).2) (by simp [setAll]) ⟨hlt, hP q hq _ (List.getElem_mem hlt) hs, hrun⟩ (by show l.length - (i + 1) < l.length - i; omega)
  · rw [List.drop_of_length_le hge] at hrun
    simp only [anyS] at hrun
    rw [← hrun]
    exact ⟨by simp, rfl⟩
theorem tmF_con {σ : Type} (Hp : σ → Heap) (n : Nat) (hn : ∀ s, (Hp s).length = n) (hfit : ∀ s, Obs.fits n 0 (Hp s)) (g : FuncId) (caps : List (Nat × Nat)) (step : σ → Tm → Bool × σ) (P : σ → Prop) (l : List Tm) (hl : l.length ≤ 1048576)
    (h : ∀ s, P s → ∀ t ∈ l, ACalls Try.prog g (.agg ((Tm.row t).map .d) :: caps.map fun x => .c (.ptr (.e x.1) x.2)) (Hp s) (fun r H' => r = .c (.d (.bool (step s t).1)) ∧ H' = Hp (step s t).2)) (hP : ∀ s, P s → ∀ t ∈ l, (step s t).1 = false → P (step s t).2) (s : σ) (h0 : P s) :
    ACalls Try.prog 34 [.c (.d (.sl (l.map Tm.row))), .c (.fn g (caps.map fun x => (.e x.1, x.2)))] (Hp s) (fun r H' => r = .c (.d (.bool (anyS step l s).1)) ∧ H' = Hp (anyS step l s).2) := by
  refine acalls Try.func34 (by kernel_rfl) ac34_ok fun hf => ?_
  simp -implicitDefEqProofs [ac34, go_sem, -List.set_cons_succ, -List.set_cons_zero]
  simp only [List.map_map, Function.comp_def, Ref.re]
  refine (tmF_idx Hp n hn hfit g caps step P l hl h hP s h0).mono fun r H' ⟨⟨k, h1, h2⟩, h3⟩ => ⟨Hp (anyS step l s).2, [], .c (.d (.int .i64 k)), by simpa using h3, by simp only [hn], Nat.le_refl _, by simp only [hn]; exact hfit _, h1, ?_⟩
  simp -implicitDefEqProofs [go_sem, -List.set_cons_succ, -List.set_cons_zero]
  rw [← h2]
/-- .. where the function looks at what it is given alone -/
theorem tmF_any (g : FuncId) (p : Tm → Bool) (l : List Tm) (hl : l.length ≤ 1048576) (h : ∀ t ∈ l, ∀ H, ACalls Try.prog g [.agg ((Tm.row t).map .d)] H (fun r H' => H' = H ∧ r = .c (.d (.bool (p t))))) (H : Heap) :
    ACalls Try.prog 34 [.c (.d (.sl (l.map Tm.row))), .c (.fn g [])] H (fun r H' => H' = H ∧ r = .c (.d (.bool (l.any p)))) := by
  refine acalls_fits Try.func34 (by kernel_rfl) (by kernel_rfl) fun hf => ?_
  have := tmF_con (σ := Unit) (fun _ => H) H.length (fun _ => rfl) (fun _ => hf) g [] (fun _ t => (p t, ())) (fun _ => True) l hl (fun s _ t ht => (h t ht H).mono fun r H' ⟨h1, h2⟩ => ⟨h2, h1⟩) (fun _ _ _ _ _ => trivial) () trivial
  rw [anyS_const] at this
  exact this.mono fun r H' ⟨h1, h2⟩ => ⟨h2, h1⟩

/-- a node's own fields -/
def Tm.ownB : Tm → Bool
  | .mk k n s l => if k = 1 then ((decide (0 ≤ n) && decide (n ≤ 25)) && s == []) && l.isEmpty
    else if k = 2 then ((decide (-999 ≤ n) && decide (n ≤ 999)) && s == []) && l.isEmpty
    else if k = 3 then (decide (n = 0) && nameB s) && decide (l.length ≤ 4)
    else false
mutual
/-- well-formed, down to a depth -/
def Tm.shape : Nat → Tm → Bool
  | d, .mk k n s l => decide (1 ≤ d) && ((Tm.mk k n s l).ownB && shapes (d - 1) l)
def shapes : Nat → List Tm → Bool
  | _, [] => true
  | d, t :: l => t.shape d && shapes d l
end
mutual
/-- the number of nodes -/
def Tm.size : Tm → Nat
  | .mk _ _ _ l => 1 + sizes l
def sizes : List Tm → Nat
  | [] => 0
  | t :: l => t.size + sizes l
end
def Tm.valid (t : Tm) : Bool := t.shape 30 && decide (t.size ≤ 120)
mutual
/-- the program's check: nodes are counted -/
def scanT : Nat → Tm → Nat → Bool × Nat
  | deep, .mk k n s l, c => if 120 < c + 1 ∨ 30 < deep then (false, c + 1) else if !(Tm.mk k n s l).ownB then (false, c + 1) else scanL (deep + 1) l (c + 1)
def scanL : Nat → List Tm → Nat → Bool × Nat
  | _, [], c => (true, c)
  | deep, t :: l, c => if (scanT deep t c).1 = true then scanL deep l (scanT deep t c).2 else (false, (scanT deep t c).2)
end
theorem shapes_all : ∀ (l : List Tm) (d : Nat), shapes d l = l.all fun t => t.shape d
  | [], _ => rfl
  | t :: l, d => by rw [shapes, shapes_all l d]; rfl
theorem own_leaf {k n : Int} {s : List UInt8} {l : List Tm} (hk : k ≠ 3) (h : (Tm.mk k n s l).ownB = true) : l = [] := by
  simp only [Tm.ownB] at h
  by_cases k1 : k = 1
  · rw [if_pos k1] at h; simp at h; exact h.2
  · rw [if_neg k1] at h
    by_cases k2 : k = 2
    · rw [if_pos k2] at h; simp at h; exact h.2
    · rw [if_neg k2, if_neg hk] at h; cases h
/-- what the program's check answers -/
theorem scan_spec : ∀ t : Tm, ∀ (deep c : Nat), c ≤ 120 → ((scanT deep t c).1 = true → (scanT deep t c).2 = c + t.size ∧ (scanT deep t c).2 ≤ 120) ∧ ((scanT deep t c).1 = (t.shape (31 - deep) && decide (c + t.size ≤ 120))) := by
  refine Tm.ind fun k n s l ih deep c hc => ?_
  have hl : ∀ (l : List Tm), (∀ t ∈ l, ∀ (deep c : Nat), c ≤ 120 → ((scanT deep t c).1 = true → (scanT deep t c).2 = c + t.size ∧ (scanT deep t c).2 ≤ 120) ∧ ((scanT deep t c).1 = (t.shape (31 - deep) && decide (c + t.size ≤ 120)))) →
      ∀ (deep c : Nat), c ≤ 120 → ((scanL deep l c).1 = true → (scanL deep l c).2 = c + sizes l ∧ (scanL deep l c).2 ≤ 120) ∧ ((scanL deep l c).1 = (shapes (31 - deep) l && decide (c + sizes l ≤ 120))) := by
    intro l
    induction l with
    | nil => intro _ deep c hc; simp [scanL, shapes, sizes, hc]
    | cons t l ih2 =>
      intro h deep c hc
      obtain ⟨h1, h2⟩ := h t (by simp) deep c hc
      rw [scanL, shapes, sizes]
      cases hs : (scanT deep t c).1 with
      | true =>
        obtain ⟨h3, h4⟩ := h1 hs
        obtain ⟨h5, h6⟩ := ih2 (fun x hx => h x (by simp [hx])) deep (scanT deep t c).2 h4
        rw [hs] at h2
        simp only [if_true]
        rw [h3] at h5 h6 ⊢
        have h7 := h2.symm
        simp only [Bool.and_eq_true] at h7
        rw [h7.1, Bool.true_and]
        refine ⟨fun h => ⟨by have := (h5 h).1; omega, (h5 h).2⟩, ?_⟩
        rw [h6, show c + t.size + sizes l = c + (t.size + sizes l) by omega]
      | false =>
        rw [hs] at h2
        simp only [Bool.false_eq_true, if_false]
        refine ⟨fun h => (by cases h), ?_⟩
        have h7 := h2.symm
        rw [Bool.and_eq_false_iff] at h7
        symm
        rcases h7 with h7 | h7
        · simp [h7]
        · simp only [decide_eq_false_iff_not] at h7
          have : ¬ c + (t.size + sizes l) ≤ 120 := by omega
          simp [this]
  rw [scanT, Tm.shape, Tm.size]
  by_cases h1 : 120 < c + 1 ∨ 30 < deep
  · rw [if_pos h1]
    refine ⟨fun h => (by cases h), ?_⟩
    symm
    rcases h1 with h1 | h1
    · have : ¬ c + (1 + sizes l) ≤ 120 := by omega
      simp [this]
    · have : ¬ 1 ≤ 31 - deep := by omega
      simp [this]
  · rw [if_neg h1]
    have hd : 1 ≤ 31 - deep := by omega
    cases ho : (Tm.mk k n s l).ownB with
    | false => exact ⟨fun h => (by simp at h), by simp⟩
    | true =>
      simp only [Bool.not_true, Bool.false_eq_true, if_false]
      obtain ⟨h3, h4⟩ := hl l ih (deep + 1) (c + 1) (by omega)
      refine ⟨fun h => ⟨by have := (h3 h).1; omega, (h3 h).2⟩, ?_⟩
      rw [h4, show 31 - (deep + 1) = 31 - deep - 1 by omega, show c + 1 + sizes l = c + (1 + sizes l) by omega]
      simp [hd]
theorem scan_valid (t : Tm) : (scanT 1 t 0).1 = t.valid := by
  have := (scan_spec t 1 0 (by omega)).2
  rw [this, Tm.valid]
  simp
end Go.Proofs.Ytoipdmomgjdnaaa

/-
  TermValid: the functions of the program and of the reference.
  Conditions: none.
-/
open Go Go.AM Go.Proofs
namespace Go.Proofs.Ytoipdmomgjdnaaa
open Go.ChangeShapes Go.WideShapes Go.ChangeAt Go.RowKit
set_option linter.unusedVariables false
set_option linter.unusedSimpArgs false
set_option maxRecDepth 100000
-- 77 loop.example/prologserver/impl.scan params 3 ntmps 76
def ac77 : Cd := .seq (.region [⟨(some 3),.box (.t 0),none⟩,
 ⟨(some 4),.box (.t 1),none⟩,
 ⟨(some 5),.box (.t 2),none⟩,
 ⟨(some 6),.mv (.k (.c (.d (.bool false)))),none⟩] [0,1,2,6])
 (.seq (.region [⟨(some 7),.load none (.t 5),none⟩,
 ⟨(some 8),.nilCheck (.t 7),none⟩,
 ⟨(some 9),.load none (.t 8),none⟩,
 ⟨(some 10),.bin .add (.t 9) (.k (.c (.d (.int .i64 1)))),none⟩,
 ⟨(some 11),.nilCheck (.t 7),none⟩,
 ⟨none,.store 1 (.t 11) (.t 10),none⟩] [7,8,9,10,11])
 (.seq (.seq (.region [⟨(some 12),.load none (.t 5),none⟩,
 ⟨(some 13),.nilCheck (.t 12),none⟩,
 ⟨(some 14),.load none (.t 13),none⟩,
 ⟨(some 15),.bin .gtr (.t 14) (.k (.c (.d (.int .i64 120)))),none⟩,
 ⟨(some 16),.mv (.t 15),none⟩,
 ⟨(some 17),.load none (.t 4),some (16,false)⟩,
 ⟨(some 18),.bin .gtr (.t 17) (.k (.c (.d (.int .i64 30)))),some (16,false)⟩,
 ⟨(some 19),.pick (.t 16) (.k (.c (.d (.bool true)))) (.t 18),none⟩] [12,13,14,15,16,17,18])
 (.cond (.t 19)
 (.seq (.region [⟨(some 6),.mv (.k (.c (.d (.bool false)))),none⟩] [3,4,5,19])
 (.ret))
 (.skip)))
 (.seq (.seq (.region [⟨(some 20),.fieldAddr 0 (.t 3),none⟩,
 ⟨(some 21),.load none (.t 20),none⟩] [6,19,20])
 (.block 0 (.seq (.region [⟨(some 23),.bin .eql (.t 21) (.k (.c (.d (.int .i64 1)))),none⟩,
 ⟨(some 22),.mv (.t 23),none⟩] [23])
 (.cond (.t 22)
 (.seq (.region [⟨(some 24),.fieldAddr 1 (.t 3),none⟩,
 ⟨(some 25),.load none (.t 24),none⟩,
 ⟨(some 26),.qcall 67 [(.t 25),(.k (.c (.d (.int .i64 0)))),(.k (.c (.d (.int .i64 25))))],none⟩,
 ⟨(some 27),.mv (.t 26),none⟩,
 ⟨(some 28),.fieldAddr 2 (.t 3),some (27,true)⟩,
 ⟨(some 29),.load none (.t 28),some (27,true)⟩,
 ⟨(some 30),.bin .eql (.t 29) (.k (.c (.d (.str [])))),some (27,true)⟩,
 ⟨(some 31),.pick (.t 27) (.t 30) (.k (.c (.d (.bool false)))),none⟩,
 ⟨(some 32),.mv (.t 31),none⟩,
 ⟨(some 33),.fieldAddr 3 (.t 3),some (32,true)⟩,
 ⟨(some 34),.load none (.t 33),some (32,true)⟩,
 ⟨(some 35),.len 1 (.t 34),some (32,true)⟩,
 ⟨(some 36),.bin .eql (.t 35) (.k (.c (.d (.int .i64 0)))),some (32,true)⟩,
 ⟨(some 37),.pick (.t 32) (.t 36) (.k (.c (.d (.bool false)))),none⟩,
 ⟨(some 6),.mv (.t 37),none⟩] [3,4,5,21,22,24,25,26,27,28,29,30,31,32,33,34,35,36,37])
 (.ret))
 (.seq (.region [⟨(some 39),.bin .eql (.t 21) (.k (.c (.d (.int .i64 2)))),none⟩,
 ⟨(some 38),.mv (.t 39),none⟩] [22,39])
 (.cond (.t 38)
 (.seq (.region [⟨(some 40),.fieldAddr 1 (.t 3),none⟩,
 ⟨(some 41),.load none (.t 40),none⟩,
 ⟨(some 42),.qcall 67 [(.t 41),(.k (.c (.d (.int .i64 (-999))))),(.k (.c (.d (.int .i64 999))))],none⟩,
 ⟨(some 43),.mv (.t 42),none⟩,
 ⟨(some 44),.fieldAddr 2 (.t 3),some (43,true)⟩,
 ⟨(some 45),.load none (.t 44),some (43,true)⟩,
 ⟨(some 46),.bin .eql (.t 45) (.k (.c (.d (.str [])))),some (43,true)⟩,
 ⟨(some 47),.pick (.t 43) (.t 46) (.k (.c (.d (.bool false)))),none⟩,
 ⟨(some 48),.mv (.t 47),none⟩,
 ⟨(some 49),.fieldAddr 3 (.t 3),some (48,true)⟩,
 ⟨(some 50),.load none (.t 49),some (48,true)⟩,
 ⟨(some 51),.len 1 (.t 50),some (48,true)⟩,
 ⟨(some 52),.bin .eql (.t 51) (.k (.c (.d (.int .i64 0)))),some (48,true)⟩,
 ⟨(some 53),.pick (.t 48) (.t 52) (.k (.c (.d (.bool false)))),none⟩,
 ⟨(some 6),.mv (.t 53),none⟩] [3,4,5,21,38,40,41,42,43,44,45,46,47,48,49,50,51,52,53])
 (.ret))
 (.seq (.region [⟨(some 55),.bin .eql (.t 21) (.k (.c (.d (.int .i64 3)))),none⟩,
 ⟨(some 54),.mv (.t 55),none⟩] [21,38,55])
 (.cond (.t 54)
 (.seq (.seq (.region [⟨(some 56),.fieldAddr 1 (.t 3),none⟩,
 ⟨(some 57),.load none (.t 56),none⟩,
 ⟨(some 58),.bin .neq (.t 57) (.k (.c (.d (.int .i64 0)))),none⟩,
 ⟨(some 59),.mv (.t 58),none⟩,
 ⟨(some 60),.fieldAddr 2 (.t 3),some (59,false)⟩,
 ⟨(some 61),.load none (.t 60),some (59,false)⟩,
 ⟨(some 62),.qcall 82 [(.t 61)],some (59,false)⟩,
 ⟨(some 63),.un .not (.t 62),some (59,false)⟩,
 ⟨(some 64),.pick (.t 59) (.k (.c (.d (.bool true)))) (.t 63),none⟩,
 ⟨(some 65),.mv (.t 64),none⟩,
 ⟨(some 66),.fieldAddr 3 (.t 3),some (65,false)⟩,
 ⟨(some 67),.load none (.t 66),some (65,false)⟩,
 ⟨(some 68),.len 1 (.t 67),some (65,false)⟩,
 ⟨(some 69),.bin .gtr (.t 68) (.k (.c (.d (.int .i64 4)))),some (65,false)⟩,
 ⟨(some 70),.pick (.t 65) (.k (.c (.d (.bool true)))) (.t 69),none⟩] [54,56,57,58,59,60,61,62,63,64,65,66,67,68,69])
 (.cond (.t 70)
 (.seq (.region [⟨(some 6),.mv (.k (.c (.d (.bool false)))),none⟩] [3,4,5,70])
 (.ret))
 (.skip)))
 (.seq (.region [⟨(some 71),.fieldAddr 3 (.t 3),none⟩,
 ⟨(some 72),.load none (.t 71),none⟩,
 ⟨(some 73),.mkFunc 83 [(.t 4),(.t 5)],none⟩,
 ⟨(some 74),.call false 34 [(.t 72),(.t 73)],none⟩,
 ⟨(some 75),.un .not (.t 74),none⟩,
 ⟨(some 6),.mv (.t 75),none⟩] [3,4,5,70,71,72,73,74,75])
 (.ret)))
 (.skip)))))))))
 (.seq (.region [⟨(some 6),.mv (.k (.c (.d (.bool false)))),none⟩] [3,4,5,54])
 (.ret)))))
theorem ac77_ok : cFunc Try.prog [1000067,1000082] [(0,[0,1,2,6],[]),(1,[7,8,9,10,11],[]),(2,[12,13,14,15,16,17,18],[]),(3,[3,4,5,19],[]),(4,[6,19,20],[]),(5,[23],[]),(6,[3,4,5,21,22,24,25,26,27,28,29,30,31,32,33,34,35,36,37],[]),(7,[22,39],[]),(8,[3,4,5,21,38,40,41,42,43,44,45,46,47,48,49,50,51,52,53],[]),(9,[21,38,55],[]),(10,[54,56,57,58,59,60,61,62,63,64,65,66,67,68,69],[]),(11,[3,4,5,70],[]),(12,[3,4,5,70,71,72,73,74,75],[]),(13,[3,4,5,54],[])] Try.f77 = some (ac77,[.tmp 6],76) := by kernel_rfl
-- 83 loop.example/prologserver/impl.scan$1 params 1 ntmps 11
def ac83 : Cd := .seq (.region [⟨(some 3),.box (.t 0),none⟩,
 ⟨(some 4),.mv (.k (.c (.d (.bool false)))),none⟩] [0,4])
 (.seq (.region [⟨(some 5),.load (some 4) (.t 3),none⟩,
 ⟨(some 6),.load none (.t 1),none⟩,
 ⟨(some 7),.bin .add (.t 6) (.k (.c (.d (.int .i64 1)))),none⟩,
 ⟨(some 8),.load none (.t 2),none⟩,
 ⟨(some 9),.call false 77 [(.t 5),(.t 7),(.t 8)],none⟩,
 ⟨(some 10),.un .not (.t 9),none⟩,
 ⟨(some 4),.mv (.t 10),none⟩] [3,5,6,7,8,9,10])
 (.ret))
theorem ac83_ok : cFunc Try.prog [] [(0,[0,4],[]),(1,[3,5,6,7,8,9,10],[])] Try.f83 = some (ac83,[.tmp 4],11) := by kernel_rfl
-- 70 loop.example/prologserver/impl.TermValid params 1 ntmps 6
def ac70 : Cd := .seq (.region [⟨(some 1),.box (.t 0),none⟩,
 ⟨(some 2),.mv (.k (.c (.d (.bool false)))),none⟩] [0,2])
 (.seq (.region [⟨(some 3),.alloc [(.d (.int .i64 0))],none⟩,
 ⟨none,.store 1 (.t 3) (.k (.c (.d (.int .i64 0)))),none⟩] [])
 (.seq (.region [⟨(some 4),.load (some 4) (.t 1),none⟩,
 ⟨(some 5),.call false 77 [(.t 4),(.k (.c (.d (.int .i64 1)))),(.t 3)],none⟩,
 ⟨(some 2),.mv (.t 5),none⟩] [1,3,4,5])
 (.ret)))
theorem ac70_ok : cFunc Try.prog [] [(0,[0,2],[]),(1,[],[]),(2,[1,3,4,5],[])] Try.f70 = some (ac70,[.tmp 2],6) := by kernel_rfl
-- 81 loop.example/prologserver/spec.l1Own params 1 ntmps 63
def ac81 : Cd := .seq (.region [⟨(some 1),.box (.t 0),none⟩,
 ⟨(some 2),.mv (.k (.c (.d (.bool false)))),none⟩] [0,2])
 (.seq (.seq (.region [⟨(some 3),.fieldAddr 0 (.t 1),none⟩,
 ⟨(some 4),.load none (.t 3),none⟩] [3])
 (.block 0 (.seq (.region [⟨(some 6),.bin .eql (.t 4) (.k (.c (.d (.int .i64 1)))),none⟩,
 ⟨(some 5),.mv (.t 6),none⟩] [6])
 (.cond (.t 5)
 (.seq (.region [⟨(some 7),.fieldAddr 1 (.t 1),none⟩,
 ⟨(some 8),.load none (.t 7),none⟩,
 ⟨(some 9),.bin .geq (.t 8) (.k (.c (.d (.int .i64 0)))),none⟩,
 ⟨(some 10),.mv (.t 9),none⟩,
 ⟨(some 11),.fieldAddr 1 (.t 1),some (10,true)⟩,
 ⟨(some 12),.load none (.t 11),some (10,true)⟩,
 ⟨(some 13),.bin .leq (.t 12) (.k (.c (.d (.int .i64 25)))),some (10,true)⟩,
 ⟨(some 14),.pick (.t 10) (.t 13) (.k (.c (.d (.bool false)))),none⟩,
 ⟨(some 15),.mv (.t 14),none⟩,
 ⟨(some 16),.fieldAddr 2 (.t 1),some (15,true)⟩,
 ⟨(some 17),.load none (.t 16),some (15,true)⟩,
 ⟨(some 18),.bin .eql (.t 17) (.k (.c (.d (.str [])))),some (15,true)⟩,
 ⟨(some 19),.pick (.t 15) (.t 18) (.k (.c (.d (.bool false)))),none⟩,
 ⟨(some 20),.mv (.t 19),none⟩,
 ⟨(some 21),.fieldAddr 3 (.t 1),some (20,true)⟩,
 ⟨(some 22),.load none (.t 21),some (20,true)⟩,
 ⟨(some 23),.len 1 (.t 22),some (20,true)⟩,
 ⟨(some 24),.bin .eql (.t 23) (.k (.c (.d (.int .i64 0)))),some (20,true)⟩,
 ⟨(some 25),.pick (.t 20) (.t 24) (.k (.c (.d (.bool false)))),none⟩,
 ⟨(some 2),.mv (.t 25),none⟩] [1,4,5,7,8,9,10,11,12,13,14,15,16,17,18,19,20,21,22,23,24,25])
 (.ret))
 (.seq (.region [⟨(some 27),.bin .eql (.t 4) (.k (.c (.d (.int .i64 2)))),none⟩,
 ⟨(some 26),.mv (.t 27),none⟩] [5,27])
 (.cond (.t 26)
 (.seq (.region [⟨(some 28),.fieldAddr 1 (.t 1),none⟩,
 ⟨(some 29),.load none (.t 28),none⟩,
 ⟨(some 30),.bin .geq (.t 29) (.k (.c (.d (.int .i64 (-999))))),none⟩,
 ⟨(some 31),.mv (.t 30),none⟩,
 ⟨(some 32),.fieldAddr 1 (.t 1),some (31,true)⟩,
 ⟨(some 33),.load none (.t 32),some (31,true)⟩,
 ⟨(some 34),.bin .leq (.t 33) (.k (.c (.d (.int .i64 999)))),some (31,true)⟩,
 ⟨(some 35),.pick (.t 31) (.t 34) (.k (.c (.d (.bool false)))),none⟩,
 ⟨(some 36),.mv (.t 35),none⟩,
 ⟨(some 37),.fieldAddr 2 (.t 1),some (36,true)⟩,
 ⟨(some 38),.load none (.t 37),some (36,true)⟩,
 ⟨(some 39),.bin .eql (.t 38) (.k (.c (.d (.str [])))),some (36,true)⟩,
 ⟨(some 40),.pick (.t 36) (.t 39) (.k (.c (.d (.bool false)))),none⟩,
 ⟨(some 41),.mv (.t 40),none⟩,
 ⟨(some 42),.fieldAddr 3 (.t 1),some (41,true)⟩,
 ⟨(some 43),.load none (.t 42),some (41,true)⟩,
 ⟨(some 44),.len 1 (.t 43),some (41,true)⟩,
 ⟨(some 45),.bin .eql (.t 44) (.k (.c (.d (.int .i64 0)))),some (41,true)⟩,
 ⟨(some 46),.pick (.t 41) (.t 45) (.k (.c (.d (.bool false)))),none⟩,
 ⟨(some 2),.mv (.t 46),none⟩] [1,4,26,28,29,30,31,32,33,34,35,36,37,38,39,40,41,42,43,44,45,46])
 (.ret))
 (.seq (.region [⟨(some 48),.bin .eql (.t 4) (.k (.c (.d (.int .i64 3)))),none⟩,
 ⟨(some 47),.mv (.t 48),none⟩] [4,26,48])
 (.cond (.t 47)
 (.seq (.region [⟨(some 49),.fieldAddr 1 (.t 1),none⟩,
 ⟨(some 50),.load none (.t 49),none⟩,
 ⟨(some 51),.bin .eql (.t 50) (.k (.c (.d (.int .i64 0)))),none⟩,
 ⟨(some 52),.mv (.t 51),none⟩,
 ⟨(some 53),.fieldAddr 2 (.t 1),some (52,true)⟩,
 ⟨(some 54),.load none (.t 53),some (52,true)⟩,
 ⟨(some 55),.qcall 85 [(.t 54)],some (52,true)⟩,
 ⟨(some 56),.pick (.t 52) (.t 55) (.k (.c (.d (.bool false)))),none⟩,
 ⟨(some 57),.mv (.t 56),none⟩,
 ⟨(some 58),.fieldAddr 3 (.t 1),some (57,true)⟩,
 ⟨(some 59),.load none (.t 58),some (57,true)⟩,
 ⟨(some 60),.len 1 (.t 59),some (57,true)⟩,
 ⟨(some 61),.bin .leq (.t 60) (.k (.c (.d (.int .i64 4)))),some (57,true)⟩,
 ⟨(some 62),.pick (.t 57) (.t 61) (.k (.c (.d (.bool false)))),none⟩,
 ⟨(some 2),.mv (.t 62),none⟩] [1,47,49,50,51,52,53,54,55,56,57,58,59,60,61,62])
 (.ret))
 (.skip)))))))))
 (.seq (.region [⟨(some 2),.mv (.k (.c (.d (.bool false)))),none⟩] [1,47])
 (.ret)))
theorem ac81_ok : cFunc Try.prog [1000085] [(0,[0,2],[]),(1,[3],[]),(2,[6],[]),(3,[1,4,5,7,8,9,10,11,12,13,14,15,16,17,18,19,20,21,22,23,24,25],[]),(4,[5,27],[]),(5,[1,4,26,28,29,30,31,32,33,34,35,36,37,38,39,40,41,42,43,44,45,46],[]),(6,[4,26,48],[]),(7,[1,47,49,50,51,52,53,54,55,56,57,58,59,60,61,62],[]),(8,[1,47],[])] Try.f81 = some (ac81,[.tmp 2],63) := by kernel_rfl
-- 75 loop.example/prologserver/spec.l1Shape params 2 ntmps 29
-- loop head live: [1,2,5]
def ac75 : Cd := .seq (.region [⟨(some 2),.box (.t 0),none⟩,
 ⟨(some 4),.mv (.k (.c (.d (.bool false)))),none⟩] [0,4])
 (.seq (.seq (.region [⟨(some 6),.mv (.t 1),none⟩,
 ⟨(some 7),.bin .lss (.t 6) (.k (.c (.d (.int .i64 1)))),none⟩,
 ⟨(some 8),.mv (.t 7),none⟩,
 ⟨(some 9),.load (some 4) (.t 2),some (8,false)⟩,
 ⟨(some 10),.qcall 81 [(.t 9)],some (8,false)⟩,
 ⟨(some 11),.un .not (.t 10),some (8,false)⟩,
 ⟨(some 12),.pick (.t 8) (.k (.c (.d (.bool true)))) (.t 11),none⟩] [6,7,8,9,10,11])
 (.cond (.t 12)
 (.seq (.region [⟨(some 4),.mv (.k (.c (.d (.bool false)))),none⟩] [1,2,12])
 (.ret))
 (.skip)))
 (.seq (.seq (.region [⟨(some 5),.mv (.k (.c (.d (.int .i64 0)))),none⟩] [4,12])
 (.block 0 (.loop (.seq (.seq (.region [⟨(some 13),.mv (.t 5),none⟩,
 ⟨(some 14),.fieldAddr 3 (.t 2),none⟩,
 ⟨(some 15),.load none (.t 14),none⟩,
 ⟨(some 16),.len 1 (.t 15),none⟩,
 ⟨(some 17),.bin .lss (.t 13) (.t 16),none⟩] [13,14,15,16])
 (.cond (.t 17)
 (.skip)
 (.exit 0)))
 (.seq (.block 1 (.seq (.region [⟨(some 20),.fieldAddr 3 (.t 2),none⟩,
 ⟨(some 21),.load none (.t 20),none⟩,
 ⟨(some 22),.mv (.t 5),none⟩,
 ⟨(some 23),.indexAddr 4 (.t 21) (.t 22),none⟩,
 ⟨(some 24),.load (some 4) (.t 23),none⟩,
 ⟨(some 25),.mv (.t 1),none⟩,
 ⟨(some 26),.bin .sub (.t 25) (.k (.c (.d (.int .i64 1)))),none⟩,
 ⟨(some 27),.qcall 75 [(.t 24),(.t 26)],none⟩,
 ⟨(some 28),.un .not (.t 27),none⟩] [17,20,21,22,23,24,25,26,27])
 (.cond (.t 28)
 (.seq (.region [⟨(some 4),.mv (.k (.c (.d (.bool false)))),none⟩] [1,2,5,28])
 (.ret))
 (.skip))))
 (.region [⟨(some 18),.mv (.t 5),none⟩,
 ⟨(some 19),.bin .add (.t 18) (.k (.c (.d (.int .i64 1)))),none⟩,
 ⟨(some 5),.mv (.t 19),none⟩] [4,18,19,28]))))))
 (.seq (.region [⟨(some 4),.mv (.k (.c (.d (.bool true)))),none⟩] [])
 (.ret))))
theorem ac75_ok : cFunc Try.prog [1000075,1000081] [(0,[0,4],[]),(1,[6,7,8,9,10,11],[]),(2,[1,2,12],[]),(3,[4,12],[]),(4,[13,14,15,16],[]),(6,[17,20,21,22,23,24,25,26,27],[]),(7,[1,2,5,28],[]),(5,[4,18,19,28],[]),(8,[],[])] Try.f75 = some (ac75,[.tmp 4],29) := by kernel_rfl
-- 76 loop.example/prologserver/spec.l1Count params 2 ntmps 31
-- loop head live: [1,2,5,6]
def ac76 : Cd := .seq (.region [⟨(some 2),.box (.t 0),none⟩,
 ⟨(some 4),.mv (.k (.c (.d (.int .i64 0)))),none⟩] [0,4])
 (.seq (.region [⟨(some 5),.mv (.k (.c (.d (.int .i64 1)))),none⟩] [])
 (.seq (.seq (.region [⟨(some 6),.mv (.k (.c (.d (.int .i64 0)))),none⟩] [])
 (.block 0 (.loop (.seq (.seq (.region [⟨(some 7),.mv (.t 6),none⟩,
 ⟨(some 8),.fieldAddr 3 (.t 2),none⟩,
 ⟨(some 9),.load none (.t 8),none⟩,
 ⟨(some 10),.len 1 (.t 9),none⟩,
 ⟨(some 11),.bin .lss (.t 7) (.t 10),none⟩,
 ⟨(some 12),.mv (.t 11),none⟩,
 ⟨(some 13),.mv (.t 5),some (12,true)⟩,
 ⟨(some 14),.mv (.t 1),some (12,true)⟩,
 ⟨(some 15),.bin .leq (.t 13) (.t 14),some (12,true)⟩,
 ⟨(some 16),.pick (.t 12) (.t 15) (.k (.c (.d (.bool false)))),none⟩] [7,8,9,10,11,12,13,14,15])
 (.cond (.t 16)
 (.skip)
 (.exit 0)))
 (.seq (.block 1 (.region [⟨(some 19),.mv (.t 5),none⟩,
 ⟨(some 20),.fieldAddr 3 (.t 2),none⟩,
 ⟨(some 21),.load none (.t 20),none⟩,
 ⟨(some 22),.mv (.t 6),none⟩,
 ⟨(some 23),.indexAddr 4 (.t 21) (.t 22),none⟩,
 ⟨(some 24),.load (some 4) (.t 23),none⟩,
 ⟨(some 25),.mv (.t 1),none⟩,
 ⟨(some 26),.mv (.t 5),none⟩,
 ⟨(some 27),.bin .sub (.t 25) (.t 26),none⟩,
 ⟨(some 28),.qcall 76 [(.t 24),(.t 27)],none⟩,
 ⟨(some 29),.bin .add (.t 19) (.t 28),none⟩,
 ⟨(some 5),.mv (.t 29),none⟩] [16,19,20,21,22,23,24,25,26,27,28,29]))
 (.region [⟨(some 17),.mv (.t 6),none⟩,
 ⟨(some 18),.bin .add (.t 17) (.k (.c (.d (.int .i64 1)))),none⟩,
 ⟨(some 6),.mv (.t 18),none⟩] [17,18]))))))
 (.seq (.region [⟨(some 30),.mv (.t 5),none⟩,
 ⟨(some 4),.mv (.t 30),none⟩] [5,30])
 (.ret))))
theorem ac76_ok : cFunc Try.prog [1000076] [(0,[0,4],[]),(1,[],[]),(2,[],[]),(3,[7,8,9,10,11,12,13,14,15],[]),(5,[16,19,20,21,22,23,24,25,26,27,28,29],[]),(4,[17,18],[]),(6,[5,30],[])] Try.f76 = some (ac76,[.tmp 4],31) := by kernel_rfl
-- 66 loop.example/prologserver/spec.TermValid params 1 ntmps 10
def ac66 : Cd := .seq (.region [⟨(some 1),.box (.t 0),none⟩,
 ⟨(some 2),.mv (.k (.c (.d (.bool false)))),none⟩] [0,2])
 (.seq (.region [⟨(some 3),.load (some 4) (.t 1),none⟩,
 ⟨(some 4),.qcall 75 [(.t 3),(.k (.c (.d (.int .i64 30))))],none⟩,
 ⟨(some 5),.mv (.t 4),none⟩,
 ⟨(some 6),.load (some 4) (.t 1),some (5,true)⟩,
 ⟨(some 7),.qcall 76 [(.t 6),(.k (.c (.d (.int .i64 120))))],some (5,true)⟩,
 ⟨(some 8),.bin .leq (.t 7) (.k (.c (.d (.int .i64 120)))),some (5,true)⟩,
 ⟨(some 9),.pick (.t 5) (.t 8) (.k (.c (.d (.bool false)))),none⟩,
 ⟨(some 2),.mv (.t 9),none⟩] [1,3,4,5,6,7,8,9])
 (.ret))
theorem ac66_ok : cFunc Try.prog [1000075,1000076] [(0,[0,2],[]),(1,[1,3,4,5,6,7,8,9],[])] Try.f66 = some (ac66,[.tmp 2],10) := by kernel_rfl
def Cn (c : Nat) : Ob := .cells [.d (.int .i64 c)]
def ScanOk (t : Tm) : Prop := ∀ (deep c : Nat) (H : Heap) (i : Nat), deep ≤ 31 → c ≤ 120 → i < H.length →
  ACalls Try.prog 77 [.agg (t.row.map .d), .c (.d (.int .i64 deep)), .c (.ptr (.e i) 0)] (H.set i (Cn c)) (fun r H' => r = .c (.d (.bool (scanT deep t c).1)) ∧ H' = H.set i (Cn (scanT deep t c).2))
theorem anyS_scan (d : Nat) : ∀ (l : List Tm) (c : Nat), anyS (fun c t => (!(scanT d t c).1, (scanT d t c).2)) l c = (!(scanL d l c).1, (scanL d l c).2)
  | [], _ => rfl
  | t :: l, c => by
    rw [anyS, scanL]
    cases h : (scanT d t c).1 with
    | true => simp [anyS_scan d l]
    | false => simp
def scanHeap (H : Heap) (i deep : Nat) (x : Ob) (c : Nat) : Heap := H.set i (Cn c) ++ [x, .cells [.d (.int .i64 deep)], .cells [.ptr (.e i) 0]]
theorem scan1_calls (t : Tm) (h : ScanOk t) (deep c : Nat) (H : Heap) (i : Nat) (x : Ob) (hd : deep ≤ 30) (hc : c ≤ 120) (hi : i < H.length) (hfit : ∀ c, Obs.fits (H.length + 3) 0 (scanHeap H i deep x c)) :
    ACalls Try.prog 83 [.agg (t.row.map .d), .c (.ptr (.e (H.length + 1)) 0), .c (.ptr (.e (H.length + 2)) 0)] (scanHeap H i deep x c) (fun r H' => r = .c (.d (.bool (!(scanT (deep + 1) t c).1))) ∧ H' = scanHeap H i deep x (scanT (deep + 1) t c).2) := by
  refine acalls Try.func83 (by kernel_rfl) ac83_ok fun hf => ?_
  have hlen : ∀ c, (scanHeap H i deep x c).length = H.length + 3 := fun c => by simp [scanHeap]
  have g1 : (scanHeap H i deep x c)[H.length + 1]? = some (.cells [.d (.int .i64 deep)]) := by
    rw [scanHeap, List.getElem?_append_right (by simp)]; simp
  have g2 : (scanHeap H i deep x c)[H.length + 2]? = some (.cells [.ptr (.e i) 0]) := by
    rw [scanHeap, List.getElem?_append_right (by simp)]; simp
  have hadd : inR .i64 ((deep : Int) + 1) := small_i64 (by omega) (by omega)
  simp -implicitDefEqProofs [ac83, g1, g2, hadd, row_len, take_row, go_sem, -List.set_cons_succ, -List.set_cons_zero]
  have hset : ∀ c, (H ++ ([x, .cells [.d (.int .i64 deep)], .cells [.ptr (.e i) 0]] ++ [Ob.cells (t.row.map C.d)])).set i (Cn c) = scanHeap H i deep x c ++ [Ob.cells (t.row.map C.d)] := fun c => by
    rw [List.set_append_left _ _ hi, scanHeap, List.append_assoc]
  have h2 := h (deep + 1) c (H ++ ([x, .cells [.d (.int .i64 deep)], .cells [.ptr (.e i) 0]] ++ [Ob.cells (t.row.map C.d)])) i (by omega) hc (by simp; omega)
  rw [hset] at h2
  simp -implicitDefEqProofs [pure_d, re_d, Ref.re, go_sem, -List.set_cons_succ, -List.set_cons_zero]
  refine h2.mono fun r H' ⟨h3, h4⟩ => ⟨scanHeap H i deep x (scanT (deep + 1) t c).2, [Ob.cells (t.row.map C.d)], .c (.d (.bool (scanT (deep + 1) t c).1)), ?_, ?_, Nat.le_refl _, ?_, h3, ?_⟩
  · rw [h4, hset]; simp [Ob.re, re_d]
  · simp only [hlen]
  · simp only [hlen]; exact hfit _
  · simp -implicitDefEqProofs [go_sem, -List.set_cons_succ, -List.set_cons_zero]
theorem scanT_bad {deep c : Nat} {t : Tm} (h : 120 < c + 1 ∨ 30 < deep) : scanT deep t c = (false, c + 1) := by
  obtain ⟨k, n, s, l⟩ := t
  rw [scanT, if_pos h]
theorem scanT_own {deep c : Nat} {t : Tm} (h1 : c + 1 ≤ 120) (h2 : deep ≤ 30) (h : t.ownB = false) : scanT deep t c = (false, c + 1) := by
  obtain ⟨k, n, s, l⟩ := t
  rw [scanT, if_neg (by omega), h]; rfl
theorem scanT_go {deep c : Nat} {t : Tm} (h1 : c + 1 ≤ 120) (h2 : deep ≤ 30) (h : t.ownB = true) : scanT deep t c = scanL (deep + 1) t.kids (c + 1) := by
  obtain ⟨k, n, s, l⟩ := t
  rw [scanT, if_neg (by omega), h]; rfl
theorem scanT_leaf {deep c : Nat} {k n : Int} {s : List UInt8} {l : List Tm} (h1 : c + 1 ≤ 120) (h2 : deep ≤ 30) (h : k ≠ 3) : scanT deep (.mk k n s l) c = ((Tm.mk k n s l).ownB, c + 1) := by
  cases ho : (Tm.mk k n s l).ownB with
  | false => exact scanT_own h1 h2 ho
  | true =>
    rw [scanT_go h1 h2 ho, Tm.kids, own_leaf h ho]
    rfl
theorem scan_calls : ∀ t : Tm, t.fits → ScanOk t := by
  refine Tm.ind fun k n s l ih hfits deep c H i hd hc hi => ?_
  obtain ⟨hk, hn, hs, hl, hkids⟩ := hfits
  refine acalls Try.func77 (by kernel_rfl) ac77_ok fun hf => ?_
  simp only [List.length_set] at hf
  have hadd : inR .i64 ((c : Int) + 1) := small_i64 (by omega) (by omega)
  have hli : inR .i64 (l.length : Int) := small_i64 (by omega) (by omega)
  have hf1 : Obs.fits H.length 0 (H.set i (.cells [.d (.int .i64 ((c : Int) + 1))])) := fits_reset hf ⟨trivial, trivial⟩
  simp -implicitDefEqProofs [ac77, Cn, row_mk, hadd, hi, hf1, hli, List.getElem?_set, go_sem, -List.set_cons_succ, -List.set_cons_zero]
  have done : ∀ b : Bool, scanT deep (.mk k n s l) c = (b, c + 1) → b = (scanT deep (.mk k n s l) c).1 ∧ H.set i (Ob.cells [C.d (D.int IntKind.i64 ((c : Int) + 1))]) = H.set i (Ob.cells [C.d (D.int IntKind.i64 ((scanT deep (.mk k n s l) c).2 : Nat))]) := fun b h => by rw [h]; exact ⟨rfl, rfl⟩
  refine ⟨fun h => ?_, fun h1 h2 => ⟨fun k1 => ?_, fun k1 => ⟨fun k2 => ?_, fun k2 => ⟨fun k3 => ⟨fun n0 => ⟨n0, ?_⟩, fun n0 => ?_⟩, fun k3 => ?_⟩⟩⟩⟩
  · have := done false (scanT_bad (by omega))
    exact ⟨this.1.symm, this.2⟩
  · subst k1
    refine qcall_pure (within_calls n 0 25) (by simpa using hf1) rfl ?_
    have hd := done _ (scanT_leaf (by omega) (by omega) (by omega))
    simp -implicitDefEqProofs [hi, hli, isEmpty_len, List.getElem?_set, go_sem, -List.set_cons_succ, -List.set_cons_zero]
    rw [← hd.1]
    refine ⟨?_, hd.2⟩
    simp [Tm.ownB]
  · subst k2
    refine qcall_pure (within_calls n (-999) 999) (by simpa using hf1) rfl ?_
    have hd := done _ (scanT_leaf (by omega) (by omega) (by omega))
    simp -implicitDefEqProofs [hi, hli, isEmpty_len, List.getElem?_set, go_sem, -List.set_cons_succ, -List.set_cons_zero]
    rw [← hd.1]
    refine ⟨?_, hd.2⟩
    simp [Tm.ownB]
  · subst n0 k3
    refine qcall_pure (nvImpl_calls s (by omega)) (by simpa using hf1) rfl ?_
    cases hnm : nameB s with
    | false =>
      have hd := done _ (scanT_own (by omega) (by omega) (by simp [Tm.ownB, hnm]))
      simp -implicitDefEqProofs [hnm, hi, hli, List.getElem?_set, go_sem, -List.set_cons_succ, -List.set_cons_zero]
      exact ⟨hd.1.symm, hd.2⟩
    | true =>
      by_cases h4 : 4 < l.length
      · have h4' : ¬ l.length ≤ 4 := by omega
        have hd := done _ (scanT_own (by omega) (by omega) (by simp [Tm.ownB, hnm, h4']))
        simp -implicitDefEqProofs [hnm, hi, hli, h4, List.getElem?_set, go_sem, -List.set_cons_succ, -List.set_cons_zero]
        exact ⟨fun _ => ⟨hd.1.symm, hd.2⟩, fun h => by omega⟩
      · have h4' : l.length ≤ 4 := by omega
        have hgo := scanT_go (t := .mk 3 0 s l) (show c + 1 ≤ 120 by omega) (show deep ≤ 30 by omega) (by simp [Tm.ownB, hnm, h4'])
        simp -implicitDefEqProofs [hnm, hi, hli, h4, List.getElem?_set, go_sem, -List.set_cons_succ, -List.set_cons_zero]
        refine ⟨fun h => by omega, fun _ => ?_⟩
        have hfit : ∀ c, Obs.fits (H.length + 3) 0 (scanHeap H i deep (Ob.cells [C.d (D.int IntKind.i64 3), C.d (D.int IntKind.i64 0), C.d (D.str s), C.d (D.sl (List.map Tm.row l))]) c) := fun c =>
          fits_append (fits_mono (by omega) (fits_reset (b := Cn c) hf ⟨trivial, trivial⟩)) ⟨⟨trivial, trivial, trivial, trivial, trivial⟩, ⟨trivial, trivial⟩, ⟨by show i < H.length + 3 + 0; omega, trivial⟩, trivial⟩
        have con := tmF_con (fun c => scanHeap H i deep (Ob.cells [C.d (D.int IntKind.i64 3), C.d (D.int IntKind.i64 0), C.d (D.str s), C.d (D.sl (List.map Tm.row l))]) c) (H.length + 3) (fun c => by simp [scanHeap]) hfit 83 [(H.length + 1, 0), (H.length + 2, 0)]
          (fun c t => (!(scanT (deep + 1) t c).1, (scanT (deep + 1) t c).2)) (fun c => c ≤ 120) l (by omega) (fun c hc t ht => scan1_calls t (ih t ht (hkids t ht)) deep c H i _ (by omega) hc hi hfit)
          (fun c hc t ht h => ((scan_spec t (deep + 1) c hc).1 (by simpa using h)).2) (c + 1) (by omega)
        rw [anyS_scan] at con
        simp only [Tm.kids] at hgo
        rw [← hgo] at con
        refine con.mono fun r H' ⟨h5, h6⟩ => ⟨H.set i (Cn (scanT deep (Tm.mk 3 0 s l) c).2), [Ob.cells [C.d (D.int IntKind.i64 3), C.d (D.int IntKind.i64 0), C.d (D.str s), C.d (D.sl (List.map Tm.row l))], Ob.cells [C.d (D.int IntKind.i64 deep)], Ob.cells [C.ptr (.e i) 0]], .c (.d (.bool (!(scanT deep (Tm.mk 3 0 s l) c).1))), by rw [h6]; rfl, by simp, Nat.le_refl _, by simpa using fits_reset (b := Cn (scanT deep (Tm.mk 3 0 s l) c).2) hf ⟨trivial, trivial⟩, h5, ?_⟩
        simp -implicitDefEqProofs [go_sem, -List.set_cons_succ, -List.set_cons_zero]
        rfl
  · have := done false (scanT_own (by omega) (by omega) (by simp [Tm.ownB, k3, n0]))
    exact ⟨this.1.symm, this.2⟩
  · have := done false (scanT_own (by omega) (by omega) (by simp [Tm.ownB, k1, k2, k3]))
    exact ⟨this.1.symm, this.2⟩
theorem tvImpl_calls (t : Tm) (ht : t.fits) (H : Heap) : ACalls Try.prog 70 [.agg (t.row.map .d)] H (fun r H' => H' = H ∧ r = .c (.d (.bool t.valid))) := by
  refine acalls Try.func70 (by kernel_rfl) ac70_ok fun hf => ?_
  simp -implicitDefEqProofs [ac70, hf, row_len, take_row, go_sem, -List.set_cons_succ, -List.set_cons_zero]
  have h := scan_calls t ht 1 0 (H ++ [Ob.cells (t.row.map C.d), Cn 0]) (H.length + 1) (by omega) (by omega) (by simp)
  have hset : ∀ c, (H ++ [Ob.cells (t.row.map C.d), Cn 0]).set (H.length + 1) (Cn c) = H ++ [Ob.cells (t.row.map C.d), Cn c] := fun c => by
    rw [List.set_append_right _ _ (by omega)]; simp
  rw [hset, scan_valid, hset] at h
  simp -implicitDefEqProofs [pure_d, re_d, Ref.re, go_sem, -List.set_cons_succ, -List.set_cons_zero]
  refine h.mono fun r H' ⟨h3, h4⟩ => ⟨H, [Ob.cells (t.row.map C.d), Cn (scanT 1 t 0).2], .c (.d (.bool t.valid)), ?_, rfl, Nat.le_refl _, hf, h3, ?_⟩
  · rw [h4]; simp [Cn, Ob.re, C.re, re_d]
  · simp -implicitDefEqProofs [go_sem, -List.set_cons_succ, -List.set_cons_zero]
theorem sizes_take : ∀ {l : List Tm} {i : Nat} (h : i < l.length), sizes (l.take (i + 1)) = sizes (l.take i) + l[i].size
  | [], i, h => by simp at h
  | t :: l, 0, h => by simp [sizes]
  | t :: l, i + 1, h => by
    have := sizes_take (l := l) (i := i) (by simpa using h)
    simp only [List.take_succ_cons, sizes, List.getElem_cons_succ, this]
    omega
theorem sizes_le : ∀ (l : List Tm) (i : Nat), sizes (l.take i) ≤ sizes l
  | [], i => by simp
  | t :: l, 0 => by simp [sizes]
  | t :: l, i + 1 => by
    have := sizes_le l i
    simp only [List.take_succ_cons, sizes]
    omega
theorem own_calls (t : Tm) (ht : t.fits) (H : Heap) : ACalls Try.prog 81 [.agg (t.row.map .d)] H (fun r H' => H' = H ∧ r = .c (.d (.bool t.ownB))) := by
  obtain ⟨k, n, s, l⟩ := t
  obtain ⟨hk, hn, hs, hl, hkids⟩ := ht
  refine acalls Try.func81 (by kernel_rfl) ac81_ok fun hf => ?_
  have hli : inR .i64 (l.length : Int) := small_i64 (by omega) (by omega)
  by_cases k1 : k = 1
  · subst k1
    simp -implicitDefEqProofs [ac81, row_mk, hli, Tm.ownB, isEmpty_len, go_sem, -List.set_cons_succ, -List.set_cons_zero]
  · by_cases k2 : k = 2
    · subst k2
      simp -implicitDefEqProofs [ac81, row_mk, hli, Tm.ownB, isEmpty_len, go_sem, -List.set_cons_succ, -List.set_cons_zero]
    · by_cases k3 : k = 3
      · subst k3
        by_cases n0 : n = 0
        · simp -implicitDefEqProofs [ac81, row_mk, hli, n0, go_sem, -List.set_cons_succ, -List.set_cons_zero]
          refine qcall_pure (nvSpec_calls s (by omega)) hf rfl ?_
          simp -implicitDefEqProofs [hli, n0, Tm.ownB, go_sem, -List.set_cons_succ, -List.set_cons_zero]
          congr 1
          simp
          omega
        · simp -implicitDefEqProofs [ac81, row_mk, hli, n0, Tm.ownB, go_sem, -List.set_cons_succ, -List.set_cons_zero]
      · simp -implicitDefEqProofs [ac81, row_mk, hli, k1, k2, k3, Tm.ownB, go_sem, -List.set_cons_succ, -List.set_cons_zero]
theorem shape_calls : ∀ t : Tm, t.fits → ∀ (d : Nat), d ≤ 30 → ∀ H, ACalls Try.prog 75 [.agg (t.row.map .d), .c (.d (.int .i64 d))] H (fun r H' => H' = H ∧ r = .c (.d (.bool (t.shape d)))) := by
  refine Tm.ind fun k n s l ih hfits d hd H => ?_
  have how := own_calls _ hfits
  obtain ⟨hk, hn, hs, hl, hkids⟩ := hfits
  rw [row_mk] at how
  simp only [List.map_cons, List.map_nil] at how
  refine acalls Try.func75 (by kernel_rfl) ac75_ok fun hf => ?_
  have hli : inR .i64 (l.length : Int) := small_i64 (by omega) (by omega)
  have hsub : 1 ≤ d → inR .i64 ((d : Int) - 1) := fun h => small_i64 (by omega) (by omega)
  simp -implicitDefEqProofs [ac75, row_mk, hli, go_sem, -List.set_cons_succ, -List.set_cons_zero]
  refine ⟨fun h1 => ⟨h1, ?_⟩, fun h1 => ?_⟩
  · have hd1 : 1 ≤ d := by omega
    refine qcall_pure how hf rfl ?_
    cases ho : (Tm.mk k n s l).ownB with
    | false => simp -implicitDefEqProofs [ho, Tm.shape, go_sem, -List.set_cons_succ, -List.set_cons_zero]
    | true =>
      simp -implicitDefEqProofs [ho, go_sem, -List.set_cons_succ, -List.set_cons_zero]
      refine loop_set (σ := Nat) (fun i => [(5, .c (.d (.int .i64 i)))]) (fun _ => H) (fun _ => [_]) (fun i => i ≤ l.length ∧ ∀ t ∈ l.take i, t.shape (d - 1) = true) (fun i => l.length - i) 0 rfl ⟨Nat.zero_le _, by simp⟩ ?_
      rintro i ⟨hi, hall⟩
      simp -implicitDefEqProofs [setAll, hli, go_sem, -List.set_cons_succ, -List.set_cons_zero]
      refine ⟨fun hlt => ?_, fun hge => ?_⟩
      · refine row_of hlt (row_len _) ?_
        simp -implicitDefEqProofs [row_len, take_row, pure_d, re_d, hsub hd1, go_sem, -List.set_cons_succ, -List.set_cons_zero]
        have hc := ih l[i] (List.getElem_mem hlt) (hkids _ (List.getElem_mem hlt)) (d - 1) (by omega)
        rw [show ((d - 1 : Nat) : Int) = (d : Int) - 1 by omega] at hc
        refine qcall_pure hc hf rfl ?_
        have hadd : inR .i64 ((i : Int) + 1) := small_i64 (by omega) (by omega)
        simp -implicitDefEqProofs [hadd, go_sem, -List.set_cons_succ, -List.set_cons_zero]
        refine ⟨fun hg => ?_, fun hg => loop_back (i + 1) (by simp [setAll]) ⟨hlt, fun t ht => ?_⟩ (by show l.length - (i + 1) < l.length - i; omega)⟩
        · rw [Tm.shape, shapes_all]
          have : (l.all fun t => t.shape (d - 1)) = false := by
            rw [List.all_eq_false]
            exact ⟨l[i], List.getElem_mem hlt, by simp [hg]⟩
          simp [this]
        · rw [List.take_succ_eq_append_getElem hlt, List.mem_append] at ht
          rcases ht with ht | ht
          · exact hall t ht
          · simp at ht; subst ht; exact hg
      · rw [List.take_of_length_le hge] at hall
        rw [Tm.shape, shapes_all, ho, List.all_eq_true.2 hall]
        simp [hd1]
  · rw [Tm.shape]
    have : ¬ 1 ≤ d := by omega
    simp [this]
theorem count_calls : ∀ t : Tm, t.fits → ∀ (m : Nat), m ≤ 1000 → ∀ H, ACalls Try.prog 76 [.agg (t.row.map .d), .c (.d (.int .i64 m))] H (fun r H' => H' = H ∧ r = .c (.d (.int .i64 (min t.size (m + 1) : Nat)))) := by
  refine Tm.ind fun k n s l ih hfits m hm H => ?_
  obtain ⟨hk, hn, hs, hl, hkids⟩ := hfits
  refine acalls Try.func76 (by kernel_rfl) ac76_ok fun hf => ?_
  have hli : inR .i64 (l.length : Int) := small_i64 (by omega) (by omega)
  simp -implicitDefEqProofs [ac76, row_mk, hli, go_sem, -List.set_cons_succ, -List.set_cons_zero]
  refine loop_set (σ := Nat × Nat) (fun x => [(6, .c (.d (.int .i64 x.1))), (5, .c (.d (.int .i64 x.2)))]) (fun _ => H) (fun _ => [_]) (fun x => x.1 ≤ l.length ∧ x.2 = min (1 + sizes (l.take x.1)) (m + 1)) (fun x => l.length - x.1) (0, 1) rfl ⟨Nat.zero_le _, by simp [sizes]⟩ ?_
  rintro ⟨i, c⟩ ⟨hi, hcnt⟩
  simp only at hi hcnt
  have htk : ∀ h : i < l.length, sizes (l.take (i + 1)) = sizes (l.take i) + (l[i]'h).size := fun h => sizes_take h
  by_cases hlt : i < l.length
  · by_cases hcm : c ≤ m
    · have hsub : inR .i64 ((m : Int) - (c : Int)) := small_i64 (by omega) (by omega)
      have hadd : inR .i64 ((i : Int) + 1) := small_i64 (by omega) (by omega)
      simp -implicitDefEqProofs [setAll, hli, hlt, hcm, hsub, go_sem, -List.set_cons_succ, -List.set_cons_zero]
      refine row_of hlt (row_len _) ?_
      simp -implicitDefEqProofs [row_len, take_row, pure_d, re_d, hsub, go_sem, -List.set_cons_succ, -List.set_cons_zero]
      have hc := ih l[i] (List.getElem_mem hlt) (hkids _ (List.getElem_mem hlt)) (m - c) (by omega)
      rw [show ((m - c : Nat) : Int) = (m : Int) - c by omega] at hc
      refine qcall_pure hc hf rfl ?_
      have e := htk hlt
      have hcs : c + min l[i].size (m - c + 1) = min (1 + sizes (l.take (i + 1))) (m + 1) := by omega
      have hadd2 : inR .i64 ((c : Int) + ((min l[i].size (m - c + 1) : Nat) : Int)) := small_i64 (by omega) (by omega)
      simp -implicitDefEqProofs [hadd, hadd2, go_sem, -List.set_cons_succ, -List.set_cons_zero]
      refine loop_back (i + 1, c + min l[i].size (m - c + 1)) (by simp [setAll]) ⟨hlt, hcs⟩ (by show l.length - (i + 1) < l.length - i; omega)
    · simp -implicitDefEqProofs [setAll, hli, hlt, hcm, go_sem, -List.set_cons_succ, -List.set_cons_zero]
      have h1 := sizes_le l i
      rw [Tm.size]
      omega
  · have hil : i = l.length := by omega
    subst hil
    rw [List.take_length] at hcnt
    simp -implicitDefEqProofs [setAll, hli, go_sem, -List.set_cons_succ, -List.set_cons_zero]
    rw [Tm.size, hcnt]
theorem tvSpec_calls (t : Tm) (ht : t.fits) (H : Heap) : ACalls Try.prog 66 [.agg (t.row.map .d)] H (fun r H' => H' = H ∧ r = .c (.d (.bool t.valid))) := by
  refine acalls Try.func66 (by kernel_rfl) ac66_ok fun hf => ?_
  simp -implicitDefEqProofs [ac66, row_len, take_row, pure_d, re_d, go_sem, -List.set_cons_succ, -List.set_cons_zero]
  refine qcall_pure (shape_calls t ht 30 (by omega)) hf rfl ?_
  cases h : t.shape 30 with
  | false => simp -implicitDefEqProofs [h, Tm.valid, row_len, take_row, go_sem, -List.set_cons_succ, -List.set_cons_zero]
  | true =>
    simp -implicitDefEqProofs [h, Tm.valid, row_len, take_row, pure_d, re_d, go_sem, -List.set_cons_succ, -List.set_cons_zero]
    refine qcall_pure (count_calls t ht 120 (by omega)) hf rfl ?_
    simp -implicitDefEqProofs [go_sem, -List.set_cons_succ, -List.set_cons_zero]
    omega
end Go.Proofs.Ytoipdmomgjdnaaa

/-
  Goals: which terms are goals, for the program and for the reference.
  Conditions: none.
-/
open Go Go.AM Go.Proofs
namespace Go.Proofs.Ytoipdmomgjdnaaa
open Go.ChangeShapes Go.WideShapes Go.ChangeAt Go.RowKit
set_option linter.unusedVariables false
set_option linter.unusedSimpArgs false
set_option maxRecDepth 100000
-- 68 loop.example/prologserver/impl.OpLevel params 1 ntmps 22
def ac68 : Cd := .seq (.region [⟨(some 2),.mv (.k (.c (.d (.int .i64 0)))),none⟩,
 ⟨(some 3),.mv (.k (.c (.d (.bool false)))),none⟩] [2,3])
 (.seq (.seq (.region [⟨(some 4),.mv (.t 0),none⟩] [0])
 (.block 0 (.seq (.seq (.region [⟨(some 6),.bin .eql (.t 4) (.k (.c (.d (.str [61])))),none⟩,
 ⟨(some 5),.mv (.t 6),none⟩] [6])
 (.cond (.t 5)
 (.skip)
 (.seq (.region [⟨(some 7),.bin .eql (.t 4) (.k (.c (.d (.str [92,61])))),none⟩,
 ⟨(some 5),.mv (.t 7),none⟩] [7])
 (.cond (.t 5)
 (.skip)
 (.seq (.region [⟨(some 8),.bin .eql (.t 4) (.k (.c (.d (.str [61,61])))),none⟩,
 ⟨(some 5),.mv (.t 8),none⟩] [8])
 (.cond (.t 5)
 (.skip)
 (.seq (.region [⟨(some 9),.bin .eql (.t 4) (.k (.c (.d (.str [60])))),none⟩,
 ⟨(some 5),.mv (.t 9),none⟩] [9])
 (.cond (.t 5)
 (.skip)
 (.seq (.region [⟨(some 10),.bin .eql (.t 4) (.k (.c (.d (.str [62])))),none⟩,
 ⟨(some 5),.mv (.t 10),none⟩] [10])
 (.cond (.t 5)
 (.skip)
 (.seq (.region [⟨(some 11),.bin .eql (.t 4) (.k (.c (.d (.str [61,60])))),none⟩,
 ⟨(some 5),.mv (.t 11),none⟩] [11])
 (.cond (.t 5)
 (.skip)
 (.seq (.region [⟨(some 12),.bin .eql (.t 4) (.k (.c (.d (.str [62,61])))),none⟩,
 ⟨(some 5),.mv (.t 12),none⟩] [12])
 (.cond (.t 5)
 (.skip)
 (.seq (.region [⟨(some 13),.bin .eql (.t 4) (.k (.c (.d (.str [61,58,61])))),none⟩,
 ⟨(some 5),.mv (.t 13),none⟩] [13])
 (.cond (.t 5)
 (.skip)
 (.region [⟨(some 14),.bin .eql (.t 4) (.k (.c (.d (.str [105,115])))),none⟩,
 ⟨(some 5),.mv (.t 14),none⟩] [14])))))))))))))))))
 (.cond (.t 5)
 (.seq (.region [⟨(some 2),.mv (.k (.c (.d (.int .i64 3)))),none⟩,
 ⟨(some 3),.mv (.k (.c (.d (.bool false)))),none⟩] [4,5])
 (.ret))
 (.seq (.seq (.region [⟨(some 16),.bin .eql (.t 4) (.k (.c (.d (.str [43])))),none⟩,
 ⟨(some 15),.mv (.t 16),none⟩] [5,16])
 (.cond (.t 15)
 (.skip)
 (.region [⟨(some 17),.bin .eql (.t 4) (.k (.c (.d (.str [45])))),none⟩,
 ⟨(some 15),.mv (.t 17),none⟩] [17])))
 (.cond (.t 15)
 (.seq (.region [⟨(some 2),.mv (.k (.c (.d (.int .i64 2)))),none⟩,
 ⟨(some 3),.mv (.k (.c (.d (.bool true)))),none⟩] [4,15])
 (.ret))
 (.seq (.seq (.region [⟨(some 19),.bin .eql (.t 4) (.k (.c (.d (.str [42])))),none⟩,
 ⟨(some 18),.mv (.t 19),none⟩] [15,19])
 (.cond (.t 18)
 (.skip)
 (.seq (.region [⟨(some 20),.bin .eql (.t 4) (.k (.c (.d (.str [47,47])))),none⟩,
 ⟨(some 18),.mv (.t 20),none⟩] [20])
 (.cond (.t 18)
 (.skip)
 (.region [⟨(some 21),.bin .eql (.t 4) (.k (.c (.d (.str [109,111,100])))),none⟩,
 ⟨(some 18),.mv (.t 21),none⟩] [4,21])))))
 (.cond (.t 18)
 (.seq (.region [⟨(some 2),.mv (.k (.c (.d (.int .i64 1)))),none⟩,
 ⟨(some 3),.mv (.k (.c (.d (.bool true)))),none⟩] [4,18])
 (.ret))
 (.skip)))))))))
 (.seq (.region [⟨(some 2),.mv (.k (.c (.d (.int .i64 0)))),none⟩,
 ⟨(some 3),.mv (.k (.c (.d (.bool false)))),none⟩] [4,18])
 (.ret)))
theorem ac68_ok : cFunc Try.prog [] [(0,[2,3],[]),(1,[0],[]),(2,[6],[]),(3,[7],[]),(4,[8],[]),(5,[9],[]),(6,[10],[]),(7,[11],[]),(8,[12],[]),(9,[13],[]),(10,[14],[]),(11,[4,5],[]),(12,[5,16],[]),(13,[17],[]),(14,[4,15],[]),(15,[15,19],[]),(16,[20],[]),(17,[4,21],[]),(18,[4,18],[]),(19,[4,18],[])] Try.f68 = some (ac68,[.tmp 2,.tmp 3],22) := by kernel_rfl
-- 52 loop.example/prologserver/spec.l2Level params 1 ntmps 21
def ac52 : Cd := .seq (.region [⟨(some 2),.mv (.k (.c (.d (.int .i64 0)))),none⟩] [2])
 (.seq (.seq (.region [⟨(some 3),.mv (.t 0),none⟩] [0])
 (.block 0 (.seq (.seq (.region [⟨(some 5),.bin .eql (.t 3) (.k (.c (.d (.str [61])))),none⟩,
 ⟨(some 4),.mv (.t 5),none⟩] [5])
 (.cond (.t 4)
 (.skip)
 (.seq (.region [⟨(some 6),.bin .eql (.t 3) (.k (.c (.d (.str [92,61])))),none⟩,
 ⟨(some 4),.mv (.t 6),none⟩] [6])
 (.cond (.t 4)
 (.skip)
 (.seq (.region [⟨(some 7),.bin .eql (.t 3) (.k (.c (.d (.str [61,61])))),none⟩,
 ⟨(some 4),.mv (.t 7),none⟩] [7])
 (.cond (.t 4)
 (.skip)
 (.seq (.region [⟨(some 8),.bin .eql (.t 3) (.k (.c (.d (.str [60])))),none⟩,
 ⟨(some 4),.mv (.t 8),none⟩] [8])
 (.cond (.t 4)
 (.skip)
 (.seq (.region [⟨(some 9),.bin .eql (.t 3) (.k (.c (.d (.str [62])))),none⟩,
 ⟨(some 4),.mv (.t 9),none⟩] [9])
 (.cond (.t 4)
 (.skip)
 (.seq (.region [⟨(some 10),.bin .eql (.t 3) (.k (.c (.d (.str [61,60])))),none⟩,
 ⟨(some 4),.mv (.t 10),none⟩] [10])
 (.cond (.t 4)
 (.skip)
 (.seq (.region [⟨(some 11),.bin .eql (.t 3) (.k (.c (.d (.str [62,61])))),none⟩,
 ⟨(some 4),.mv (.t 11),none⟩] [11])
 (.cond (.t 4)
 (.skip)
 (.seq (.region [⟨(some 12),.bin .eql (.t 3) (.k (.c (.d (.str [61,58,61])))),none⟩,
 ⟨(some 4),.mv (.t 12),none⟩] [12])
 (.cond (.t 4)
 (.skip)
 (.region [⟨(some 13),.bin .eql (.t 3) (.k (.c (.d (.str [105,115])))),none⟩,
 ⟨(some 4),.mv (.t 13),none⟩] [13])))))))))))))))))
 (.cond (.t 4)
 (.seq (.region [⟨(some 2),.mv (.k (.c (.d (.int .i64 3)))),none⟩] [3,4])
 (.ret))
 (.seq (.seq (.region [⟨(some 15),.bin .eql (.t 3) (.k (.c (.d (.str [43])))),none⟩,
 ⟨(some 14),.mv (.t 15),none⟩] [4,15])
 (.cond (.t 14)
 (.skip)
 (.region [⟨(some 16),.bin .eql (.t 3) (.k (.c (.d (.str [45])))),none⟩,
 ⟨(some 14),.mv (.t 16),none⟩] [16])))
 (.cond (.t 14)
 (.seq (.region [⟨(some 2),.mv (.k (.c (.d (.int .i64 2)))),none⟩] [3,14])
 (.ret))
 (.seq (.seq (.region [⟨(some 18),.bin .eql (.t 3) (.k (.c (.d (.str [42])))),none⟩,
 ⟨(some 17),.mv (.t 18),none⟩] [14,18])
 (.cond (.t 17)
 (.skip)
 (.seq (.region [⟨(some 19),.bin .eql (.t 3) (.k (.c (.d (.str [47,47])))),none⟩,
 ⟨(some 17),.mv (.t 19),none⟩] [19])
 (.cond (.t 17)
 (.skip)
 (.region [⟨(some 20),.bin .eql (.t 3) (.k (.c (.d (.str [109,111,100])))),none⟩,
 ⟨(some 17),.mv (.t 20),none⟩] [3,20])))))
 (.cond (.t 17)
 (.seq (.region [⟨(some 2),.mv (.k (.c (.d (.int .i64 1)))),none⟩] [3,17])
 (.ret))
 (.skip)))))))))
 (.seq (.region [⟨(some 2),.mv (.k (.c (.d (.int .i64 0)))),none⟩] [3,17])
 (.ret)))
theorem ac52_ok : cFunc Try.prog [] [(0,[2],[]),(1,[0],[]),(2,[5],[]),(3,[6],[]),(4,[7],[]),(5,[8],[]),(6,[9],[]),(7,[10],[]),(8,[11],[]),(9,[12],[]),(10,[13],[]),(11,[3,4],[]),(12,[4,15],[]),(13,[16],[]),(14,[3,14],[]),(15,[14,18],[]),(16,[19],[]),(17,[3,20],[]),(18,[3,17],[]),(19,[3,17],[])] Try.f52 = some (ac52,[.tmp 2],21) := by kernel_rfl
-- 54 loop.example/prologserver/impl.isOp params 1 ntmps 12
def ac54 : Cd := .seq (.region [⟨(some 2),.mv (.k (.c (.d (.bool false)))),none⟩] [2])
 (.seq (.region [⟨(some 6),.mv (.t 0),none⟩,
 ⟨(some 7),.qcall 68 [(.t 6)],none⟩,
 ⟨(some 5),.mv (.t 7),none⟩,
 ⟨(some 8),.extract 0 (.t 5),none⟩,
 ⟨(some 9),.extract 1 (.t 5),none⟩,
 ⟨(some 3),.mv (.t 8),none⟩,
 ⟨(some 4),.mv (.t 9),none⟩] [0,4,5,6,7,8,9])
 (.seq (.region [⟨(some 10),.mv (.t 3),none⟩,
 ⟨(some 11),.bin .gtr (.t 10) (.k (.c (.d (.int .i64 0)))),none⟩,
 ⟨(some 2),.mv (.t 11),none⟩] [3,10,11])
 (.ret)))
theorem ac54_ok : cFunc Try.prog [1000068] [(0,[2],[]),(1,[0,4,5,6,7,8,9],[]),(2,[3,10,11],[])] Try.f54 = some (ac54,[.tmp 2],12) := by kernel_rfl
-- 69 loop.example/prologserver/impl.IsBuiltin params 2 ntmps 34
def ac69 : Cd := .seq (.region [⟨(some 4),.mv (.k (.c (.d (.bool false)))),none⟩] [4])
 (.seq (.seq (.region [⟨(some 5),.mv (.t 0),none⟩] [0])
 (.block 0 (.seq (.seq (.region [⟨(some 7),.bin .eql (.t 5) (.k (.c (.d (.str [61])))),none⟩,
 ⟨(some 6),.mv (.t 7),none⟩] [7])
 (.cond (.t 6)
 (.skip)
 (.seq (.region [⟨(some 8),.bin .eql (.t 5) (.k (.c (.d (.str [92,61])))),none⟩,
 ⟨(some 6),.mv (.t 8),none⟩] [8])
 (.cond (.t 6)
 (.skip)
 (.seq (.region [⟨(some 9),.bin .eql (.t 5) (.k (.c (.d (.str [61,61])))),none⟩,
 ⟨(some 6),.mv (.t 9),none⟩] [9])
 (.cond (.t 6)
 (.skip)
 (.seq (.region [⟨(some 10),.bin .eql (.t 5) (.k (.c (.d (.str [60])))),none⟩,
 ⟨(some 6),.mv (.t 10),none⟩] [10])
 (.cond (.t 6)
 (.skip)
 (.seq (.region [⟨(some 11),.bin .eql (.t 5) (.k (.c (.d (.str [62])))),none⟩,
 ⟨(some 6),.mv (.t 11),none⟩] [11])
 (.cond (.t 6)
 (.skip)
 (.seq (.region [⟨(some 12),.bin .eql (.t 5) (.k (.c (.d (.str [61,60])))),none⟩,
 ⟨(some 6),.mv (.t 12),none⟩] [12])
 (.cond (.t 6)
 (.skip)
 (.seq (.region [⟨(some 13),.bin .eql (.t 5) (.k (.c (.d (.str [62,61])))),none⟩,
 ⟨(some 6),.mv (.t 13),none⟩] [13])
 (.cond (.t 6)
 (.skip)
 (.seq (.region [⟨(some 14),.bin .eql (.t 5) (.k (.c (.d (.str [61,58,61])))),none⟩,
 ⟨(some 6),.mv (.t 14),none⟩] [14])
 (.cond (.t 6)
 (.skip)
 (.region [⟨(some 15),.bin .eql (.t 5) (.k (.c (.d (.str [105,115])))),none⟩,
 ⟨(some 6),.mv (.t 15),none⟩] [15])))))))))))))))))
 (.cond (.t 6)
 (.seq (.region [⟨(some 16),.mv (.t 1),none⟩,
 ⟨(some 17),.bin .eql (.t 16) (.k (.c (.d (.int .i64 2)))),none⟩,
 ⟨(some 4),.mv (.t 17),none⟩] [1,5,6,16,17])
 (.ret))
 (.seq (.seq (.region [⟨(some 19),.bin .eql (.t 5) (.k (.c (.d (.str [116,114,117,101])))),none⟩,
 ⟨(some 18),.mv (.t 19),none⟩] [6,19])
 (.cond (.t 18)
 (.skip)
 (.region [⟨(some 20),.bin .eql (.t 5) (.k (.c (.d (.str [102,97,105,108])))),none⟩,
 ⟨(some 18),.mv (.t 20),none⟩] [20])))
 (.cond (.t 18)
 (.seq (.region [⟨(some 21),.mv (.t 1),none⟩,
 ⟨(some 22),.bin .eql (.t 21) (.k (.c (.d (.int .i64 0)))),none⟩,
 ⟨(some 4),.mv (.t 22),none⟩] [1,5,18,21,22])
 (.ret))
 (.seq (.seq (.region [⟨(some 24),.bin .eql (.t 5) (.k (.c (.d (.str [118,97,114])))),none⟩,
 ⟨(some 23),.mv (.t 24),none⟩] [18,24])
 (.cond (.t 23)
 (.skip)
 (.seq (.region [⟨(some 25),.bin .eql (.t 5) (.k (.c (.d (.str [110,111,110,118,97,114])))),none⟩,
 ⟨(some 23),.mv (.t 25),none⟩] [25])
 (.cond (.t 23)
 (.skip)
 (.seq (.region [⟨(some 26),.bin .eql (.t 5) (.k (.c (.d (.str [97,116,111,109])))),none⟩,
 ⟨(some 23),.mv (.t 26),none⟩] [26])
 (.cond (.t 23)
 (.skip)
 (.region [⟨(some 27),.bin .eql (.t 5) (.k (.c (.d (.str [105,110,116])))),none⟩,
 ⟨(some 23),.mv (.t 27),none⟩] [27])))))))
 (.cond (.t 23)
 (.seq (.region [⟨(some 28),.mv (.t 1),none⟩,
 ⟨(some 29),.bin .eql (.t 28) (.k (.c (.d (.int .i64 1)))),none⟩,
 ⟨(some 4),.mv (.t 29),none⟩] [1,5,23,28,29])
 (.ret))
 (.seq (.region [⟨(some 31),.bin .eql (.t 5) (.k (.c (.d (.str [97,114,103])))),none⟩,
 ⟨(some 30),.mv (.t 31),none⟩] [5,23,31])
 (.cond (.t 30)
 (.seq (.region [⟨(some 32),.mv (.t 1),none⟩,
 ⟨(some 33),.bin .eql (.t 32) (.k (.c (.d (.int .i64 3)))),none⟩,
 ⟨(some 4),.mv (.t 33),none⟩] [1,30,32,33])
 (.ret))
 (.skip)))))))))))
 (.seq (.region [⟨(some 4),.mv (.k (.c (.d (.bool false)))),none⟩] [1,30])
 (.ret)))
theorem ac69_ok : cFunc Try.prog [] [(0,[4],[]),(1,[0],[]),(2,[7],[]),(3,[8],[]),(4,[9],[]),(5,[10],[]),(6,[11],[]),(7,[12],[]),(8,[13],[]),(9,[14],[]),(10,[15],[]),(11,[1,5,6,16,17],[]),(12,[6,19],[]),(13,[20],[]),(14,[1,5,18,21,22],[]),(15,[18,24],[]),(16,[25],[]),(17,[26],[]),(18,[27],[]),(19,[1,5,23,28,29],[]),(20,[5,23,31],[]),(21,[1,30,32,33],[]),(22,[1,30],[])] Try.f69 = some (ac69,[.tmp 4],34) := by kernel_rfl
-- 51 loop.example/prologserver/spec.IsBuiltin params 2 ntmps 34
def ac51 : Cd := .seq (.region [⟨(some 4),.mv (.k (.c (.d (.bool false)))),none⟩] [4])
 (.seq (.seq (.region [⟨(some 5),.mv (.t 0),none⟩] [0])
 (.block 0 (.seq (.seq (.region [⟨(some 7),.bin .eql (.t 5) (.k (.c (.d (.str [61])))),none⟩,
 ⟨(some 6),.mv (.t 7),none⟩] [7])
 (.cond (.t 6)
 (.skip)
 (.seq (.region [⟨(some 8),.bin .eql (.t 5) (.k (.c (.d (.str [92,61])))),none⟩,
 ⟨(some 6),.mv (.t 8),none⟩] [8])
 (.cond (.t 6)
 (.skip)
 (.seq (.region [⟨(some 9),.bin .eql (.t 5) (.k (.c (.d (.str [61,61])))),none⟩,
 ⟨(some 6),.mv (.t 9),none⟩] [9])
 (.cond (.t 6)
 (.skip)
 (.seq (.region [⟨(some 10),.bin .eql (.t 5) (.k (.c (.d (.str [60])))),none⟩,
 ⟨(some 6),.mv (.t 10),none⟩] [10])
 (.cond (.t 6)
 (.skip)
 (.seq (.region [⟨(some 11),.bin .eql (.t 5) (.k (.c (.d (.str [62])))),none⟩,
 ⟨(some 6),.mv (.t 11),none⟩] [11])
 (.cond (.t 6)
 (.skip)
 (.seq (.region [⟨(some 12),.bin .eql (.t 5) (.k (.c (.d (.str [61,60])))),none⟩,
 ⟨(some 6),.mv (.t 12),none⟩] [12])
 (.cond (.t 6)
 (.skip)
 (.seq (.region [⟨(some 13),.bin .eql (.t 5) (.k (.c (.d (.str [62,61])))),none⟩,
 ⟨(some 6),.mv (.t 13),none⟩] [13])
 (.cond (.t 6)
 (.skip)
 (.seq (.region [⟨(some 14),.bin .eql (.t 5) (.k (.c (.d (.str [61,58,61])))),none⟩,
 ⟨(some 6),.mv (.t 14),none⟩] [14])
 (.cond (.t 6)
 (.skip)
 (.region [⟨(some 15),.bin .eql (.t 5) (.k (.c (.d (.str [105,115])))),none⟩,
 ⟨(some 6),.mv (.t 15),none⟩] [15])))))))))))))))))
 (.cond (.t 6)
 (.seq (.region [⟨(some 16),.mv (.t 1),none⟩,
 ⟨(some 17),.bin .eql (.t 16) (.k (.c (.d (.int .i64 2)))),none⟩,
 ⟨(some 4),.mv (.t 17),none⟩] [1,5,6,16,17])
 (.ret))
 (.seq (.seq (.region [⟨(some 19),.bin .eql (.t 5) (.k (.c (.d (.str [116,114,117,101])))),none⟩,
 ⟨(some 18),.mv (.t 19),none⟩] [6,19])
 (.cond (.t 18)
 (.skip)
 (.region [⟨(some 20),.bin .eql (.t 5) (.k (.c (.d (.str [102,97,105,108])))),none⟩,
 ⟨(some 18),.mv (.t 20),none⟩] [20])))
 (.cond (.t 18)
 (.seq (.region [⟨(some 21),.mv (.t 1),none⟩,
 ⟨(some 22),.bin .eql (.t 21) (.k (.c (.d (.int .i64 0)))),none⟩,
 ⟨(some 4),.mv (.t 22),none⟩] [1,5,18,21,22])
 (.ret))
 (.seq (.seq (.region [⟨(some 24),.bin .eql (.t 5) (.k (.c (.d (.str [118,97,114])))),none⟩,
 ⟨(some 23),.mv (.t 24),none⟩] [18,24])
 (.cond (.t 23)
 (.skip)
 (.seq (.region [⟨(some 25),.bin .eql (.t 5) (.k (.c (.d (.str [110,111,110,118,97,114])))),none⟩,
 ⟨(some 23),.mv (.t 25),none⟩] [25])
 (.cond (.t 23)
 (.skip)
 (.seq (.region [⟨(some 26),.bin .eql (.t 5) (.k (.c (.d (.str [97,116,111,109])))),none⟩,
 ⟨(some 23),.mv (.t 26),none⟩] [26])
 (.cond (.t 23)
 (.skip)
 (.region [⟨(some 27),.bin .eql (.t 5) (.k (.c (.d (.str [105,110,116])))),none⟩,
 ⟨(some 23),.mv (.t 27),none⟩] [27])))))))
 (.cond (.t 23)
 (.seq (.region [⟨(some 28),.mv (.t 1),none⟩,
 ⟨(some 29),.bin .eql (.t 28) (.k (.c (.d (.int .i64 1)))),none⟩,
 ⟨(some 4),.mv (.t 29),none⟩] [1,5,23,28,29])
 (.ret))
 (.seq (.region [⟨(some 31),.bin .eql (.t 5) (.k (.c (.d (.str [97,114,103])))),none⟩,
 ⟨(some 30),.mv (.t 31),none⟩] [5,23,31])
 (.cond (.t 30)
 (.seq (.region [⟨(some 32),.mv (.t 1),none⟩,
 ⟨(some 33),.bin .eql (.t 32) (.k (.c (.d (.int .i64 3)))),none⟩,
 ⟨(some 4),.mv (.t 33),none⟩] [1,30,32,33])
 (.ret))
 (.skip)))))))))))
 (.seq (.region [⟨(some 4),.mv (.k (.c (.d (.bool false)))),none⟩] [1,30])
 (.ret)))
theorem ac51_ok : cFunc Try.prog [] [(0,[4],[]),(1,[0],[]),(2,[7],[]),(3,[8],[]),(4,[9],[]),(5,[10],[]),(6,[11],[]),(7,[12],[]),(8,[13],[]),(9,[14],[]),(10,[15],[]),(11,[1,5,6,16,17],[]),(12,[6,19],[]),(13,[20],[]),(14,[1,5,18,21,22],[]),(15,[18,24],[]),(16,[25],[]),(17,[26],[]),(18,[27],[]),(19,[1,5,23,28,29],[]),(20,[5,23,31],[]),(21,[1,30,32,33],[]),(22,[1,30],[])] Try.f51 = some (ac51,[.tmp 4],34) := by kernel_rfl
-- 55 loop.example/prologserver/impl.isBuilt params 1 ntmps 14
def ac55 : Cd := .seq (.region [⟨(some 1),.box (.t 0),none⟩,
 ⟨(some 2),.mv (.k (.c (.d (.bool false)))),none⟩] [0,2])
 (.seq (.region [⟨(some 3),.fieldAddr 0 (.t 1),none⟩,
 ⟨(some 4),.load none (.t 3),none⟩,
 ⟨(some 5),.bin .eql (.t 4) (.k (.c (.d (.int .i64 3)))),none⟩,
 ⟨(some 6),.mv (.t 5),none⟩,
 ⟨(some 7),.fieldAddr 2 (.t 1),some (6,true)⟩,
 ⟨(some 8),.load none (.t 7),some (6,true)⟩,
 ⟨(some 9),.fieldAddr 3 (.t 1),some (6,true)⟩,
 ⟨(some 10),.load none (.t 9),some (6,true)⟩,
 ⟨(some 11),.len 1 (.t 10),some (6,true)⟩,
 ⟨(some 12),.qcall 69 [(.t 8),(.t 11)],some (6,true)⟩,
 ⟨(some 13),.pick (.t 6) (.t 12) (.k (.c (.d (.bool false)))),none⟩,
 ⟨(some 2),.mv (.t 13),none⟩] [1,3,4,5,6,7,8,9,10,11,12,13])
 (.ret))
theorem ac55_ok : cFunc Try.prog [1000069] [(0,[0,2],[]),(1,[1,3,4,5,6,7,8,9,10,11,12,13],[])] Try.f55 = some (ac55,[.tmp 2],14) := by kernel_rfl
-- 29 loop.example/prologserver/impl.isPlain params 1 ntmps 22
def ac29 : Cd := .seq (.region [⟨(some 1),.box (.t 0),none⟩,
 ⟨(some 2),.mv (.k (.c (.d (.bool false)))),none⟩] [0,2])
 (.seq (.region [⟨(some 3),.fieldAddr 0 (.t 1),none⟩,
 ⟨(some 4),.load none (.t 3),none⟩,
 ⟨(some 5),.bin .eql (.t 4) (.k (.c (.d (.int .i64 3)))),none⟩,
 ⟨(some 6),.mv (.t 5),none⟩,
 ⟨(some 7),.fieldAddr 2 (.t 1),some (6,true)⟩,
 ⟨(some 8),.load none (.t 7),some (6,true)⟩,
 ⟨(some 9),.qcall 53 [(.t 8)],some (6,true)⟩,
 ⟨(some 10),.pick (.t 6) (.t 9) (.k (.c (.d (.bool false)))),none⟩,
 ⟨(some 11),.mv (.t 10),none⟩,
 ⟨(some 12),.fieldAddr 2 (.t 1),some (11,true)⟩,
 ⟨(some 13),.load none (.t 12),some (11,true)⟩,
 ⟨(some 14),.qcall 54 [(.t 13)],some (11,true)⟩,
 ⟨(some 15),.un .not (.t 14),some (11,true)⟩,
 ⟨(some 16),.pick (.t 11) (.t 15) (.k (.c (.d (.bool false)))),none⟩,
 ⟨(some 17),.mv (.t 16),none⟩,
 ⟨(some 18),.load (some 4) (.t 1),some (17,true)⟩,
 ⟨(some 19),.qcall 55 [(.t 18)],some (17,true)⟩,
 ⟨(some 20),.un .not (.t 19),some (17,true)⟩,
 ⟨(some 21),.pick (.t 17) (.t 20) (.k (.c (.d (.bool false)))),none⟩,
 ⟨(some 2),.mv (.t 21),none⟩] [1,3,4,5,6,7,8,9,10,11,12,13,14,15,16,17,18,19,20,21])
 (.ret))
theorem ac29_ok : cFunc Try.prog [1000053,1000054,1000055] [(0,[0,2],[]),(1,[1,3,4,5,6,7,8,9,10,11,12,13,14,15,16,17,18,19,20,21],[])] Try.f29 = some (ac29,[.tmp 2],22) := by kernel_rfl
-- 79 loop.example/prologserver/impl.isCut params 1 ntmps 10
def ac79 : Cd := .seq (.region [⟨(some 1),.box (.t 0),none⟩,
 ⟨(some 2),.mv (.k (.c (.d (.bool false)))),none⟩] [0,2])
 (.seq (.region [⟨(some 3),.load (some 4) (.t 1),none⟩,
 ⟨(some 4),.qcall 84 [(.t 3)],none⟩,
 ⟨(some 5),.mv (.t 4),none⟩,
 ⟨(some 6),.fieldAddr 2 (.t 1),some (5,true)⟩,
 ⟨(some 7),.load none (.t 6),some (5,true)⟩,
 ⟨(some 8),.bin .eql (.t 7) (.k (.c (.d (.str [33])))),some (5,true)⟩,
 ⟨(some 9),.pick (.t 5) (.t 8) (.k (.c (.d (.bool false)))),none⟩,
 ⟨(some 2),.mv (.t 9),none⟩] [1,3,4,5,6,7,8,9])
 (.ret))
theorem ac79_ok : cFunc Try.prog [1000084] [(0,[0,2],[]),(1,[1,3,4,5,6,7,8,9],[])] Try.f79 = some (ac79,[.tmp 2],10) := by kernel_rfl
-- 78 loop.example/prologserver/spec.l4Cut params 1 ntmps 17
def ac78 : Cd := .seq (.region [⟨(some 1),.box (.t 0),none⟩,
 ⟨(some 2),.mv (.k (.c (.d (.bool false)))),none⟩] [0,2])
 (.seq (.region [⟨(some 3),.fieldAddr 0 (.t 1),none⟩,
 ⟨(some 4),.load none (.t 3),none⟩,
 ⟨(some 5),.bin .eql (.t 4) (.k (.c (.d (.int .i64 3)))),none⟩,
 ⟨(some 6),.mv (.t 5),none⟩,
 ⟨(some 7),.fieldAddr 2 (.t 1),some (6,true)⟩,
 ⟨(some 8),.load none (.t 7),some (6,true)⟩,
 ⟨(some 9),.bin .eql (.t 8) (.k (.c (.d (.str [33])))),some (6,true)⟩,
 ⟨(some 10),.pick (.t 6) (.t 9) (.k (.c (.d (.bool false)))),none⟩,
 ⟨(some 11),.mv (.t 10),none⟩,
 ⟨(some 12),.fieldAddr 3 (.t 1),some (11,true)⟩,
 ⟨(some 13),.load none (.t 12),some (11,true)⟩,
 ⟨(some 14),.len 1 (.t 13),some (11,true)⟩,
 ⟨(some 15),.bin .eql (.t 14) (.k (.c (.d (.int .i64 0)))),some (11,true)⟩,
 ⟨(some 16),.pick (.t 11) (.t 15) (.k (.c (.d (.bool false)))),none⟩,
 ⟨(some 2),.mv (.t 16),none⟩] [1,3,4,5,6,7,8,9,10,11,12,13,14,15,16])
 (.ret))
theorem ac78_ok : cFunc Try.prog [] [(0,[0,2],[]),(1,[1,3,4,5,6,7,8,9,10,11,12,13,14,15,16],[])] Try.f78 = some (ac78,[.tmp 2],17) := by kernel_rfl
-- 26 loop.example/prologserver/spec.l4Plain params 1 ntmps 26
def ac26 : Cd := .seq (.region [⟨(some 1),.box (.t 0),none⟩,
 ⟨(some 2),.mv (.k (.c (.d (.bool false)))),none⟩] [0,2])
 (.seq (.region [⟨(some 3),.fieldAddr 0 (.t 1),none⟩,
 ⟨(some 4),.load none (.t 3),none⟩,
 ⟨(some 5),.bin .eql (.t 4) (.k (.c (.d (.int .i64 3)))),none⟩,
 ⟨(some 6),.mv (.t 5),none⟩,
 ⟨(some 7),.fieldAddr 2 (.t 1),some (6,true)⟩,
 ⟨(some 8),.load none (.t 7),some (6,true)⟩,
 ⟨(some 9),.qcall 50 [(.t 8)],some (6,true)⟩,
 ⟨(some 10),.pick (.t 6) (.t 9) (.k (.c (.d (.bool false)))),none⟩,
 ⟨(some 11),.mv (.t 10),none⟩,
 ⟨(some 12),.fieldAddr 2 (.t 1),some (11,true)⟩,
 ⟨(some 13),.load none (.t 12),some (11,true)⟩,
 ⟨(some 14),.fieldAddr 3 (.t 1),some (11,true)⟩,
 ⟨(some 15),.load none (.t 14),some (11,true)⟩,
 ⟨(some 16),.len 1 (.t 15),some (11,true)⟩,
 ⟨(some 17),.qcall 51 [(.t 13),(.t 16)],some (11,true)⟩,
 ⟨(some 18),.un .not (.t 17),some (11,true)⟩,
 ⟨(some 19),.pick (.t 11) (.t 18) (.k (.c (.d (.bool false)))),none⟩,
 ⟨(some 20),.mv (.t 19),none⟩,
 ⟨(some 21),.fieldAddr 2 (.t 1),some (20,true)⟩,
 ⟨(some 22),.load none (.t 21),some (20,true)⟩,
 ⟨(some 23),.qcall 52 [(.t 22)],some (20,true)⟩,
 ⟨(some 24),.bin .eql (.t 23) (.k (.c (.d (.int .i64 0)))),some (20,true)⟩,
 ⟨(some 25),.pick (.t 20) (.t 24) (.k (.c (.d (.bool false)))),none⟩,
 ⟨(some 2),.mv (.t 25),none⟩] [1,3,4,5,6,7,8,9,10,11,12,13,14,15,16,17,18,19,20,21,22,23,24,25])
 (.ret))
theorem ac26_ok : cFunc Try.prog [1000050,1000051,1000052] [(0,[0,2],[]),(1,[1,3,4,5,6,7,8,9,10,11,12,13,14,15,16,17,18,19,20,21,22,23,24,25],[])] Try.f26 = some (ac26,[.tmp 2],26) := by kernel_rfl
-- 71 loop.example/prologserver/spec.l4Goal params 1 ntmps 22
def ac71 : Cd := .seq (.region [⟨(some 1),.box (.t 0),none⟩,
 ⟨(some 2),.mv (.k (.c (.d (.bool false)))),none⟩] [0,2])
 (.seq (.region [⟨(some 3),.load (some 4) (.t 1),none⟩,
 ⟨(some 4),.qcall 78 [(.t 3)],none⟩,
 ⟨(some 5),.mv (.t 4),none⟩,
 ⟨(some 6),.load (some 4) (.t 1),some (5,false)⟩,
 ⟨(some 7),.qcall 26 [(.t 6)],some (5,false)⟩,
 ⟨(some 8),.pick (.t 5) (.k (.c (.d (.bool true)))) (.t 7),none⟩,
 ⟨(some 9),.mv (.t 8),none⟩,
 ⟨(some 10),.fieldAddr 0 (.t 1),some (9,false)⟩,
 ⟨(some 11),.load none (.t 10),some (9,false)⟩,
 ⟨(some 12),.bin .eql (.t 11) (.k (.c (.d (.int .i64 3)))),some (9,false)⟩,
 ⟨(some 13),.mv (.t 12),some (9,false)⟩,
 ⟨(some 14),.fieldAddr 2 (.t 1),some (13,true)⟩,
 ⟨(some 15),.load none (.t 14),some (13,true)⟩,
 ⟨(some 16),.fieldAddr 3 (.t 1),some (13,true)⟩,
 ⟨(some 17),.load none (.t 16),some (13,true)⟩,
 ⟨(some 18),.len 1 (.t 17),some (13,true)⟩,
 ⟨(some 19),.qcall 51 [(.t 15),(.t 18)],some (13,true)⟩,
 ⟨(some 20),.pick (.t 13) (.t 19) (.k (.c (.d (.bool false)))),some (9,false)⟩,
 ⟨(some 21),.pick (.t 9) (.k (.c (.d (.bool true)))) (.t 20),none⟩,
 ⟨(some 2),.mv (.t 21),none⟩] [1,3,4,5,6,7,8,9,10,11,12,13,14,15,16,17,18,19,20,21])
 (.ret))
theorem ac71_ok : cFunc Try.prog [1000026,1000051,1000078] [(0,[0,2],[]),(1,[1,3,4,5,6,7,8,9,10,11,12,13,14,15,16,17,18,19,20,21],[])] Try.f71 = some (ac71,[.tmp 2],22) := by kernel_rfl
-- 73 loop.example/prologserver/impl.GoalValid params 1 ntmps 17
def ac73 : Cd := .seq (.region [⟨(some 1),.box (.t 0),none⟩,
 ⟨(some 2),.mv (.k (.c (.d (.bool false)))),none⟩] [0,2])
 (.seq (.region [⟨(some 3),.load (some 4) (.t 1),none⟩,
 ⟨(some 4),.qcall 70 [(.t 3)],none⟩,
 ⟨(some 5),.mv (.t 4),none⟩,
 ⟨(some 6),.load (some 4) (.t 1),some (5,true)⟩,
 ⟨(some 7),.qcall 29 [(.t 6)],some (5,true)⟩,
 ⟨(some 8),.mv (.t 7),some (5,true)⟩,
 ⟨(some 9),.load (some 4) (.t 1),some (8,false)⟩,
 ⟨(some 10),.qcall 55 [(.t 9)],some (8,false)⟩,
 ⟨(some 11),.pick (.t 8) (.k (.c (.d (.bool true)))) (.t 10),some (5,true)⟩,
 ⟨(some 12),.mv (.t 11),some (5,true)⟩,
 ⟨(some 13),.load (some 4) (.t 1),some (12,false)⟩,
 ⟨(some 14),.qcall 79 [(.t 13)],some (12,false)⟩,
 ⟨(some 15),.pick (.t 12) (.k (.c (.d (.bool true)))) (.t 14),some (5,true)⟩,
 ⟨(some 16),.pick (.t 5) (.t 15) (.k (.c (.d (.bool false)))),none⟩,
 ⟨(some 2),.mv (.t 16),none⟩] [1,3,4,5,6,7,8,9,10,11,12,13,14,15,16])
 (.ret))
theorem ac73_ok : cFunc Try.prog [1000029,1000055,1000070,1000079] [(0,[0,2],[]),(1,[1,3,4,5,6,7,8,9,10,11,12,13,14,15,16],[])] Try.f73 = some (ac73,[.tmp 2],17) := by kernel_rfl
-- 61 loop.example/prologserver/spec.GoalValid params 1 ntmps 9
def ac61 : Cd := .seq (.region [⟨(some 1),.box (.t 0),none⟩,
 ⟨(some 2),.mv (.k (.c (.d (.bool false)))),none⟩] [0,2])
 (.seq (.region [⟨(some 3),.load (some 4) (.t 1),none⟩,
 ⟨(some 4),.qcall 66 [(.t 3)],none⟩,
 ⟨(some 5),.mv (.t 4),none⟩,
 ⟨(some 6),.load (some 4) (.t 1),some (5,true)⟩,
 ⟨(some 7),.qcall 71 [(.t 6)],some (5,true)⟩,
 ⟨(some 8),.pick (.t 5) (.t 7) (.k (.c (.d (.bool false)))),none⟩,
 ⟨(some 2),.mv (.t 8),none⟩] [1,3,4,5,6,7,8])
 (.ret))
theorem ac61_ok : cFunc Try.prog [1000066,1000071] [(0,[0,2],[]),(1,[1,3,4,5,6,7,8],[])] Try.f61 = some (ac61,[.tmp 2],9) := by kernel_rfl
def ops3 : List (List UInt8) := [[61], [92, 61], [61, 61], [60], [62], [61, 60], [62, 61], [61, 58, 61], [105, 115]]
def levelN (s : List UInt8) : Int := if ops3.contains s then 3 else if [[43], [45]].contains s then 2 else if [[42], [47, 47], [109, 111, 100]].contains s then 1 else 0
def leftB (s : List UInt8) : Bool := decide (levelN s = 1) || decide (levelN s = 2)
def builtB (s : List UInt8) (a : Int) : Bool :=
  if ops3.contains s then (a == 2) else if [[116, 114, 117, 101], [102, 97, 105, 108]].contains s then (a == 0)
  else if [[118, 97, 114], [110, 111, 110, 118, 97, 114], [97, 116, 111, 109], [105, 110, 116]].contains s then (a == 1) else if s = [97, 114, 103] then (a == 3) else false
theorem level_calls (s : List UInt8) (H : Heap) : ACalls Try.prog 52 [.c (.d (.str s))] H (fun r H' => H' = H ∧ r = .c (.d (.int .i64 (levelN s)))) := by
  refine acalls Try.func52 (by kernel_rfl) ac52_ok fun hf => ?_
  simp -implicitDefEqProofs [ac52, go_sem, -List.set_cons_succ, -List.set_cons_zero]
  (repeat' (first | (refine And.intro ?_ ?_) | intro _)) <;> simp_all [levelN, leftB, builtB, ops3]
theorem opLevel_calls (s : List UInt8) (H : Heap) : ACalls Try.prog 68 [.c (.d (.str s))] H (fun r H' => H' = H ∧ r = .tup [.c (.d (.int .i64 (levelN s))), .c (.d (.bool (leftB s)))]) := by
  refine acalls Try.func68 (by kernel_rfl) ac68_ok fun hf => ?_
  simp -implicitDefEqProofs [ac68, go_sem, -List.set_cons_succ, -List.set_cons_zero]
  (repeat' (first | (refine And.intro ?_ ?_) | intro _)) <;> simp_all [levelN, leftB, builtB, ops3]
theorem isOp_calls (s : List UInt8) (H : Heap) : ACalls Try.prog 54 [.c (.d (.str s))] H (fun r H' => H' = H ∧ r = .c (.d (.bool (decide (0 < levelN s))))) := by
  refine acalls Try.func54 (by kernel_rfl) ac54_ok fun hf => ?_
  simp -implicitDefEqProofs [ac54, go_sem, -List.set_cons_succ, -List.set_cons_zero]
  refine qcall_pure (opLevel_calls s) hf rfl ?_
  simp -implicitDefEqProofs [go_sem, -List.set_cons_succ, -List.set_cons_zero]
theorem builtImpl_calls (s : List UInt8) (a : Int) (H : Heap) : ACalls Try.prog 69 [.c (.d (.str s)), .c (.d (.int .i64 a))] H (fun r H' => H' = H ∧ r = .c (.d (.bool (builtB s a)))) := by
  refine acalls Try.func69 (by kernel_rfl) ac69_ok fun hf => ?_
  simp -implicitDefEqProofs [ac69, go_sem, -List.set_cons_succ, -List.set_cons_zero]
  (repeat' (first | (refine And.intro ?_ ?_) | intro _)) <;> simp_all [levelN, leftB, builtB, ops3]
theorem builtSpec_calls (s : List UInt8) (a : Int) (H : Heap) : ACalls Try.prog 51 [.c (.d (.str s)), .c (.d (.int .i64 a))] H (fun r H' => H' = H ∧ r = .c (.d (.bool (builtB s a)))) := by
  refine acalls Try.func51 (by kernel_rfl) ac51_ok fun hf => ?_
  simp -implicitDefEqProofs [ac51, go_sem, -List.set_cons_succ, -List.set_cons_zero]
  (repeat' (first | (refine And.intro ?_ ?_) | intro _)) <;> simp_all [levelN, leftB, builtB, ops3]
theorem level_nonneg (s : List UInt8) : 0 ≤ levelN s := by
  unfold levelN
  (repeat' split) <;> omega
/-- a goal that is built in -/
def Tm.built (t : Tm) : Bool := decide (t.k = 3) && builtB t.s t.kids.length
/-- a goal for clauses -/
def Tm.plain (t : Tm) : Bool := decide (t.k = 3) && (lettersB t.s && ((levelN t.s == 0) && !builtB t.s t.kids.length))
def Tm.cutB (t : Tm) : Bool := decide (t.k = 3) && (t.kids.isEmpty && t.s == [33])
def Tm.goal (t : Tm) : Bool := t.valid && (t.plain || t.built || t.cutB)
theorem isBuilt_calls (t : Tm) (ht : t.fits) (H : Heap) : ACalls Try.prog 55 [.agg (t.row.map .d)] H (fun r H' => H' = H ∧ r = .c (.d (.bool t.built))) := by
  obtain ⟨k, n, s, l⟩ := t
  obtain ⟨_, _, hs, hl, hkids⟩ := ht
  have hli : inR .i64 (l.length : Int) := small_i64 (by omega) (by omega)
  refine acalls Try.func55 (by kernel_rfl) ac55_ok fun hf => ?_
  by_cases hk : k = 3
  · simp -implicitDefEqProofs [ac55, row_mk, hk, hli, go_sem, -List.set_cons_succ, -List.set_cons_zero]
    refine qcall_pure (builtImpl_calls s l.length) hf rfl ?_
    simp -implicitDefEqProofs [Tm.built, Tm.k, Tm.s, Tm.kids, hk, go_sem, -List.set_cons_succ, -List.set_cons_zero]
  · simp -implicitDefEqProofs [ac55, row_mk, hk, hli, Tm.built, Tm.k, go_sem, -List.set_cons_succ, -List.set_cons_zero]
theorem plainImpl_calls (t : Tm) (ht : t.fits) (H : Heap) : ACalls Try.prog 29 [.agg (t.row.map .d)] H (fun r H' => H' = H ∧ r = .c (.d (.bool t.plain))) := by
  have c3 := isBuilt_calls t ht
  obtain ⟨k, n, s, l⟩ := t
  obtain ⟨_, _, hs, hl, hkids⟩ := ht
  rw [row_mk] at c3
  simp only [List.map_cons, List.map_nil] at c3
  have hnn := level_nonneg s
  refine acalls Try.func29 (by kernel_rfl) ac29_ok fun hf => ?_
  by_cases hk : k = 3
  · simp -implicitDefEqProofs [ac29, row_mk, hk, go_sem, -List.set_cons_succ, -List.set_cons_zero]
    refine qcall_pure (isLetters_calls s (by omega)) hf rfl ?_
    cases h1 : lettersB s with
    | false => simp -implicitDefEqProofs [h1, hk, Tm.plain, Tm.k, Tm.s, go_sem, -List.set_cons_succ, -List.set_cons_zero]
    | true =>
      simp -implicitDefEqProofs [h1, hk, go_sem, -List.set_cons_succ, -List.set_cons_zero]
      refine qcall_pure (isOp_calls s) hf rfl ?_
      by_cases h2 : levelN s = 0
      · simp -implicitDefEqProofs [h1, h2, hk, go_sem, -List.set_cons_succ, -List.set_cons_zero]
        rw [hk] at c3
        refine qcall_pure c3 hf rfl ?_
        simp -implicitDefEqProofs [h1, h2, hk, Tm.plain, Tm.built, Tm.k, Tm.s, Tm.kids, go_sem, -List.set_cons_succ, -List.set_cons_zero]
      · have h3 : 0 < levelN s := by omega
        simp -implicitDefEqProofs [h1, h2, h3, hk, Tm.plain, Tm.k, Tm.s, go_sem, -List.set_cons_succ, -List.set_cons_zero]
  · simp -implicitDefEqProofs [ac29, row_mk, hk, Tm.plain, Tm.k, go_sem, -List.set_cons_succ, -List.set_cons_zero]
theorem cutImpl_calls (t : Tm) (ht : t.fits) (H : Heap) : ACalls Try.prog 79 [.agg (t.row.map .d)] H (fun r H' => H' = H ∧ r = .c (.d (.bool t.cutB))) := by
  have c3 := isAtom_calls t ht
  obtain ⟨k, n, s, l⟩ := t
  obtain ⟨_, _, hs, hl, hkids⟩ := ht
  rw [row_mk] at c3
  simp only [List.map_cons, List.map_nil] at c3
  refine acalls Try.func79 (by kernel_rfl) ac79_ok fun hf => ?_
  simp -implicitDefEqProofs [ac79, row_mk, go_sem, -List.set_cons_succ, -List.set_cons_zero]
  refine qcall_pure c3 hf rfl ?_
  simp -implicitDefEqProofs [Tm.cutB, Tm.k, Tm.s, Tm.kids, Bool.and_assoc, go_sem, -List.set_cons_succ, -List.set_cons_zero]
theorem cutSpec_calls (t : Tm) (ht : t.fits) (H : Heap) : ACalls Try.prog 78 [.agg (t.row.map .d)] H (fun r H' => H' = H ∧ r = .c (.d (.bool t.cutB))) := by
  obtain ⟨k, n, s, l⟩ := t
  obtain ⟨_, _, hs, hl, hkids⟩ := ht
  have hli : inR .i64 (l.length : Int) := small_i64 (by omega) (by omega)
  refine acalls Try.func78 (by kernel_rfl) ac78_ok fun hf => ?_
  by_cases hk : k = 3
  · by_cases h2 : s = [33]
    · simp -implicitDefEqProofs [ac78, row_mk, hk, h2, hli, Tm.cutB, Tm.k, Tm.s, Tm.kids, isEmpty_len, go_sem, -List.set_cons_succ, -List.set_cons_zero]
    · have h2b : (s == [33]) = false := by simpa using h2
      simp -implicitDefEqProofs [ac78, row_mk, hk, h2, h2b, hli, Tm.cutB, Tm.k, Tm.s, Tm.kids, go_sem, -List.set_cons_succ, -List.set_cons_zero]
  · simp -implicitDefEqProofs [ac78, row_mk, hk, hli, Tm.cutB, Tm.k, go_sem, -List.set_cons_succ, -List.set_cons_zero]
theorem plainSpec_calls (t : Tm) (ht : t.fits) (H : Heap) : ACalls Try.prog 26 [.agg (t.row.map .d)] H (fun r H' => H' = H ∧ r = .c (.d (.bool t.plain))) := by
  obtain ⟨k, n, s, l⟩ := t
  obtain ⟨_, _, hs, hl, hkids⟩ := ht
  have hli : inR .i64 (l.length : Int) := small_i64 (by omega) (by omega)
  refine acalls Try.func26 (by kernel_rfl) ac26_ok fun hf => ?_
  by_cases hk : k = 3
  · simp -implicitDefEqProofs [ac26, row_mk, hk, go_sem, -List.set_cons_succ, -List.set_cons_zero]
    refine qcall_pure (l1Word_calls s (by omega)) hf rfl ?_
    cases h1 : lettersB s with
    | false => simp -implicitDefEqProofs [h1, hk, hli, Tm.plain, Tm.k, Tm.s, go_sem, -List.set_cons_succ, -List.set_cons_zero]
    | true =>
      simp -implicitDefEqProofs [h1, hk, hli, go_sem, -List.set_cons_succ, -List.set_cons_zero]
      refine qcall_pure (builtSpec_calls s l.length) hf rfl ?_
      cases h2 : builtB s l.length with
      | true => simp -implicitDefEqProofs [h1, h2, hk, Tm.plain, Tm.k, Tm.s, Tm.kids, go_sem, -List.set_cons_succ, -List.set_cons_zero]
      | false =>
        simp -implicitDefEqProofs [h1, h2, hk, go_sem, -List.set_cons_succ, -List.set_cons_zero]
        refine qcall_pure (level_calls s) hf rfl ?_
        simp -implicitDefEqProofs [h1, h2, hk, Tm.plain, Tm.k, Tm.s, Tm.kids, go_sem, -List.set_cons_succ, -List.set_cons_zero]
  · simp -implicitDefEqProofs [ac26, row_mk, hk, Tm.plain, Tm.k, go_sem, -List.set_cons_succ, -List.set_cons_zero]
theorem l4Goal_calls (t : Tm) (ht : t.fits) (H : Heap) : ACalls Try.prog 71 [.agg (t.row.map .d)] H (fun r H' => H' = H ∧ r = .c (.d (.bool (t.plain || t.built || t.cutB)))) := by
  have c1 := cutSpec_calls t ht
  have c2 := plainSpec_calls t ht
  have e : ∀ x y z : Bool, (x || y || z) = (z || x || y) := by decide
  rw [e]
  generalize hc : t.cutB = b1 at c1
  generalize hp : t.plain = b2 at c2
  obtain ⟨k, n, s, l⟩ := t
  obtain ⟨_, _, hs, hl, hkids⟩ := ht
  have hli : inR .i64 (l.length : Int) := small_i64 (by omega) (by omega)
  rw [row_mk] at c1 c2
  simp only [List.map_cons, List.map_nil] at c1 c2
  refine acalls Try.func71 (by kernel_rfl) ac71_ok fun hf => ?_
  simp -implicitDefEqProofs [ac71, row_mk, go_sem, -List.set_cons_succ, -List.set_cons_zero]
  refine qcall_pure c1 hf rfl ?_
  cases b1 with
  | true =>
            by_cases hk : k = 3
            · simp -implicitDefEqProofs [hk, hli, go_sem, -List.set_cons_succ, -List.set_cons_zero]
            · have hkb : (k == 3) = false := by simpa using hk
              simp -implicitDefEqProofs [hk, hkb, hli, go_sem, -List.set_cons_succ, -List.set_cons_zero]
  | false =>
    simp -implicitDefEqProofs [go_sem, -List.set_cons_succ, -List.set_cons_zero]
    refine qcall_pure c2 hf rfl ?_
    cases b2 with
    | true =>
            by_cases hk : k = 3
            · simp -implicitDefEqProofs [hk, hli, go_sem, -List.set_cons_succ, -List.set_cons_zero]
            · have hkb : (k == 3) = false := by simpa using hk
              simp -implicitDefEqProofs [hk, hkb, hli, go_sem, -List.set_cons_succ, -List.set_cons_zero]
    | false =>
      by_cases hk : k = 3
      · simp -implicitDefEqProofs [hk, hli, go_sem, -List.set_cons_succ, -List.set_cons_zero]
        refine qcall_pure (builtSpec_calls s l.length) hf rfl ?_
        simp -implicitDefEqProofs [hk, Tm.built, Tm.k, Tm.s, Tm.kids, go_sem, -List.set_cons_succ, -List.set_cons_zero]
      · have hkb : (k == 3) = false := by simpa using hk
        simp -implicitDefEqProofs [hk, hkb, Tm.built, Tm.k, go_sem, -List.set_cons_succ, -List.set_cons_zero]
theorem goalSpec_calls (t : Tm) (ht : t.fits) (H : Heap) : ACalls Try.prog 61 [.agg (t.row.map .d)] H (fun r H' => H' = H ∧ r = .c (.d (.bool t.goal))) := by
  refine acalls Try.func61 (by kernel_rfl) ac61_ok fun hf => ?_
  simp -implicitDefEqProofs [ac61, row_len, take_row, pure_d, re_d, go_sem, -List.set_cons_succ, -List.set_cons_zero]
  refine qcall_pure (tvSpec_calls t ht) hf rfl ?_
  cases h : t.valid with
  | false => simp -implicitDefEqProofs [h, Tm.goal, row_len, take_row, go_sem, -List.set_cons_succ, -List.set_cons_zero]
  | true =>
    simp -implicitDefEqProofs [h, row_len, take_row, pure_d, re_d, go_sem, -List.set_cons_succ, -List.set_cons_zero]
    refine qcall_pure (l4Goal_calls t ht) hf rfl ?_
    simp -implicitDefEqProofs [h, Tm.goal, go_sem, -List.set_cons_succ, -List.set_cons_zero]
theorem goalImpl_calls (t : Tm) (ht : t.fits) (H : Heap) : ACalls Try.prog 73 [.agg (t.row.map .d)] H (fun r H' => H' = H ∧ r = .c (.d (.bool t.goal))) := by
  refine acalls Try.func73 (by kernel_rfl) ac73_ok fun hf => ?_
  simp -implicitDefEqProofs [ac73, row_len, take_row, pure_d, re_d, go_sem, -List.set_cons_succ, -List.set_cons_zero]
  refine qcall_pure (tvImpl_calls t ht) hf rfl ?_
  cases h : t.valid with
  | false => simp -implicitDefEqProofs [h, Tm.goal, row_len, take_row, go_sem, -List.set_cons_succ, -List.set_cons_zero]
  | true =>
    simp -implicitDefEqProofs [h, row_len, take_row, pure_d, re_d, go_sem, -List.set_cons_succ, -List.set_cons_zero]
    refine qcall_pure (plainImpl_calls t ht) hf rfl ?_
    cases h1 : t.plain with
    | true => simp -implicitDefEqProofs [h, h1, Tm.goal, row_len, take_row, go_sem, -List.set_cons_succ, -List.set_cons_zero]
    | false =>
      simp -implicitDefEqProofs [h, h1, row_len, take_row, pure_d, re_d, go_sem, -List.set_cons_succ, -List.set_cons_zero]
      refine qcall_pure (isBuilt_calls t ht) hf rfl ?_
      cases h2 : t.built with
      | true => simp -implicitDefEqProofs [h, h1, h2, Tm.goal, row_len, take_row, go_sem, -List.set_cons_succ, -List.set_cons_zero]
      | false =>
        simp -implicitDefEqProofs [h, h1, h2, row_len, take_row, pure_d, re_d, go_sem, -List.set_cons_succ, -List.set_cons_zero]
        refine qcall_pure (cutImpl_calls t ht) hf rfl ?_
        simp -implicitDefEqProofs [h, h1, h2, Tm.goal, go_sem, -List.set_cons_succ, -List.set_cons_zero]
end Go.Proofs.Ytoipdmomgjdnaaa

/-
  Lists of goals, for the program.
  Conditions: none.
-/
open Go Go.AM Go.Proofs
namespace Go.Proofs.Ytoipdmomgjdnaaa
open Go.ChangeShapes Go.WideShapes Go.ChangeAt Go.RowKit
set_option linter.unusedVariables false
set_option linter.unusedSimpArgs false
set_option maxRecDepth 100000
-- 72 loop.example/prologserver/impl.goalsValid$1 params 1 ntmps 6
def ac72 : Cd := .seq (.region [⟨(some 1),.box (.t 0),none⟩,
 ⟨(some 2),.mv (.k (.c (.d (.bool false)))),none⟩] [0,2])
 (.seq (.region [⟨(some 3),.load (some 4) (.t 1),none⟩,
 ⟨(some 4),.qcall 73 [(.t 3)],none⟩,
 ⟨(some 5),.un .not (.t 4),none⟩,
 ⟨(some 2),.mv (.t 5),none⟩] [1,3,4,5])
 (.ret))
theorem ac72_ok : cFunc Try.prog [1000073] [(0,[0,2],[]),(1,[1,3,4,5],[])] Try.f72 = some (ac72,[.tmp 2],6) := by kernel_rfl
-- 63 loop.example/prologserver/impl.goalsValid params 1 ntmps 11
def ac63 : Cd := .seq (.region [⟨(some 2),.mv (.k (.c (.d (.bool false)))),none⟩] [2])
 (.seq (.region [⟨(some 3),.mv (.t 0),none⟩,
 ⟨(some 4),.len 1 (.t 3),none⟩,
 ⟨(some 5),.bin .leq (.t 4) (.k (.c (.d (.int .i64 6)))),none⟩,
 ⟨(some 6),.mv (.t 5),none⟩,
 ⟨(some 7),.mv (.t 0),some (6,true)⟩,
 ⟨(some 8),.qcall 34 [(.t 7),(.k (.c (.fn 72 [])))],some (6,true)⟩,
 ⟨(some 9),.un .not (.t 8),some (6,true)⟩,
 ⟨(some 10),.pick (.t 6) (.t 9) (.k (.c (.d (.bool false)))),none⟩,
 ⟨(some 2),.mv (.t 10),none⟩] [0,3,4,5,6,7,8,9,10])
 (.ret))
theorem ac63_ok : cFunc Try.prog [1000034] [(0,[2],[]),(1,[0,3,4,5,6,7,8,9,10],[])] Try.f63 = some (ac63,[.tmp 2],11) := by kernel_rfl
/-- as many goals as a body may have -/
def goalsB (l : List Tm) : Bool := decide (l.length ≤ 6) && l.all Tm.goal
theorem any_not (l : List Tm) : (l.any fun t => !t.goal) = !l.all Tm.goal := by
  induction l with
  | nil => rfl
  | cons t l ih => simp only [List.any_cons, List.all_cons, ih, Bool.not_and]
theorem notGoal_calls (t : Tm) (ht : t.fits) (H : Heap) : ACalls Try.prog 72 [.agg (t.row.map .d)] H (fun r H' => H' = H ∧ r = .c (.d (.bool (!t.goal)))) := by
  refine acalls Try.func72 (by kernel_rfl) ac72_ok fun hf => ?_
  simp -implicitDefEqProofs [ac72, row_len, take_row, pure_d, re_d, go_sem, -List.set_cons_succ, -List.set_cons_zero]
  refine qcall_pure (goalImpl_calls t ht) hf rfl ?_
  simp -implicitDefEqProofs [go_sem, -List.set_cons_succ, -List.set_cons_zero]
theorem goalsImpl_calls (l : List Tm) (hl : l.length ≤ 1048576) (h : ∀ t ∈ l, t.fits) (H : Heap) : ACalls Try.prog 63 [.c (.d (.sl (l.map Tm.row)))] H (fun r H' => H' = H ∧ r = .c (.d (.bool (goalsB l)))) := by
  refine acalls Try.func63 (by kernel_rfl) ac63_ok fun hf => ?_
  have hli : inR .i64 (l.length : Int) := small_i64 (by omega) (by omega)
  by_cases h6 : l.length ≤ 6
  · have h6' : (l.length : Int) ≤ 6 := by omega
    simp -implicitDefEqProofs [ac63, hli, h6', go_sem, -List.set_cons_succ, -List.set_cons_zero]
    refine qcall_pure (tmF_any 72 (fun t => !t.goal) l hl fun t ht => notGoal_calls t (h t ht)) hf rfl ?_
    rw [any_not]
    simp -implicitDefEqProofs [h6, goalsB, go_sem, -List.set_cons_succ, -List.set_cons_zero]
  · have h6' : ¬ (l.length : Int) ≤ 6 := by omega
    simp -implicitDefEqProofs [ac63, hli, h6', h6, goalsB, go_sem, -List.set_cons_succ, -List.set_cons_zero]
theorem goal_take {l : List Tm} {i : Nat} (h : i < l.length) (ha : ∀ t ∈ l.take i, t.goal = true) (hb : l[i].goal = true) : ∀ t ∈ l.take (i + 1), t.goal = true := by
  intro t h'
  rw [List.take_succ_eq_append_getElem h, List.mem_append] at h'
  rcases h' with h' | h'
  · exact ha t h'
  · simp at h'; subst h'; exact hb
end Go.Proofs.Ytoipdmomgjdnaaa

/-
  Terms that are handed to a law.
  Conditions: none.
-/
open Go Go.AM Go.Proofs
namespace Go.Proofs.Ytoipdmomgjdnaaa
open Go.ChangeShapes Go.WideShapes Go.ChangeAt Go.RowKit
set_option linter.unusedVariables false
set_option linter.unusedSimpArgs false
set_option maxRecDepth 100000
theorem tm_tys {ty : TypeId} {row : List D} (h : HasTy Try.prog ty row) : (ty = 44 → ∃ t : Tm, row = t.row ∧ t.fine) ∧
    (ty = 29 → ∃ l : List Tm, row = [.sl (l.map Tm.row)] ∧ l.length ≤ reachBytes ∧ ∀ t ∈ l, t.fine) := by
  induction h with
  | bool b hu => exact ⟨(by rintro rfl; rw [Try.underlying44] at hu; cases hu), (by rintro rfl; rw [Try.underlying29] at hu; cases hu)⟩
  | int n hu hn => exact ⟨(by rintro rfl; rw [Try.underlying44] at hu; cases hu), (by rintro rfl; rw [Try.underlying29] at hu; cases hu)⟩
  | str s hu hn => exact ⟨(by rintro rfl; rw [Try.underlying44] at hu; cases hu), (by rintro rfl; rw [Try.underlying29] at hu; cases hu)⟩
  | sl rows hu hb hc ht ih =>
    refine ⟨(by rintro rfl; rw [Try.underlying44] at hu; cases hu), ?_⟩
    rintro rfl
    rw [Try.underlying29] at hu
    cases hu
    obtain ⟨l, rfl, hl⟩ := list_of_ty (f := Tm.row) (p := Tm.fine) (fun r hr => (ih r hr).1 rfl)
    rw [show Try.prog.bytesOf 44 = 56 from by kernel_rfl] at hb
    exact ⟨l, rfl, by simp at hb; omega, hl⟩
  | st row hu hl hf ih =>
    refine ⟨?_, (by rintro rfl; rw [Try.underlying29] at hu; cases hu)⟩
    rintro rfl
    rw [Try.underlying44] at hu
    cases hu
    rw [show Try.prog.cellsOf 44 = 4 from by kernel_rfl] at hl
    match row, hl with
    | [a, b, c, d], _ =>
      simp [show Try.prog.cellsOf 3 = 1 from by kernel_rfl, show Try.prog.cellsOf 9 = 1 from by kernel_rfl, show Try.prog.cellsOf 29 = 1 from by kernel_rfl] at hf ih
      obtain ⟨h0, h1, h2, h3⟩ := hf
      obtain ⟨p, e0, i0⟩ := h0.int_inv Try.underlying3
      obtain ⟨q, e1, i1⟩ := h1.int_inv Try.underlying3
      obtain ⟨s, e2, i2⟩ := h2.str_inv Try.underlying9
      obtain ⟨l, rfl, hl1, hl2⟩ := ih
      cases e0; cases e1; cases e2
      exact ⟨.mk p q s l, by rw [row_mk], .mk i0 i1 i2 hl1 hl2⟩
theorem tms_ty {row : List D} (h : HasTy Try.prog 29 row) : ∃ l : List Tm, row = [.sl (l.map Tm.row)] ∧ l.length ≤ reachBytes ∧ ∀ t ∈ l, t.fine := (tm_tys h).2 rfl
theorem tm_ty {row : List D} (h : HasTy Try.prog 44 row) : ∃ t : Tm, row = t.row ∧ t.fine := (tm_tys h).1 rfl
end Go.Proofs.Ytoipdmomgjdnaaa

/-
  Clauses as data: what the laws' sizes, copies and comparisons of clauses answer, and ClauseSame.
  Conditions: none.
-/
open Go Go.AM Go.Proofs
namespace Go.Proofs.Ytoipdmomgjdnaaa
open Go.ChangeShapes Go.WideShapes Go.ChangeAt Go.RowKit
set_option linter.unusedVariables false
set_option linter.unusedSimpArgs false
set_option maxRecDepth 100000
-- 6 loop.example/prologserver/laws.szClauseS params 2 ntmps 27
-- loop head live: [0,1,5]
def ac6 : Cd := .seq (.region [⟨(some 4),.mv (.k (.c (.d (.int .i64 0)))),none⟩] [4])
 (.seq (.region [⟨(some 6),.mv (.t 1),none⟩,
 ⟨(some 7),.mv (.t 0),none⟩,
 ⟨(some 8),.len 1 (.t 7),none⟩,
 ⟨(some 9),.bin .sub (.t 6) (.t 8),none⟩,
 ⟨(some 1),.mv (.t 9),none⟩] [6,7,8,9])
 (.seq (.seq (.region [⟨(some 10),.mv (.t 1),none⟩,
 ⟨(some 11),.bin .lss (.t 10) (.k (.c (.d (.int .i64 0)))),none⟩] [10])
 (.cond (.t 11)
 (.seq (.region [⟨(some 4),.mv (.k (.c (.d (.int .i64 (-1))))),none⟩] [0,1,11])
 (.ret))
 (.skip)))
 (.seq (.seq (.region [⟨(some 5),.mv (.k (.c (.d (.int .i64 0)))),none⟩] [4,11])
 (.block 0 (.loop (.seq (.seq (.region [⟨(some 12),.mv (.t 5),none⟩,
 ⟨(some 13),.mv (.t 0),none⟩,
 ⟨(some 14),.len 1 (.t 13),none⟩,
 ⟨(some 15),.bin .lss (.t 12) (.t 14),none⟩] [12,13,14])
 (.cond (.t 15)
 (.skip)
 (.exit 0)))
 (.seq (.block 1 (.seq (.region [⟨(some 18),.mv (.t 0),none⟩,
 ⟨(some 19),.mv (.t 5),none⟩,
 ⟨(some 20),.indexAddr 5 (.t 18) (.t 19),none⟩,
 ⟨(some 21),.load (some 5) (.t 20),none⟩,
 ⟨(some 22),.mv (.t 1),none⟩,
 ⟨(some 23),.call false 24 [(.t 21),(.t 22)],none⟩,
 ⟨(some 1),.mv (.t 23),none⟩] [15,18,19,20,21,22,23])
 (.seq (.region [⟨(some 24),.mv (.t 1),none⟩,
 ⟨(some 25),.bin .lss (.t 24) (.k (.c (.d (.int .i64 0)))),none⟩] [24])
 (.cond (.t 25)
 (.seq (.region [⟨(some 4),.mv (.k (.c (.d (.int .i64 (-1))))),none⟩] [0,1,5,25])
 (.ret))
 (.skip)))))
 (.region [⟨(some 16),.mv (.t 5),none⟩,
 ⟨(some 17),.bin .add (.t 16) (.k (.c (.d (.int .i64 1)))),none⟩,
 ⟨(some 5),.mv (.t 17),none⟩] [4,16,17,25]))))))
 (.seq (.region [⟨(some 26),.mv (.t 1),none⟩,
 ⟨(some 4),.mv (.t 26),none⟩] [1,26])
 (.ret)))))
theorem ac6_ok : cFunc Try.prog [] [(0,[4],[]),(1,[6,7,8,9],[]),(2,[10],[]),(3,[0,1,11],[]),(4,[4,11],[]),(5,[12,13,14],[]),(7,[15,18,19,20,21,22,23],[]),(8,[24],[]),(9,[0,1,5,25],[]),(6,[4,16,17,25],[]),(10,[1,26],[])] Try.f6 = some (ac6,[.tmp 4],27) := by kernel_rfl
-- 24 loop.example/prologserver/laws.szClause params 2 ntmps 18
def ac24 : Cd := .seq (.region [⟨(some 2),.box (.t 0),none⟩,
 ⟨(some 4),.mv (.k (.c (.d (.int .i64 0)))),none⟩] [0,4])
 (.seq (.region [⟨(some 5),.fieldAddr 0 (.t 2),none⟩,
 ⟨(some 6),.load (some 4) (.t 5),none⟩,
 ⟨(some 7),.mv (.t 1),none⟩,
 ⟨(some 8),.call false 36 [(.t 6),(.t 7)],none⟩,
 ⟨(some 1),.mv (.t 8),none⟩] [5,6,7,8])
 (.seq (.seq (.region [⟨(some 9),.mv (.t 1),none⟩,
 ⟨(some 10),.bin .lss (.t 9) (.k (.c (.d (.int .i64 0)))),none⟩] [9])
 (.cond (.t 10)
 (.seq (.region [⟨(some 4),.mv (.k (.c (.d (.int .i64 (-1))))),none⟩] [1,2,10])
 (.ret))
 (.skip)))
 (.seq (.region [⟨(some 11),.fieldAddr 4 (.t 2),none⟩,
 ⟨(some 12),.load none (.t 11),none⟩,
 ⟨(some 13),.mv (.t 1),none⟩,
 ⟨(some 14),.call false 11 [(.t 12),(.t 13)],none⟩,
 ⟨(some 1),.mv (.t 14),none⟩] [2,4,10,11,12,13,14])
 (.seq (.seq (.region [⟨(some 15),.mv (.t 1),none⟩,
 ⟨(some 16),.bin .lss (.t 15) (.k (.c (.d (.int .i64 0)))),none⟩] [15])
 (.cond (.t 16)
 (.seq (.region [⟨(some 4),.mv (.k (.c (.d (.int .i64 (-1))))),none⟩] [1,16])
 (.ret))
 (.skip)))
 (.seq (.region [⟨(some 17),.mv (.t 1),none⟩,
 ⟨(some 4),.mv (.t 17),none⟩] [1,16,17])
 (.ret))))))
theorem ac24_ok : cFunc Try.prog [] [(0,[0,4],[]),(1,[5,6,7,8],[]),(2,[9],[]),(3,[1,2,10],[]),(4,[2,4,10,11,12,13,14],[]),(5,[15],[]),(6,[1,16],[]),(7,[1,16,17],[])] Try.f24 = some (ac24,[.tmp 4],18) := by kernel_rfl
-- 8 loop.example/prologserver/laws.toClauseS params 1 ntmps 23
-- loop head live: [0,3,4]
def ac8 : Cd := .seq (.region [⟨(some 2),.mv (.k (.c (.full []))),none⟩] [2])
 (.seq (.region [⟨(some 5),.mv (.t 0),none⟩,
 ⟨(some 6),.len 1 (.t 5),none⟩,
 ⟨(some 7),.mkSlice [(.int .i64 0),(.int .i64 0),(.str []),(.sl []),(.sl [])] (.t 6),none⟩,
 ⟨(some 3),.mv (.t 7),none⟩] [5,6,7])
 (.seq (.seq (.region [⟨(some 4),.mv (.k (.c (.d (.int .i64 0)))),none⟩] [])
 (.block 0 (.loop (.seq (.seq (.region [⟨(some 8),.mv (.t 4),none⟩,
 ⟨(some 9),.mv (.t 0),none⟩,
 ⟨(some 10),.len 1 (.t 9),none⟩,
 ⟨(some 11),.bin .lss (.t 8) (.t 10),none⟩] [8,9,10])
 (.cond (.t 11)
 (.skip)
 (.exit 0)))
 (.seq (.block 1 (.region [⟨(some 14),.mv (.t 3),none⟩,
 ⟨(some 15),.mv (.t 4),none⟩,
 ⟨(some 16),.mv (.t 0),none⟩,
 ⟨(some 17),.mv (.t 4),none⟩,
 ⟨(some 18),.indexAddr 5 (.t 16) (.t 17),none⟩,
 ⟨(some 19),.load (some 5) (.t 18),none⟩,
 ⟨(some 20),.qcall 27 [(.t 19)],none⟩,
 ⟨(some 21),.indexAddr 5 (.t 14) (.t 15),none⟩,
 ⟨none,.store 5 (.t 21) (.t 20),none⟩] [11,14,15,16,17,18,19,20,21]))
 (.region [⟨(some 12),.mv (.t 4),none⟩,
 ⟨(some 13),.bin .add (.t 12) (.k (.c (.d (.int .i64 1)))),none⟩,
 ⟨(some 4),.mv (.t 13),none⟩] [12,13]))))))
 (.seq (.region [⟨(some 22),.mv (.t 3),none⟩,
 ⟨(some 2),.mv (.t 22),none⟩] [3,22])
 (.ret))))
theorem ac8_ok : cFunc Try.prog [1000027] [(0,[2],[]),(1,[5,6,7],[]),(2,[],[]),(3,[8,9,10],[]),(5,[11,14,15,16,17,18,19,20,21],[]),(4,[12,13],[]),(6,[3,22],[])] Try.f8 = some (ac8,[.tmp 2],23) := by kernel_rfl
-- 27 loop.example/prologserver/laws.toClause params 1 ntmps 13
def ac27 : Cd := .seq (.region [⟨(some 1),.box (.t 0),none⟩,
 ⟨(some 2),.alloc [(.d (.int .i64 0)),(.d (.int .i64 0)),(.d (.str [])),(.full []),(.full [])],none⟩] [0])
 (.seq (.region [⟨(some 3),.alloc [(.d (.int .i64 0)),(.d (.int .i64 0)),(.d (.str [])),(.full []),(.full [])],none⟩] [])
 (.seq (.region [⟨(some 4),.fieldAddr 0 (.t 1),none⟩,
 ⟨(some 5),.load (some 4) (.t 4),none⟩,
 ⟨(some 6),.qcall 39 [(.t 5)],none⟩,
 ⟨(some 7),.fieldAddr 0 (.t 3),none⟩,
 ⟨none,.store 4 (.t 7) (.t 6),none⟩] [4,5,6,7])
 (.seq (.region [⟨(some 8),.fieldAddr 4 (.t 1),none⟩,
 ⟨(some 9),.load none (.t 8),none⟩,
 ⟨(some 10),.qcall 13 [(.t 9)],none⟩,
 ⟨(some 11),.fieldAddr 4 (.t 3),none⟩,
 ⟨none,.store 1 (.t 11) (.t 10),none⟩] [1,8,9,10,11])
 (.seq (.region [⟨(some 12),.load (some 5) (.t 3),none⟩,
 ⟨none,.store 5 (.t 2) (.t 12),none⟩] [3,12])
 (.ret)))))
theorem ac27_ok : cFunc Try.prog [1000013,1000039] [(0,[0],[]),(1,[],[]),(2,[4,5,6,7],[]),(3,[1,8,9,10,11],[]),(4,[3,12],[])] Try.f27 = some (ac27,[.cell 2 (some 5)],13) := by kernel_rfl
-- 10 loop.example/prologserver/laws.eqClauseS params 2 ntmps 27
-- loop head live: [0,1,5]
def ac10 : Cd := .seq (.region [⟨(some 4),.mv (.k (.c (.d (.bool false)))),none⟩] [4])
 (.seq (.seq (.region [⟨(some 6),.mv (.t 0),none⟩,
 ⟨(some 7),.len 1 (.t 6),none⟩,
 ⟨(some 8),.mv (.t 1),none⟩,
 ⟨(some 9),.len 1 (.t 8),none⟩,
 ⟨(some 10),.bin .neq (.t 7) (.t 9),none⟩] [6,7,8,9])
 (.cond (.t 10)
 (.seq (.region [⟨(some 4),.mv (.k (.c (.d (.bool false)))),none⟩] [0,1,10])
 (.ret))
 (.skip)))
 (.seq (.seq (.region [⟨(some 5),.mv (.k (.c (.d (.int .i64 0)))),none⟩] [4,10])
 (.block 0 (.loop (.seq (.seq (.region [⟨(some 11),.mv (.t 5),none⟩,
 ⟨(some 12),.mv (.t 0),none⟩,
 ⟨(some 13),.len 1 (.t 12),none⟩,
 ⟨(some 14),.bin .lss (.t 11) (.t 13),none⟩] [11,12,13])
 (.cond (.t 14)
 (.skip)
 (.exit 0)))
 (.seq (.block 1 (.seq (.region [⟨(some 17),.mv (.t 0),none⟩,
 ⟨(some 18),.mv (.t 5),none⟩,
 ⟨(some 19),.indexAddr 5 (.t 17) (.t 18),none⟩,
 ⟨(some 21),.mv (.t 1),none⟩,
 ⟨(some 22),.mv (.t 5),none⟩,
 ⟨(some 23),.indexAddr 5 (.t 21) (.t 22),none⟩,
 ⟨(some 20),.load (some 5) (.t 19),none⟩,
 ⟨(some 24),.load (some 5) (.t 23),none⟩,
 ⟨(some 25),.qcall 35 [(.t 20),(.t 24)],none⟩,
 ⟨(some 26),.un .not (.t 25),none⟩] [14,17,18,19,20,21,22,23,24,25])
 (.cond (.t 26)
 (.seq (.region [⟨(some 4),.mv (.k (.c (.d (.bool false)))),none⟩] [0,1,5,26])
 (.ret))
 (.skip))))
 (.region [⟨(some 15),.mv (.t 5),none⟩,
 ⟨(some 16),.bin .add (.t 15) (.k (.c (.d (.int .i64 1)))),none⟩,
 ⟨(some 5),.mv (.t 16),none⟩] [4,15,16,26]))))))
 (.seq (.region [⟨(some 4),.mv (.k (.c (.d (.bool true)))),none⟩] [])
 (.ret))))
theorem ac10_ok : cFunc Try.prog [1000035] [(0,[4],[]),(1,[6,7,8,9],[]),(2,[0,1,10],[]),(3,[4,10],[]),(4,[11,12,13],[]),(6,[14,17,18,19,20,21,22,23,24,25],[0,1,2,4,5,6,3,7,8,9]),(7,[0,1,5,26],[]),(5,[4,15,16,26],[]),(8,[],[])] Try.f10 = some (ac10,[.tmp 4],27) := by kernel_rfl
-- 35 loop.example/prologserver/laws.eqClause params 2 ntmps 17
def ac35 : Cd := .seq (.region [⟨(some 2),.box (.t 0),none⟩,
 ⟨(some 3),.box (.t 1),none⟩,
 ⟨(some 4),.mv (.k (.c (.d (.bool false)))),none⟩] [0,1,4])
 (.seq (.seq (.region [⟨(some 5),.fieldAddr 0 (.t 2),none⟩,
 ⟨(some 6),.load (some 4) (.t 5),none⟩,
 ⟨(some 7),.fieldAddr 0 (.t 3),none⟩,
 ⟨(some 8),.load (some 4) (.t 7),none⟩,
 ⟨(some 9),.qcall 42 [(.t 6),(.t 8)],none⟩,
 ⟨(some 10),.un .not (.t 9),none⟩] [5,6,7,8,9])
 (.cond (.t 10)
 (.seq (.region [⟨(some 4),.mv (.k (.c (.d (.bool false)))),none⟩] [2,3,10])
 (.ret))
 (.skip)))
 (.seq (.seq (.region [⟨(some 11),.fieldAddr 4 (.t 2),none⟩,
 ⟨(some 12),.load none (.t 11),none⟩,
 ⟨(some 13),.fieldAddr 4 (.t 3),none⟩,
 ⟨(some 14),.load none (.t 13),none⟩,
 ⟨(some 15),.qcall 16 [(.t 12),(.t 14)],none⟩,
 ⟨(some 16),.un .not (.t 15),none⟩] [2,3,4,10,11,12,13,14,15])
 (.cond (.t 16)
 (.seq (.region [⟨(some 4),.mv (.k (.c (.d (.bool false)))),none⟩] [16])
 (.ret))
 (.skip)))
 (.seq (.region [⟨(some 4),.mv (.k (.c (.d (.bool true)))),none⟩] [16])
 (.ret))))
theorem ac35_ok : cFunc Try.prog [1000016,1000042] [(0,[0,1,4],[]),(1,[5,6,7,8,9],[]),(2,[2,3,10],[]),(3,[2,3,4,10,11,12,13,14,15],[]),(4,[16],[]),(5,[16],[])] Try.f35 = some (ac35,[.tmp 4],17) := by kernel_rfl
/-- a clause -/
structure Cl where
  head : Tm
  body : List Tm
noncomputable instance : DecidableEq Cl := fun a b => Classical.propDecidable (a = b)
def Cl.row (c : Cl) : List D := [.int .i64 c.head.k, .int .i64 c.head.n, .str c.head.s, .sl (c.head.kids.map Tm.row), .sl (c.body.map Tm.row)]
theorem crow_len (c : Cl) : c.row.length = 5 := rfl
theorem take_crow (c : Cl) : List.take 5 (List.map C.d c.row) = List.map C.d c.row := List.take_of_length_le (by simp [crow_len])
structure Cl.fine (c : Cl) : Prop where
  head : c.head.fine
  len : c.body.length ≤ reachBytes
  body : ∀ t ∈ c.body, t.fine
structure Cl.fits (c : Cl) : Prop where
  head : c.head.fits
  len : c.body.length ≤ 1048576
  body : ∀ t ∈ c.body, t.fits
theorem toClauseS_of (l : List Cl) (hl : l.length ≤ 1048576) (h : ∀ t ∈ l, ∀ H, ACalls Try.prog 27 [.agg ((Cl.row t).map .d)] H (fun r H' => H' = H ∧ r = .agg ((Cl.row t).map .d))) (H : Heap) :
    ACalls Try.prog 8 [.c (.d (.sl (l.map Cl.row)))] H (fun r H' => H' = H ∧ r = .c (.d (.sl (l.map Cl.row)))) := by
  refine acalls Try.func8 (by kernel_rfl) ac8_ok fun hf => ?_
  have hli : inR .i64 (l.length : Int) := small_i64 (by omega) (by omega)
  simp -implicitDefEqProofs [ac8, hli, go_sem, -List.set_cons_succ, -List.set_cons_zero]
  refine ⟨by unfold maxApp; omega, ?_⟩
  refine loop_set (σ := Nat) (fun i => [(4, .c (.d (.int .i64 i)))]) (fun _ => H) (fun i => [.rows (fill Cl.row [.int .i64 0, .int .i64 0, .str [], .sl [], .sl []] l i)]) (fun i => i ≤ l.length) (fun i => l.length - i) 0 (by simp [setAll, fill_zero]) (Nat.zero_le _) ?_
  intro i hi
  simp -implicitDefEqProofs [setAll, hli, go_sem, -List.set_cons_succ, -List.set_cons_zero]
  refine ⟨fun hlt => ?_, fun hge => by rw [show i = l.length by omega, fill_all]⟩
  have hadd : inR .i64 ((i : Int) + 1) := small_i64 (by omega) (by omega)
  refine row_of hlt (crow_len _) ?_
  simp -implicitDefEqProofs [crow_len, take_crow, pure_d, re_d, go_sem, -List.set_cons_succ, -List.set_cons_zero]
  refine qcall_pure (h l[i] (List.getElem_mem hlt)) hf (by simp [A.re, re_d]) ?_
  simp -implicitDefEqProofs [hadd, hlt, fill_get _ _ _ hlt, toDs_map, crow_len, go_sem, -List.set_cons_succ, -List.set_cons_zero]
  have hset := fill_set Cl.row [.int .i64 0, .int .i64 0, .str [], .sl [], .sl []] l hlt
  exact ⟨hf, loop_back (i + 1) (by simp [setAll]; exact hset) hlt (by show l.length - (i + 1) < l.length - i; omega)⟩

theorem eqClauseS_big (l : List Cl) (hl : l.length ≤ 4294967296) (h : ∀ t ∈ l, ∀ H, ACalls Try.prog 35 [.agg ((Cl.row t).map .d), .agg ((Cl.row t).map .d)] H (fun r H' => H' = H ∧ r = .c (.d (.bool true)))) (H : Heap) :
    ACalls Try.prog 10 [.c (.d (.sl (l.map Cl.row))), .c (.d (.sl (l.map Cl.row)))] H (fun r H' => H' = H ∧ r = .c (.d (.bool true))) := by
  refine acalls Try.func10 (by kernel_rfl) ac10_ok fun hf => ?_
  have hli : inR .i64 (l.length : Int) := small_i64 (by omega) (by omega)
  simp -implicitDefEqProofs [ac10, hli, go_sem, -List.set_cons_succ, -List.set_cons_zero]
  refine loop_set (σ := Nat) (fun i => [(5, .c (.d (.int .i64 i)))]) (fun _ => H) (fun _ => []) (fun i => i ≤ l.length) (fun i => l.length - i) 0 rfl (Nat.zero_le _) ?_
  intro i hi
  simp -implicitDefEqProofs [setAll, hli, go_sem, -List.set_cons_succ, -List.set_cons_zero]
  intro hlt
  have hadd : inR .i64 ((i : Int) + 1) := small_i64 (by omega) (by omega)
  refine row_of hlt (crow_len _) ?_
  simp -implicitDefEqProofs [crow_len, take_crow, go_sem, -List.set_cons_succ, -List.set_cons_zero]
  refine row_of hlt (crow_len _) ?_
  simp -implicitDefEqProofs [crow_len, take_crow, pure_d, re_d, go_sem, -List.set_cons_succ, -List.set_cons_zero]
  refine qcall_pure (h l[i] (List.getElem_mem hlt)) hf rfl ?_
  simp -implicitDefEqProofs [hadd, go_sem, -List.set_cons_succ, -List.set_cons_zero]
  exact loop_back (i + 1) (by simp [setAll]) hlt (by show l.length - (i + 1) < l.length - i; omega)
theorem eqClauseS_of (l : List Cl) (hl : l.length ≤ 1048576) (h : ∀ t ∈ l, ∀ H, ACalls Try.prog 35 [.agg ((Cl.row t).map .d), .agg ((Cl.row t).map .d)] H (fun r H' => H' = H ∧ r = .c (.d (.bool true)))) (H : Heap) :
    ACalls Try.prog 10 [.c (.d (.sl (l.map Cl.row))), .c (.d (.sl (l.map Cl.row)))] H (fun r H' => H' = H ∧ r = .c (.d (.bool true))) := eqClauseS_big l (by omega) h H

theorem toClause_calls (c : Cl) (hc : c.fits) (H : Heap) : ACalls Try.prog 27 [.agg (c.row.map .d)] H (fun r H' => H' = H ∧ r = .agg (c.row.map .d)) := by
  obtain ⟨h, b⟩ := c
  obtain ⟨hh, hl, hb⟩ := hc
  have c1 := toTerm_calls h hh
  unfold ToT at c1
  rw [row_eq] at c1
  simp only [List.map_cons, List.map_nil] at c1
  refine acalls Try.func27 (by kernel_rfl) ac27_ok fun hf => ?_
  simp -implicitDefEqProofs [ac27, Cl.row, hf, go_sem, -List.set_cons_succ, -List.set_cons_zero]
  refine qcall_pure c1 hf rfl ?_
  simp -implicitDefEqProofs [hf, go_sem, -List.set_cons_succ, -List.set_cons_zero]
  refine qcall_pure (toTermS_calls b hl hb) hf rfl ?_
  simp -implicitDefEqProofs [hf, go_sem, -List.set_cons_succ, -List.set_cons_zero]
theorem eqClause_calls (c : Cl) (hc : c.fits) (H : Heap) : ACalls Try.prog 35 [.agg (c.row.map .d), .agg (c.row.map .d)] H (fun r H' => H' = H ∧ r = .c (.d (.bool true))) := by
  obtain ⟨h, b⟩ := c
  obtain ⟨hh, hl, hb⟩ := hc
  have c1 := eqTerm_calls h hh
  unfold Same2 at c1
  rw [row_eq] at c1
  simp only [List.map_cons, List.map_nil, decide_true] at c1
  refine acalls Try.func35 (by kernel_rfl) ac35_ok fun hf => ?_
  simp -implicitDefEqProofs [ac35, Cl.row, hf, go_sem, -List.set_cons_succ, -List.set_cons_zero]
  refine qcall_pure c1 hf rfl ?_
  simp -implicitDefEqProofs [hf, go_sem, -List.set_cons_succ, -List.set_cons_zero]
  refine qcall_pure (eqTermS_calls b hl hb) hf rfl ?_
  simp -implicitDefEqProofs [hf, go_sem, -List.set_cons_succ, -List.set_cons_zero]
theorem clause_ty {row : List D} (h : HasTy Try.prog 46 row) : ∃ c : Cl, row = c.row ∧ c.fine := by
  obtain ⟨hl, hf⟩ := h.st_inv Try.underlying46
  rw [show Try.prog.cellsOf 46 = 5 from by kernel_rfl] at hl
  match row, hl with
  | [a, b, c, d, e], _ =>
    simp [show Try.prog.cellsOf 44 = 4 from by kernel_rfl, show Try.prog.cellsOf 29 = 1 from by kernel_rfl] at hf
    obtain ⟨h1, h2⟩ := hf
    obtain ⟨t, e1, ht⟩ := tm_ty h1
    obtain ⟨l, e2, hl, hb⟩ := tms_ty h2
    rw [row_eq] at e1
    cases e1; cases e2
    exact ⟨⟨t, l⟩, rfl, ht, hl, hb⟩
theorem clauses_ty {row : List D} (h : HasTy Try.prog 22 row) : ∃ l : List Cl, row = [.sl (l.map Cl.row)] ∧ l.length ≤ reachBytes ∧ ∀ c ∈ l, c.fine := by
  obtain ⟨rows, rfl, hb, hc, ht⟩ := h.sl_inv Try.underlying22
  rw [show Try.prog.bytesOf 46 = 80 from by kernel_rfl] at hb
  obtain ⟨l, rfl, hl⟩ := list_of_ty (f := Cl.row) (p := Cl.fine) (fun r hr => clause_ty (ht r hr))
  exact ⟨l, rfl, by simp at hb; omega, hl⟩
/-- clauses that a law looks at -/
def FitsC (l : List Cl) : Prop := l.length ≤ 1048576 ∧ ∀ c ∈ l, c.fits
theorem toClauseS_calls (l : List Cl) (h : FitsC l) (H : Heap) : ACalls Try.prog 8 [.c (.d (.sl (l.map Cl.row)))] H (fun r H' => H' = H ∧ r = .c (.d (.sl (l.map Cl.row)))) :=
  toClauseS_of l h.1 (fun t ht => toClause_calls t (h.2 t ht)) H
theorem eqClauseS_calls (l : List Cl) (h : FitsC l) (H : Heap) : ACalls Try.prog 10 [.c (.d (.sl (l.map Cl.row))), .c (.d (.sl (l.map Cl.row)))] H (fun r H' => H' = H ∧ r = .c (.d (.bool true))) :=
  eqClauseS_of l h.1 (fun t ht => eqClause_calls t (h.2 t ht)) H
end Go.Proofs.Ytoipdmomgjdnaaa

/-
  Valid clauses and programs.
  Conditions: none.
-/
open Go Go.AM Go.Proofs
namespace Go.Proofs.Ytoipdmomgjdnaaa
open Go.ChangeShapes Go.WideShapes Go.ChangeAt Go.RowKit
set_option linter.unusedVariables false
set_option linter.unusedSimpArgs false
set_option maxRecDepth 100000
-- 58 loop.example/prologserver/impl.ClauseValid params 1 ntmps 16
def ac58 : Cd := .seq (.region [⟨(some 1),.box (.t 0),none⟩,
 ⟨(some 2),.mv (.k (.c (.d (.bool false)))),none⟩] [0,2])
 (.seq (.region [⟨(some 3),.fieldAddr 0 (.t 1),none⟩,
 ⟨(some 4),.load (some 4) (.t 3),none⟩,
 ⟨(some 5),.qcall 70 [(.t 4)],none⟩,
 ⟨(some 6),.mv (.t 5),none⟩,
 ⟨(some 7),.fieldAddr 0 (.t 1),some (6,true)⟩,
 ⟨(some 8),.load (some 4) (.t 7),some (6,true)⟩,
 ⟨(some 9),.qcall 29 [(.t 8)],some (6,true)⟩,
 ⟨(some 10),.pick (.t 6) (.t 9) (.k (.c (.d (.bool false)))),none⟩,
 ⟨(some 11),.mv (.t 10),none⟩,
 ⟨(some 12),.fieldAddr 4 (.t 1),some (11,true)⟩,
 ⟨(some 13),.load none (.t 12),some (11,true)⟩,
 ⟨(some 14),.qcall 63 [(.t 13)],some (11,true)⟩,
 ⟨(some 15),.pick (.t 11) (.t 14) (.k (.c (.d (.bool false)))),none⟩,
 ⟨(some 2),.mv (.t 15),none⟩] [1,3,4,5,6,7,8,9,10,11,12,13,14,15])
 (.ret))
theorem ac58_ok : cFunc Try.prog [1000029,1000063,1000070] [(0,[0,2],[]),(1,[1,3,4,5,6,7,8,9,10,11,12,13,14,15],[])] Try.f58 = some (ac58,[.tmp 2],16) := by kernel_rfl
-- 49 loop.example/prologserver/spec.ClauseValid params 1 ntmps 36
-- loop head live: [1,3]
def ac49 : Cd := .seq (.region [⟨(some 1),.box (.t 0),none⟩,
 ⟨(some 2),.mv (.k (.c (.d (.bool false)))),none⟩] [0,2])
 (.seq (.seq (.region [⟨(some 3),.mv (.k (.c (.d (.int .i64 0)))),none⟩] [])
 (.block 0 (.loop (.seq (.seq (.region [⟨(some 4),.mv (.t 3),none⟩,
 ⟨(some 5),.fieldAddr 4 (.t 1),none⟩,
 ⟨(some 6),.load none (.t 5),none⟩,
 ⟨(some 7),.len 1 (.t 6),none⟩,
 ⟨(some 8),.bin .lss (.t 4) (.t 7),none⟩,
 ⟨(some 9),.mv (.t 8),none⟩,
 ⟨(some 10),.mv (.t 3),some (9,true)⟩,
 ⟨(some 11),.bin .leq (.t 10) (.k (.c (.d (.int .i64 6)))),some (9,true)⟩,
 ⟨(some 12),.pick (.t 9) (.t 11) (.k (.c (.d (.bool false)))),none⟩] [4,5,6,7,8,9,10,11])
 (.cond (.t 12)
 (.skip)
 (.exit 0)))
 (.seq (.block 1 (.seq (.region [⟨(some 15),.fieldAddr 4 (.t 1),none⟩,
 ⟨(some 16),.load none (.t 15),none⟩,
 ⟨(some 17),.mv (.t 3),none⟩,
 ⟨(some 18),.indexAddr 4 (.t 16) (.t 17),none⟩,
 ⟨(some 19),.load (some 4) (.t 18),none⟩,
 ⟨(some 20),.qcall 61 [(.t 19)],none⟩,
 ⟨(some 21),.un .not (.t 20),none⟩] [12,15,16,17,18,19,20])
 (.cond (.t 21)
 (.seq (.region [⟨(some 2),.mv (.k (.c (.d (.bool false)))),none⟩] [1,3,21])
 (.ret))
 (.skip))))
 (.region [⟨(some 13),.mv (.t 3),none⟩,
 ⟨(some 14),.bin .add (.t 13) (.k (.c (.d (.int .i64 1)))),none⟩,
 ⟨(some 3),.mv (.t 14),none⟩] [2,13,14,21]))))))
 (.seq (.region [⟨(some 22),.fieldAddr 4 (.t 1),none⟩,
 ⟨(some 23),.load none (.t 22),none⟩,
 ⟨(some 24),.len 1 (.t 23),none⟩,
 ⟨(some 25),.bin .leq (.t 24) (.k (.c (.d (.int .i64 6)))),none⟩,
 ⟨(some 26),.mv (.t 25),none⟩,
 ⟨(some 27),.fieldAddr 0 (.t 1),some (26,true)⟩,
 ⟨(some 28),.load (some 4) (.t 27),some (26,true)⟩,
 ⟨(some 29),.qcall 66 [(.t 28)],some (26,true)⟩,
 ⟨(some 30),.pick (.t 26) (.t 29) (.k (.c (.d (.bool false)))),none⟩,
 ⟨(some 31),.mv (.t 30),none⟩,
 ⟨(some 32),.fieldAddr 0 (.t 1),some (31,true)⟩,
 ⟨(some 33),.load (some 4) (.t 32),some (31,true)⟩,
 ⟨(some 34),.qcall 26 [(.t 33)],some (31,true)⟩,
 ⟨(some 35),.pick (.t 31) (.t 34) (.k (.c (.d (.bool false)))),none⟩,
 ⟨(some 2),.mv (.t 35),none⟩] [1,22,23,24,25,26,27,28,29,30,31,32,33,34,35])
 (.ret)))
theorem ac49_ok : cFunc Try.prog [1000026,1000061,1000066] [(0,[0,2],[]),(1,[],[]),(2,[4,5,6,7,8,9,10,11],[]),(4,[12,15,16,17,18,19,20],[]),(5,[1,3,21],[]),(3,[2,13,14,21],[]),(6,[1,22,23,24,25,26,27,28,29,30,31,32,33,34,35],[])] Try.f49 = some (ac49,[.tmp 2],36) := by kernel_rfl
-- 57 loop.example/prologserver/impl.ProgramValid$1 params 1 ntmps 6
def ac57 : Cd := .seq (.region [⟨(some 1),.box (.t 0),none⟩,
 ⟨(some 2),.mv (.k (.c (.d (.bool false)))),none⟩] [0,2])
 (.seq (.region [⟨(some 3),.load (some 5) (.t 1),none⟩,
 ⟨(some 4),.qcall 58 [(.t 3)],none⟩,
 ⟨(some 5),.un .not (.t 4),none⟩,
 ⟨(some 2),.mv (.t 5),none⟩] [1,3,4,5])
 (.ret))
theorem ac57_ok : cFunc Try.prog [1000058] [(0,[0,2],[]),(1,[1,3,4,5],[])] Try.f57 = some (ac57,[.tmp 2],6) := by kernel_rfl
-- 31 loop.example/prologserver/impl.ProgramValid params 1 ntmps 11
def ac31 : Cd := .seq (.region [⟨(some 2),.mv (.k (.c (.d (.bool false)))),none⟩] [2])
 (.seq (.region [⟨(some 3),.mv (.t 0),none⟩,
 ⟨(some 4),.len 1 (.t 3),none⟩,
 ⟨(some 5),.bin .leq (.t 4) (.k (.c (.d (.int .i64 20)))),none⟩,
 ⟨(some 6),.mv (.t 5),none⟩,
 ⟨(some 7),.mv (.t 0),some (6,true)⟩,
 ⟨(some 8),.qcall 32 [(.t 7),(.k (.c (.fn 57 [])))],some (6,true)⟩,
 ⟨(some 9),.un .not (.t 8),some (6,true)⟩,
 ⟨(some 10),.pick (.t 6) (.t 9) (.k (.c (.d (.bool false)))),none⟩,
 ⟨(some 2),.mv (.t 10),none⟩] [0,3,4,5,6,7,8,9,10])
 (.ret))
theorem ac31_ok : cFunc Try.prog [1000032] [(0,[2],[]),(1,[0,3,4,5,6,7,8,9,10],[])] Try.f31 = some (ac31,[.tmp 2],11) := by kernel_rfl
-- 25 loop.example/prologserver/spec.ProgramValid params 1 ntmps 23
-- loop head live: [0,3]
def ac25 : Cd := .seq (.region [⟨(some 2),.mv (.k (.c (.d (.bool false)))),none⟩] [2])
 (.seq (.seq (.region [⟨(some 3),.mv (.k (.c (.d (.int .i64 0)))),none⟩] [])
 (.block 0 (.loop (.seq (.seq (.region [⟨(some 4),.mv (.t 3),none⟩,
 ⟨(some 5),.mv (.t 0),none⟩,
 ⟨(some 6),.len 1 (.t 5),none⟩,
 ⟨(some 7),.bin .lss (.t 4) (.t 6),none⟩,
 ⟨(some 8),.mv (.t 7),none⟩,
 ⟨(some 9),.mv (.t 3),some (8,true)⟩,
 ⟨(some 10),.bin .leq (.t 9) (.k (.c (.d (.int .i64 20)))),some (8,true)⟩,
 ⟨(some 11),.pick (.t 8) (.t 10) (.k (.c (.d (.bool false)))),none⟩] [4,5,6,7,8,9,10])
 (.cond (.t 11)
 (.skip)
 (.exit 0)))
 (.seq (.block 1 (.seq (.region [⟨(some 14),.mv (.t 0),none⟩,
 ⟨(some 15),.mv (.t 3),none⟩,
 ⟨(some 16),.indexAddr 5 (.t 14) (.t 15),none⟩,
 ⟨(some 17),.load (some 5) (.t 16),none⟩,
 ⟨(some 18),.qcall 49 [(.t 17)],none⟩,
 ⟨(some 19),.un .not (.t 18),none⟩] [11,14,15,16,17,18])
 (.cond (.t 19)
 (.seq (.region [⟨(some 2),.mv (.k (.c (.d (.bool false)))),none⟩] [0,3,19])
 (.ret))
 (.skip))))
 (.region [⟨(some 12),.mv (.t 3),none⟩,
 ⟨(some 13),.bin .add (.t 12) (.k (.c (.d (.int .i64 1)))),none⟩,
 ⟨(some 3),.mv (.t 13),none⟩] [2,12,13,19]))))))
 (.seq (.region [⟨(some 20),.mv (.t 0),none⟩,
 ⟨(some 21),.len 1 (.t 20),none⟩,
 ⟨(some 22),.bin .leq (.t 21) (.k (.c (.d (.int .i64 20)))),none⟩,
 ⟨(some 2),.mv (.t 22),none⟩] [0,20,21,22])
 (.ret)))
theorem ac25_ok : cFunc Try.prog [1000049] [(0,[2],[]),(1,[],[]),(2,[4,5,6,7,8,9,10],[]),(4,[11,14,15,16,17,18],[]),(5,[0,3,19],[]),(3,[2,12,13,19],[]),(6,[0,20,21,22],[])] Try.f25 = some (ac25,[.tmp 2],23) := by kernel_rfl
-- 59 slices.IndexFunc[[]loop.example/prologserver/impl.Clause,loop.example/prologserver/impl.Clause] params 2 ntmps 19
-- loop head live: [0,1,7,8]
def ac59 : Cd := .seq (.region [⟨(some 4),.mv (.k (.c (.d (.int .i64 0)))),none⟩] [4])
 (.seq (.seq (.region [⟨(some 6),.mv (.t 0),none⟩,
 ⟨(some 7),.len 1 (.t 6),none⟩,
 ⟨(some 8),.mv (.k (.c (.d (.int .i64 0)))),none⟩] [6])
 (.block 0 (.loop (.seq (.region [⟨(some 9),.bin .lss (.t 8) (.t 7),none⟩] [])
 (.seq (.cond (.t 9)
 (.skip)
 (.exit 0))
 (.seq (.block 1 (.seq (.region [⟨(some 10),.mv (.t 8),none⟩,
 ⟨(some 5),.mv (.t 10),none⟩] [9,10])
 (.seq (.region [⟨(some 11),.mv (.t 1),none⟩,
 ⟨(some 12),.mv (.t 0),none⟩,
 ⟨(some 13),.mv (.t 5),none⟩,
 ⟨(some 14),.indexAddr 5 (.t 12) (.t 13),none⟩,
 ⟨(some 15),.load (some 5) (.t 14),none⟩,
 ⟨(some 16),.callv (.t 11) [(.t 15)],none⟩] [11,12,13,14,15])
 (.cond (.t 16)
 (.seq (.region [⟨(some 17),.mv (.t 5),none⟩,
 ⟨(some 4),.mv (.t 17),none⟩] [0,1,5,7,8,16,17])
 (.ret))
 (.skip)))))
 (.region [⟨(some 18),.bin .add (.t 8) (.k (.c (.d (.int .i64 1)))),none⟩,
 ⟨(some 8),.mv (.t 18),none⟩] [4,5,16,18])))))))
 (.seq (.region [⟨(some 4),.mv (.k (.c (.d (.int .i64 (-1))))),none⟩] [])
 (.ret)))
theorem ac59_ok : cFunc Try.prog [] [(0,[4],[]),(1,[6],[]),(2,[],[]),(3,[9,10],[]),(4,[11,12,13,14,15],[]),(5,[0,1,5,7,8,16,17],[]),(6,[4,5,16,18],[]),(7,[],[])] Try.f59 = some (ac59,[.tmp 4],19) := by kernel_rfl
-- 32 slices.ContainsFunc[[]loop.example/prologserver/impl.Clause,loop.example/prologserver/impl.Clause] params 2 ntmps 9
def ac32 : Cd := .seq (.region [⟨(some 4),.mv (.k (.c (.d (.bool false)))),none⟩] [4])
 (.seq (.region [⟨(some 5),.mv (.t 0),none⟩,
 ⟨(some 6),.mv (.t 1),none⟩,
 ⟨(some 7),.call false 59 [(.t 5),(.t 6)],none⟩,
 ⟨(some 8),.bin .geq (.t 7) (.k (.c (.d (.int .i64 0)))),none⟩,
 ⟨(some 4),.mv (.t 8),none⟩] [0,1,5,6,7,8])
 (.ret))
theorem ac32_ok : cFunc Try.prog [] [(0,[4],[]),(1,[0,1,5,6,7,8],[])] Try.f32 = some (ac32,[.tmp 4],9) := by kernel_rfl
theorem clF_idx {σ : Type} (Hp : σ → Heap) (n : Nat) (hn : ∀ s, (Hp s).length = n) (hfit : ∀ s, Obs.fits n 0 (Hp s)) (g : FuncId) (caps : List (Nat × Nat)) (step : σ → Cl → Bool × σ) (P : σ → Prop) (l : List Cl) (hl : l.length ≤ 1048576)
    (h : ∀ s, P s → ∀ t ∈ l, ACalls Try.prog g (.agg ((Cl.row t).map .d) :: caps.map fun x => .c (.ptr (.e x.1) x.2)) (Hp s) (fun r H' => r = .c (.d (.bool (step s t).1)) ∧ H' = Hp (step s t).2)) (hP : ∀ s, P s → ∀ t ∈ l, (step s t).1 = false → P (step s t).2) (s : σ) (h0 : P s) :
    ACalls Try.prog 59 [.c (.d (.sl (l.map Cl.row))), .c (.fn g (caps.map fun x => (.e x.1, x.2)))] (Hp s) (fun r H' => (∃ k : Int, r = .c (.d (.int .i64 k)) ∧ decide (0 ≤ k) = (anyS step l s).1) ∧ H' = Hp (anyS step l s).2) := by
  refine acalls Try.func59 (by kernel_rfl) ac59_ok fun hf => ?_
  have hli : inR .i64 (l.length : Int) := small_i64 (by omega) (by omega)
  simp -implicitDefEqProofs [ac59, hli, go_sem, -List.set_cons_succ, -List.set_cons_zero]
  refine loop_set (σ := Nat × σ) (fun x => [(8, .c (.d (.int .i64 x.1)))]) (fun x => Hp x.2) (fun _ => []) (fun x => x.1 ≤ l.length ∧ P x.2 ∧ anyS step (l.drop x.1) x.2 = anyS step l s) (fun x => l.length - x.1) (0, s) rfl ⟨Nat.zero_le _, h0, rfl⟩ ?_
  rintro ⟨i, q⟩ ⟨hi, hq, hrun⟩
  simp only at hi hq hrun
  simp -implicitDefEqProofs [setAll, hli, go_sem, -List.set_cons_succ, -List.set_cons_zero]
  refine ⟨fun hlt => ?_, fun hge => ?_⟩
  · refine row_of hlt (crow_len _) ?_
    simp -implicitDefEqProofs [crow_len, take_crow, pure_d, re_d, callArgs_ptrs, go_sem, -List.set_cons_succ, -List.set_cons_zero]
    have hd : l.drop i = l[i] :: l.drop (i + 1) := List.drop_eq_getElem_cons hlt
    rw [hd, anyS] at hrun
    have hadd : inR .i64 ((i : Int) + 1) := small_i64 (by omega) (by omega)
    refine (h q hq l[i] (List.getElem_mem hlt)).mono fun r H' ⟨h1, h2⟩ => ⟨Hp (step q l[i]).2, [], .c (.d (.bool (step q l[i]).1)), by simpa using h2, by simp only [hn], Nat.le_refl _, by simp only [hn]; exact hfit _, h1, ?_⟩
    cases hs : (step q l[i]).1 with
    | true =>
      rw [if_pos hs] at hrun
      simp -implicitDefEqProofs [hs, go_sem, -List.set_cons_succ, -List.set_cons_zero]
      rw [← hrun]
      exact ⟨by simp, rfl⟩
    | false =>
      rw [if_neg (by simp [hs])] at hrun
      simp -implicitDefEqProofs [hs, hadd, go_sem, -List.set_cons_succ, -List.set_cons_zero]
      exact loop_back (i + 1, (step q l[i]).2) (by simp [setAll]) ⟨hlt, hP q hq _ (List.getElem_mem hlt) hs, hrun⟩ (by show l.length - (i + 1) < l.length - i; omega)
  · rw [List.drop_of_length_le hge] at hrun
    simp only [anyS] at hrun
    rw [← hrun]
    exact ⟨by simp, rfl⟩
theorem clF_con {σ : Type} (Hp : σ → Heap) (n : Nat) (hn : ∀ s, (Hp s).length = n) (hfit : ∀ s, Obs.fits n 0 (Hp s)) (g : FuncId) (caps : List (Nat × Nat)) (step : σ → Cl → Bool × σ) (P : σ → Prop) (l : List Cl) (hl : l.length ≤ 1048576)
    (h : ∀ s, P s → ∀ t ∈ l, ACalls Try.prog g (.agg ((Cl.row t).map .d) :: caps.map fun x => .c (.ptr (.e x.1) x.2)) (Hp s) (fun r H' => r = .c (.d (.bool (step s t).1)) ∧ H' = Hp (step s t).2)) (hP : ∀ s, P s → ∀ t ∈ l, (step s t).1 = false → P (step s t).2) (s : σ) (h0 : P s) :
    ACalls Try.prog 32 [.c (.d (.sl (l.map Cl.row))), .c (.fn g (caps.map fun x => (.e x.1, x.2)))] (Hp s) (fun r H' => r = .c (.d (.bool (anyS step l s).1)) ∧ H' = Hp (anyS step l s).2) := by
  refine acalls Try.func32 (by kernel_rfl) ac32_ok fun hf => ?_
  simp -implicitDefEqProofs [ac32, go_sem, -List.set_cons_succ, -List.set_cons_zero]
  simp only [List.map_map, Function.comp_def, Ref.re]
  refine (clF_idx Hp n hn hfit g caps step P l hl h hP s h0).mono fun r H' ⟨⟨k, h1, h2⟩, h3⟩ => ⟨Hp (anyS step l s).2, [], .c (.d (.int .i64 k)), by simpa using h3, by simp only [hn], Nat.le_refl _, by simp only [hn]; exact hfit _, h1, ?_⟩
  simp -implicitDefEqProofs [go_sem, -List.set_cons_succ, -List.set_cons_zero]
  rw [← h2]
/-- .. where the function looks at what it is given alone -/
theorem clF_any (g : FuncId) (p : Cl → Bool) (l : List Cl) (hl : l.length ≤ 1048576) (h : ∀ t ∈ l, ∀ H, ACalls Try.prog g [.agg ((Cl.row t).map .d)] H (fun r H' => H' = H ∧ r = .c (.d (.bool (p t))))) (H : Heap) :
    ACalls Try.prog 32 [.c (.d (.sl (l.map Cl.row))), .c (.fn g [])] H (fun r H' => H' = H ∧ r = .c (.d (.bool (l.any p)))) := by
  refine acalls_fits Try.func32 (by kernel_rfl) (by kernel_rfl) fun hf => ?_
  have := clF_con (σ := Unit) (fun _ => H) H.length (fun _ => rfl) (fun _ => hf) g [] (fun _ t => (p t, ())) (fun _ => True) l hl (fun s _ t ht => (h t ht H).mono fun r H' ⟨h1, h2⟩ => ⟨h2, h1⟩) (fun _ _ _ _ _ => trivial) () trivial
  rw [anyS_const] at this
  exact this.mono fun r H' ⟨h1, h2⟩ => ⟨h2, h1⟩

def Cl.validB (c : Cl) : Bool := (c.head.valid && c.head.plain) && goalsB c.body
/-- as many valid clauses as a program may have -/
def progB (p : List Cl) : Bool := decide (p.length ≤ 20) && p.all Cl.validB
theorem cvImpl_calls (c : Cl) (hc : c.fits) (H : Heap) : ACalls Try.prog 58 [.agg (c.row.map .d)] H (fun r H' => H' = H ∧ r = .c (.d (.bool c.validB))) := by
  obtain ⟨h, b⟩ := c
  obtain ⟨hh, hl, hb⟩ := hc
  simp only at hh hl hb
  have c1 := tvImpl_calls h hh
  have c2 := plainImpl_calls h hh
  rw [row_eq] at c1 c2
  simp only [List.map_cons, List.map_nil] at c1 c2
  refine acalls Try.func58 (by kernel_rfl) ac58_ok fun hf => ?_
  simp -implicitDefEqProofs [ac58, Cl.row, go_sem, -List.set_cons_succ, -List.set_cons_zero]
  refine qcall_pure c1 hf rfl ?_
  cases h1 : h.valid with
  | false => simp -implicitDefEqProofs [h1, Cl.validB, go_sem, -List.set_cons_succ, -List.set_cons_zero]
  | true =>
    simp -implicitDefEqProofs [h1, go_sem, -List.set_cons_succ, -List.set_cons_zero]
    refine qcall_pure c2 hf rfl ?_
    cases h2 : h.plain with
    | false => simp -implicitDefEqProofs [h1, h2, Cl.validB, go_sem, -List.set_cons_succ, -List.set_cons_zero]
    | true =>
      simp -implicitDefEqProofs [h1, h2, go_sem, -List.set_cons_succ, -List.set_cons_zero]
      refine qcall_pure (goalsImpl_calls b hl hb) hf rfl ?_
      simp -implicitDefEqProofs [h1, h2, Cl.validB, go_sem, -List.set_cons_succ, -List.set_cons_zero]
theorem cvSpec_calls (c : Cl) (hc : c.fits) (H : Heap) : ACalls Try.prog 49 [.agg (c.row.map .d)] H (fun r H' => H' = H ∧ r = .c (.d (.bool c.validB))) := by
  obtain ⟨h, b⟩ := c
  obtain ⟨hh, hl, hb⟩ := hc
  simp only at hh hl hb
  have c1 := tvSpec_calls h hh
  have c2 := plainSpec_calls h hh
  rw [row_eq] at c1 c2
  simp only [List.map_cons, List.map_nil] at c1 c2
  have hli : inR .i64 (b.length : Int) := small_i64 (by omega) (by omega)
  refine acalls Try.func49 (by kernel_rfl) ac49_ok fun hf => ?_
  simp -implicitDefEqProofs [ac49, Cl.row, hli, go_sem, -List.set_cons_succ, -List.set_cons_zero]
  refine loop_set (σ := Nat) (fun i => [(3, .c (.d (.int .i64 i)))]) (fun _ => H) (fun _ => [_]) (fun i => i ≤ b.length ∧ ∀ t ∈ b.take i, t.goal = true) (fun i => b.length - i) 0 rfl ⟨Nat.zero_le _, by simp⟩ ?_
  rintro i ⟨hi, hall⟩
  by_cases hlt : i < b.length
  · by_cases hi6 : i ≤ 6
    · have hi6' : (i : Int) ≤ 6 := by omega
      simp -implicitDefEqProofs [setAll, hli, hlt, hi6, hi6', go_sem, -List.set_cons_succ, -List.set_cons_zero]
      refine row_of hlt (row_len _) ?_
      simp -implicitDefEqProofs [row_len, take_row, pure_d, re_d, go_sem, -List.set_cons_succ, -List.set_cons_zero]
      refine qcall_pure (goalSpec_calls b[i] (hb _ (List.getElem_mem hlt))) hf rfl ?_
      have hadd : inR .i64 ((i : Int) + 1) := small_i64 (by omega) (by omega)
      simp -implicitDefEqProofs [hadd, go_sem, -List.set_cons_succ, -List.set_cons_zero]
      refine ⟨fun hg => ?_, fun hg => loop_back (i + 1) (by simp [setAll]) ⟨hlt, goal_take hlt hall hg⟩ (by show b.length - (i + 1) < b.length - i; omega)⟩
      have : b.all Tm.goal = false := by
        rw [List.all_eq_false]
        exact ⟨b[i], List.getElem_mem hlt, by simp [hg]⟩
      simp [Cl.validB, goalsB, this]
    · have hl6 : ¬ b.length ≤ 6 := by omega
      have hl6' : ¬ (b.length : Int) ≤ 6 := by omega
      have hi6' : ¬ (i : Int) ≤ 6 := by omega
      simp -implicitDefEqProofs [setAll, hli, hlt, hi6, hi6', hl6, hl6', goalsB, Cl.validB, go_sem, -List.set_cons_succ, -List.set_cons_zero]
  · have hil : i = b.length := by omega
    subst hil
    rw [List.take_length] at hall
    have hal : b.all Tm.goal = true := List.all_eq_true.2 hall
    by_cases h6 : b.length ≤ 6
    · have h6' : (b.length : Int) ≤ 6 := by omega
      simp -implicitDefEqProofs [setAll, hli, h6', go_sem, -List.set_cons_succ, -List.set_cons_zero]
      refine qcall_pure c1 hf rfl ?_
      cases h1 : h.valid with
      | false => simp -implicitDefEqProofs [h1, Cl.validB, go_sem, -List.set_cons_succ, -List.set_cons_zero]
      | true =>
        simp -implicitDefEqProofs [h1, go_sem, -List.set_cons_succ, -List.set_cons_zero]
        refine qcall_pure c2 hf rfl ?_
        simp -implicitDefEqProofs [h1, h6, hal, goalsB, Cl.validB, go_sem, -List.set_cons_succ, -List.set_cons_zero]
    · have h6' : ¬ (b.length : Int) ≤ 6 := by omega
      simp -implicitDefEqProofs [setAll, hli, h6', h6, goalsB, Cl.validB, go_sem, -List.set_cons_succ, -List.set_cons_zero]
theorem any_notC (l : List Cl) : (l.any fun t => !t.validB) = !l.all Cl.validB := by
  induction l with
  | nil => rfl
  | cons t l ih => simp only [List.any_cons, List.all_cons, ih, Bool.not_and]
theorem notClause_calls (c : Cl) (hc : c.fits) (H : Heap) : ACalls Try.prog 57 [.agg (c.row.map .d)] H (fun r H' => H' = H ∧ r = .c (.d (.bool (!c.validB)))) := by
  refine acalls Try.func57 (by kernel_rfl) ac57_ok fun hf => ?_
  simp -implicitDefEqProofs [ac57, crow_len, take_crow, pure_d, re_d, go_sem, -List.set_cons_succ, -List.set_cons_zero]
  refine qcall_pure (cvImpl_calls c hc) hf rfl ?_
  simp -implicitDefEqProofs [go_sem, -List.set_cons_succ, -List.set_cons_zero]
theorem pvImpl_calls (p : List Cl) (hp : FitsC p) (H : Heap) : ACalls Try.prog 31 [.c (.d (.sl (p.map Cl.row)))] H (fun r H' => H' = H ∧ r = .c (.d (.bool (progB p)))) := by
  obtain ⟨hl, h⟩ := hp
  refine acalls Try.func31 (by kernel_rfl) ac31_ok fun hf => ?_
  have hli : inR .i64 (p.length : Int) := small_i64 (by omega) (by omega)
  by_cases h6 : p.length ≤ 20
  · have h6' : (p.length : Int) ≤ 20 := by omega
    simp -implicitDefEqProofs [ac31, hli, h6', go_sem, -List.set_cons_succ, -List.set_cons_zero]
    refine qcall_pure (clF_any 57 (fun t => !t.validB) p hl fun t ht => notClause_calls t (h t ht)) hf rfl ?_
    rw [any_notC]
    simp -implicitDefEqProofs [h6, progB, go_sem, -List.set_cons_succ, -List.set_cons_zero]
  · have h6' : ¬ (p.length : Int) ≤ 20 := by omega
    simp -implicitDefEqProofs [ac31, hli, h6', h6, progB, go_sem, -List.set_cons_succ, -List.set_cons_zero]
theorem valid_take {l : List Cl} {i : Nat} (h : i < l.length) (ha : ∀ t ∈ l.take i, t.validB = true) (hb : l[i].validB = true) : ∀ t ∈ l.take (i + 1), t.validB = true := by
  intro t h'
  rw [List.take_succ_eq_append_getElem h, List.mem_append] at h'
  rcases h' with h' | h'
  · exact ha t h'
  · simp at h'; subst h'; exact hb
theorem pvSpec_calls (p : List Cl) (hp : FitsC p) (H : Heap) : ACalls Try.prog 25 [.c (.d (.sl (p.map Cl.row)))] H (fun r H' => H' = H ∧ r = .c (.d (.bool (progB p)))) := by
  obtain ⟨hl, h⟩ := hp
  refine acalls Try.func25 (by kernel_rfl) ac25_ok fun hf => ?_
  have hli : inR .i64 (p.length : Int) := small_i64 (by omega) (by omega)
  simp -implicitDefEqProofs [ac25, hli, go_sem, -List.set_cons_succ, -List.set_cons_zero]
  refine loop_set (σ := Nat) (fun i => [(3, .c (.d (.int .i64 i)))]) (fun _ => H) (fun _ => []) (fun i => i ≤ p.length ∧ ∀ t ∈ p.take i, t.validB = true) (fun i => p.length - i) 0 rfl ⟨Nat.zero_le _, by simp⟩ ?_
  rintro i ⟨hi, hall⟩
  by_cases hlt : i < p.length
  · by_cases hi6 : i ≤ 20
    · have hi6' : (i : Int) ≤ 20 := by omega
      simp -implicitDefEqProofs [setAll, hli, hlt, hi6, hi6', go_sem, -List.set_cons_succ, -List.set_cons_zero]
      refine row_of hlt (crow_len _) ?_
      simp -implicitDefEqProofs [crow_len, take_crow, pure_d, re_d, go_sem, -List.set_cons_succ, -List.set_cons_zero]
      refine qcall_pure (cvSpec_calls p[i] (h _ (List.getElem_mem hlt))) hf rfl ?_
      have hadd : inR .i64 ((i : Int) + 1) := small_i64 (by omega) (by omega)
      simp -implicitDefEqProofs [hadd, go_sem, -List.set_cons_succ, -List.set_cons_zero]
      refine ⟨fun hg => ?_, fun hg => loop_back (i + 1) (by simp [setAll]) ⟨hlt, valid_take hlt hall hg⟩ (by show p.length - (i + 1) < p.length - i; omega)⟩
      have : p.all Cl.validB = false := by
        rw [List.all_eq_false]
        exact ⟨p[i], List.getElem_mem hlt, by simp [hg]⟩
      simp [progB, this]
    · have hl6 : ¬ p.length ≤ 20 := by omega
      have hl6' : ¬ (p.length : Int) ≤ 20 := by omega
      have hi6' : ¬ (i : Int) ≤ 20 := by omega
      simp -implicitDefEqProofs [setAll, hli, hlt, hi6, hi6', hl6, hl6', progB, go_sem, -List.set_cons_succ, -List.set_cons_zero]
  · have hil : i = p.length := by omega
    subst hil
    rw [List.take_length] at hall
    have hal : p.all Cl.validB = true := List.all_eq_true.2 hall
    simp -implicitDefEqProofs [setAll, hli, progB, hal, go_sem, -List.set_cons_succ, -List.set_cons_zero]
    all_goals omega
end Go.Proofs.Ytoipdmomgjdnaaa

/-
  The clauses for a goal.
  Conditions: none.
-/
open Go Go.AM Go.Proofs
namespace Go.Proofs.Ytoipdmomgjdnaaa
open Go.ChangeShapes Go.WideShapes Go.ChangeAt Go.RowKit
set_option linter.unusedVariables false
set_option linter.unusedSimpArgs false
set_option maxRecDepth 100000
-- 47 loop.example/prologserver/impl.pred params 1 ntmps 9
def ac47 : Cd := .seq (.region [⟨(some 1),.box (.t 0),none⟩,
 ⟨(some 2),.alloc [(.d (.str [])),(.d (.int .i64 0))],none⟩] [0])
 (.seq (.region [⟨(some 3),.fieldAddr 2 (.t 1),none⟩,
 ⟨(some 4),.load none (.t 3),none⟩,
 ⟨(some 5),.fieldAddr 3 (.t 1),none⟩,
 ⟨(some 6),.load none (.t 5),none⟩,
 ⟨(some 7),.len 1 (.t 6),none⟩,
 ⟨(some 8),.build [(.d (.str [])),(.d (.int .i64 0))] [(0,1,(.t 4)),(1,1,(.t 7))],none⟩,
 ⟨none,.store 2 (.t 2) (.t 8),none⟩] [1,3,4,5,6,7,8])
 (.ret))
theorem ac47_ok : cFunc Try.prog [] [(0,[0],[]),(1,[1,3,4,5,6,7,8],[])] Try.f47 = some (ac47,[.cell 2 (some 2)],9) := by kernel_rfl
-- 46 loop.example/prologserver/impl.clausesFor params 2 ntmps 26
-- loop head live: [3,5,8,9,10]
def ac46 : Cd := .seq (.region [⟨(some 3),.box (.t 1),none⟩,
 ⟨(some 4),.mv (.k (.c (.full []))),none⟩] [1,4])
 (.seq (.region [⟨(some 5),.mv (.k (.c (.full []))),none⟩] [])
 (.seq (.seq (.region [⟨(some 8),.mv (.t 0),none⟩,
 ⟨(some 9),.len 1 (.t 8),none⟩,
 ⟨(some 10),.mv (.k (.c (.d (.int .i64 0)))),none⟩] [0])
 (.block 0 (.loop (.seq (.region [⟨(some 11),.bin .lss (.t 10) (.t 9),none⟩] [])
 (.seq (.cond (.t 11)
 (.skip)
 (.exit 0))
 (.seq (.block 1 (.seq (.region [⟨(some 12),.mv (.t 10),none⟩,
 ⟨(some 13),.indexAddr 5 (.t 8) (.t 10),none⟩,
 ⟨(some 14),.load (some 5) (.t 13),none⟩,
 ⟨(some 7),.alloc [(.d (.int .i64 0)),(.d (.int .i64 0)),(.d (.str [])),(.full []),(.full [])],none⟩,
 ⟨(some 6),.mv (.t 12),none⟩,
 ⟨none,.store 5 (.t 7) (.t 14),none⟩] [11,12,13,14])
 (.seq (.region [⟨(some 15),.fieldAddr 0 (.t 7),none⟩,
 ⟨(some 16),.load (some 4) (.t 15),none⟩,
 ⟨(some 17),.qcall 47 [(.t 16)],none⟩,
 ⟨(some 18),.load (some 2) (.t 3),none⟩,
 ⟨(some 19),.eqAgg false [.str,.int] (.t 17) (.t 18),none⟩] [7,15,16,17,18])
 (.cond (.t 19)
 (.region [⟨(some 20),.mv (.t 5),none⟩,
 ⟨(some 21),.mv (.t 6),none⟩,
 ⟨(some 22),.buildSlice 1 1 [(.int .i64 0)] [(0,(.t 21))],none⟩,
 ⟨(some 23),.append false 1 (.t 20) (.t 22),none⟩,
 ⟨(some 5),.mv (.t 23),none⟩] [6,19,20,21,22,23])
 (.skip)))))
 (.region [⟨(some 24),.bin .add (.t 10) (.k (.c (.d (.int .i64 1)))),none⟩,
 ⟨(some 10),.mv (.t 24),none⟩] [6,19,24])))))))
 (.seq (.region [⟨(some 25),.mv (.t 5),none⟩,
 ⟨(some 4),.mv (.t 25),none⟩] [5,25])
 (.ret))))
theorem ac46_ok : cFunc Try.prog [1000047] [(0,[1,4],[]),(1,[],[]),(2,[0],[]),(3,[],[]),(4,[11,12,13,14],[]),(5,[7,15,16,17,18],[0,1,2,3,4]),(6,[6,19,20,21,22,23],[]),(7,[6,19,24],[]),(8,[5,25],[])] Try.f46 = some (ac46,[.tmp 4],26) := by kernel_rfl
-- 44 loop.example/prologserver/spec.l4For params 2 ntmps 41
-- loop head live: [0,3,5,6]
def ac44 : Cd := .seq (.region [⟨(some 3),.box (.t 1),none⟩,
 ⟨(some 4),.mv (.k (.c (.full []))),none⟩] [1,4])
 (.seq (.region [⟨(some 7),.buildSlice 1 0 [(.int .i64 0)] [],none⟩,
 ⟨(some 5),.mv (.t 7),none⟩] [7])
 (.seq (.seq (.region [⟨(some 6),.mv (.k (.c (.d (.int .i64 0)))),none⟩] [])
 (.block 0 (.loop (.seq (.seq (.region [⟨(some 8),.mv (.t 6),none⟩,
 ⟨(some 9),.mv (.t 0),none⟩,
 ⟨(some 10),.len 1 (.t 9),none⟩,
 ⟨(some 11),.bin .lss (.t 8) (.t 10),none⟩] [8,9,10])
 (.cond (.t 11)
 (.skip)
 (.exit 0)))
 (.seq (.block 1 (.seq (.region [⟨(some 14),.mv (.t 0),none⟩,
 ⟨(some 15),.mv (.t 6),none⟩,
 ⟨(some 16),.indexAddr 5 (.t 14) (.t 15),none⟩,
 ⟨(some 17),.fieldAddr 0 (.t 16),none⟩,
 ⟨(some 18),.fieldAddr 2 (.t 17),none⟩,
 ⟨(some 20),.fieldAddr 2 (.t 3),none⟩,
 ⟨(some 19),.load none (.t 18),none⟩,
 ⟨(some 21),.load none (.t 20),none⟩,
 ⟨(some 22),.bin .eql (.t 19) (.t 21),none⟩,
 ⟨(some 23),.mv (.t 22),none⟩,
 ⟨(some 24),.mv (.t 0),some (23,true)⟩,
 ⟨(some 25),.mv (.t 6),some (23,true)⟩,
 ⟨(some 26),.indexAddr 5 (.t 24) (.t 25),some (23,true)⟩,
 ⟨(some 27),.fieldAddr 0 (.t 26),some (23,true)⟩,
 ⟨(some 28),.fieldAddr 3 (.t 27),some (23,true)⟩,
 ⟨(some 31),.fieldAddr 3 (.t 3),some (23,true)⟩,
 ⟨(some 29),.load none (.t 28),some (23,true)⟩,
 ⟨(some 30),.len 1 (.t 29),some (23,true)⟩,
 ⟨(some 32),.load none (.t 31),some (23,true)⟩,
 ⟨(some 33),.len 1 (.t 32),some (23,true)⟩,
 ⟨(some 34),.bin .eql (.t 30) (.t 33),some (23,true)⟩,
 ⟨(some 35),.pick (.t 23) (.t 34) (.k (.c (.d (.bool false)))),none⟩] [11,14,15,16,17,18,19,20,21,22,23,24,25,26,27,28,29,30,31,32,33,34])
 (.cond (.t 35)
 (.region [⟨(some 36),.mv (.t 5),none⟩,
 ⟨(some 37),.mv (.t 6),none⟩,
 ⟨(some 38),.buildSlice 1 1 [(.int .i64 0)] [(0,(.t 37))],none⟩,
 ⟨(some 39),.append false 1 (.t 36) (.t 38),none⟩,
 ⟨(some 5),.mv (.t 39),none⟩] [35,36,37,38,39])
 (.skip))))
 (.region [⟨(some 12),.mv (.t 6),none⟩,
 ⟨(some 13),.bin .add (.t 12) (.k (.c (.d (.int .i64 1)))),none⟩,
 ⟨(some 6),.mv (.t 13),none⟩] [12,13,35]))))))
 (.seq (.region [⟨(some 40),.mv (.t 5),none⟩,
 ⟨(some 4),.mv (.t 40),none⟩] [5,40])
 (.ret))))
theorem ac44_ok : cFunc Try.prog [] [(0,[1,4],[]),(1,[7],[]),(2,[],[]),(3,[8,9,10],[]),(5,[11,14,15,16,17,18,19,20,21,22,23,24,25,26,27,28,29,30,31,32,33,34],[0,1,2,3,4,6,5,7,8,9,10,11,12,13,14,17,15,16,18,19,20,21]),(6,[35,36,37,38,39],[]),(4,[12,13,35],[]),(7,[5,40],[])] Try.f44 = some (ac44,[.tmp 4],41) := by kernel_rfl
def hits (c : Cl) (g : Tm) : Bool := decide (c.head.s = g.s) && decide ((c.head.kids.length : Int) = g.kids.length)
/-- the places of the clauses for a goal -/
def forI (p : List Cl) (g : Tm) : Nat → List Int
  | 0 => []
  | i + 1 => forI p g i ++ (match p[i]? with | some c => if hits c g then [(i : Int)] else [] | none => [])
theorem forI_len (p : List Cl) (g : Tm) : ∀ i, (forI p g i).length ≤ i
  | 0 => by simp [forI]
  | i + 1 => by
    have := forI_len p g i
    rw [forI, List.length_append]
    split
    · split <;> simp <;> omega
    · simp; omega
theorem forI_hit {p : List Cl} {g : Tm} {i : Nat} (hi : i < p.length) (h : hits p[i] g = true) : forI p g (i + 1) = forI p g i ++ [(i : Int)] := by
  rw [forI, List.getElem?_eq_getElem hi]; simp [h]
theorem forI_miss {p : List Cl} {g : Tm} {i : Nat} (hi : i < p.length) (h : hits p[i] g = false) : forI p g (i + 1) = forI p g i := by
  rw [forI, List.getElem?_eq_getElem hi]; simp [h]
theorem pred_calls (t : Tm) (ht : t.fits) (H : Heap) : ACalls Try.prog 47 [.agg (t.row.map .d)] H (fun r H' => H' = H ∧ r = .agg [.d (.str t.s), .d (.int .i64 t.kids.length)]) := by
  obtain ⟨k, n, s, l⟩ := t
  obtain ⟨_, _, _, hl, _⟩ := ht
  have hli : inR .i64 (l.length : Int) := small_i64 (by omega) (by omega)
  refine acalls Try.func47 (by kernel_rfl) ac47_ok fun hf => ?_
  simp -implicitDefEqProofs [ac47, row_mk, hf, hli, Tm.s, Tm.kids, go_sem, -List.set_cons_succ, -List.set_cons_zero]
theorem cfor_calls (p : List Cl) (hp : FitsC p) (g : Tm) (hg : g.fits) (H : Heap) : ACalls Try.prog 46 [.c (.d (.sl (p.map Cl.row))), .agg [.d (.str g.s), .d (.int .i64 g.kids.length)]] H (fun r H' => H' = H ∧ r = .c (.d (.sl (intRows (forI p g p.length))))) := by
  have hl := hp.1
  have hli : inR .i64 (p.length : Int) := small_i64 (by omega) (by omega)
  refine acalls Try.func46 (by kernel_rfl) ac46_ok fun hf => ?_
  simp -implicitDefEqProofs [ac46, hli, go_sem, -List.set_cons_succ, -List.set_cons_zero]
  refine loop_enter (St.le_token 5 1 rfl) ?_
  refine loop_set (σ := Nat) (fun i => [(10, .c (.d (.int .i64 i))), (5, .c (.own (.l 1) (forI p g i).length (intRows (forI p g i))))]) (fun _ => H) (fun i => [.cells [.d (.str g.s), .d (.int .i64 g.kids.length)], .grow (forI p g i).length 1]) (fun i => i ≤ p.length) (fun i => p.length - i) 0 rfl (Nat.zero_le _) ?_
  intro i hi
  have hfl := forI_len p g i
  simp -implicitDefEqProofs [setAll, hli, go_sem, -List.set_cons_succ, -List.set_cons_zero]
  refine ⟨fun hlt => ?_, fun hge => ?_⟩
  · have hc := hp.2 p[i] (List.getElem_mem hlt)
    have hadd : inR .i64 ((i : Int) + 1) := small_i64 (by omega) (by omega)
    refine row_of hlt rfl ?_
    simp -implicitDefEqProofs [Cl.row, hf, go_sem, -List.set_cons_succ, -List.set_cons_zero]
    have hpc := pred_calls p[i].head hc.head
    rw [row_eq] at hpc
    simp only [List.map_cons, List.map_nil] at hpc
    refine qcall_pure hpc hf rfl ?_
    simp -implicitDefEqProofs [hf, hadd, go_sem, -List.set_cons_succ, -List.set_cons_zero]
    refine ⟨fun e1 e2 => ?_, fun h => ?_⟩
    · have hh : hits p[i] g = true := by simp [hits, e1]; omega
      have hnx := forI_hit hlt hh
      simp -implicitDefEqProofs [hadd, allLen_ints, go_sem, -List.set_cons_succ, -List.set_cons_zero]
      refine ⟨by rw [intRows_len]; unfold maxApp; omega, ?_⟩
      have hr : intRows (forI p g i) ++ [[D.int IntKind.i64 (i : Int)]] = intRows (forI p g (i + 1)) := by rw [hnx]; simp [intRows]
      have hn : (forI p g i).length + 1 = (forI p g (i + 1)).length := by rw [hnx]; simp
      rw [hr, hn]
      refine loop_less (i + 1) (St.le_cut [_] ?_ (by simp [Sl.le, A.le_refl_iff, A.le_u_iff, As.lo, A.lo, C.lo, Ref.lo, Cs.lo, Obs.lo, Ob.lo, setAll, and_true, true_and, List.length_nil, List.length_cons]) rfl ⟨⟨trivial, trivial, trivial⟩, trivial, trivial⟩) hlt (by show p.length - (i + 1) < p.length - i; omega)
      simp [Sl.le, A.le_refl_iff, A.le_u_iff, As.lo, A.lo, C.lo, Ref.lo, Cs.lo, Obs.lo, Ob.lo, setAll, and_true, true_and, List.length_nil, List.length_cons]
    · have hh : hits p[i] g = false := by
        simp only [hits, Bool.and_eq_false_iff, decide_eq_false_iff_not]
        by_cases e : p[i].head.s = g.s
        · exact .inr (h e)
        · exact .inl e
      have hnx := forI_miss hlt hh
      refine loop_less (i + 1) (St.le_cut [_] ?_ (by simp [Sl.le, A.le_refl_iff, A.le_u_iff, As.lo, A.lo, C.lo, Ref.lo, Cs.lo, Obs.lo, Ob.lo, setAll, and_true, true_and, List.length_nil, List.length_cons]) (by simp only [hnx]; rfl) ⟨⟨trivial, trivial, trivial⟩, trivial, trivial⟩) hlt (by show p.length - (i + 1) < p.length - i; omega)
      simp [hnx, Sl.le, A.le_refl_iff, A.le_u_iff, As.lo, A.lo, C.lo, Ref.lo, Cs.lo, Obs.lo, Ob.lo, setAll, and_true, true_and, List.length_nil, List.length_cons]
  · obtain rfl : i = p.length := by omega
    simp
theorem l4For_calls (p : List Cl) (hp : FitsC p) (g : Tm) (hg : g.fits) (H : Heap) : ACalls Try.prog 44 [.c (.d (.sl (p.map Cl.row))), .agg (g.row.map .d)] H (fun r H' => H' = H ∧ r = .c (.d (.sl (intRows (forI p g p.length))))) := by
  have hl := hp.1
  have hli : inR .i64 (p.length : Int) := small_i64 (by omega) (by omega)
  obtain ⟨gk, gn, gs, gl⟩ := g
  obtain ⟨_, _, _, hgl, _⟩ := hg
  have hgi : inR .i64 (gl.length : Int) := small_i64 (by omega) (by omega)
  generalize hG : Tm.mk gk gn gs gl = G
  have es : G.s = gs := by rw [← hG]; rfl
  have el : G.kids = gl := by rw [← hG]; rfl
  have er : G.row = [.int .i64 gk, .int .i64 gn, .str gs, .sl (gl.map Tm.row)] := by rw [← hG]; exact row_mk _ _ _ _
  refine acalls Try.func44 (by kernel_rfl) ac44_ok fun hf => ?_
  rw [er]
  simp -implicitDefEqProofs [ac44, hli, go_sem, -List.set_cons_succ, -List.set_cons_zero]
  refine loop_enter (St.le_token 5 1 rfl) ?_
  refine loop_set (σ := Nat) (fun i => [(6, .c (.d (.int .i64 i))), (5, .c (.own (.l 1) (forI p G i).length (intRows (forI p G i))))]) (fun _ => H) (fun i => [.cells [.d (.int .i64 gk), .d (.int .i64 gn), .d (.str gs), .d (.sl (gl.map Tm.row))], .grow (forI p G i).length 1]) (fun i => i ≤ p.length) (fun i => p.length - i) 0 rfl (Nat.zero_le _) ?_
  intro i hi
  have hfl := forI_len p G i
  simp -implicitDefEqProofs [setAll, hli, go_sem, -List.set_cons_succ, -List.set_cons_zero]
  refine ⟨fun hlt => ?_, fun hge => ?_⟩
  · have hc := hp.2 p[i] (List.getElem_mem hlt)
    have hkl : p[i].head.kids.length ≤ 1048576 := by
      have := hc.head
      cases hh : p[i].head with
      | mk a b c d => rw [hh] at this; obtain ⟨_, _, _, h4, _⟩ := this; exact h4
    have hki : inR .i64 (p[i].head.kids.length : Int) := small_i64 (by omega) (by omega)
    have hadd : inR .i64 ((i : Int) + 1) := small_i64 (by omega) (by omega)
    refine row_of hlt rfl ?_
    simp -implicitDefEqProofs [Cl.row, hf, hki, hgi, hadd, go_sem, -List.set_cons_succ, -List.set_cons_zero]
    refine ⟨fun _ => by omega, p[i].row, fun _ => ⟨by simp [hlt], rfl⟩, ?_⟩
    simp -implicitDefEqProofs [Cl.row, hf, hki, hgi, hadd, go_sem, -List.set_cons_succ, -List.set_cons_zero]
    refine ⟨fun e1 e2 => ?_, fun h => ?_⟩
    · have hh : hits p[i] G = true := by simp [hits, es, el, e1]; omega
      have hnx := forI_hit hlt hh
      have hr : intRows (forI p G i) ++ [[D.int IntKind.i64 (i : Int)]] = intRows (forI p G (i + 1)) := by rw [hnx]; simp [intRows]
      have hn : (forI p G i).length + 1 = (forI p G (i + 1)).length := by rw [hnx]; simp
      simp -implicitDefEqProofs [allLen_ints, go_sem, -List.set_cons_succ, -List.set_cons_zero]
      refine ⟨by rw [intRows_len]; unfold maxApp; omega, ?_⟩
      rw [hr, hn]
      exact loop_back (i + 1) (by simp [setAll]) hlt (by show p.length - (i + 1) < p.length - i; omega)
    · have hh : hits p[i] G = false := by
        simp only [hits, es, el, Bool.and_eq_false_iff, decide_eq_false_iff_not]
        by_cases e : p[i].head.s = gs
        · exact .inr (h e)
        · exact .inl e
      have hnx := forI_miss hlt hh
      exact loop_back (i + 1) (by simp [setAll, hnx]) hlt (by show p.length - (i + 1) < p.length - i; omega)
  · obtain rfl : i = p.length := by omega
    simp
end Go.Proofs.Ytoipdmomgjdnaaa

/-
  Copies of terms by the program and by the reference.
  Conditions: none.
-/
open Go Go.AM Go.Proofs
namespace Go.Proofs.Ytoipdmomgjdnaaa
open Go.ChangeShapes Go.WideShapes Go.ChangeAt Go.RowKit
set_option linter.unusedVariables false
set_option linter.unusedSimpArgs false
set_option maxRecDepth 100000
-- 48 loop.example/prologserver/impl.own params 1 ntmps 8
def ac48 : Cd := .seq (.region [⟨(some 1),.box (.t 0),none⟩,
 ⟨(some 2),.alloc [(.d (.int .i64 0)),(.d (.int .i64 0)),(.d (.str [])),(.full [])],none⟩] [0])
 (.seq (.region [⟨(some 3),.fieldAddr 3 (.t 1),none⟩,
 ⟨(some 4),.load none (.t 3),none⟩,
 ⟨(some 5),.qcall 65 [(.t 4)],none⟩,
 ⟨(some 6),.fieldAddr 3 (.t 1),none⟩,
 ⟨none,.store 1 (.t 6) (.t 5),none⟩] [3,4,5,6])
 (.seq (.region [⟨(some 7),.load (some 4) (.t 1),none⟩,
 ⟨none,.store 4 (.t 2) (.t 7),none⟩] [1,7])
 (.ret)))
theorem ac48_ok : cFunc Try.prog [1000065] [(0,[0],[]),(1,[3,4,5,6],[]),(2,[1,7],[])] Try.f48 = some (ac48,[.cell 2 (some 4)],8) := by kernel_rfl
-- 65 loop.example/prologserver/impl.ownList params 1 ntmps 19
-- loop head live: [3,6,7,8]
def ac65 : Cd := .seq (.region [⟨(some 2),.mv (.k (.c (.full []))),none⟩] [2])
 (.seq (.region [⟨(some 3),.mv (.k (.c (.full []))),none⟩] [])
 (.seq (.seq (.region [⟨(some 6),.mv (.t 0),none⟩,
 ⟨(some 7),.len 1 (.t 6),none⟩,
 ⟨(some 8),.mv (.k (.c (.d (.int .i64 0)))),none⟩] [0])
 (.block 0 (.loop (.seq (.region [⟨(some 9),.bin .lss (.t 8) (.t 7),none⟩] [])
 (.seq (.cond (.t 9)
 (.skip)
 (.exit 0))
 (.seq (.block 1 (.seq (.region [⟨(some 10),.indexAddr 4 (.t 6) (.t 8),none⟩,
 ⟨(some 11),.load (some 4) (.t 10),none⟩,
 ⟨(some 5),.alloc [(.d (.int .i64 0)),(.d (.int .i64 0)),(.d (.str [])),(.full [])],none⟩,
 ⟨none,.store 4 (.t 5) (.t 11),none⟩] [9,10,11])
 (.region [⟨(some 12),.mv (.t 3),none⟩,
 ⟨(some 13),.load (some 4) (.t 5),none⟩,
 ⟨(some 14),.qcall 48 [(.t 13)],none⟩,
 ⟨(some 15),.buildSlice 4 1 [(.int .i64 0),(.int .i64 0),(.str []),(.sl [])] [(0,(.t 14))],none⟩,
 ⟨(some 16),.append false 4 (.t 12) (.t 15),none⟩,
 ⟨(some 3),.mv (.t 16),none⟩] [5,12,13,14,15,16])))
 (.region [⟨(some 17),.bin .add (.t 8) (.k (.c (.d (.int .i64 1)))),none⟩,
 ⟨(some 8),.mv (.t 17),none⟩] [17])))))))
 (.seq (.region [⟨(some 18),.mv (.t 3),none⟩,
 ⟨(some 2),.mv (.t 18),none⟩] [3,18])
 (.ret))))
theorem ac65_ok : cFunc Try.prog [1000048] [(0,[2],[]),(1,[],[]),(2,[0],[]),(3,[],[]),(4,[9,10,11],[]),(5,[5,12,13,14,15,16],[]),(6,[17],[]),(7,[3,18],[])] Try.f65 = some (ac65,[.tmp 2],19) := by kernel_rfl
-- 45 loop.example/prologserver/spec.l1Copy params 1 ntmps 31
-- loop head live: [1,2,3,4]
def ac45 : Cd := .seq (.region [⟨(some 1),.box (.t 0),none⟩,
 ⟨(some 2),.alloc [(.d (.int .i64 0)),(.d (.int .i64 0)),(.d (.str [])),(.full [])],none⟩] [0])
 (.seq (.region [⟨(some 5),.fieldAddr 0 (.t 1),none⟩,
 ⟨(some 6),.load none (.t 5),none⟩,
 ⟨(some 7),.fieldAddr 1 (.t 1),none⟩,
 ⟨(some 8),.load none (.t 7),none⟩,
 ⟨(some 9),.fieldAddr 2 (.t 1),none⟩,
 ⟨(some 10),.load none (.t 9),none⟩,
 ⟨(some 11),.build [(.d (.int .i64 0)),(.d (.int .i64 0)),(.d (.str [])),(.full [])] [(0,1,(.t 6)),(1,1,(.t 8)),(2,1,(.t 10))],none⟩,
 ⟨(some 3),.alloc [(.d (.int .i64 0)),(.d (.int .i64 0)),(.d (.str [])),(.full [])],none⟩,
 ⟨none,.store 4 (.t 3) (.t 11),none⟩] [5,6,7,8,9,10,11])
 (.seq (.seq (.region [⟨(some 4),.mv (.k (.c (.d (.int .i64 0)))),none⟩] [])
 (.block 0 (.loop (.seq (.seq (.region [⟨(some 12),.mv (.t 4),none⟩,
 ⟨(some 13),.fieldAddr 3 (.t 1),none⟩,
 ⟨(some 14),.load none (.t 13),none⟩,
 ⟨(some 15),.len 1 (.t 14),none⟩,
 ⟨(some 16),.bin .lss (.t 12) (.t 15),none⟩] [12,13,14,15])
 (.cond (.t 16)
 (.skip)
 (.exit 0)))
 (.seq (.block 1 (.region [⟨(some 19),.fieldAddr 3 (.t 3),none⟩,
 ⟨(some 21),.fieldAddr 3 (.t 1),none⟩,
 ⟨(some 23),.mv (.t 4),none⟩,
 ⟨(some 20),.load none (.t 19),none⟩,
 ⟨(some 22),.load none (.t 21),none⟩,
 ⟨(some 24),.indexAddr 4 (.t 22) (.t 23),none⟩,
 ⟨(some 25),.load (some 4) (.t 24),none⟩,
 ⟨(some 26),.qcall 45 [(.t 25)],none⟩,
 ⟨(some 27),.buildSlice 4 1 [(.int .i64 0),(.int .i64 0),(.str []),(.sl [])] [(0,(.t 26))],none⟩,
 ⟨(some 28),.append false 4 (.t 20) (.t 27),none⟩,
 ⟨(some 29),.fieldAddr 3 (.t 3),none⟩,
 ⟨none,.store 1 (.t 29) (.t 28),none⟩] [16,19,20,21,22,23,24,25,26,27,28,29]))
 (.region [⟨(some 17),.mv (.t 4),none⟩,
 ⟨(some 18),.bin .add (.t 17) (.k (.c (.d (.int .i64 1)))),none⟩,
 ⟨(some 4),.mv (.t 18),none⟩] [17,18]))))))
 (.seq (.region [⟨(some 30),.load (some 4) (.t 3),none⟩,
 ⟨none,.store 4 (.t 2) (.t 30),none⟩] [3,30])
 (.ret))))
theorem ac45_ok : cFunc Try.prog [1000045] [(0,[0],[]),(1,[5,6,7,8,9,10,11],[]),(2,[],[]),(3,[12,13,14,15],[]),(5,[16,19,20,21,22,23,24,25,26,27,28,29],[0,2,4,1,3,5,6,7,8,9,10,11]),(4,[17,18],[]),(6,[3,30],[])] Try.f45 = some (ac45,[.cell 2 (some 4)],31) := by kernel_rfl
theorem take_map_succ {l : List Tm} {i : Nat} (h : i < l.length) : (l.map Tm.row).take (i + 1) = (l.map Tm.row).take i ++ [l[i].row] := by
  rw [List.take_succ_eq_append_getElem (by simpa using h)]; simp
theorem copy_calls : ∀ t : Tm, t.fits → ∀ H, ACalls Try.prog 45 [.agg (t.row.map .d)] H (fun r H' => H' = H ∧ r = .agg (t.row.map .d)) := by
  refine Tm.ind fun k n s l ih hfits H => ?_
  obtain ⟨hk, hn, hs, hl, hkids⟩ := hfits
  refine acalls Try.func45 (by kernel_rfl) ac45_ok fun hf => ?_
  have hli : inR .i64 (l.length : Int) := small_i64 (by omega) (by omega)
  simp -implicitDefEqProofs [ac45, row_mk, hf, hli, go_sem, -List.set_cons_succ, -List.set_cons_zero]
  refine loop_enter (St.le_tokenC 2 3 4 rfl rfl) ?_
  refine loop_set (σ := Nat) (fun i => [(4, .c (.d (.int .i64 i)))]) (fun _ => H) (fun i => [.cells [.d (.int .i64 k), .d (.int .i64 n), .d (.str s), .d (.sl (l.map Tm.row))], .cells [.d (.int .i64 0), .d (.int .i64 0), .d (.str []), .full []], .cells [.d (.int .i64 k), .d (.int .i64 n), .d (.str s), .own (.l 3) i ((l.map Tm.row).take i)], .grow i 4])
    (fun i => i ≤ l.length) (fun i => l.length - i) 0 rfl (Nat.zero_le _) ?_
  intro i hi
  simp -implicitDefEqProofs [setAll, hli, go_sem, -List.set_cons_succ, -List.set_cons_zero]
  refine ⟨fun hlt => ?_, fun hge => ?_⟩
  · have hadd : inR .i64 ((i : Int) + 1) := small_i64 (by omega) (by omega)
    refine row_of hlt (row_len _) ?_
    simp -implicitDefEqProofs [row_len, take_row, pure_d, re_d, go_sem, -List.set_cons_succ, -List.set_cons_zero]
    refine qcall_pure (ih l[i] (List.getElem_mem hlt) (hkids _ (List.getElem_mem hlt))) hf (by simp [A.re, re_d]) ?_
    simp -implicitDefEqProofs [row_len, toDs_map, hadd, hf, Nat.min_eq_left hi, go_sem, -List.set_cons_succ, -List.set_cons_zero]
    refine ⟨fun r hr => allLen_map row_len r (List.mem_of_mem_take hr), by unfold maxApp; omega, ?_⟩
    refine loop_back (i + 1) ?_ hlt (by show l.length - (i + 1) < l.length - i; omega)
    simp [setAll, take_map_succ hlt]
  · have hil : i = l.length := by omega
    subst hil
    rw [show (l.map Tm.row).take l.length = l.map Tm.row from List.take_of_length_le (by simp)]
    simp -implicitDefEqProofs [hf, go_sem, -List.set_cons_succ, -List.set_cons_zero]
end Go.Proofs.Ytoipdmomgjdnaaa

/-
  Structures that are made.
  Conditions: none.
-/
open Go Go.AM Go.Proofs
namespace Go.Proofs.Ytoipdmomgjdnaaa
open Go.ChangeShapes Go.WideShapes Go.ChangeAt Go.RowKit
set_option linter.unusedVariables false
set_option linter.unusedSimpArgs false
set_option maxRecDepth 100000
end Go.Proofs.Ytoipdmomgjdnaaa

/-
  Pairs of lists, and the empty list.
  Conditions: none.
-/
open Go Go.AM Go.Proofs
namespace Go.Proofs.Ytoipdmomgjdnaaa
open Go.ChangeShapes Go.WideShapes Go.ChangeAt Go.RowKit
set_option linter.unusedVariables false
set_option linter.unusedSimpArgs false
set_option maxRecDepth 100000
end Go.Proofs.Ytoipdmomgjdnaaa

/-
  Lists as terms: copies, chains, MakeList and ListOf of the program and of the reference.
  Conditions: none.
-/
open Go Go.AM Go.Proofs
namespace Go.Proofs.Ytoipdmomgjdnaaa
open Go.ChangeShapes Go.WideShapes Go.ChangeAt Go.RowKit
set_option linter.unusedVariables false
set_option linter.unusedSimpArgs false
set_option maxRecDepth 100000
end Go.Proofs.Ytoipdmomgjdnaaa

/-
  Goals that no clause is for.
  Conditions: none.
-/
open Go Go.AM Go.Proofs
namespace Go.Proofs.Ytoipdmomgjdnaaa
open Go.ChangeShapes Go.WideShapes Go.ChangeAt Go.RowKit
set_option linter.unusedVariables false
set_option linter.unusedSimpArgs false
set_option maxRecDepth 100000
-- 20 loop.example/prologserver/spec.UnknownGoals params 1 ntmps 51
-- loop head live: [0,3,4]
-- loop head live: [0,3,4,5]
def ac20 : Cd := .seq (.region [⟨(some 2),.mv (.k (.c (.full []))),none⟩] [2])
 (.seq (.region [⟨(some 7),.buildSlice 4 0 [(.int .i64 0),(.int .i64 0),(.str []),(.sl [])] [],none⟩,
 ⟨(some 3),.mv (.t 7),none⟩] [7])
 (.seq (.seq (.region [⟨(some 4),.mv (.k (.c (.d (.int .i64 0)))),none⟩] [])
 (.block 0 (.loop (.seq (.seq (.region [⟨(some 8),.mv (.t 4),none⟩,
 ⟨(some 9),.mv (.t 0),none⟩,
 ⟨(some 10),.len 1 (.t 9),none⟩,
 ⟨(some 11),.bin .lss (.t 8) (.t 10),none⟩,
 ⟨(some 12),.mv (.t 11),none⟩,
 ⟨(some 13),.mv (.t 0),some (12,true)⟩,
 ⟨(some 14),.qcall 25 [(.t 13)],some (12,true)⟩,
 ⟨(some 15),.pick (.t 12) (.t 14) (.k (.c (.d (.bool false)))),none⟩] [8,9,10,11,12,13,14])
 (.cond (.t 15)
 (.skip)
 (.exit 0)))
 (.seq (.block 1 (.seq (.region [⟨(some 5),.mv (.k (.c (.d (.int .i64 0)))),none⟩] [15])
 (.block 2 (.loop (.seq (.seq (.region [⟨(some 18),.mv (.t 5),none⟩,
 ⟨(some 19),.mv (.t 0),none⟩,
 ⟨(some 20),.mv (.t 4),none⟩,
 ⟨(some 21),.indexAddr 5 (.t 19) (.t 20),none⟩,
 ⟨(some 22),.fieldAddr 4 (.t 21),none⟩,
 ⟨(some 23),.load none (.t 22),none⟩,
 ⟨(some 24),.len 1 (.t 23),none⟩,
 ⟨(some 25),.bin .lss (.t 18) (.t 24),none⟩] [18,19,20,21,22,23,24])
 (.cond (.t 25)
 (.skip)
 (.exit 2)))
 (.seq (.block 3 (.seq (.region [⟨(some 28),.mv (.t 0),none⟩,
 ⟨(some 29),.mv (.t 4),none⟩,
 ⟨(some 30),.indexAddr 5 (.t 28) (.t 29),none⟩,
 ⟨(some 31),.fieldAddr 4 (.t 30),none⟩,
 ⟨(some 32),.load none (.t 31),none⟩,
 ⟨(some 33),.mv (.t 5),none⟩,
 ⟨(some 34),.indexAddr 4 (.t 32) (.t 33),none⟩,
 ⟨(some 35),.load (some 4) (.t 34),none⟩,
 ⟨(some 6),.alloc [(.d (.int .i64 0)),(.d (.int .i64 0)),(.d (.str [])),(.full [])],none⟩,
 ⟨none,.store 4 (.t 6) (.t 35),none⟩] [25,28,29,30,31,32,33,34,35])
 (.seq (.region [⟨(some 36),.load (some 4) (.t 6),none⟩,
 ⟨(some 37),.qcall 26 [(.t 36)],none⟩,
 ⟨(some 38),.mv (.t 37),none⟩,
 ⟨(some 39),.mv (.t 0),some (38,true)⟩,
 ⟨(some 40),.load (some 4) (.t 6),some (38,true)⟩,
 ⟨(some 41),.qcall 44 [(.t 39),(.t 40)],some (38,true)⟩,
 ⟨(some 42),.len 1 (.t 41),some (38,true)⟩,
 ⟨(some 43),.bin .eql (.t 42) (.k (.c (.d (.int .i64 0)))),some (38,true)⟩,
 ⟨(some 44),.pick (.t 38) (.t 43) (.k (.c (.d (.bool false)))),none⟩] [36,37,38,39,40,41,42,43])
 (.cond (.t 44)
 (.region [⟨(some 45),.mv (.t 3),none⟩,
 ⟨(some 46),.load (some 4) (.t 6),none⟩,
 ⟨(some 47),.qcall 45 [(.t 46)],none⟩,
 ⟨(some 48),.buildSlice 4 1 [(.int .i64 0),(.int .i64 0),(.str []),(.sl [])] [(0,(.t 47))],none⟩,
 ⟨(some 49),.append false 4 (.t 45) (.t 48),none⟩,
 ⟨(some 3),.mv (.t 49),none⟩] [6,44,45,46,47,48,49])
 (.skip)))))
 (.region [⟨(some 26),.mv (.t 5),none⟩,
 ⟨(some 27),.bin .add (.t 26) (.k (.c (.d (.int .i64 1)))),none⟩,
 ⟨(some 5),.mv (.t 27),none⟩] [6,26,27,44])))))))
 (.region [⟨(some 16),.mv (.t 4),none⟩,
 ⟨(some 17),.bin .add (.t 16) (.k (.c (.d (.int .i64 1)))),none⟩,
 ⟨(some 4),.mv (.t 17),none⟩] [16,17]))))))
 (.seq (.region [⟨(some 50),.mv (.t 3),none⟩,
 ⟨(some 2),.mv (.t 50),none⟩] [3,50])
 (.ret))))
theorem ac20_ok : cFunc Try.prog [1000025,1000026,1000044,1000045] [(0,[2],[]),(1,[7],[]),(2,[],[]),(3,[8,9,10,11,12,13,14],[]),(5,[15],[]),(6,[18,19,20,21,22,23,24],[]),(8,[25,28,29,30,31,32,33,34,35],[]),(9,[36,37,38,39,40,41,42,43],[]),(10,[6,44,45,46,47,48,49],[]),(7,[6,26,27,44],[]),(4,[16,17],[]),(11,[3,50],[])] Try.f20 = some (ac20,[.tmp 2],51) := by kernel_rfl
def unkB (p : List Cl) (g : Tm) : Bool := g.plain && (forI p g p.length).isEmpty
/-- the goals of a clause, of clauses -/
def unkC (p : List Cl) (c : Cl) : List Tm := c.body.filter (unkB p)
def unkT (p : List Cl) : Nat → List Tm
  | 0 => []
  | i + 1 => unkT p i ++ (match p[i]? with | some c => unkC p c | none => [])
def unkP (p : List Cl) : List Tm := if progB p then unkT p p.length else []
theorem unk_succ (p : List Cl) {i : Nat} (h : i < p.length) : unkT p (i + 1) = unkT p i ++ unkC p p[i] := by
  rw [unkT, List.getElem?_eq_getElem h]
theorem filt_succ (q : Tm → Bool) (l : List Tm) {i : Nat} (h : i < l.length) : (l.take (i + 1)).filter q = (l.take i).filter q ++ (if q l[i] then [l[i]] else []) := by
  rw [List.take_succ_eq_append_getElem h, List.filter_append]
  congr 1
  cases hq : q l[i] <;> simp [hq]
theorem body_len {p : List Cl} (h : progB p = true) {i : Nat} (hi : i < p.length) : p[i].body.length ≤ 6 := by
  have h2 : p[i].validB = true := by simp only [progB, Bool.and_eq_true, List.all_eq_true] at h; exact h.2 _ (List.getElem_mem hi)
  simp only [Cl.validB, goalsB, Bool.and_eq_true, decide_eq_true_eq] at h2
  exact h2.2.1
theorem unk_len {p : List Cl} (h : progB p = true) : ∀ i, i ≤ p.length → (unkT p i).length ≤ 6 * i
  | 0, _ => by simp [unkT]
  | i + 1, hi => by
    rw [unk_succ p (by omega), List.length_append]
    have h1 := unk_len h i (by omega)
    have h2 : (unkC p p[i]).length ≤ p[i].body.length := List.length_filter_le _ _
    have h3 := body_len h (i := i) (by omega)
    omega
theorem prog_len {p : List Cl} (h : progB p = true) : p.length ≤ 20 := by simp only [progB, Bool.and_eq_true, decide_eq_true_eq] at h; exact h.1
theorem unkSpec_calls (p : List Cl) (hp : FitsC p) (H : Heap) : ACalls Try.prog 20 [.c (.d (.sl (p.map Cl.row)))] H (fun r H' => H' = H ∧ r = .c (.d (.sl ((unkP p).map Tm.row)))) := by
  have hl := hp.1
  have hli : inR .i64 (p.length : Int) := small_i64 (by omega) (by omega)
  refine acalls Try.func20 (by kernel_rfl) ac20_ok fun hf => ?_
  simp -implicitDefEqProofs [ac20, hli, go_sem, -List.set_cons_succ, -List.set_cons_zero]
  refine loop_enter (St.le_token 3 4 rfl) ?_
  refine loop_set (σ := Nat) (fun i => [(4, .c (.d (.int .i64 i))), (3, .c (.own (.l 0) (unkT p i).length ((unkT p i).map Tm.row)))]) (fun _ => H) (fun i => [.grow (unkT p i).length 4]) (fun i => i ≤ p.length ∧ (0 < i → progB p = true)) (fun i => p.length - i) 0 rfl ⟨Nat.zero_le _, fun h => by omega⟩ ?_
  rintro i ⟨hi, hv⟩
  simp -implicitDefEqProofs [setAll, hli, go_sem, -List.set_cons_succ, -List.set_cons_zero]
  refine ⟨fun hlt => ⟨hlt, ?_⟩, fun hge => ?_⟩
  · have hpv := pvSpec_calls p hp
    cases hb : progB p with
    | false =>
      rw [hb] at hpv
      refine qcall_pure hpv hf rfl ?_
      simp -implicitDefEqProofs [hlt, go_sem, -List.set_cons_succ, -List.set_cons_zero]
      have : i = 0 := by
        rcases Nat.eq_zero_or_pos i with h | h
        · exact h
        · have := hv h; rw [hb] at this; cases this
      subst this
      simp [unkP, hb, unkT]
    | true =>
      rw [hb] at hpv
      refine qcall_pure hpv hf rfl ?_
      simp -implicitDefEqProofs [hlt, go_sem, -List.set_cons_succ, -List.set_cons_zero]
      have hbl := body_len hb hlt
      have hbi : inR .i64 (p[i].body.length : Int) := small_i64 (by omega) (by omega)
      have hpl := prog_len hb
      have hul := unk_len hb i hi
      have hc := hp.2 p[i] (List.getElem_mem hlt)
      obtain ⟨V, hV⟩ : ∃ V : Nat → List Tm, ∀ j, V j = unkT p i ++ (p[i].body.take j).filter (unkB p) := ⟨_, fun _ => rfl⟩
      refine loop_set (σ := Nat) (fun j => [(5, .c (.d (.int .i64 j))), (3, .c (.own (.l 0) (V j).length ((V j).map Tm.row)))]) (fun _ => H) (fun j => [.grow (V j).length 4]) (fun j => j ≤ p[i].body.length) (fun j => p[i].body.length - j) 0 (by simp [setAll, hV]) (Nat.zero_le _) ?_
      intro j hj
      obtain ⟨U, hU⟩ : ∃ U, U = V j := ⟨_, rfl⟩
      have hUl : U.length ≤ 6 * i + j := by
        have : ((p[i].body.take j).filter (unkB p)).length ≤ (p[i].body.take j).length := List.length_filter_le _ _
        rw [hU, hV, List.length_append]; simp at this; omega
      rw [← hU]
      simp -implicitDefEqProofs [setAll, hli, go_sem, -List.set_cons_succ, -List.set_cons_zero]
      refine row_of hlt rfl ?_
      simp -implicitDefEqProofs [Cl.row, hbi, go_sem, -List.set_cons_succ, -List.set_cons_zero]
      refine ⟨fun hjl => ?_, fun hje => ?_⟩
      · have hadd : inR .i64 ((j : Int) + 1) := small_i64 (by omega) (by omega)
        have hg := hc.body p[i].body[j] (List.getElem_mem hjl)
        have hfs := filt_succ (unkB p) p[i].body hjl
        refine row_of hlt rfl ?_
        simp -implicitDefEqProofs [Cl.row, hbi, go_sem, -List.set_cons_succ, -List.set_cons_zero]
        refine row_of hjl (row_len _) ?_
        simp -implicitDefEqProofs [row_len, take_row, pure_d, re_d, hf, go_sem, -List.set_cons_succ, -List.set_cons_zero]
        have hps := plainSpec_calls _ hg
        have nextF : unkB p p[i].body[j] = false → V (j + 1) = U := fun hq => by rw [hV, hfs, ← List.append_assoc, ← hV, ← hU, hq]; simp
        have nextT : unkB p p[i].body[j] = true → V (j + 1) = U ++ [p[i].body[j]] := fun hq => by rw [hV, hfs, ← List.append_assoc, ← hV, ← hU, hq]; simp
        cases hpn : p[i].body[j].plain with
        | false =>
          simp only [hpn] at hps
          refine qcall_pure hps hf rfl ?_
          have hnx := nextF (by simp [unkB, hpn])
          simp -implicitDefEqProofs [row_len, take_row, pure_d, re_d, hf, hadd, go_sem, -List.set_cons_succ, -List.set_cons_zero]
          refine loop_less (j + 1) (St.le_cut [_] ?_ (by simp [Sl.le, A.le_refl_iff, A.le_u_iff, As.lo, A.lo, C.lo, Ref.lo, Cs.lo, Obs.lo, Ob.lo, setAll, and_true, true_and, List.length_nil, List.length_cons]) (by rw [hnx]; rfl) ⟨trivial, trivial⟩) hjl (by show p[i].body.length - (j + 1) < p[i].body.length - j; omega)
          simp only [hnx]
          simp [setAll, Sl.le, A.le_refl_iff, A.le_u_iff, As.lo, A.lo, C.lo, Ref.lo, Cs.lo, Obs.lo, Ob.lo, setAll, and_true, true_and, List.length_nil, List.length_cons]
        | true =>
          simp only [hpn] at hps
          refine qcall_pure hps hf rfl ?_
          simp -implicitDefEqProofs [row_len, take_row, pure_d, re_d, hf, hadd, go_sem, -List.set_cons_succ, -List.set_cons_zero]
          refine qcall_pure (l4For_calls p hp _ hg) hf rfl ?_
          have hfl := forI_len p p[i].body[j] p.length
          have hfi : inR .i64 ((forI p p[i].body[j] p.length).length : Int) := small_i64 (by omega) (by omega)
          simp -implicitDefEqProofs [row_len, take_row, pure_d, re_d, hf, hadd, hfi, intRows_len, go_sem, -List.set_cons_succ, -List.set_cons_zero]
          refine ⟨fun he => ?_, fun he => ?_⟩
          · have hnx := nextT (by simp [unkB, hpn]; exact he)
            refine qcall_pure (copy_calls _ hg) hf (by simp [A.re, re_d]) ?_
            simp -implicitDefEqProofs [row_len, take_row, toDs_map, go_sem, -List.set_cons_succ, -List.set_cons_zero]
            refine ⟨allLen_map row_len, by unfold maxApp; omega, ?_⟩
            refine ⟨hadd, ?_⟩
            refine loop_less (j + 1) (St.le_cut [_] ?_ (by simp [Sl.le, A.le_refl_iff, A.le_u_iff, As.lo, A.lo, C.lo, Ref.lo, Cs.lo, Obs.lo, Ob.lo, setAll, and_true, true_and, List.length_nil, List.length_cons]) (by rw [hnx, List.length_append]; rfl) ⟨trivial, trivial⟩) hjl (by show p[i].body.length - (j + 1) < p[i].body.length - j; omega)
            simp only [hnx, List.map_append, List.length_append]
            simp [setAll, Sl.le, A.le_refl_iff, A.le_u_iff, As.lo, A.lo, C.lo, Ref.lo, Cs.lo, Obs.lo, Ob.lo, setAll, and_true, true_and, List.length_nil, List.length_cons]
          · have hnx := nextF (by simp [unkB, hpn]; exact he)
            refine loop_less (j + 1) (St.le_cut [_] ?_ (by simp [Sl.le, A.le_refl_iff, A.le_u_iff, As.lo, A.lo, C.lo, Ref.lo, Cs.lo, Obs.lo, Ob.lo, setAll, and_true, true_and, List.length_nil, List.length_cons]) (by rw [hnx]; rfl) ⟨trivial, trivial⟩) hjl (by show p[i].body.length - (j + 1) < p[i].body.length - j; omega)
            simp only [hnx]
            simp [setAll, Sl.le, A.le_refl_iff, A.le_u_iff, As.lo, A.lo, C.lo, Ref.lo, Cs.lo, Obs.lo, Ob.lo, setAll, and_true, true_and, List.length_nil, List.length_cons]
      · obtain rfl : j = p[i].body.length := by omega
        have hadd : inR .i64 ((i : Int) + 1) := small_i64 (by omega) (by omega)
        have hU2 : U = unkT p (i + 1) := by rw [hU, hV, unk_succ p hlt, List.take_length]; rfl
        rw [hU2]
        exact ⟨hadd, loop_less (i + 1) (St.le_slots (by simp [setAll, Sl.le, A.le_refl_iff, A.le_u_iff, As.lo, A.lo, C.lo, Ref.lo, Cs.lo, Obs.lo, Ob.lo, setAll, and_true, true_and, List.length_nil, List.length_cons])) hlt (by show p.length - (i + 1) < p.length - i; omega)⟩
  · obtain rfl : i = p.length := by omega
    cases hb : progB p with
    | true => simp [unkP, hb]
    | false =>
      have : p.length = 0 := by
        rcases Nat.eq_zero_or_pos p.length with h | h
        · exact h
        · have := hv h; rw [hb] at this; cases this
      simp [unkP, hb, this, unkT]
end Go.Proofs.Ytoipdmomgjdnaaa

/-
  Terms: how many there are.
  Conditions: none.
-/
open Go Go.AM Go.Proofs
namespace Go.Proofs.Ytoipdmomgjdnaaa
open Go.ChangeShapes Go.WideShapes Go.ChangeAt Go.RowKit
set_option linter.unusedVariables false
set_option linter.unusedSimpArgs false
set_option maxRecDepth 100000
mutual
/-- what a law's size takes off for a term -/
def Tm.wt : Tm → Nat
  | .mk _ _ s l => s.length + Tm.wts l
def Tm.wts : List Tm → Nat
  | [] => 0
  | t :: l => 1 + t.wt + Tm.wts l
end
mutual
/-- the terms below a term -/
def Tm.sub : Tm → Nat
  | .mk _ _ _ l => Tm.cnt l
def Tm.cnt : List Tm → Nat
  | [] => 0
  | t :: l => 1 + t.sub + Tm.cnt l
end
theorem sub_mk (k n : Int) (s : List UInt8) (l : List Tm) : (Tm.mk k n s l).sub = Tm.cnt l := by rw [Tm.sub]
theorem cnt_nil : Tm.cnt [] = 0 := by rw [Tm.cnt]
theorem cnt_cons (t : Tm) (l : List Tm) : Tm.cnt (t :: l) = 1 + t.sub + Tm.cnt l := by rw [Tm.cnt]
theorem wts_cons (t : Tm) (l : List Tm) : Tm.wts (t :: l) = 1 + t.wt + Tm.wts l := by rw [Tm.wts]
theorem wts_append (l r : List Tm) : Tm.wts (l ++ r) = Tm.wts l + Tm.wts r := by
  induction l with
  | nil => simp [Tm.wts]
  | cons t l ih => rw [List.cons_append, wts_cons, wts_cons, ih]; omega
theorem cnt_append (l r : List Tm) : Tm.cnt (l ++ r) = Tm.cnt l + Tm.cnt r := by
  induction l with
  | nil => simp [Tm.cnt]
  | cons t l ih => rw [List.cons_append, cnt_cons, cnt_cons, ih]; omega
theorem cnt_take_succ (l : List Tm) {i : Nat} (h : i < l.length) : Tm.cnt (l.take (i + 1)) = Tm.cnt (l.take i) + 1 + l[i].sub := by
  rw [List.take_succ_eq_append_getElem h, cnt_append, cnt_cons, cnt_nil]; omega
theorem wts_take_succ (l : List Tm) {i : Nat} (h : i < l.length) : Tm.wts (l.take (i + 1)) = Tm.wts (l.take i) + 1 + l[i].wt := by
  rw [List.take_succ_eq_append_getElem h, wts_append, wts_cons, Tm.wts]; omega
theorem cnt_take_le (l : List Tm) (i : Nat) : Tm.cnt (l.take i) ≤ Tm.cnt l := by
  have := cnt_append (l.take i) (l.drop i)
  rw [List.take_append_drop] at this
  omega
theorem cnt_take_sub (l : List Tm) {i : Nat} (h : i < l.length) : Tm.cnt (l.take i) + 1 + l[i].sub ≤ Tm.cnt l := by
  rw [← cnt_take_succ l h]; exact cnt_take_le l _
theorem sub_wt : ∀ t : Tm, t.sub ≤ t.wt := by
  refine Tm.ind fun k n s l ih => ?_
  rw [Tm.sub, Tm.wt]
  have : Tm.cnt l ≤ Tm.wts l := by
    clear k n s
    induction l with
    | nil => simp [Tm.cnt]
    | cons t l ih2 =>
      rw [cnt_cons, wts_cons]
      have := ih t (by simp)
      have := ih2 fun t ht => ih t (by simp [ht])
      omega
  omega
theorem cnt_wts (l : List Tm) : Tm.cnt l ≤ Tm.wts l := by
  induction l with
  | nil => simp [Tm.cnt]
  | cons t l ih => rw [cnt_cons, wts_cons]; have := sub_wt t; omega
/-- what is left, where enough is -/
def LeftW (m : Int) (p : Prop) (w : Nat) (r : A) : Prop := ∃ q : Int, r = .c (.d (.int .i64 q)) ∧ -1 ≤ q ∧ q ≤ m ∧ (0 ≤ q → p ∧ q + w ≤ m)
theorem LeftW.re {n : Nat} {m : Int} {p : Prop} {w : Nat} {r : A} (h : LeftW m p w r) : A.re n r = r := by
  obtain ⟨q, rfl, _⟩ := h
  rfl
theorem LeftW.left {m : Int} {p : Prop} {w : Nat} {r : A} (h : LeftW m p w r) : Left m p r := by
  obtain ⟨q, h1, h2, h3, h4⟩ := h
  exact ⟨q, h1, h2, h3, fun h => (h4 h).1⟩
def SzW (t : Tm) : Prop := ∀ (m : Int), 0 ≤ m → m ≤ 1048576 → ∀ H, ACalls Try.prog 36 [.agg (t.row.map .d), .c (.d (.int .i64 m))] H (fun r H' => H' = H ∧ LeftW m t.fits t.wt r)
theorem szwTermS_of (l : List Tm) (hl : l.length ≤ reachBytes) (h : ∀ t ∈ l, SzW t) (m : Int) (h0 : 0 ≤ m) (h1 : m ≤ 1048576) (H : Heap) :
    ACalls Try.prog 11 [.c (.d (.sl (l.map Tm.row))), .c (.d (.int .i64 m))] H (fun r H' => H' = H ∧ LeftW m (l.length ≤ 1048576 ∧ ∀ t ∈ l, t.fits) (Tm.wts l) r) := by
  refine acalls Try.func11 (by kernel_rfl) ac11_ok fun hf => ?_
  have hlen := reach_i64 hl
  have hsm := reach_small hl
  have hsub : inR .i64 (m - (l.length : Int)) := small_i64 (by omega) (by omega)
  simp -implicitDefEqProofs [ac11, hlen, hsub, go_sem, -List.set_cons_succ, -List.set_cons_zero]
  refine ⟨fun _ => ⟨-1, rfl, by omega, by omega, fun h => by omega⟩, fun hge => ?_⟩
  have hsmall : l.length ≤ 1048576 := by omega
  refine loop_set (σ := Nat × Int) (fun x => [(5, .c (.d (.int .i64 x.1))), (1, .c (.d (.int .i64 x.2)))]) (fun _ => H) (fun _ => []) (fun x => x.1 ≤ l.length ∧ 0 ≤ x.2 ∧ x.2 + Tm.wts (l.take x.1) + (l.length - x.1 : Nat) ≤ m ∧ ∀ t ∈ l.take x.1, t.fits) (fun x => l.length - x.1) (0, m - l.length) rfl ⟨Nat.zero_le _, by simp; omega, by simp [Tm.wts], by simp⟩ ?_
  rintro ⟨i, k⟩ ⟨hi, hm0, hm1, hall⟩
  simp only at hi hm0 hm1 hall
  simp -implicitDefEqProofs [setAll, hlen, go_sem, -List.set_cons_succ, -List.set_cons_zero]
  refine ⟨fun hlt => ?_, fun hge => ⟨k, rfl, by omega, by omega, fun _ => ⟨⟨hsmall, by rw [List.take_of_length_le hge] at hall; exact hall⟩, by rw [List.take_of_length_le hge] at hm1; omega⟩⟩⟩
  refine row_of hlt (row_len _) ?_
  simp -implicitDefEqProofs [row_len, take_row, pure_d, re_d, go_sem, -List.set_cons_succ, -List.set_cons_zero]
  refine call_some (h l[i] (List.getElem_mem hlt) k hm0 (by omega) _) (by simp) (fun r => LeftW.re) hf ?_
  rintro _ ⟨q, rfl, hq0, hq1, hq2⟩
  have hadd : inR .i64 ((i : Int) + 1) := small_i64 (by omega) (by omega)
  simp -implicitDefEqProofs [hadd, go_sem, -List.set_cons_succ, -List.set_cons_zero]
  refine ⟨fun _ => ⟨-1, rfl, by omega, by omega, fun h => by omega⟩, fun hk => ?_⟩
  have hw := wts_take_succ l hlt
  have hq3 := (hq2 hk).2
  refine loop_back (i + 1, q) (by simp [setAll]) ⟨hlt, hk, by simp only [hw]; omega, fun t ht => ?_⟩ (by show l.length - (i + 1) < l.length - i; omega)
  rw [List.take_succ_eq_append_getElem hlt, List.mem_append] at ht
  rcases ht with ht | ht
  · exact hall t ht
  · simp at ht; subst ht; exact (hq2 hk).1
theorem szwTerm_calls : ∀ t : Tm, t.fine → SzW t := by
  refine Tm.ind fun k n s l ih hfine m h0 h1 H => ?_
  obtain ⟨hk, hn, hs, hl, hkids⟩ := hfine
  refine acalls Try.func36 (by kernel_rfl) ac36_ok fun hf => ?_
  have hlen := reach_i64 hs
  have hsm := reach_small hs
  have hsub : inR .i64 (m - (s.length : Int)) := small_i64 (by omega) (by omega)
  simp -implicitDefEqProofs [ac36, row_mk, hlen, hsub, go_sem, -List.set_cons_succ, -List.set_cons_zero]
  refine ⟨fun _ => ⟨-1, rfl, by omega, by omega, fun h => by omega⟩, fun hge => ?_⟩
  refine call_some (szwTermS_of l hl (fun t ht => ih t ht (hkids t ht)) (m - s.length) (by omega) (by omega) _) (by simp [Ob.re, C.re]) (fun r => LeftW.re) hf ?_
  rintro _ ⟨q, rfl, hq0, hq1, hq2⟩
  simp -implicitDefEqProofs [go_sem, -List.set_cons_succ, -List.set_cons_zero]
  exact ⟨fun _ => ⟨-1, rfl, by omega, by omega, fun h => by omega⟩, fun hq => ⟨q, rfl, by omega, by omega, fun _ => ⟨.mk hk hn (by omega) (hq2 hq).1.1 (hq2 hq).1.2, by have := (hq2 hq).2; rw [Tm.wt]; omega⟩⟩⟩
theorem szwTermS_calls (l : List Tm) (hl : l.length ≤ reachBytes) (h : ∀ t ∈ l, t.fine) (m : Int) (h0 : 0 ≤ m) (h1 : m ≤ 1048576) (H : Heap) :
    ACalls Try.prog 11 [.c (.d (.sl (l.map Tm.row))), .c (.d (.int .i64 m))] H (fun r H' => H' = H ∧ LeftW m (l.length ≤ 1048576 ∧ ∀ t ∈ l, t.fits) (Tm.wts l) r) :=
  szwTermS_of l hl (fun t ht => szwTerm_calls t (h t ht)) m h0 h1 H
end Go.Proofs.Ytoipdmomgjdnaaa

/-
  Rows that are marked one after the other.
  Conditions: none.
-/
open Go Go.AM Go.Proofs
namespace Go.Proofs.Ytoipdmomgjdnaaa
set_option linter.unusedVariables false
set_option linter.unusedSimpArgs false
/-- the first i rows are new ones -/
def mixed {α : Type} (f : Nat → α) (rows : List α) (i : Nat) : List α := (List.range i).map f ++ rows.drop i
theorem mixed_zero {α : Type} (f : Nat → α) (rows : List α) : mixed f rows 0 = rows := by simp [mixed]
theorem mixed_len {α : Type} (f : Nat → α) (rows : List α) {i : Nat} (h : i ≤ rows.length) : (mixed f rows i).length = rows.length := by simp [mixed]; omega
theorem mixed_get {α : Type} (f : Nat → α) (rows : List α) {i : Nat} (h : i < rows.length) : (mixed f rows i)[i]? = some rows[i] := by
  rw [mixed, List.getElem?_append_right (by simp)]
  simp [h]
theorem mixed_set {α : Type} (f : Nat → α) (rows : List α) {i : Nat} (h : i < rows.length) : (mixed f rows i).set i (f i) = mixed f rows (i + 1) := by
  rw [mixed, mixed, List.set_append_right _ _ (by simp), List.drop_eq_getElem_cons h, List.range_succ]
  simp only [List.length_map, List.length_range, Nat.sub_self, List.set_cons_zero, List.map_append, List.map_cons, List.map_nil, List.append_assoc, List.cons_append, List.nil_append]
theorem mixed_get' {α : Type} (f : Nat → α) (rows : List α) {i j : Nat} (h : i ≤ rows.length) : (mixed f rows i)[j]? = if j < i then some (f j) else rows[j]? := by
  rw [mixed]
  by_cases hj : j < i
  · rw [List.getElem?_append_left (by simpa using hj), if_pos hj]; simp [hj]
  · rw [List.getElem?_append_right (by simp; omega), if_neg hj, List.getElem?_drop]
    congr 1
    simp; omega
end Go.Proofs.Ytoipdmomgjdnaaa

/-
  The law's text for a mark.
  Conditions: none.
-/
open Go Go.AM Go.Proofs
namespace Go.Proofs.Ytoipdmomgjdnaaa
open Go.ChangeShapes Go.WideShapes Go.ChangeAt Go.RowKit
set_option linter.unusedVariables false
set_option linter.unusedSimpArgs false
set_option maxRecDepth 100000
-- 43 loop.example/prologserver/laws.markText params 1 ntmps 20
-- loop head live: [0,3]
def ac43 : Cd := .seq (.region [⟨(some 2),.mv (.k (.c (.d (.str [])))),none⟩] [2])
 (.seq (.seq (.region [⟨(some 4),.mv (.t 0),none⟩,
 ⟨(some 5),.bin .leq (.t 4) (.k (.c (.d (.int .i64 0)))),none⟩] [4])
 (.cond (.t 5)
 (.seq (.region [⟨(some 2),.mv (.k (.c (.d (.str [109,48])))),none⟩] [0,5])
 (.ret))
 (.skip)))
 (.seq (.region [⟨(some 3),.mv (.k (.c (.d (.str [])))),none⟩] [2,5])
 (.seq (.block 0 (.loop (.seq (.seq (.region [⟨(some 6),.mv (.t 0),none⟩,
 ⟨(some 7),.bin .gtr (.t 6) (.k (.c (.d (.int .i64 0)))),none⟩] [6])
 (.cond (.t 7)
 (.skip)
 (.exit 0)))
 (.block 1 (.seq (.region [⟨(some 8),.mv (.t 0),none⟩,
 ⟨(some 9),.bin .rem (.t 8) (.k (.c (.d (.int .i64 10)))),none⟩,
 ⟨(some 10),.bin .add (.k (.c (.d (.int .i64 48)))) (.t 9),none⟩,
 ⟨(some 11),.cvInt .u8 (.t 10),none⟩,
 ⟨(some 12),.buildSlice 1 1 [(.int .u8 0)] [(0,(.t 11))],none⟩,
 ⟨(some 13),.cvB2S (.t 12),none⟩,
 ⟨(some 14),.mv (.t 3),none⟩,
 ⟨(some 15),.bin .add (.t 13) (.t 14),none⟩,
 ⟨(some 3),.mv (.t 15),none⟩] [7,8,9,10,11,12,13,14,15])
 (.region [⟨(some 16),.mv (.t 0),none⟩,
 ⟨(some 17),.bin .quo (.t 16) (.k (.c (.d (.int .i64 10)))),none⟩,
 ⟨(some 0),.mv (.t 17),none⟩] [16,17]))))))
 (.seq (.region [⟨(some 18),.mv (.t 3),none⟩,
 ⟨(some 19),.bin .add (.k (.c (.d (.str [109])))) (.t 18),none⟩,
 ⟨(some 2),.mv (.t 19),none⟩] [3,18,19])
 (.ret)))))
theorem ac43_ok : cFunc Try.prog [] [(0,[2],[]),(1,[4],[]),(2,[0,5],[]),(3,[2,5],[]),(4,[6],[]),(5,[7,8,9,10,11,12,13,14,15],[]),(6,[16,17],[]),(7,[3,18,19],[])] Try.f43 = some (ac43,[.tmp 2],20) := by kernel_rfl
def digs (k : Nat) (out : List UInt8) : List UInt8 := if h : k = 0 then out else digs (k / 10) (UInt8.ofNat (48 + k % 10) :: out)
termination_by k
decreasing_by omega
theorem digs_go {k : Nat} {out : List UInt8} (h : 0 < k) : digs k out = digs (k / 10) (UInt8.ofNat (48 + k % 10) :: out) := by rw [digs, dif_neg (by omega)]
theorem digs_zero (out : List UInt8) : digs 0 out = out := by rw [digs, dif_pos rfl]
def mText (k : Int) : List UInt8 := if k ≤ 0 then [109, 48] else 109 :: digs k.toNat []
theorem markText_calls (k : Int) (hk : k ≤ 1000000000000000) (H : Heap) : ACalls Try.prog 43 [.c (.d (.int .i64 k))] H (fun r H' => H' = H ∧ r = .c (.d (.str (mText k)))) := by
  refine acalls Try.func43 (by kernel_rfl) ac43_ok fun hf => ?_
  simp -implicitDefEqProofs [ac43, go_sem, -List.set_cons_succ, -List.set_cons_zero]
  refine ⟨fun h => by simp [mText, h], fun h => ?_⟩
  refine loop_set (σ := Nat × List UInt8) (fun x => [(0, .c (.d (.int .i64 x.1))), (3, .c (.d (.str x.2)))]) (fun _ => H) (fun _ => []) (fun x => x.1 + x.2.length ≤ k.toNat ∧ digs x.1 x.2 = digs k.toNat []) (fun x => x.1) (k.toNat, []) (by simp [setAll]; omega) ⟨by simp, rfl⟩ ?_
  rintro ⟨n, out⟩ ⟨h1, h2⟩
  simp only at h1 h2
  have hn : (n : Int) ≤ 1000000000000000 := by omega
  have hm : ((n : Int).tmod 10) = ((n % 10 : Nat) : Int) := by rw [Int.tmod_eq_emod_of_nonneg (by omega)]; omega
  have hd : ((n : Int).tdiv 10) = ((n / 10 : Nat) : Int) := by rw [Int.tdiv_eq_ediv_of_nonneg (by omega)]; omega
  have hr : inR .i64 (((n % 10 : Nat) : Int)) := small_i64 (by omega) (by omega)
  have hr2 : inR .i64 (48 + ((n % 10 : Nat) : Int)) := small_i64 (by omega) (by omega)
  have hq : inR .i64 ((n / 10 : Nat) : Int) := small_i64 (by omega) (by omega)
  have hw : IntKind.u8.wrap (48 + ((n % 10 : Nat) : Int)) = ((UInt8.ofNat (48 + n % 10)).toNat : Int) := by
    rw [UInt8.toNat_ofNat']
    simp [IntKind.wrap, IntKind.signed, IntKind.bits]
  have hb : [[D.int IntKind.u8 (IntKind.u8.wrap (48 + ((n % 10 : Nat) : Int)))]] = bytesRows [UInt8.ofNat (48 + n % 10)] := by rw [hw]; rfl
  simp only [Int.natCast_emod, Int.natCast_ediv, Int.cast_ofNat_Int] at hr hr2 hq hb
  simp -implicitDefEqProofs [setAll, hm, hd, hr, hr2, hq, go_sem, -List.set_cons_succ, -List.set_cons_zero]
  refine ⟨fun hlt => ?_, fun h0 => ⟨by unfold maxStr; omega, ?_⟩⟩
  · rw [hb]
    refine b2s_of ?_
    have hgo := digs_go (out := out) hlt
    simp -implicitDefEqProofs [hm, hd, hr, hr2, hq, go_sem, -List.set_cons_succ, -List.set_cons_zero]
    refine ⟨by unfold maxStr; omega, ?_⟩
    refine loop_back (n / 10, UInt8.ofNat (48 + n % 10) :: out) (by simp [setAll]) ⟨?_, by rw [← hgo]; exact h2⟩ (by show n / 10 < n; omega)
    simp
    omega
  · subst h0
    rw [digs_zero] at h2
    rw [mText, if_neg (by omega), h2]
end Go.Proofs.Ytoipdmomgjdnaaa
