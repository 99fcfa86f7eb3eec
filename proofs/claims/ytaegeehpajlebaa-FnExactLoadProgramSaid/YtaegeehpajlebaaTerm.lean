/-
  Terms as data: what the laws' sizes, copies and comparisons of terms answer, and TermSame.
  Conditions: none.
-/
import Derived.Test.YtaegeehpajlebaaBase
open Go Go.AM Go.Proofs
namespace Go.Proofs.Ytaegeehpajlebaa
open Go.ChangeShapes Go.WideShapes Go.ChangeAt Go.RowKit
set_option linter.unusedVariables false
set_option linter.unusedSimpArgs false
set_option maxRecDepth 100000
/-- a term -/
inductive Tm where
  | mk (k n : Int) (s : List UInt8) (kids : List Tm)
  deriving Inhabited
def Tm.k : Tm → Int | .mk k _ _ _ => k
def Tm.n : Tm → Int | .mk _ n _ _ => n
def Tm.s : Tm → List UInt8 | .mk _ _ s _ => s
def Tm.kids : Tm → List Tm | .mk _ _ _ l => l
noncomputable instance : DecidableEq Tm := fun a b => Classical.propDecidable (a = b)
mutual
def Tm.row : Tm → List D
  | .mk k n s l => [.int .i64 k, .int .i64 n, .str s, .sl (Tm.rows l)]
def Tm.rows : List Tm → List (List D)
  | [] => []
  | t :: l => t.row :: Tm.rows l
end
theorem rows_map : ∀ l : List Tm, Tm.rows l = l.map Tm.row
  | [] => rfl
  | t :: l => by rw [Tm.rows, rows_map l]; rfl
theorem row_mk (k n : Int) (s : List UInt8) (l : List Tm) : (Tm.mk k n s l).row = [.int .i64 k, .int .i64 n, .str s, .sl (l.map Tm.row)] := by rw [Tm.row, rows_map]
theorem row_eq (t : Tm) : t.row = [.int .i64 t.k, .int .i64 t.n, .str t.s, .sl (t.kids.map Tm.row)] := by
  obtain ⟨k, n, s, l⟩ := t
  exact row_mk k n s l
theorem row_len (t : Tm) : t.row.length = 4 := by cases t; rfl
theorem Tm.ind {p : Tm → Prop} (h : ∀ k n s l, (∀ t ∈ l, p t) → p (.mk k n s l)) : ∀ t, p t := by
  intro t
  induction hs : SizeOf.sizeOf t using Nat.strongRecOn generalizing t with
  | ind m ih =>
    obtain ⟨k, n, s, l⟩ := t
    refine h k n s l fun t ht => ih (SizeOf.sizeOf t) ?_ t rfl
    have := List.sizeOf_lt_of_mem ht
    simp at hs
    omega
/-- a term that can be handed in -/
inductive Tm.fine : Tm → Prop
  | mk {k n : Int} {s : List UInt8} {l : List Tm} : inR .i64 k → inR .i64 n → s.length ≤ reachBytes → l.length ≤ reachBytes → (∀ t ∈ l, t.fine) → (Tm.mk k n s l).fine
/-- a term that a law looks at -/
inductive Tm.fits : Tm → Prop
  | mk {k n : Int} {s : List UInt8} {l : List Tm} : inR .i64 k → inR .i64 n → s.length ≤ 1048576 → l.length ≤ 1048576 → (∀ t ∈ l, t.fits) → (Tm.mk k n s l).fits
theorem take_row (t : Tm) : List.take 4 (List.map C.d t.row) = List.map C.d t.row := List.take_of_length_le (by simp [row_len])
theorem take_snoc {α : Type} {l r : List α} {i : Nat} (hi : i < l.length) (hr : i < r.length) (h : l.take i = r.take i) (he : l[i] = r[i]) : l.take (i + 1) = r.take (i + 1) := by
  rw [List.take_succ_eq_append_getElem hi, List.take_succ_eq_append_getElem hr, h, he]
-- 18 loop.example/prologserver/laws.szTermS params 2 ntmps 27
-- loop head live: [0, 1, 5]
def ac18 : Cd := .seq (.region [⟨(some 4), .mv (.k (.c (.d (.int .i64 0)))), none⟩] [4])
  (.seq (.region [⟨(some 6), .mv (.t 1), none⟩,
      ⟨(some 7), .mv (.t 0), none⟩,
      ⟨(some 8), .len 1 (.t 7), none⟩,
      ⟨(some 9), .bin .sub (.t 6) (.t 8), none⟩,
      ⟨(some 1), .mv (.t 9), none⟩] [6, 7, 8, 9])
  (.seq (.seq (.region [⟨(some 10), .mv (.t 1), none⟩,
        ⟨(some 11), .bin .lss (.t 10) (.k (.c (.d (.int .i64 0)))), none⟩] [10])
    (.cond (.t 11)
      (.seq (.region [⟨(some 4), .mv (.k (.c (.d (.int .i64 (-1))))), none⟩] [0, 1, 11])
      (.ret))
      (.skip)))
  (.seq (.seq (.region [⟨(some 5), .mv (.k (.c (.d (.int .i64 0)))), none⟩] [4, 11])
    (.block 0 (.loop (.seq (.seq (.region [⟨(some 12), .mv (.t 5), none⟩,
              ⟨(some 13), .mv (.t 0), none⟩,
              ⟨(some 14), .len 1 (.t 13), none⟩,
              ⟨(some 15), .bin .lss (.t 12) (.t 14), none⟩] [12, 13, 14])
          (.cond (.t 15)
            (.skip)
            (.exit 0)))
        (.seq (.block 1 (.seq (.region [⟨(some 18), .mv (.t 0), none⟩,
                ⟨(some 19), .mv (.t 5), none⟩,
                ⟨(some 20), .indexAddr 4 (.t 18) (.t 19), none⟩,
                ⟨(some 21), .load (some 4) (.t 20), none⟩,
                ⟨(some 22), .mv (.t 1), none⟩,
                ⟨(some 23), .call false 7 [(.t 21), (.t 22)], none⟩,
                ⟨(some 1), .mv (.t 23), none⟩] [15, 18, 19, 20, 21, 22, 23])
            (.seq (.region [⟨(some 24), .mv (.t 1), none⟩,
                ⟨(some 25), .bin .lss (.t 24) (.k (.c (.d (.int .i64 0)))), none⟩] [24])
            (.cond (.t 25)
              (.seq (.region [⟨(some 4), .mv (.k (.c (.d (.int .i64 (-1))))), none⟩] [0, 1, 5, 25])
              (.ret))
              (.skip)))))
        (.region [⟨(some 16), .mv (.t 5), none⟩,
          ⟨(some 17), .bin .add (.t 16) (.k (.c (.d (.int .i64 1)))), none⟩,
          ⟨(some 5), .mv (.t 17), none⟩] [4, 16, 17, 25]))))))
  (.seq (.region [⟨(some 26), .mv (.t 1), none⟩,
      ⟨(some 4), .mv (.t 26), none⟩] [1, 26])
  (.ret)))))
theorem ac18_ok : cFunc Try.prog [] [(0, [4], []), (1, [6, 7, 8, 9], []), (2, [10], []), (3, [0, 1, 11], []), (4, [4, 11], []), (5, [12, 13, 14], []), (7, [15, 18, 19, 20, 21, 22, 23], []), (8, [24], []), (9, [0, 1, 5, 25], []), (6, [4, 16, 17, 25], []), (10, [1, 26], [])] Try.f18 = some (ac18, [.tmp 4], 27) := by kernel_rfl
-- 7 loop.example/prologserver/laws.szTerm params 2 ntmps 19
def ac7 : Cd := .seq (.region [⟨(some 2), .box (.t 0), none⟩,
      ⟨(some 4), .mv (.k (.c (.d (.int .i64 0)))), none⟩] [0, 4])
  (.seq (.region [⟨(some 5), .mv (.t 1), none⟩,
      ⟨(some 6), .fieldAddr 2 (.t 2), none⟩,
      ⟨(some 7), .load none (.t 6), none⟩,
      ⟨(some 8), .len 0 (.t 7), none⟩,
      ⟨(some 9), .bin .sub (.t 5) (.t 8), none⟩,
      ⟨(some 1), .mv (.t 9), none⟩] [5, 6, 7, 8, 9])
  (.seq (.seq (.region [⟨(some 10), .mv (.t 1), none⟩,
        ⟨(some 11), .bin .lss (.t 10) (.k (.c (.d (.int .i64 0)))), none⟩] [10])
    (.cond (.t 11)
      (.seq (.region [⟨(some 4), .mv (.k (.c (.d (.int .i64 (-1))))), none⟩] [1, 2, 11])
      (.ret))
      (.skip)))
  (.seq (.region [⟨(some 12), .fieldAddr 3 (.t 2), none⟩,
      ⟨(some 13), .load none (.t 12), none⟩,
      ⟨(some 14), .mv (.t 1), none⟩,
      ⟨(some 15), .call false 18 [(.t 13), (.t 14)], none⟩,
      ⟨(some 1), .mv (.t 15), none⟩] [2, 4, 11, 12, 13, 14, 15])
  (.seq (.seq (.region [⟨(some 16), .mv (.t 1), none⟩,
        ⟨(some 17), .bin .lss (.t 16) (.k (.c (.d (.int .i64 0)))), none⟩] [16])
    (.cond (.t 17)
      (.seq (.region [⟨(some 4), .mv (.k (.c (.d (.int .i64 (-1))))), none⟩] [1, 17])
      (.ret))
      (.skip)))
  (.seq (.region [⟨(some 18), .mv (.t 1), none⟩,
      ⟨(some 4), .mv (.t 18), none⟩] [1, 17, 18])
  (.ret))))))
theorem ac7_ok : cFunc Try.prog [] [(0, [0, 4], []), (1, [5, 6, 7, 8, 9], []), (2, [10], []), (3, [1, 2, 11], []), (4, [2, 4, 11, 12, 13, 14, 15], []), (5, [16], []), (6, [1, 17], []), (7, [1, 17, 18], [])] Try.f7 = some (ac7, [.tmp 4], 19) := by kernel_rfl
-- 20 loop.example/prologserver/laws.toTermS params 1 ntmps 23
-- loop head live: [0, 3, 4]
def ac20 : Cd := .seq (.region [⟨(some 2), .mv (.k (.c (.full []))), none⟩] [2])
  (.seq (.region [⟨(some 5), .mv (.t 0), none⟩,
      ⟨(some 6), .len 1 (.t 5), none⟩,
      ⟨(some 7), .mkSlice [(.int .i64 0), (.int .i64 0), (.str []), (.sl [])] (.t 6), none⟩,
      ⟨(some 3), .mv (.t 7), none⟩] [5, 6, 7])
  (.seq (.seq (.region [⟨(some 4), .mv (.k (.c (.d (.int .i64 0)))), none⟩] [])
    (.block 0 (.loop (.seq (.seq (.region [⟨(some 8), .mv (.t 4), none⟩,
              ⟨(some 9), .mv (.t 0), none⟩,
              ⟨(some 10), .len 1 (.t 9), none⟩,
              ⟨(some 11), .bin .lss (.t 8) (.t 10), none⟩] [8, 9, 10])
          (.cond (.t 11)
            (.skip)
            (.exit 0)))
        (.seq (.block 1 (.region [⟨(some 14), .mv (.t 3), none⟩,
              ⟨(some 15), .mv (.t 4), none⟩,
              ⟨(some 16), .mv (.t 0), none⟩,
              ⟨(some 17), .mv (.t 4), none⟩,
              ⟨(some 18), .indexAddr 4 (.t 16) (.t 17), none⟩,
              ⟨(some 19), .load (some 4) (.t 18), none⟩,
              ⟨(some 20), .qcall 10 [(.t 19)], none⟩,
              ⟨(some 21), .indexAddr 4 (.t 14) (.t 15), none⟩,
              ⟨none, .store 4 (.t 21) (.t 20), none⟩] [11, 14, 15, 16, 17, 18, 19, 20, 21]))
        (.region [⟨(some 12), .mv (.t 4), none⟩,
          ⟨(some 13), .bin .add (.t 12) (.k (.c (.d (.int .i64 1)))), none⟩,
          ⟨(some 4), .mv (.t 13), none⟩] [12, 13]))))))
  (.seq (.region [⟨(some 22), .mv (.t 3), none⟩,
      ⟨(some 2), .mv (.t 22), none⟩] [3, 22])
  (.ret))))
theorem ac20_ok : cFunc Try.prog [1000010] [(0, [2], []), (1, [5, 6, 7], []), (2, [], []), (3, [8, 9, 10], []), (5, [11, 14, 15, 16, 17, 18, 19, 20, 21], []), (4, [12, 13], []), (6, [3, 22], [])] Try.f20 = some (ac20, [.tmp 2], 23) := by kernel_rfl
-- 10 loop.example/prologserver/laws.toTerm params 1 ntmps 18
def ac10 : Cd := .seq (.region [⟨(some 1), .box (.t 0), none⟩,
      ⟨(some 2), .alloc [(.d (.int .i64 0)), (.d (.int .i64 0)), (.d (.str [])), (.full [])], none⟩] [0])
  (.seq (.region [⟨(some 3), .alloc [(.d (.int .i64 0)), (.d (.int .i64 0)), (.d (.str [])), (.full [])], none⟩] [])
  (.seq (.region [⟨(some 4), .fieldAddr 0 (.t 1), none⟩,
      ⟨(some 5), .load none (.t 4), none⟩,
      ⟨(some 6), .fieldAddr 0 (.t 3), none⟩,
      ⟨none, .store 1 (.t 6) (.t 5), none⟩] [4, 5, 6])
  (.seq (.region [⟨(some 7), .fieldAddr 1 (.t 1), none⟩,
      ⟨(some 8), .load none (.t 7), none⟩,
      ⟨(some 9), .fieldAddr 1 (.t 3), none⟩,
      ⟨none, .store 1 (.t 9) (.t 8), none⟩] [7, 8, 9])
  (.seq (.region [⟨(some 10), .fieldAddr 2 (.t 1), none⟩,
      ⟨(some 11), .load none (.t 10), none⟩,
      ⟨(some 12), .fieldAddr 2 (.t 3), none⟩,
      ⟨none, .store 1 (.t 12) (.t 11), none⟩] [10, 11, 12])
  (.seq (.region [⟨(some 13), .fieldAddr 3 (.t 1), none⟩,
      ⟨(some 14), .load none (.t 13), none⟩,
      ⟨(some 15), .qcall 20 [(.t 14)], none⟩,
      ⟨(some 16), .fieldAddr 3 (.t 3), none⟩,
      ⟨none, .store 1 (.t 16) (.t 15), none⟩] [1, 13, 14, 15, 16])
  (.seq (.region [⟨(some 17), .load (some 4) (.t 3), none⟩,
      ⟨none, .store 4 (.t 2) (.t 17), none⟩] [3, 17])
  (.ret)))))))
theorem ac10_ok : cFunc Try.prog [1000020] [(0, [0], []), (1, [], []), (2, [4, 5, 6], []), (3, [7, 8, 9], []), (4, [10, 11, 12], []), (5, [1, 13, 14, 15, 16], []), (6, [3, 17], [])] Try.f10 = some (ac10, [.cell 2 (some 4)], 18) := by kernel_rfl
-- 23 loop.example/prologserver/laws.eqTermS params 2 ntmps 27
-- loop head live: [0, 1, 5]
def ac23 : Cd := .seq (.region [⟨(some 4), .mv (.k (.c (.d (.bool false)))), none⟩] [4])
  (.seq (.seq (.region [⟨(some 6), .mv (.t 0), none⟩,
        ⟨(some 7), .len 1 (.t 6), none⟩,
        ⟨(some 8), .mv (.t 1), none⟩,
        ⟨(some 9), .len 1 (.t 8), none⟩,
        ⟨(some 10), .bin .neq (.t 7) (.t 9), none⟩] [6, 7, 8, 9])
    (.cond (.t 10)
      (.seq (.region [⟨(some 4), .mv (.k (.c (.d (.bool false)))), none⟩] [0, 1, 10])
      (.ret))
      (.skip)))
  (.seq (.seq (.region [⟨(some 5), .mv (.k (.c (.d (.int .i64 0)))), none⟩] [4, 10])
    (.block 0 (.loop (.seq (.seq (.region [⟨(some 11), .mv (.t 5), none⟩,
              ⟨(some 12), .mv (.t 0), none⟩,
              ⟨(some 13), .len 1 (.t 12), none⟩,
              ⟨(some 14), .bin .lss (.t 11) (.t 13), none⟩] [11, 12, 13])
          (.cond (.t 14)
            (.skip)
            (.exit 0)))
        (.seq (.block 1 (.seq (.region [⟨(some 17), .mv (.t 0), none⟩,
                ⟨(some 18), .mv (.t 5), none⟩,
                ⟨(some 19), .indexAddr 4 (.t 17) (.t 18), none⟩,
                ⟨(some 21), .mv (.t 1), none⟩,
                ⟨(some 22), .mv (.t 5), none⟩,
                ⟨(some 23), .indexAddr 4 (.t 21) (.t 22), none⟩,
                ⟨(some 20), .load (some 4) (.t 19), none⟩,
                ⟨(some 24), .load (some 4) (.t 23), none⟩,
                ⟨(some 25), .qcall 13 [(.t 20), (.t 24)], none⟩,
                ⟨(some 26), .un .not (.t 25), none⟩] [14, 17, 18, 19, 20, 21, 22, 23, 24, 25])
            (.cond (.t 26)
              (.seq (.region [⟨(some 4), .mv (.k (.c (.d (.bool false)))), none⟩] [0, 1, 5, 26])
              (.ret))
              (.skip))))
        (.region [⟨(some 15), .mv (.t 5), none⟩,
          ⟨(some 16), .bin .add (.t 15) (.k (.c (.d (.int .i64 1)))), none⟩,
          ⟨(some 5), .mv (.t 16), none⟩] [4, 15, 16, 26]))))))
  (.seq (.region [⟨(some 4), .mv (.k (.c (.d (.bool true)))), none⟩] [])
  (.ret))))
theorem ac23_ok : cFunc Try.prog [1000013] [(0, [4], []), (1, [6, 7, 8, 9], []), (2, [0, 1, 10], []), (3, [4, 10], []), (4, [11, 12, 13], []), (6, [14, 17, 18, 19, 20, 21, 22, 23, 24, 25], [0, 1, 2, 4, 5, 6, 3, 7, 8, 9]), (7, [0, 1, 5, 26], []), (5, [4, 15, 16, 26], []), (8, [], [])] Try.f23 = some (ac23, [.tmp 4], 27) := by kernel_rfl
-- 13 loop.example/prologserver/laws.eqTerm params 2 ntmps 26
def ac13 : Cd := .seq (.region [⟨(some 2), .box (.t 0), none⟩,
      ⟨(some 3), .box (.t 1), none⟩,
      ⟨(some 4), .mv (.k (.c (.d (.bool false)))), none⟩] [0, 1, 4])
  (.seq (.seq (.region [⟨(some 5), .fieldAddr 0 (.t 2), none⟩,
        ⟨(some 6), .load none (.t 5), none⟩,
        ⟨(some 7), .fieldAddr 0 (.t 3), none⟩,
        ⟨(some 8), .load none (.t 7), none⟩,
        ⟨(some 9), .bin .neq (.t 6) (.t 8), none⟩] [5, 6, 7, 8])
    (.cond (.t 9)
      (.seq (.region [⟨(some 4), .mv (.k (.c (.d (.bool false)))), none⟩] [2, 3, 9])
      (.ret))
      (.skip)))
  (.seq (.seq (.region [⟨(some 10), .fieldAddr 1 (.t 2), none⟩,
        ⟨(some 11), .load none (.t 10), none⟩,
        ⟨(some 12), .fieldAddr 1 (.t 3), none⟩,
        ⟨(some 13), .load none (.t 12), none⟩,
        ⟨(some 14), .bin .neq (.t 11) (.t 13), none⟩] [4, 9, 10, 11, 12, 13])
    (.cond (.t 14)
      (.seq (.region [⟨(some 4), .mv (.k (.c (.d (.bool false)))), none⟩] [2, 3, 14])
      (.ret))
      (.skip)))
  (.seq (.seq (.region [⟨(some 15), .fieldAddr 2 (.t 2), none⟩,
        ⟨(some 16), .load none (.t 15), none⟩,
        ⟨(some 17), .fieldAddr 2 (.t 3), none⟩,
        ⟨(some 18), .load none (.t 17), none⟩,
        ⟨(some 19), .bin .neq (.t 16) (.t 18), none⟩] [4, 14, 15, 16, 17, 18])
    (.cond (.t 19)
      (.seq (.region [⟨(some 4), .mv (.k (.c (.d (.bool false)))), none⟩] [2, 3, 19])
      (.ret))
      (.skip)))
  (.seq (.seq (.region [⟨(some 20), .fieldAddr 3 (.t 2), none⟩,
        ⟨(some 21), .load none (.t 20), none⟩,
        ⟨(some 22), .fieldAddr 3 (.t 3), none⟩,
        ⟨(some 23), .load none (.t 22), none⟩,
        ⟨(some 24), .qcall 23 [(.t 21), (.t 23)], none⟩,
        ⟨(some 25), .un .not (.t 24), none⟩] [2, 3, 4, 19, 20, 21, 22, 23, 24])
    (.cond (.t 25)
      (.seq (.region [⟨(some 4), .mv (.k (.c (.d (.bool false)))), none⟩] [25])
      (.ret))
      (.skip)))
  (.seq (.region [⟨(some 4), .mv (.k (.c (.d (.bool true)))), none⟩] [25])
  (.ret))))))
theorem ac13_ok : cFunc Try.prog [1000023] [(0, [0, 1, 4], []), (1, [5, 6, 7, 8], []), (2, [2, 3, 9], []), (3, [4, 9, 10, 11, 12, 13], []), (4, [2, 3, 14], []), (5, [4, 14, 15, 16, 17, 18], []), (6, [2, 3, 19], []), (7, [2, 3, 4, 19, 20, 21, 22, 23, 24], []), (8, [25], []), (9, [25], [])] Try.f13 = some (ac13, [.tmp 4], 26) := by kernel_rfl
def SzT (t : Tm) : Prop := ∀ (m : Int), 0 ≤ m → m ≤ 1048576 → ∀ H, ACalls Try.prog 7 [.agg (t.row.map .d), .c (.d (.int .i64 m))] H (fun r H' => H' = H ∧ Left m t.fits r)
theorem szTermS_of (l : List Tm) (hl : l.length ≤ reachBytes) (h : ∀ t ∈ l, SzT t) (m : Int) (h0 : 0 ≤ m) (h1 : m ≤ 1048576) (H : Heap) :
    ACalls Try.prog 18 [.c (.d (.sl (l.map Tm.row))), .c (.d (.int .i64 m))] H (fun r H' => H' = H ∧ Left m (l.length ≤ 1048576 ∧ ∀ t ∈ l, t.fits) r) := by
  refine acalls Try.func18 (by kernel_rfl) ac18_ok fun hf => ?_
  have hlen := reach_i64 hl
  have hsm := reach_small hl
  have hsub : inR .i64 (m - (l.length : Int)) := small_i64 (by omega) (by omega)
  simp -implicitDefEqProofs [ac18, hlen, hsub, kw, ew, sw, tw, a_, b_, c_, -List.set_cons_succ, -List.set_cons_zero, A.ok, A.val, d_, e_, f_, g_, h_, i_, j_, k_, l_, m_, unA, unD, n_, AOp.total, o_, p_, q_, r_, s_, t_, u_, v_, A.thaw, C.thaw, A.fits, As.fits, C.fits, evs, oks, w_, A.pure, C.pure, A.re, C.re, x_, y_, cut, A.cells, C.rows?, z_, A_, B_, C_, D_, Ob.re, Cs.fits, E_, F_, G_, H_, I_, J_, K_, L_, M_, N_, O_, C.toD, P_, Q_, R_, S_, T_, Obs.fits, U_, eqD, V_, W_, X_, Y_, Z_]
  refine ⟨fun _ => ⟨-1, rfl, by omega, by omega, fun h => by omega⟩, fun hge => ?_⟩
  have hsmall : l.length ≤ 1048576 := by omega
  refine loop_set (σ := Nat × Int) (fun x => [(5, .c (.d (.int .i64 x.1))), (1, .c (.d (.int .i64 x.2)))]) (fun _ => H) (fun _ => []) (fun x => x.1 ≤ l.length ∧ 0 ≤ x.2 ∧ x.2 ≤ m ∧ ∀ t ∈ l.take x.1, t.fits) (fun x => l.length - x.1) (0, m - l.length) rfl ⟨Nat.zero_le _, by simp; omega, by simp; omega, by simp⟩ ?_
  rintro ⟨i, k⟩ ⟨hi, hm0, hm1, hall⟩
  simp only at hi hm0 hm1 hall
  simp -implicitDefEqProofs [setAll, hlen, kw, ew, sw, tw, a_, b_, c_, -List.set_cons_succ, -List.set_cons_zero, A.ok, A.val, d_, e_, f_, g_, h_, i_, j_, k_, l_, m_, unA, unD, n_, AOp.total, o_, p_, q_, r_, s_, t_, u_, v_, A.thaw, C.thaw, A.fits, As.fits, C.fits, evs, oks, w_, A.pure, C.pure, A.re, C.re, x_, y_, cut, A.cells, C.rows?, z_, A_, B_, C_, D_, Ob.re, Cs.fits, E_, F_, G_, H_, I_, J_, K_, L_, M_, N_, O_, C.toD, P_, Q_, R_, S_, T_, Obs.fits, U_, eqD, V_, W_, X_, Y_, Z_]
  refine ⟨fun hlt => ?_, fun hge => ⟨k, rfl, by omega, hm1, fun _ => ⟨hsmall, by rw [List.take_of_length_le hge] at hall; exact hall⟩⟩⟩
  refine row_of hlt (row_len _) ?_
  simp -implicitDefEqProofs [row_len, take_row, pure_d, re_d, kw, ew, sw, tw, a_, b_, c_, -List.set_cons_succ, -List.set_cons_zero, A.ok, A.val, d_, e_, f_, g_, h_, i_, j_, k_, l_, m_, unA, unD, n_, AOp.total, o_, p_, q_, r_, s_, t_, u_, v_, A.thaw, C.thaw, A.fits, As.fits, C.fits, evs, oks, w_, A.pure, C.pure, A.re, C.re, x_, y_, cut, A.cells, C.rows?, z_, A_, B_, C_, D_, Ob.re, Cs.fits, E_, F_, G_, H_, I_, J_, K_, L_, M_, N_, O_, C.toD, P_, Q_, R_, S_, T_, Obs.fits, U_, eqD, V_, W_, X_, Y_, Z_]
  refine call_some (h l[i] (List.getElem_mem hlt) k hm0 (by omega) _) (by simp) (fun r => Left.re) hf ?_
  rintro _ ⟨q, rfl, hq0, hq1, hq2⟩
  have hadd : inR .i64 ((i : Int) + 1) := small_i64 (by omega) (by omega)
  simp -implicitDefEqProofs [hadd, kw, ew, sw, tw, a_, b_, c_, -List.set_cons_succ, -List.set_cons_zero, A.ok, A.val, d_, e_, f_, g_, h_, i_, j_, k_, l_, m_, unA, unD, n_, AOp.total, o_, p_, q_, r_, s_, t_, u_, v_, A.thaw, C.thaw, A.fits, As.fits, C.fits, evs, oks, w_, A.pure, C.pure, A.re, C.re, x_, y_, cut, A.cells, C.rows?, z_, A_, B_, C_, D_, Ob.re, Cs.fits, E_, F_, G_, H_, I_, J_, K_, L_, M_, N_, O_, C.toD, P_, Q_, R_, S_, T_, Obs.fits, U_, eqD, V_, W_, X_, Y_, Z_]
  refine ⟨fun _ => ⟨-1, rfl, by omega, by omega, fun h => by omega⟩, fun hk => ?_⟩
  refine loop_back (i + 1, q) (by simp [setAll]) ⟨hlt, hk, by simp; omega, fun t ht => ?_⟩ (by show l.length - (i + 1) < l.length - i; omega)
  rw [List.take_succ_eq_append_getElem hlt, List.mem_append] at ht
  rcases ht with ht | ht
  · exact hall t ht
  · simp at ht; subst ht; exact hq2 hk
theorem szTerm_calls : ∀ t : Tm, t.fine → SzT t := by
  refine Tm.ind fun k n s l ih hfine m h0 h1 H => ?_
  obtain ⟨hk, hn, hs, hl, hkids⟩ := hfine
  refine acalls Try.func7 (by kernel_rfl) ac7_ok fun hf => ?_
  have hlen := reach_i64 hs
  have hsm := reach_small hs
  have hsub : inR .i64 (m - (s.length : Int)) := small_i64 (by omega) (by omega)
  simp -implicitDefEqProofs [ac7, row_mk, hlen, hsub, kw, ew, sw, tw, a_, b_, c_, -List.set_cons_succ, -List.set_cons_zero, A.ok, A.val, d_, e_, f_, g_, h_, i_, j_, k_, l_, m_, unA, unD, n_, AOp.total, o_, p_, q_, r_, s_, t_, u_, v_, A.thaw, C.thaw, A.fits, As.fits, C.fits, evs, oks, w_, A.pure, C.pure, A.re, C.re, x_, y_, cut, A.cells, C.rows?, z_, A_, B_, C_, D_, Ob.re, Cs.fits, E_, F_, G_, H_, I_, J_, K_, L_, M_, N_, O_, C.toD, P_, Q_, R_, S_, T_, Obs.fits, U_, eqD, V_, W_, X_, Y_, Z_]
  refine ⟨fun _ => ⟨-1, rfl, by omega, by omega, fun h => by omega⟩, fun hge => ?_⟩
  refine call_some (szTermS_of l hl (fun t ht => ih t ht (hkids t ht)) (m - s.length) (by omega) (by omega) _) (by simp [Ob.re, C.re]) (fun r => Left.re) hf ?_
  rintro _ ⟨q, rfl, hq0, hq1, hq2⟩
  simp -implicitDefEqProofs [kw, ew, sw, tw, a_, b_, c_, -List.set_cons_succ, -List.set_cons_zero, A.ok, A.val, d_, e_, f_, g_, h_, i_, j_, k_, l_, m_, unA, unD, n_, AOp.total, o_, p_, q_, r_, s_, t_, u_, v_, A.thaw, C.thaw, A.fits, As.fits, C.fits, evs, oks, w_, A.pure, C.pure, A.re, C.re, x_, y_, cut, A.cells, C.rows?, z_, A_, B_, C_, D_, Ob.re, Cs.fits, E_, F_, G_, H_, I_, J_, K_, L_, M_, N_, O_, C.toD, P_, Q_, R_, S_, T_, Obs.fits, U_, eqD, V_, W_, X_, Y_, Z_]
  exact ⟨fun _ => ⟨-1, rfl, by omega, by omega, fun h => by omega⟩, fun hq => ⟨q, rfl, by omega, by omega, fun _ => .mk hk hn (by omega) (hq2 hq).1 (hq2 hq).2⟩⟩
theorem szTermS_calls (l : List Tm) (hl : l.length ≤ reachBytes) (h : ∀ t ∈ l, t.fine) (m : Int) (h0 : 0 ≤ m) (h1 : m ≤ 1048576) (H : Heap) :
    ACalls Try.prog 18 [.c (.d (.sl (l.map Tm.row))), .c (.d (.int .i64 m))] H (fun r H' => H' = H ∧ Left m (l.length ≤ 1048576 ∧ ∀ t ∈ l, t.fits) r) :=
  szTermS_of l hl (fun t ht => szTerm_calls t (h t ht)) m h0 h1 H

/-- a call of a function of one term that gives it back -/
def ToT (t : Tm) : Prop := ∀ H, ACalls Try.prog 10 [.agg (t.row.map .d)] H (fun r H' => H' = H ∧ r = .agg (t.row.map .d))
theorem toTermS_of (l : List Tm) (hl : l.length ≤ 1048576) (h : ∀ t ∈ l, ToT t) (H : Heap) :
    ACalls Try.prog 20 [.c (.d (.sl (l.map Tm.row)))] H (fun r H' => H' = H ∧ r = .c (.d (.sl (l.map Tm.row)))) := by
  refine acalls Try.func20 (by kernel_rfl) ac20_ok fun hf => ?_
  have hli : inR .i64 (l.length : Int) := small_i64 (by omega) (by omega)
  simp -implicitDefEqProofs [ac20, hli, kw, ew, sw, tw, a_, b_, c_, -List.set_cons_succ, -List.set_cons_zero, A.ok, A.val, d_, e_, f_, g_, h_, i_, j_, k_, l_, m_, unA, unD, n_, AOp.total, o_, p_, q_, r_, s_, t_, u_, v_, A.thaw, C.thaw, A.fits, As.fits, C.fits, evs, oks, w_, A.pure, C.pure, A.re, C.re, x_, y_, cut, A.cells, C.rows?, z_, A_, B_, C_, D_, Ob.re, Cs.fits, E_, F_, G_, H_, I_, J_, K_, L_, M_, N_, O_, C.toD, P_, Q_, R_, S_, T_, Obs.fits, U_, eqD, V_, W_, X_, Y_, Z_]
  refine ⟨by unfold maxApp; omega, ?_⟩
  refine loop_set (σ := Nat) (fun i => [(4, .c (.d (.int .i64 i)))]) (fun _ => H) (fun i => [.rows (fill Tm.row [.int .i64 0, .int .i64 0, .str [], .sl []] l i)]) (fun i => i ≤ l.length) (fun i => l.length - i) 0 (by simp [setAll, fill_zero]) (Nat.zero_le _) ?_
  intro i hi
  simp -implicitDefEqProofs [setAll, hli, kw, ew, sw, tw, a_, b_, c_, -List.set_cons_succ, -List.set_cons_zero, A.ok, A.val, d_, e_, f_, g_, h_, i_, j_, k_, l_, m_, unA, unD, n_, AOp.total, o_, p_, q_, r_, s_, t_, u_, v_, A.thaw, C.thaw, A.fits, As.fits, C.fits, evs, oks, w_, A.pure, C.pure, A.re, C.re, x_, y_, cut, A.cells, C.rows?, z_, A_, B_, C_, D_, Ob.re, Cs.fits, E_, F_, G_, H_, I_, J_, K_, L_, M_, N_, O_, C.toD, P_, Q_, R_, S_, T_, Obs.fits, U_, eqD, V_, W_, X_, Y_, Z_]
  refine ⟨fun hlt => ?_, fun hge => by rw [show i = l.length by omega, fill_all]⟩
  have hadd : inR .i64 ((i : Int) + 1) := small_i64 (by omega) (by omega)
  refine row_of hlt (row_len _) ?_
  simp -implicitDefEqProofs [row_len, take_row, pure_d, re_d, kw, ew, sw, tw, a_, b_, c_, -List.set_cons_succ, -List.set_cons_zero, A.ok, A.val, d_, e_, f_, g_, h_, i_, j_, k_, l_, m_, unA, unD, n_, AOp.total, o_, p_, q_, r_, s_, t_, u_, v_, A.thaw, C.thaw, A.fits, As.fits, C.fits, evs, oks, w_, A.pure, C.pure, A.re, C.re, x_, y_, cut, A.cells, C.rows?, z_, A_, B_, C_, D_, Ob.re, Cs.fits, E_, F_, G_, H_, I_, J_, K_, L_, M_, N_, O_, C.toD, P_, Q_, R_, S_, T_, Obs.fits, U_, eqD, V_, W_, X_, Y_, Z_]
  refine qcall_pure (h l[i] (List.getElem_mem hlt)) hf (by simp [A.re, re_d]) ?_
  simp -implicitDefEqProofs [hadd, hlt, fill_get _ _ _ hlt, toDs_map, row_len, kw, ew, sw, tw, a_, b_, c_, -List.set_cons_succ, -List.set_cons_zero, A.ok, A.val, d_, e_, f_, g_, h_, i_, j_, k_, l_, m_, unA, unD, n_, AOp.total, o_, p_, q_, r_, s_, t_, u_, v_, A.thaw, C.thaw, A.fits, As.fits, C.fits, evs, oks, w_, A.pure, C.pure, A.re, C.re, x_, y_, cut, A.cells, C.rows?, z_, A_, B_, C_, D_, Ob.re, Cs.fits, E_, F_, G_, H_, I_, J_, K_, L_, M_, N_, O_, C.toD, P_, Q_, R_, S_, T_, Obs.fits, U_, eqD, V_, W_, X_, Y_, Z_]
  have hset := fill_set Tm.row [.int .i64 0, .int .i64 0, .str [], .sl []] l hlt
  exact ⟨hf, loop_back (i + 1) (by simp [setAll]; exact hset) hlt (by show l.length - (i + 1) < l.length - i; omega)⟩
theorem toTerm_calls : ∀ t : Tm, t.fits → ToT t := by
  refine Tm.ind fun k n s l ih hfits H => ?_
  obtain ⟨hk, hn, hs, hl, hkids⟩ := hfits
  refine acalls Try.func10 (by kernel_rfl) ac10_ok fun hf => ?_
  simp -implicitDefEqProofs [ac10, row_mk, hf, kw, ew, sw, tw, a_, b_, c_, -List.set_cons_succ, -List.set_cons_zero, A.ok, A.val, d_, e_, f_, g_, h_, i_, j_, k_, l_, m_, unA, unD, n_, AOp.total, o_, p_, q_, r_, s_, t_, u_, v_, A.thaw, C.thaw, A.fits, As.fits, C.fits, evs, oks, w_, A.pure, C.pure, A.re, C.re, x_, y_, cut, A.cells, C.rows?, z_, A_, B_, C_, D_, Ob.re, Cs.fits, E_, F_, G_, H_, I_, J_, K_, L_, M_, N_, O_, C.toD, P_, Q_, R_, S_, T_, Obs.fits, U_, eqD, V_, W_, X_, Y_, Z_]
  refine qcall_pure (toTermS_of l hl fun t ht => ih t ht (hkids t ht)) hf rfl ?_
  simp -implicitDefEqProofs [hf, kw, ew, sw, tw, a_, b_, c_, -List.set_cons_succ, -List.set_cons_zero, A.ok, A.val, d_, e_, f_, g_, h_, i_, j_, k_, l_, m_, unA, unD, n_, AOp.total, o_, p_, q_, r_, s_, t_, u_, v_, A.thaw, C.thaw, A.fits, As.fits, C.fits, evs, oks, w_, A.pure, C.pure, A.re, C.re, x_, y_, cut, A.cells, C.rows?, z_, A_, B_, C_, D_, Ob.re, Cs.fits, E_, F_, G_, H_, I_, J_, K_, L_, M_, N_, O_, C.toD, P_, Q_, R_, S_, T_, Obs.fits, U_, eqD, V_, W_, X_, Y_, Z_]
theorem toTermS_calls (l : List Tm) (hl : l.length ≤ 1048576) (h : ∀ t ∈ l, t.fits) (H : Heap) : ACalls Try.prog 20 [.c (.d (.sl (l.map Tm.row)))] H (fun r H' => H' = H ∧ r = .c (.d (.sl (l.map Tm.row)))) :=
  toTermS_of l hl (fun t ht => toTerm_calls t (h t ht)) H

/-- a call that compares two terms -/
def Same2 (f : FuncId) (a b : Tm) : Prop := ∀ H, ACalls Try.prog f [.agg (a.row.map .d), .agg (b.row.map .d)] H (fun r H' => H' = H ∧ r = .c (.d (.bool (decide (a = b)))))
theorem eqTermS_of (l : List Tm) (hl : l.length ≤ 1048576) (h : ∀ t ∈ l, Same2 13 t t) (H : Heap) :
    ACalls Try.prog 23 [.c (.d (.sl (l.map Tm.row))), .c (.d (.sl (l.map Tm.row)))] H (fun r H' => H' = H ∧ r = .c (.d (.bool true))) := by
  refine acalls Try.func23 (by kernel_rfl) ac23_ok fun hf => ?_
  have hli : inR .i64 (l.length : Int) := small_i64 (by omega) (by omega)
  simp -implicitDefEqProofs [ac23, hli, kw, ew, sw, tw, a_, b_, c_, -List.set_cons_succ, -List.set_cons_zero, A.ok, A.val, d_, e_, f_, g_, h_, i_, j_, k_, l_, m_, unA, unD, n_, AOp.total, o_, p_, q_, r_, s_, t_, u_, v_, A.thaw, C.thaw, A.fits, As.fits, C.fits, evs, oks, w_, A.pure, C.pure, A.re, C.re, x_, y_, cut, A.cells, C.rows?, z_, A_, B_, C_, D_, Ob.re, Cs.fits, E_, F_, G_, H_, I_, J_, K_, L_, M_, N_, O_, C.toD, P_, Q_, R_, S_, T_, Obs.fits, U_, eqD, V_, W_, X_, Y_, Z_]
  refine loop_set (σ := Nat) (fun i => [(5, .c (.d (.int .i64 i)))]) (fun _ => H) (fun _ => []) (fun i => i ≤ l.length) (fun i => l.length - i) 0 rfl (Nat.zero_le _) ?_
  intro i hi
  simp -implicitDefEqProofs [setAll, hli, kw, ew, sw, tw, a_, b_, c_, -List.set_cons_succ, -List.set_cons_zero, A.ok, A.val, d_, e_, f_, g_, h_, i_, j_, k_, l_, m_, unA, unD, n_, AOp.total, o_, p_, q_, r_, s_, t_, u_, v_, A.thaw, C.thaw, A.fits, As.fits, C.fits, evs, oks, w_, A.pure, C.pure, A.re, C.re, x_, y_, cut, A.cells, C.rows?, z_, A_, B_, C_, D_, Ob.re, Cs.fits, E_, F_, G_, H_, I_, J_, K_, L_, M_, N_, O_, C.toD, P_, Q_, R_, S_, T_, Obs.fits, U_, eqD, V_, W_, X_, Y_, Z_]
  intro hlt
  have hadd : inR .i64 ((i : Int) + 1) := small_i64 (by omega) (by omega)
  refine row_of hlt (row_len _) ?_
  simp -implicitDefEqProofs [kw, ew, sw, tw, a_, b_, c_, -List.set_cons_succ, -List.set_cons_zero, A.ok, A.val, d_, e_, f_, g_, h_, i_, j_, k_, l_, m_, unA, unD, n_, AOp.total, o_, p_, q_, r_, s_, t_, u_, v_, A.thaw, C.thaw, A.fits, As.fits, C.fits, evs, oks, w_, A.pure, C.pure, A.re, C.re, x_, y_, cut, A.cells, C.rows?, z_, A_, B_, C_, D_, Ob.re, Cs.fits, E_, F_, G_, H_, I_, J_, K_, L_, M_, N_, O_, C.toD, P_, Q_, R_, S_, T_, Obs.fits, U_, eqD, V_, W_, X_, Y_, Z_]
  refine row_of hlt (row_len _) ?_
  simp -implicitDefEqProofs [row_len, take_row, pure_d, re_d, kw, ew, sw, tw, a_, b_, c_, -List.set_cons_succ, -List.set_cons_zero, A.ok, A.val, d_, e_, f_, g_, h_, i_, j_, k_, l_, m_, unA, unD, n_, AOp.total, o_, p_, q_, r_, s_, t_, u_, v_, A.thaw, C.thaw, A.fits, As.fits, C.fits, evs, oks, w_, A.pure, C.pure, A.re, C.re, x_, y_, cut, A.cells, C.rows?, z_, A_, B_, C_, D_, Ob.re, Cs.fits, E_, F_, G_, H_, I_, J_, K_, L_, M_, N_, O_, C.toD, P_, Q_, R_, S_, T_, Obs.fits, U_, eqD, V_, W_, X_, Y_, Z_]
  refine qcall_pure (h l[i] (List.getElem_mem hlt)) hf rfl ?_
  simp -implicitDefEqProofs [hadd, kw, ew, sw, tw, a_, b_, c_, -List.set_cons_succ, -List.set_cons_zero, A.ok, A.val, d_, e_, f_, g_, h_, i_, j_, k_, l_, m_, unA, unD, n_, AOp.total, o_, p_, q_, r_, s_, t_, u_, v_, A.thaw, C.thaw, A.fits, As.fits, C.fits, evs, oks, w_, A.pure, C.pure, A.re, C.re, x_, y_, cut, A.cells, C.rows?, z_, A_, B_, C_, D_, Ob.re, Cs.fits, E_, F_, G_, H_, I_, J_, K_, L_, M_, N_, O_, C.toD, P_, Q_, R_, S_, T_, Obs.fits, U_, eqD, V_, W_, X_, Y_, Z_]
  exact loop_back (i + 1) (by simp [setAll]) hlt (by show l.length - (i + 1) < l.length - i; omega)
theorem eqTerm_calls : ∀ t : Tm, t.fits → Same2 13 t t := by
  refine Tm.ind fun k n s l ih hfits H => ?_
  obtain ⟨hk, hn, hs, hl, hkids⟩ := hfits
  refine acalls Try.func13 (by kernel_rfl) ac13_ok fun hf => ?_
  simp -implicitDefEqProofs [ac13, row_mk, kw, ew, sw, tw, a_, b_, c_, -List.set_cons_succ, -List.set_cons_zero, A.ok, A.val, d_, e_, f_, g_, h_, i_, j_, k_, l_, m_, unA, unD, n_, AOp.total, o_, p_, q_, r_, s_, t_, u_, v_, A.thaw, C.thaw, A.fits, As.fits, C.fits, evs, oks, w_, A.pure, C.pure, A.re, C.re, x_, y_, cut, A.cells, C.rows?, z_, A_, B_, C_, D_, Ob.re, Cs.fits, E_, F_, G_, H_, I_, J_, K_, L_, M_, N_, O_, C.toD, P_, Q_, R_, S_, T_, Obs.fits, U_, eqD, V_, W_, X_, Y_, Z_]
  refine qcall_pure (eqTermS_of l hl fun t ht => ih t ht (hkids t ht)) hf rfl ?_
  simp -implicitDefEqProofs [hf, kw, ew, sw, tw, a_, b_, c_, -List.set_cons_succ, -List.set_cons_zero, A.ok, A.val, d_, e_, f_, g_, h_, i_, j_, k_, l_, m_, unA, unD, n_, AOp.total, o_, p_, q_, r_, s_, t_, u_, v_, A.thaw, C.thaw, A.fits, As.fits, C.fits, evs, oks, w_, A.pure, C.pure, A.re, C.re, x_, y_, cut, A.cells, C.rows?, z_, A_, B_, C_, D_, Ob.re, Cs.fits, E_, F_, G_, H_, I_, J_, K_, L_, M_, N_, O_, C.toD, P_, Q_, R_, S_, T_, Obs.fits, U_, eqD, V_, W_, X_, Y_, Z_]
theorem eqTermS_calls (l : List Tm) (hl : l.length ≤ 1048576) (h : ∀ t ∈ l, t.fits) (H : Heap) : ACalls Try.prog 23 [.c (.d (.sl (l.map Tm.row))), .c (.d (.sl (l.map Tm.row)))] H (fun r H' => H' = H ∧ r = .c (.d (.bool true))) :=
  eqTermS_of l hl (fun t ht => eqTerm_calls t (h t ht)) H

end Go.Proofs.Ytaegeehpajlebaa
