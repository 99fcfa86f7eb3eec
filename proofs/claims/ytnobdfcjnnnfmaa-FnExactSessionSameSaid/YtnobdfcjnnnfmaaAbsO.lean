/-
  Slots of long lists are looked up and set eight at a time; data cells in rows.
  Conditions: none.
-/
import Derived.Test.YtnobdfcjnnnfmaaAbsN
namespace Go.AM
set_option linter.unusedVariables false
set_option linter.unusedSimpArgs false

theorem ev_k {s : List A} {x : A} : Opd.ev s (.k x) = x := rfl
theorem ev_0 {x0 : A} {l : List A} : Opd.ev (x0 :: l) (.t 0) = x0 := rfl
theorem ev_1 {x0 x1 : A} {l : List A} : Opd.ev (x0 :: x1 :: l) (.t 1) = x1 := rfl
theorem ev_2 {x0 x1 x2 : A} {l : List A} : Opd.ev (x0 :: x1 :: x2 :: l) (.t 2) = x2 := rfl
theorem ev_3 {x0 x1 x2 x3 : A} {l : List A} : Opd.ev (x0 :: x1 :: x2 :: x3 :: l) (.t 3) = x3 := rfl
theorem ev_4 {x0 x1 x2 x3 x4 : A} {l : List A} : Opd.ev (x0 :: x1 :: x2 :: x3 :: x4 :: l) (.t 4) = x4 := rfl
theorem ev_5 {x0 x1 x2 x3 x4 x5 : A} {l : List A} : Opd.ev (x0 :: x1 :: x2 :: x3 :: x4 :: x5 :: l) (.t 5) = x5 := rfl
theorem ev_6 {x0 x1 x2 x3 x4 x5 x6 : A} {l : List A} : Opd.ev (x0 :: x1 :: x2 :: x3 :: x4 :: x5 :: x6 :: l) (.t 6) = x6 := rfl
theorem ev_7 {x0 x1 x2 x3 x4 x5 x6 x7 : A} {l : List A} : Opd.ev (x0 :: x1 :: x2 :: x3 :: x4 :: x5 :: x6 :: x7 :: l) (.t 7) = x7 := rfl
theorem ev_8 {x0 x1 x2 x3 x4 x5 x6 x7 : A} {l : List A} {n : Nat} : Opd.ev (x0 :: x1 :: x2 :: x3 :: x4 :: x5 :: x6 :: x7 :: l) (.t (n + 8)) = Opd.ev l (.t n) := rfl
theorem set_0 {α : Type} {x0 y : α} {l : List α} : (x0 :: l).set 0 y = y :: l := rfl
theorem set_1 {α : Type} {x0 x1 y : α} {l : List α} : (x0 :: x1 :: l).set 1 y = x0 :: y :: l := rfl
theorem set_2 {α : Type} {x0 x1 x2 y : α} {l : List α} : (x0 :: x1 :: x2 :: l).set 2 y = x0 :: x1 :: y :: l := rfl
theorem set_3 {α : Type} {x0 x1 x2 x3 y : α} {l : List α} : (x0 :: x1 :: x2 :: x3 :: l).set 3 y = x0 :: x1 :: x2 :: y :: l := rfl
theorem set_4 {α : Type} {x0 x1 x2 x3 x4 y : α} {l : List α} : (x0 :: x1 :: x2 :: x3 :: x4 :: l).set 4 y = x0 :: x1 :: x2 :: x3 :: y :: l := rfl
theorem set_5 {α : Type} {x0 x1 x2 x3 x4 x5 y : α} {l : List α} : (x0 :: x1 :: x2 :: x3 :: x4 :: x5 :: l).set 5 y = x0 :: x1 :: x2 :: x3 :: x4 :: y :: l := rfl
theorem set_6 {α : Type} {x0 x1 x2 x3 x4 x5 x6 y : α} {l : List α} : (x0 :: x1 :: x2 :: x3 :: x4 :: x5 :: x6 :: l).set 6 y = x0 :: x1 :: x2 :: x3 :: x4 :: x5 :: y :: l := rfl
theorem set_7 {α : Type} {x0 x1 x2 x3 x4 x5 x6 x7 y : α} {l : List α} : (x0 :: x1 :: x2 :: x3 :: x4 :: x5 :: x6 :: x7 :: l).set 7 y = x0 :: x1 :: x2 :: x3 :: x4 :: x5 :: x6 :: y :: l := rfl
theorem set_8 {α : Type} {x0 x1 x2 x3 x4 x5 x6 x7 y : α} {l : List α} {n : Nat} : (x0 :: x1 :: x2 :: x3 :: x4 :: x5 :: x6 :: x7 :: l).set (n + 8) y = x0 :: x1 :: x2 :: x3 :: x4 :: x5 :: x6 :: x7 :: l.set n y := rfl

section
variable {P : Program} {F : Ex → St → Prop} {fs : List Fr} {st : St}
theorem awOps_guardE {kill dst op rest g w} : awOps P (kq P F fs .normal) kill (⟨dst, op, some (g, w)⟩ :: rest) st =
    match guardB w (Opd.ev st.sl (.t g)) with
      | none => False
      | some G =>
        if op.total then awOp P st G (nx P F ⟨dst, some G, rest, kill, fs⟩) op
        else
          (G = true → awOp P ⟨st.sl.set g (litB w (Opd.ev st.sl (.t g))), st.ext, st.loc⟩ true (nx P F ⟨dst, none, rest, kill, fs⟩) op) ∧
          (G = false → nx P F ⟨dst, none, rest, kill, fs⟩ .u ⟨st.sl.set g (litB (!w) (Opd.ev st.sl (.t g))), st.ext, st.loc⟩) := rfl
end

theorem pure_d : C.pure ∘ C.d = C.d := rfl
theorem re_d {n : Nat} : C.re n ∘ C.d = C.d := rfl
theorem thaw_d {st : St} : C.thaw st ∘ C.d = C.d := rfl
theorem toDs_map {row : List D} : toDs (row.map C.d) = some row := by
  induction row with
  | nil => rfl
  | cons x l ih => simp [toDs, C.toD, ih]
theorem fits_map {n m : Nat} {row : List D} : Cs.fits n m (row.map C.d) ↔ True := by
  induction row with
  | nil => exact Iff.rfl
  | cons x l ih => simp [Cs.fits, C.fits, ih]
theorem lo_map {n m : Nat} {row : List D} : Cs.lo n m (row.map C.d) ↔ True := by
  induction row with
  | nil => exact Iff.rfl
  | cons x l ih => simp [Cs.lo, C.lo, ih]
theorem spliceD_all {z row : List D} (h : z.length = row.length) : spliceD z 0 row = row := by
  simp [spliceD, h]
theorem splice_all {z row : List C} (h : z.length = row.length) : splice z 0 row = row := by
  simp [splice, h]
theorem cut_all {cs : List C} {n : Nat} (h : cs.length = n) : cut cs 0 (some n) = some (.agg cs) := by
  subst h
  simp [cut]

end Go.AM
