/-
  The abstract machine: several parts of it in one text.
  Conditions: none.
-/
import Derived.Test.YtoipdmomgjdnaaaAbsI
import Derived.Test.YtoipdmomgjdnaaaAbsH
import Derived.Lib.LaidTab
import Derived.Sort.Grow
import Derived.Deep.Draws
/-
  Own objects are dropped or put in another order; functions that hand out objects of their own.
  Conditions: none.
-/
namespace Go.AM
set_option linter.unusedVariables false
set_option linter.unusedSimpArgs false

/-- references lie where they belong: strictly -/
def Ref.lo (n m : Nat) : Ref → Prop
  | .e b => b < n
  | .l i => i < m
def C.lo (n m : Nat) : C → Prop
  | .ptr r _ => r.lo n m
  | .own r _ _ => r.lo n m
  | .fsl r _ _ => r.lo n m
  | .psl r _ _ _ => r.lo n m
  | .rel r _ _ => r.lo n m
  | .map r => r.lo n m
  | .fn _ caps => ∀ x ∈ caps, x.1.lo n m
  | _ => True
def Cs.lo (n m : Nat) : List C → Prop
  | [] => True
  | c :: l => c.lo n m ∧ Cs.lo n m l
mutual
def A.lo (n m : Nat) : A → Prop
  | .u => True
  | .c x => x.lo n m
  | .agg cs => Cs.lo n m cs
  | .tup vs => As.lo n m vs
  | .gd g x => x.lo n m
def As.lo (n m : Nat) : List A → Prop
  | [] => True
  | a :: l => a.lo n m ∧ As.lo n m l
end
def Ob.lo (n m : Nat) : Ob → Prop
  | .cells cs => Cs.lo n m cs
  | _ => True
def Obs.lo (n m : Nat) : List Ob → Prop
  | [] => True
  | o :: l => o.lo n m ∧ Obs.lo n m l

section
variable {w : World} {ι ι' : List K} {n q : Nat} {ks : List Nat}

end

theorem A.le_refl_iff {a : A} : A.le a a ↔ True := iff_true_intro (.refl a)
theorem A.le_u_iff {a : A} : A.le a .u ↔ True := iff_true_intro (.u a)

theorem fits_reset {n m : Nat} : ∀ {H : Heap} {i : Nat} {a b : Ob}, Obs.fits n m (H.set i a) → b.fits n m → Obs.fits n m (H.set i b)
  | [], _, _, _, _, _ => trivial
  | o :: l, 0, a, b, h, hb => ⟨hb, h.2⟩
  | o :: l, i + 1, a, b, h, hb => ⟨h.1, fits_reset (H := l) (i := i) (a := a) h.2 hb⟩
theorem fits_append {n m : Nat} : ∀ {H H' : Heap}, Obs.fits n m H → Obs.fits n m H' → Obs.fits n m (H ++ H')
  | [], _, _, h => h
  | o :: l, _, h, h' => ⟨h.1, fits_append (H := l) h.2 h'⟩

theorem allLen_nil_iff {n : Nat} : allLen n [] ↔ True := iff_true_intro fun r h => by cases h
theorem allLen_cons_iff {n : Nat} {r : List D} {l : List (List D)} : allLen n (r :: l) ↔ r.length = n ∧ allLen n l := by simp [allLen]
theorem allLen_append_iff {n : Nat} {l l' : List (List D)} : allLen n (l ++ l') ↔ allLen n l ∧ allLen n l' := by
  simp only [allLen, List.mem_append]
  exact ⟨fun h => ⟨fun r hr => h r (.inl hr), fun r hr => h r (.inr hr)⟩, fun ⟨h1, h2⟩ r hr => hr.elim (h1 r) (h2 r)⟩
/-! ### functions that hand out own objects -/

end Go.AM

/-
  Slots of long lists are looked up and set eight at a time; data cells in rows.
  Conditions: none.
-/
namespace Go.AM
set_option linter.unusedVariables false
set_option linter.unusedSimpArgs false

section
variable {P : Program} {F : Ex → St → Prop} {fs : List Fr} {st : St}
theorem b_ {kill dst op rest g w} : awOps P (kq P F fs .normal) kill (⟨dst, op, some (g, w)⟩ :: rest) st =
    match f_ w (Opd.ev st.sl (.t g)) with
      | none => False
      | some G =>
        if op.total then c_ P st G (nx P F ⟨dst, some G, rest, kill, fs⟩) op
        else
          (G = true → c_ P ⟨st.sl.set g (p_ w (Opd.ev st.sl (.t g))), st.ext, st.loc⟩ true (nx P F ⟨dst, none, rest, kill, fs⟩) op) ∧
          (G = false → nx P F ⟨dst, none, rest, kill, fs⟩ .u ⟨st.sl.set g (p_ (!w) (Opd.ev st.sl (.t g))), st.ext, st.loc⟩) := rfl
end

theorem pure_d : C.pure ∘ C.d = C.d := rfl
theorem re_d {n : Nat} : C.re n ∘ C.d = C.d := rfl
theorem toDs_map {row : List D} : O_ (row.map C.d) = some row := by
  induction row with
  | nil => rfl
  | cons x l ih => simp [O_, C.toD, ih]
theorem callArgs_ptrs {n : Nat} {caps : List (Nat × Nat)} : w_ false n (ptrsOf (caps.map fun x => (Ref.e x.1, x.2))) = caps.map fun x => A.c (.ptr (.e x.1) x.2) := by
  induction caps with
  | nil => rfl
  | cons x l ih =>
    simp only [ptrsOf, List.map_cons, List.map_map] at ih ⊢
    simp only [w_, ih]
    rfl
theorem byte_off {s : List UInt8} {i : Int} {K : A → St → Prop} {st : St} (b : UInt8) (hk : K (.c (.d (.int .u8 b.toNat))) st) : ByteK false s i K st := ⟨b, fun h => (by cases h), hk⟩

/-- references lie where they belong whenever a function is called -/
theorem acalls_fits {P : Program} {f : FuncId} {fn : Func} {args : List A} {H : Heap} {Q : A → Heap → Prop} (hf : P.funcs[f]? = some fn) (hb : fn.body.isSome = true) (hname : nameOk fn = true) (h : Obs.fits H.length 0 H → ACalls P f args H Q) : ACalls P f args H Q :=
  ⟨⟨fn, hf, hb, by simpa [nameOk] using hname⟩, fun w ι cargs hsim => (h (sim_fits hsim)).2 w ι cargs hsim⟩

theorem Ref.fits_mono {n n' m : Nat} (h : n ≤ n') {r : Ref} (hr : r.fits n m) : r.fits n' m := by
  cases r with
  | e b => simp only [Ref.fits] at hr ⊢; omega
  | l i => exact hr
theorem C.fits_mono {n n' m : Nat} (h : n ≤ n') {c : C} (hc : c.fits n m) : c.fits n' m := by
  cases c with
  | ptr r o => exact Ref.fits_mono h hc
  | own r p rows => exact Ref.fits_mono h hc
  | fsl r l s => exact Ref.fits_mono h hc
  | psl r l m s => exact Ref.fits_mono h hc
  | rel r i o => exact Ref.fits_mono h hc
  | map r => exact Ref.fits_mono h hc
  | fn f caps => exact fun x hx => Ref.fits_mono h (hc x hx)
  | _ => trivial
theorem Cs.fits_mono {n n' m : Nat} (h : n ≤ n') : ∀ {cs : List C}, Cs.fits n m cs → Cs.fits n' m cs
  | [], _ => trivial
  | c :: l, hc => ⟨C.fits_mono h hc.1, Cs.fits_mono h hc.2⟩
theorem fits_mono {n n' m : Nat} (h : n ≤ n') : ∀ {H : Heap}, Obs.fits n m H → Obs.fits n' m H
  | [], _ => trivial
  | o :: l, ho => ⟨(by
      cases o with
      | cells cs => exact Cs.fits_mono h ho.1
      | _ => trivial), fits_mono h ho.2⟩

/-- the first of a list that a step takes, the steps' states handed on -/
def anyS {α σ : Type} (step : σ → α → Bool × σ) : List α → σ → Bool × σ
  | [], s => (false, s)
  | t :: l, s => if (step s t).1 = true then (true, (step s t).2) else anyS step l (step s t).2
theorem anyS_const {α : Type} (p : α → Bool) : ∀ (l : List α), anyS (fun (_ : Unit) t => (p t, ())) l () = (l.any p, ())
  | [] => rfl
  | t :: l => by
    simp only [anyS, List.any_cons]
    cases h : p t with
    | true => simp
    | false => simp [anyS_const p l]

end Go.AM

/-
  Trees of slices that own their arrays: how they are read, put together and taken apart.
  Conditions: none.
-/
namespace Go.AM
set_option linter.unusedVariables false
set_option linter.unusedSimpArgs false

theorem RT.oneCell {w : World} {x : D} {v : Value} {B : Nat → Prop} (h : RT w x v B) : v.oneCell' = true := by
  cases h with
  | leaf h1 h2 => exact h2.oneCell
  | sl => rfl

theorem RT.len {w : World} {rows : List (List D)} {v : Value} {B : Nat → Prop} (h : RT w (.sl rows) v B) : ∃ a cap, v = .slice a rows.length cap ∧ rows.length ≤ cap := by
  cases h with
  | leaf h1 h2 =>
    cases h2 with
    | nil a => exact ⟨a, 0, rfl, Nat.le_refl _⟩
    | sl _ b off cap sz vs h1 => exact ⟨_, cap, rfl, h1⟩
  | sl _ b cap sz vs el vf Bs h1 h2 => exact ⟨_, cap, rfl, h2⟩

end Go.AM

/-
  Functions that hand out trees of their own; calls in front of which other objects are set aside.
  Conditions: none.
-/
namespace Go.AM
set_option linter.unusedVariables false
set_option linter.unusedSimpArgs false

/-- a tree that lies in the blocks of these objects -/
def Piece (w : World) (ι : List K) (I : List Nat) (x : List (List D)) (v : Value) : Prop :=
  ∃ B : Nat → Prop, RT w (.sl x) v B ∧ ∀ b, B b → ∃ (i : Nat) (k : K), i ∈ I ∧ ι[i]? = some k ∧ k.at b

section
variable {w : World} {ι : List K} {n : Nat} {loc : Heap}

inductive Pieces (w : World) (ι : List K) : List Nat → Heap → Prop
  | nil : Pieces w ι [] []
  | cons {I I' : List Nat} {v : Value} {d : List (List D)} {H : Heap} : Piece w ι I d v → Pieces w ι I' H → Pieces w ι (I ++ I') (.tree v d :: H)

theorem Pieces.one {I : List Nat} {v : Value} {d : List (List D)} (h : Piece w ι I d v) : Pieces w ι I [.tree v d] := by
  have := Pieces.cons h .nil
  simpa using this
/-- objects for the trees -/
theorem Pieces.sim (hs : Sim w ι n loc) {I : List Nat} {H : Heap} (h : Pieces w ι I H) (hnd : I.Nodup) :
    ∃ ι' : List K, ι'.length = H.length ∧ (∀ (i : Nat) o k, H[i]? = some o → ι'[i]? = some k → ∀ ι₁ n₁, RO w ι₁ n₁ o k) ∧ (∀ (i j : Nat) k k' b, ι'[i]? = some k → ι'[j]? = some k' → k.at b → k'.at b → i = j) ∧
      ∀ (i : Nat) k b, ι'[i]? = some k → k.at b → ∃ (j : Nat) (k' : K), j ∈ I ∧ ι[j]? = some k' ∧ k'.at b := by
  induction h with
  | nil => exact ⟨[], rfl, fun i o k h => by simp at h, fun i j k k' b h => by simp at h, fun i k b h => by simp at h⟩
  | @cons I I' v d H h h' ih =>
    obtain ⟨n1, n2, n3⟩ := List.nodup_append.1 hnd
    obtain ⟨ι', h1, h2, h3, h4⟩ := ih n2
    obtain ⟨B, h5, h6⟩ := h
    have hap : ∀ (j : Nat) k b, ι'[j]? = some k → B b → k.at b → False := fun j k b hj hb hk => by
      obtain ⟨j1, k1, a1, a2, a3⟩ := h6 b hb
      obtain ⟨j2, k2, b1, b2, b3⟩ := h4 j k b hj hk
      have := hs.apart _ _ _ _ b a2 b2 a3 b3
      subst this
      exact n3 j1 a1 j1 b1 rfl
    refine ⟨.tree B :: ι', by simp [h1], fun i o k hi hk ι₁ n₁ => ?_, fun i j k k' b hi hj hk hk' => ?_, fun i k b hi hk => ?_⟩
    · cases i with
      | zero => simp at hi hk; subst hi; subst hk; exact ⟨B, fun b hb => hb, h5⟩
      | succ i => exact h2 i o k (by simpa using hi) (by simpa using hk) ι₁ n₁
    · cases i with
      | zero =>
        simp at hi; subst hi
        cases j with
        | zero => rfl
        | succ j => exact (hap j k' b (by simpa using hj) hk hk').elim
      | succ i =>
        cases j with
        | zero => simp at hj; subst hj; exact (hap i k b (by simpa using hi) hk' hk).elim
        | succ j => rw [h3 i j k k' b (by simpa using hi) (by simpa using hj) hk hk']
    · cases i with
      | zero =>
        simp at hi; subst hi
        obtain ⟨j, k', a1, a2, a3⟩ := h6 b hk
        exact ⟨j, k', by simp [a1], a2, a3⟩
      | succ i =>
        obtain ⟨j, k', a1, a2, a3⟩ := h4 i k b (by simpa using hi) hk
        exact ⟨j, k', by simp [a1], a2, a3⟩

end

end Go.AM

/-
  Functions that hand out trees; calls in front of which other objects are set aside; functions that write into a tree.
  Conditions: none.
-/
namespace Go.AM
set_option linter.unusedVariables false
set_option linter.unusedSimpArgs false

/-! ### what looks at no object -/

/-! ### objects are set aside -/

inductive FzC (H : Heap) (J : List Nat) : C → C → Prop
  | d {x : D} : FzC H J (.d x) (.d x)
  | tree {i : Nat} {kv : Value} {d : List (List D)} : H[i]? = some (.tree kv d) → i ∉ J → FzC H J (.d (.v kv)) (.d (.sl d))
  | u {c : C} : FzC H J c .u
inductive FzCs (H : Heap) (J : List Nat) : List C → List C → Prop
  | nil : FzCs H J [] []
  | cons {c c' : C} {l l' : List C} : FzC H J c c' → FzCs H J l l' → FzCs H J (c :: l) (c' :: l')
inductive FzA (H : Heap) (J : List Nat) : A → A → Prop
  | c {c c' : C} : FzC H J c c' → FzA H J (.c c) (.c c')
  | agg {cs cs' : List C} : FzCs H J cs cs' → FzA H J (.agg cs) (.agg cs')
  | u {a : A} : FzA H J a .u
inductive FzL (H : Heap) (J : List Nat) : List A → List A → Prop
  | nil : FzL H J [] []
  | cons {a a' : A} {l l' : List A} : FzA H J a a' → FzL H J l l' → FzL H J (a :: l) (a' :: l')

section
variable {w : World} {ι ι₀ : List K} {n n₀ : Nat} {H : Heap} {J : List Nat}

end

/-! ### a tree is opened -/

end Go.AM

/-
  Calls of functions that hand out, write into, or read trees, in the machine.
  Conditions: none.
-/
namespace Go.AM
set_option linter.unusedVariables false
set_option linter.unusedSimpArgs false

theorem FzC.mono {H H' : Heap} {J : List Nat} (h : ∀ (i : Nat) kv d, H[i]? = some (.tree kv d) → H'[i]? = some (.tree kv d)) {c c' : C} (hz : FzC H J c c') : FzC H' J c c' := by
  cases hz with
  | d => exact .d
  | tree h1 h2 => exact .tree (h _ _ _ h1) h2
  | u => exact .u
theorem FzCs.mono {H H' : Heap} {J : List Nat} (h : ∀ (i : Nat) kv d, H[i]? = some (.tree kv d) → H'[i]? = some (.tree kv d)) : ∀ {c c' : List C}, FzCs H J c c' → FzCs H' J c c'
  | _, _, .nil => .nil
  | _, _, .cons h1 h2 => .cons (h1.mono h) (h2.mono h)
theorem FzA.mono {H H' : Heap} {J : List Nat} (h : ∀ (i : Nat) kv d, H[i]? = some (.tree kv d) → H'[i]? = some (.tree kv d)) {c c' : A} (hz : FzA H J c c') : FzA H' J c c' := by
  cases hz with
  | c h1 => exact .c (h1.mono h)
  | agg h1 => exact .agg (h1.mono h)
  | u => exact .u
theorem FzL.mono {H H' : Heap} {J : List Nat} (h : ∀ (i : Nat) kv d, H[i]? = some (.tree kv d) → H'[i]? = some (.tree kv d)) : ∀ {c c' : List A}, FzL H J c c' → FzL H' J c c'
  | _, _, .nil => .nil
  | _, _, .cons h1 h2 => .cons (h1.mono h) (h2.mono h)
/-! ### trees without trees below -/

/-! ### trees that are not looked at -/

end Go.AM

/-
  Functions that write into an array below which there is no memory.
  Conditions: none.
-/
namespace Go.AM
set_option linter.unusedVariables false
set_option linter.unusedSimpArgs false

end Go.AM

/-
  Laws whose code reads a table of the library: the table's block is told among the objects and owns nothing.
  Conditions: none.
-/
namespace Go.AM
open Go.ChangeShapes Go.WideShapes Go.ChangeAt Go.RowKit
set_option linter.unusedVariables false
set_option linter.unusedSimpArgs false

/-- the way in which a table's block is told -/
abbrev K.tab (g : Nat) : K := .grow 0 (some (g, 0, 0, 0))

theorem K.tab_owns {g b o : Nat} : ¬ (K.tab g).owns b o := by
  rintro ⟨_, _, h⟩
  omega

theorem safe_tab {w : World} {g b o : Nat} : Safe w [] b o → Safe w [K.tab g] b o := fun h =>
  ⟨h.1, fun k hk => by rw [List.mem_singleton.1 hk]; exact K.tab_owns⟩

theorem RC.tab {w : World} {g n m : Nat} {c : C} {v : Value} (h : RC w [] n c v) : RC w [K.tab g] m c v := by
  cases h with
  | d h => exact .d (h.mono fun b o hs => ⟨safe_tab hs, rfl⟩)
  | el h => exact .el (h.mono fun b o hs => ⟨safe_tab hs, rfl⟩)
  | full h => exact .full (h.mono fun b o hs => ⟨safe_tab hs, rfl⟩)
  | u h => exact .u h
  | ptr h => simp at h
  | own h1 h2 => obtain ⟨q, p, h3, _⟩ := h2; simp at h3
  | fsl h => simp at h
  | psl h => simp at h
  | rel h => simp at h
  | map h => simp at h
  | fn h1 h2 => exact .fn h1 fun i r o h => by obtain ⟨b, h3, _⟩ := h2 i r o h; simp at h3

theorem RCs.tab {w : World} {g n m : Nat} {cs : List C} {vs : List Value} (h : RCs w [] n cs vs) : RCs w [K.tab g] m cs vs :=
  ⟨h.1, fun i c v h1 h2 => (h.2 i c v h1 h2).tab⟩

theorem RA.tab {w : World} {g n m : Nat} {a : A} {v : Value} (h : RA w [] n a v) : RA w [K.tab g] m a v := by
  induction h with
  | u => exact .u
  | c h => exact .c h.tab
  | agg h => exact .agg h.tab
  | tup h1 h2 ih => exact .tup h1 ih
  | gd h1 h2 ih => exact .gd ih h2

section
variable {P : Program} {H : Type} {enc : TypeId × Value → H}

end
end Go.AM

/-
  Functions that are handed nil, where an owned slice with nothing in it serves.
  Conditions: none.
-/
namespace Go.AM
set_option linter.unusedVariables false
set_option linter.unusedSimpArgs false
variable {w : World} {ι : List K}

end Go.AM

/-
  The machine's equations under short names.
  Conditions: none.
-/
namespace Go.AM
theorem ew : (∀ {s : List A} {x : A}, Opd.ev s (.k x) = x) ∧
  (∀ {x0 : A} {l : List A}, Opd.ev (x0 :: l) (.t 0) = x0) ∧
  (∀ {x0 x1 : A} {l : List A}, Opd.ev (x0 :: x1 :: l) (.t 1) = x1) ∧
  (∀ {x0 x1 x2 : A} {l : List A}, Opd.ev (x0 :: x1 :: x2 :: l) (.t 2) = x2) ∧
  (∀ {x0 x1 x2 x3 : A} {l : List A}, Opd.ev (x0 :: x1 :: x2 :: x3 :: l) (.t 3) = x3) ∧
  (∀ {x0 x1 x2 x3 x4 : A} {l : List A}, Opd.ev (x0 :: x1 :: x2 :: x3 :: x4 :: l) (.t 4) = x4) ∧
  (∀ {x0 x1 x2 x3 x4 x5 : A} {l : List A}, Opd.ev (x0 :: x1 :: x2 :: x3 :: x4 :: x5 :: l) (.t 5) = x5) ∧
  (∀ {x0 x1 x2 x3 x4 x5 x6 : A} {l : List A}, Opd.ev (x0 :: x1 :: x2 :: x3 :: x4 :: x5 :: x6 :: l) (.t 6) = x6) ∧
  (∀ {x0 x1 x2 x3 x4 x5 x6 x7 : A} {l : List A}, Opd.ev (x0 :: x1 :: x2 :: x3 :: x4 :: x5 :: x6 :: x7 :: l) (.t 7) = x7) ∧
  (∀ {x0 x1 x2 x3 x4 x5 x6 x7 : A} {l : List A} {n : Nat}, Opd.ev (x0 :: x1 :: x2 :: x3 :: x4 :: x5 :: x6 :: x7 :: l) (.t (n + 8)) = Opd.ev l (.t n)) := ⟨rfl, rfl, rfl, rfl, rfl, rfl, rfl, rfl, rfl, rfl⟩
theorem sw : (∀ {α : Type} {x0 y : α} {l : List α}, (x0 :: l).set 0 y = y :: l) ∧
  (∀ {α : Type} {x0 x1 y : α} {l : List α}, (x0 :: x1 :: l).set 1 y = x0 :: y :: l) ∧
  (∀ {α : Type} {x0 x1 x2 y : α} {l : List α}, (x0 :: x1 :: x2 :: l).set 2 y = x0 :: x1 :: y :: l) ∧
  (∀ {α : Type} {x0 x1 x2 x3 y : α} {l : List α}, (x0 :: x1 :: x2 :: x3 :: l).set 3 y = x0 :: x1 :: x2 :: y :: l) ∧
  (∀ {α : Type} {x0 x1 x2 x3 x4 y : α} {l : List α}, (x0 :: x1 :: x2 :: x3 :: x4 :: l).set 4 y = x0 :: x1 :: x2 :: x3 :: y :: l) ∧
  (∀ {α : Type} {x0 x1 x2 x3 x4 x5 y : α} {l : List α}, (x0 :: x1 :: x2 :: x3 :: x4 :: x5 :: l).set 5 y = x0 :: x1 :: x2 :: x3 :: x4 :: y :: l) ∧
  (∀ {α : Type} {x0 x1 x2 x3 x4 x5 x6 y : α} {l : List α}, (x0 :: x1 :: x2 :: x3 :: x4 :: x5 :: x6 :: l).set 6 y = x0 :: x1 :: x2 :: x3 :: x4 :: x5 :: y :: l) ∧
  (∀ {α : Type} {x0 x1 x2 x3 x4 x5 x6 x7 y : α} {l : List α}, (x0 :: x1 :: x2 :: x3 :: x4 :: x5 :: x6 :: x7 :: l).set 7 y = x0 :: x1 :: x2 :: x3 :: x4 :: x5 :: x6 :: y :: l) ∧
  (∀ {α : Type} {x0 x1 x2 x3 x4 x5 x6 x7 y : α} {l : List α} {n : Nat}, (x0 :: x1 :: x2 :: x3 :: x4 :: x5 :: x6 :: x7 :: l).set (n + 8) y = x0 :: x1 :: x2 :: x3 :: x4 :: x5 :: x6 :: x7 :: l.set n y) := ⟨rfl, rfl, rfl, rfl, rfl, rfl, rfl, rfl, rfl⟩
theorem kw : (∀ {P : Program} {F : Ex → St → Prop} {fs : List Fr} {st : St}, aw P .skip (kq P F fs) st = kq P F fs .normal st) ∧
  (∀ {P : Program} {F : Ex → St → Prop} {fs : List Fr} {st : St} {ops kill}, aw P (.region ops kill) (kq P F fs) st = awOps P (kq P F fs .normal) kill ops st) ∧
  (∀ {P : Program} {F : Ex → St → Prop} {fs : List Fr} {st : St} {a b}, aw P (.seq a b) (kq P F fs) st = aw P a (kq P F (.seq b :: fs)) st) ∧
  (∀ {P : Program} {F : Ex → St → Prop} {fs : List Fr} {st : St} {id c}, aw P (.block id c) (kq P F fs) st = aw P c (kq P F (.block id :: fs)) st) ∧
  (∀ {P : Program} {F : Ex → St → Prop} {fs : List Fr} {st : St} {id}, aw P (.exit id) (kq P F fs) st = kq P F fs (.exit id) st) ∧
  (∀ {P : Program} {F : Ex → St → Prop} {fs : List Fr} {st : St}, aw P .ret (kq P F fs) st = kq P F fs .ret st) ∧
  (∀ {P : Program} {F : Ex → St → Prop} {st : St} {e}, kq P F [] e st = F e st) ∧
  (∀ {P : Program} {F : Ex → St → Prop} {fs : List Fr} {st : St} {b}, kq P F (.seq b :: fs) .normal st = aw P b (kq P F fs) st) ∧
  (∀ {P : Program} {F : Ex → St → Prop} {fs : List Fr} {st : St} {b}, kq P F (.seq b :: fs) .ret st = kq P F fs .ret st) ∧
  (∀ {P : Program} {F : Ex → St → Prop} {fs : List Fr} {st : St} {b i}, kq P F (.seq b :: fs) (.exit i) st = kq P F fs (.exit i) st) ∧
  (∀ {P : Program} {F : Ex → St → Prop} {fs : List Fr} {st : St} {i}, kq P F (.block i :: fs) .normal st = kq P F fs .normal st) ∧
  (∀ {P : Program} {F : Ex → St → Prop} {fs : List Fr} {st : St} {i}, kq P F (.block i :: fs) .ret st = kq P F fs .ret st) ∧
  (∀ {P : Program} {F : Ex → St → Prop} {fs : List Fr} {st : St} {i j}, kq P F (.block i :: fs) (.exit j) st = if j = i then kq P F fs .normal st else kq P F fs (.exit j) st) ∧
  (∀ {P : Program} {F : Ex → St → Prop} {fs : List Fr} {st : St} {I m}, kq P F (.loop I m :: fs) .normal st = LB I m st) ∧
  (∀ {P : Program} {F : Ex → St → Prop} {fs : List Fr} {st : St} {I m}, kq P F (.loop I m :: fs) .ret st = kq P F fs .ret st) ∧
  (∀ {P : Program} {F : Ex → St → Prop} {fs : List Fr} {st : St} {I m i}, kq P F (.loop I m :: fs) (.exit i) st = kq P F fs (.exit i) st) := ⟨rfl, rfl, rfl, rfl, rfl, rfl, rfl, rfl, rfl, rfl, rfl, rfl, rfl, rfl, rfl, rfl⟩
theorem tw : (∀ {P : Program} {F : Ex → St → Prop} {fs : List Fr} {st : St} {kill}, awOps P (kq P F fs .normal) kill [] st = kq P F fs .normal ⟨o_ st.sl kill, st.ext, st.loc⟩) ∧
  (∀ {P : Program} {F : Ex → St → Prop} {fs : List Fr} {st : St} {kill dst op rest}, awOps P (kq P F fs .normal) kill (⟨dst, op, none⟩ :: rest) st = c_ P st true (nx P F ⟨dst, none, rest, kill, fs⟩) op) ∧
  (∀ {P : Program} {F : Ex → St → Prop} {st : St} {k a}, nx P F k a st = awOps P (kq P F k.fs .normal) k.kill k.rest ⟨d_ st.sl k.dst (e_ k.gd a), st.ext, st.loc⟩) ∧
  (∀ {v : A} {K : A → St → Prop} {st : St}, OptK (some v) K st = K v st) ∧
  (∀ {K : A → St → Prop} {st' : St}, StoreK (some st') K = (Obs.fits st'.ext.length 0 st'.ext ∧ K .u st')) ∧
  (∀ {n : Nat}, allLen n [] ↔ True) ∧
  (∀ {n : Nat} {r : List D} {l : List (List D)}, allLen n (r :: l) ↔ r.length = n ∧ allLen n l) ∧
  (∀ {n : Nat} {l l' : List (List D)}, allLen n (l ++ l') ↔ allLen n l ∧ allLen n l') ∧
  (∀ {α β : Type} {a : α} {f : α → β}, Option.map f (some a) = some (f a)) :=
  ⟨rfl, rfl, rfl, rfl, rfl, allLen_nil_iff, allLen_cons_iff, allLen_append_iff, rfl⟩
end Go.AM

/-
  The array of a tree that a call hands out is taken as an own row of cells.
  Conditions: none.
-/
namespace Go.AM
set_option linter.unusedVariables false
set_option linter.unusedSimpArgs false
section
variable {w : World} {ι ι' : List K}

end
end Go.AM

/-
  Laws whose code reads several variables of the library: each one's block is told among the objects and owns nothing.
  Conditions: none.
-/
namespace Go.AM
open Go.ChangeShapes Go.WideShapes Go.ChangeAt Go.RowKit
set_option linter.unusedVariables false
set_option linter.unusedSimpArgs false

section
variable {P : Program} {H : Type} {enc : TypeId × Value → H}

end
end Go.AM

/-
  An own object of data is let go: its pointer reads as one at a row of data.
  Conditions: none.
-/
namespace Go.AM
open Go.ChangeShapes Go.WideShapes Go.ChangeAt Go.RowKit
set_option linter.unusedVariables false
set_option linter.unusedSimpArgs false

end Go.AM
