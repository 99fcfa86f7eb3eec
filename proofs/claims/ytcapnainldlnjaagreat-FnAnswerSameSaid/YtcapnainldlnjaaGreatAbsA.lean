/-
  An abstract machine for Go code: pure data, references to a call's own objects, and the reading of abstract values in a world.
  Conditions: none (definitions and their monotony).
-/
import Derived.Orders
import Derived.WalkKit
import Derived.Below
import Derived.Laws.Cells
namespace Go.AM
set_option linter.unusedVariables false
set_option linter.unusedSimpArgs false

/-- pure data -/
inductive D where
  | bool (b : Bool)
  | int (k : IntKind) (n : Int)
  | str (s : List UInt8)
  | sl (rows : List (List D))
  | v (x : Value)
  deriving Inhabited

inductive Ref where
  | e (b : Nat)
  | l (i : Nat)
  deriving Inhabited

/-- what a cell or a one-cell slot holds -/
inductive C where
  | d (x : D)
  | ptr (r : Ref) (off : Nat)
  | el (row : List D) (off : Nat)
  | own (r : Ref) (pos : Nat) (rows : List (List D))
  | full (rows : List (List D))
  | fsl (r : Ref) (len sz : Nat)
  | psl (r : Ref) (lo n sz : Nat)
  | csl (r : Ref) (n sz : Nat)
  | rel (r : Ref) (i off : Nat)
  | map (r : Ref)
  | fn (f : FuncId) (caps : List (Ref × Nat))
  | u
  deriving Inhabited

inductive A where
  | u
  | c (x : C)
  | agg (cs : List C)
  | tup (vs : List A)
  | gd (g : Bool) (x : A)
  deriving Inhabited

inductive Ob where
  | cells (cs : List C)
  | rows (rs : List (List D))
  | grow (pos sz : Nat)
  | map (m : List (Int × List D))
  | tree (v : Value) (rows : List (List D))
  | tab (g : Nat) (o : Obj)
  | dead
  deriving Inhabited

abbrev Heap := List Ob

structure St where
  sl : List A
  ext : Heap
  loc : Heap

/-- what an object is in a world -/
inductive K where
  | x
  | blk (b : Nat)
  | rows (b sz len : Nat)
  | grow (pos : Nat) (p : Option (Nat × Nat × Nat × Nat))
  | tree (B : Nat → Prop)

def K.owns : K → Nat → Nat → Prop
  | .x, _, _ => False
  | .blk b, b', _ => b' = b
  | .rows b _ _, b', _ => b' = b
  | .grow _ none, _, _ => False
  | .grow _ (some (b, E, lim, _)), b', o => b' = b ∧ E ≤ o ∧ o < lim
  | .tree B, b', _ => B b'

def Safe (w : World) (ι : List K) (b o : Nat) : Prop := b < w.heap.size ∧ ∀ k ∈ ι, ¬ k.owns b o

def inR (k : IntKind) (n : Int) : Prop := k.min ≤ n ∧ n ≤ k.max

def maxRows : Nat := 2 ^ 48
def maxStr : Nat := 2 ^ 62

/-- a datum is read off a value; S: the cells that it may be read from -/
inductive RD (w : World) (S : Nat → Nat → Prop) : D → Value → Prop
  | bool (b : Bool) : RD w S (.bool b) (.bool b)
  | int (k : IntKind) (n : Int) : inR k n → RD w S (.int k n) (.int k n)
  | str (s : ByteArray) : s.data.toList.length ≤ maxStr → RD w S (.str s.data.toList) (.string s)
  | v (x : Value) : x.oneCell' = true → RD w S (.v x) x
  | nil (a : Option Addr) : RD w S (.sl []) (.slice a 0 0)
  | sl (rows : List (List D)) (b off cap sz : Nat) (vs : Nat → Value) : rows.length ≤ cap → rows.length ≤ maxRows →
      (∀ (i : Nat) (r : List D), rows[i]? = some r → r.length = sz) →
      (∀ (i : Nat) (r : List D) (j : Nat) (x : D), rows[i]? = some r → r[j]? = some x → w.cell? ⟨b, off + (i * sz + j), none⟩ = some (vs (i * sz + j)) ∧ S b (off + (i * sz + j))) →
      (∀ (i : Nat) (r : List D) (j : Nat) (x : D), rows[i]? = some r → r[j]? = some x → RD w S x (vs (i * sz + j))) →
      RD w S (.sl rows) (.slice (some ⟨b, off, none⟩) rows.length cap)

/-- a row of cells reads as a list of data -/
def RowAt (w : World) (S : Nat → Nat → Prop) (row : List D) (b o : Nat) : Prop :=
  ∀ (j : Nat) (x : D), row[j]? = some x → ∃ y, w.cell? ⟨b, o + j, none⟩ = some y ∧ S b (o + j) ∧ RD w S x y

theorem RD.mono {w w' : World} {S S' : Nat → Nat → Prop} (h : ∀ b o, S b o → S' b o ∧ w'.cell? ⟨b, o, none⟩ = w.cell? ⟨b, o, none⟩) {d : D} {v : Value}
    (hr : RD w S d v) : RD w' S' d v := by
  induction hr with
  | bool b => exact .bool b
  | int k n hn => exact .int k n hn
  | str s hs => exact .str s hs
  | v x hx => exact .v x hx
  | nil a => exact .nil a
  | sl rows b off cap sz vs h1 h2 h3 h4 h5 ih =>
    refine .sl rows b off cap sz vs h1 h2 h3 (fun i r j x hi hj => ?_) ih
    have ⟨a, s⟩ := h4 i r j x hi hj
    have ⟨p, q⟩ := h _ _ s
    exact ⟨q.trans a, p⟩

theorem RowAt.mono {w w' : World} {S S' : Nat → Nat → Prop} (h : ∀ b o, S b o → S' b o ∧ w'.cell? ⟨b, o, none⟩ = w.cell? ⟨b, o, none⟩) {row : List D} {b o : Nat}
    (hr : RowAt w S row b o) : RowAt w' S' row b o := fun j x hj =>
  let ⟨y, h1, h2, h3⟩ := hr j x hj
  let ⟨p, q⟩ := h _ _ h2
  ⟨y, q.trans h1, p, h3.mono h⟩

/-- a slice's reading, row by row -/
theorem RD.sl_iff {w : World} {S : Nat → Nat → Prop} {rows : List (List D)} {a : Option Addr} {len cap : Nat} :
    RD w S (.sl rows) (.slice a len cap) ↔ (rows = [] ∧ len = 0 ∧ cap = 0) ∨
      ∃ b off sz, a = some ⟨b, off, none⟩ ∧ len = rows.length ∧ rows.length ≤ cap ∧ rows.length ≤ maxRows ∧
        ∀ (i : Nat) (r : List D), rows[i]? = some r → r.length = sz ∧ RowAt w S r b (off + i * sz) := by
  constructor
  · intro h
    cases h with
    | nil a => exact .inl ⟨rfl, rfl, rfl⟩
    | sl _ b off _ sz vs h1 h2 h3 h4 h5 =>
      refine .inr ⟨b, off, sz, rfl, rfl, h1, h2, fun i r hi => ⟨h3 i r hi, fun j x hj => ?_⟩⟩
      have ⟨p, q⟩ := h4 i r j x hi hj
      exact ⟨_, by rw [Nat.add_assoc]; exact p, by rw [Nat.add_assoc]; exact q, h5 i r j x hi hj⟩
  · rintro (⟨rfl, rfl, rfl⟩ | ⟨b, off, sz, rfl, rfl, h1, h2, h3⟩)
    · exact .nil _
    · refine .sl rows b off cap sz (fun n => (w.cell? ⟨b, off + n, none⟩).getD undef) h1 h2 (fun i r hi => (h3 i r hi).1) (fun i r j x hi hj => ?_) (fun i r j x hi hj => ?_)
      · obtain ⟨y, p, q, _⟩ := (h3 i r hi).2 j x hj
        rw [Nat.add_assoc] at p q
        exact ⟨by rw [p]; rfl, q⟩
      · obtain ⟨y, p, q, hy⟩ := (h3 i r hi).2 j x hj
        rw [Nat.add_assoc] at p
        rw [p]; exact hy

/-- data that bear no memory -/
def D.leaf : D → Bool
  | .sl [] => true
  | .sl _ => false
  | _ => true

/-- a tree of slices that own their arrays, each its own; B: its blocks -/
inductive RT (w : World) : D → Value → (Nat → Prop) → Prop
  | leaf {x : D} {v : Value} : x.leaf = true → RD w (fun _ _ => False) x v → RT w x v (fun _ => False)
  | sl (rows : List (List D)) (b cap sz : Nat) (vs : Array Value) (el : TypeId) (vf : Nat → Value) (Bs : Nat → Nat → Prop) : rows ≠ [] → rows.length ≤ cap → rows.length ≤ maxRows →
      (∀ r ∈ rows, r.length = sz) → w.heap[b]? = some (.cells vs el (0, 0)) → rows.flatten.length ≤ vs.size →
      (∀ (n : Nat) (x : D), rows.flatten[n]? = some x → vs[n]? = some (vf n)) →
      (∀ (n : Nat) (x : D), rows.flatten[n]? = some x → RT w x (vf n) (Bs n)) →
      (∀ n, ¬ Bs n b) → (∀ n m c, Bs n c → Bs m c → n = m) →
      RT w (.sl rows) (.slice (some ⟨b, 0, none⟩) rows.length cap) (fun c => c = b ∨ ∃ n, Bs n c)

theorem RT.mono {w w' : World} {x : D} {v : Value} {B : Nat → Prop} (h : RT w x v B) (hb : ∀ b, B b → w'.heap[b]? = w.heap[b]?) : RT w' x v B := by
  induction h with
  | leaf h1 h2 => exact .leaf h1 (h2.mono fun b o h => h.elim)
  | sl rows b cap sz vs el vf Bs h1 h2 h3 h4 h5 h6 h7 h8 h9 h10 ih =>
    exact .sl rows b cap sz vs el vf Bs h1 h2 h3 h4 ((hb b (.inl rfl)).trans h5) h6 h7 (fun n x hn => ih n x hn fun c hc => hb c (.inr ⟨n, hc⟩)) h9 h10

def idx (n : Nat) : Ref → Nat
  | .e b => b
  | .l i => n + i

/-- the place at which an owned slice ends, if there is room behind it -/
def Cur (pos : Nat) (rows : List (List D)) (v : Value) (p : Option (Nat × Nat × Nat × Nat)) : Prop :=
  (match v with
  | .slice (some a) len cap => len < cap → ∃ sz, p = some (a.block, a.off + len * sz, a.off + cap * sz, sz) ∧ ∀ r ∈ rows, r.length = sz
  | _ => True) ∧ rows.length ≤ pos ∧
  (rows.length = pos → (rows = [] ∧ p = none) ∨ ∃ b cap cap' sz, p = some (b, rows.length * sz, cap' * sz, sz) ∧ v = .slice (some ⟨b, 0, none⟩) rows.length cap ∧ rows.length ≤ cap ∧ cap ≤ cap' ∧ ∀ r ∈ rows, r.length = sz)

inductive RC (w : World) (ι : List K) (n : Nat) : C → Value → Prop
  | d {x v} : RD w (Safe w ι) x v → RC w ι n (.d x) v
  | ptr {r off b} : ι[idx n r]? = some (.blk b) → RC w ι n (.ptr r off) (.pointer (some ⟨b, off, none⟩))
  | el {row off b o} : RowAt w (Safe w ι) row b o → RC w ι n (.el row off) (.pointer (some ⟨b, o + off, none⟩))
  | own {r pos rows v} : RD w (Safe w ι) (.sl rows) v → (∃ q p, ι[idx n r]? = some (.grow q p) ∧ pos ≤ q ∧ (pos = q → Cur pos rows v p)) → RC w ι n (.own r pos rows) v
  | full {rows a len} : RD w (Safe w ι) (.sl rows) (.slice a len len) → RC w ι n (.full rows) (.slice a len len)
  | fsl {r len b sz cap} : ι[idx n r]? = some (.rows b sz len) → len ≤ cap → RC w ι n (.fsl r len sz) (.slice (some ⟨b, 0, none⟩) len cap)
  | psl {r lo m b sz len off cap} : ι[idx n r]? = some (.rows b sz len) → lo + m ≤ len → m ≤ cap → (0 < m → off = lo * sz) → RC w ι n (.psl r lo m sz) (.slice (some ⟨b, off, none⟩) m cap)
  | csl {r m b sz len cap} : ι[idx n r]? = some (.rows b sz len) → m ≤ cap → m ≤ len → min cap (2 ^ 40) ≤ len → RC w ι n (.csl r m sz) (.slice (some ⟨b, 0, none⟩) m cap)
  | rel {r i off b sz len} : ι[idx n r]? = some (.rows b sz len) → RC w ι n (.rel r i off) (.pointer (some ⟨b, i * sz + off, none⟩))
  | map {r b} : ι[idx n r]? = some (.blk b) → RC w ι n (.map r) (.map (some b))
  | fn {f : FuncId} {caps : List (Ref × Nat)} {vs : List Value} : vs.length = caps.length →
      (∀ (i : Nat) (r : Ref) (o : Nat), caps[i]? = some (r, o) → ∃ b : Nat, ι[idx n r]? = some (.blk b) ∧ vs[i]? = some (.pointer (some ⟨b, o, none⟩))) → RC w ι n (.fn f caps) (.func (.func f) #[] vs.toArray)
  | u {v : Value} : v.oneCell' = true → RC w ι n .u v

def RCs (w : World) (ι : List K) (n : Nat) (cs : List C) (vs : List Value) : Prop :=
  vs.length = cs.length ∧ ∀ (i : Nat) c v, cs[i]? = some c → vs[i]? = some v → RC w ι n c v

inductive RA (w : World) (ι : List K) (n : Nat) : A → Value → Prop
  | u {v : Value} : RA w ι n .u v
  | c {x v} : RC w ι n x v → RA w ι n (.c x) v
  | agg {cs vs} : RCs w ι n cs vs → RA w ι n (.agg cs) (.agg vs.toArray)
  | tup {as : List A} {vs : List Value} : vs.length = as.length → (∀ (i : Nat) a v, as[i]? = some a → vs[i]? = some v → RA w ι n a v) → RA w ι n (.tup as) (.tuple vs.toArray)
  | gd {g x v} : (g = true → RA w ι n x v) → (g = false → v = undef) → RA w ι n (.gd g x) v

def K.ev : K → K → Prop
  | .grow p q, k' => ∃ p' q', k' = .grow p' q' ∧ p ≤ p' ∧ (p = p' → q = q')
  | k, k' => k = k'

def K.at (k : K) (b : Nat) : Prop :=
  match k with
  | .x => False
  | .blk b' => b = b'
  | .rows b' _ _ => b = b'
  | .grow _ none => False
  | .grow _ (some (b', _)) => b = b'
  | .tree B => B b

theorem K.at_of_owns {k : K} {b o : Nat} (h : k.owns b o) : k.at b := by
  match k with
  | .x => exact h.elim
  | .blk b' => exact h
  | .rows b' _ _ => exact h
  | .grow _ none => exact h.elim
  | .grow _ (some (b', _, _, _)) => exact h.1
  | .tree B => exact h

/-- an object holds what it is said to hold -/
def RO (w : World) (ι : List K) (n : Nat) : Ob → K → Prop
  | .cells cs, .blk b => ∃ vs el, w.heap[b]? = some (.cells vs el (0, 0)) ∧ RCs w ι n cs vs.toList
  | .rows rs, .rows b sz len => ∃ vs el, w.heap[b]? = some (.cells vs el (0, 0)) ∧ rs.length * sz ≤ vs.size ∧ (rs.length ≤ maxRows ∧ rs.length = len) ∧
      ∀ (i : Nat) (r : List D), rs[i]? = some r → r.length = sz ∧ ∀ (j : Nat) (x : D), r[j]? = some x → ∃ y, vs[i * sz + j]? = some y ∧ RD w (Safe w ι) x y
  | .grow p _, .grow q none => p = q
  | .grow p s, .grow q (some (b, E, lim, sz)) => (p = q ∧ sz = s) ∧ ∃ vs el, w.heap[b]? = some (.cells vs el (0, 0)) ∧ lim ≤ vs.size
  | .map m, .blk b => ∃ es clock, w.heap[b]? = some (.map es clock) ∧ es.size = m.length ∧ (m.map (·.1)).Nodup ∧
      ∀ (i : Nat) k row e, m[i]? = some (k, row) → es[i]? = some e → e.key = .int .i64 k ∧ e.born < clock ∧
        ((∃ x v, row = [x] ∧ e.val = v ∧ RD w (Safe w ι) x v) ∨ (∃ vs, e.val = .agg vs ∧ (vs.size = row.length ∧ row.length ≠ 1) ∧ ∀ (j : Nat) x y, row[j]? = some x → vs[j]? = some y → RD w (Safe w ι) x y))
  | .tree v d, .tree B => ∃ B₀ : Nat → Prop, (∀ b, B₀ b → B b) ∧ RT w (.sl d) v B₀
  | .tab g o, .grow q (some (b, _, lim, _)) => (b = g ∧ lim = 0) ∧ w.heap[g]? = some o
  | .dead, _ => True
  | _, _ => False

structure Sim (w : World) (ι : List K) (n : Nat) (H : Heap) : Prop where
  len : ι.length = H.length
  obj : ∀ (i : Nat) o k, H[i]? = some o → ι[i]? = some k → RO w ι n o k
  apart : ∀ (i j : Nat) k k' b, ι[i]? = some k → ι[j]? = some k' → k.at b → k'.at b → i = j
  low : ∀ k b, k ∈ ι → k.at b → b < w.heap.size

/-- what a step or a call leaves as it was -/
structure Ext (w : World) (ι : List K) (w' : World) (ι' : List K) : Prop where
  os : w'.os = w.os
  tape : w'.tape = w.tape
  output : w'.output = w.output
  size : w.heap.size ≤ w'.heap.size
  safe : ∀ b o, Safe w ι b o → Safe w' ι' b o ∧ w'.cell? ⟨b, o, none⟩ = w.cell? ⟨b, o, none⟩
  block : ∀ b, b < w.heap.size → (∀ k ∈ ι, ¬ k.at b) → w'.heap[b]? = w.heap[b]? ∧ ∀ k ∈ ι', ¬ k.at b
  ev : ∀ (i : Nat) k, ι[i]? = some k → ∃ k', ι'[i]? = some k' ∧ k.ev k'

theorem K.ev_refl (k : K) : k.ev k := by
  match k with
  | .x => rfl
  | .blk _ => rfl
  | .rows _ _ _ => rfl
  | .grow p q => exact ⟨p, q, rfl, Nat.le_refl _, fun _ => rfl⟩
  | .tree _ => rfl

theorem K.ev_trans {a b c : K} (h : a.ev b) (h' : b.ev c) : a.ev c := by
  cases a with
  | grow p q =>
    obtain ⟨p', q', rfl, h1, h2⟩ := h
    obtain ⟨p'', q'', rfl, h3, h4⟩ := h'
    exact ⟨p'', q'', rfl, by omega, fun e => by rw [h2 (by omega), h4 (by omega)]⟩
  | _ => cases h; exact h'

theorem Ext.refl (w : World) (ι : List K) : Ext w ι w ι :=
  ⟨rfl, rfl, rfl, Nat.le_refl _, fun _ _ h => ⟨h, rfl⟩, fun _ _ h => ⟨rfl, h⟩, fun _ k h => ⟨k, h, k.ev_refl⟩⟩

theorem Ext.trans {w w' w'' : World} {ι ι' ι'' : List K} (h : Ext w ι w' ι') (k : Ext w' ι' w'' ι'') : Ext w ι w'' ι'' where
  os := k.os.trans h.os
  tape := k.tape.trans h.tape
  output := k.output.trans h.output
  size := Nat.le_trans h.size k.size
  safe := fun b o hs => let ⟨p, q⟩ := h.safe b o hs; let ⟨p', q'⟩ := k.safe b o p; ⟨p', q'.trans q⟩
  block := fun b hb hk => let ⟨p, q⟩ := h.block b hb hk; let ⟨p', q'⟩ := k.block b (Nat.lt_of_lt_of_le hb h.size) q; ⟨p'.trans p, q'⟩
  ev := fun i k0 hx => let ⟨y, p, q⟩ := h.ev i k0 hx; let ⟨z, p', q'⟩ := k.ev i y p; ⟨z, p', K.ev_trans q q'⟩

theorem RC.mono {w w' : World} {ι ι' : List K} {n : Nat} (h : Ext w ι w' ι') {c : C} {v : Value} (hr : RC w ι n c v) : RC w' ι' n c v := by
  cases hr with
  | d h1 => exact .d (h1.mono h.safe)
  | @ptr r off b h1 =>
    obtain ⟨k', p, q⟩ := h.ev _ _ h1
    cases q; exact .ptr p
  | el h1 => exact .el (h1.mono h.safe)
  | own h1 h2 =>
    obtain ⟨q, p, h2, h3, h4⟩ := h2
    obtain ⟨k', h5, q', p', rfl, h6, h7⟩ := h.ev _ _ h2
    exact .own (h1.mono h.safe) ⟨q', p', h5, by omega, fun e => by rw [← h7 (by omega)]; exact h4 (by omega)⟩
  | full h1 => exact .full (h1.mono h.safe)
  | fsl h1 h2 => obtain ⟨k', p, q⟩ := h.ev _ _ h1; cases q; exact .fsl p h2
  | psl h1 h2 h3 h4 => obtain ⟨k', p, q⟩ := h.ev _ _ h1; cases q; exact .psl p h2 h3 h4
  | csl h1 h2 h3 h4 => obtain ⟨k', p, q⟩ := h.ev _ _ h1; cases q; exact .csl p h2 h3 h4
  | rel h1 => obtain ⟨k', p, q⟩ := h.ev _ _ h1; cases q; exact .rel p
  | map h1 => obtain ⟨k', p, q⟩ := h.ev _ _ h1; cases q; exact .map p
  | fn h1 h2 =>
    refine .fn h1 fun i r o hi => ?_
    obtain ⟨b, h3, h4⟩ := h2 i r o hi
    obtain ⟨k', p, q⟩ := h.ev _ _ h3
    cases q; exact ⟨b, p, h4⟩
  | u h1 => exact .u h1

theorem RCs.mono {w w' : World} {ι ι' : List K} {n : Nat} (h : Ext w ι w' ι') {cs : List C} {vs : List Value} (hr : RCs w ι n cs vs) : RCs w' ι' n cs vs :=
  ⟨hr.1, fun i c v h1 h2 => (hr.2 i c v h1 h2).mono h⟩

theorem RA.mono {w w' : World} {ι ι' : List K} {n : Nat} (h : Ext w ι w' ι') {a : A} {v : Value} (hr : RA w ι n a v) : RA w' ι' n a v := by
  induction hr with
  | u => exact .u
  | c h1 => exact .c (h1.mono h)
  | agg h1 => exact .agg (h1.mono h)
  | tup h1 h2 ih => exact .tup h1 ih
  | gd h1 h2 ih => exact .gd ih h2

theorem RD.oneCell {w : World} {S : Nat → Nat → Prop} {d : D} {v : Value} (h : RD w S d v) : v.oneCell' = true := by
  cases h <;> first | rfl | assumption

theorem RC.oneCell {w : World} {ι : List K} {n : Nat} {c : C} {v : Value} (h : RC w ι n c v) : v.oneCell' = true := by
  cases h with
  | d h1 => exact h1.oneCell
  | own h1 _ => exact h1.oneCell
  | u h1 => exact h1
  | _ => rfl

end Go.AM
