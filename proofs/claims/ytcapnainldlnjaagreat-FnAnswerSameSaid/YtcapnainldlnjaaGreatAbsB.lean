/-
  The abstract machine: its code, and what a run must meet (a weakest precondition on abstract states).
  Conditions: none (definitions).
-/
import Derived.Test.YtcapnainldlnjaaGreatAbsA
namespace Go.AM
set_option linter.unusedVariables false
set_option linter.unusedSimpArgs false

inductive Opd where
  | t (i : Nat)
  | k (a : A)

inductive FK where
  | int | str | bool
  deriving DecidableEq

inductive AOp where
  | mv (x : Opd)
  | pick (c a b : Opd)
  | alloc (zero : List C)
  | box (x : Opd)
  | build (zero : List C) (parts : List (Nat × Nat × Opd))
  | buildSlice (sz len : Nat) (zero : List D) (parts : List (Nat × Opd))
  | load (agg : Option Nat) (a : Opd)
  | store (n : Nat) (a x : Opd)
  | nilCheck (x : Opd)
  | bin (op : BinOp) (x y : Opd)
  | binB (neg : Bool) (x y : Opd)
  | isNil (neg : Bool) (x : Opd)
  | eqAgg (neg : Bool) (ks : List FK) (x y : Opd)
  | un (op : UnOp) (x : Opd)
  | cvInt (k : IntKind) (x : Opd)
  | cvStr (x : Opd)
  | cvB2S (x : Opd)
  | cvS2B (x : Opd)
  | len (k : Nat) (x : Opd)
  | append (str : Bool) (sz : Nat) (s x : Opd)
  | mkSlice (zero : List D) (n : Opd)
  | fieldAddr (off : Nat) (x : Opd)
  | field (off : Nat) (agg : Option Nat) (x : Opd)
  | indexAddr (sz : Nat) (x i : Opd)
  | indexArr (len sz : Nat) (x i : Opd)
  | index (x i : Opd)
  | slice (sz : Nat) (x : Opd) (lo hi max : Option Opd)
  | extract (i : Nat) (x : Opd)
  | mkFunc (f : FuncId) (caps : List Opd)
  | call (tok : Bool) (f : FuncId) (args : List Opd)
  | callv (f : Opd) (args : List Opd)
  | qcall (f : FuncId) (args : List Opd)
  | loadI (agg : Option Nat) (a : Opd)
  | nilSl (neg : Bool) (x : Opd)
  | appendF (sz : Nat) (s x : Opd)
  | loadL (head : Bool) (agg : Option Nat) (a : Opd)
  | callL (head tok : Bool) (f : FuncId) (args : List Opd)
  | mkMap
  | mapGet (n : Option Nat) (z : List D) (ok : Bool) (x k : Opd)
  | mapSet (x k v : Opd)
  | clear (z : List D) (x : Opd)
  | errNil (neg : Bool) (x : Opd)
  | imax (x y : Opd)
  | bot
  | buildSliceF (sz len : Nat) (zero : List D) (parts : List (Nat × Opd))
  | loadG (agg : Option Nat) (a : Opd)
  | appendP (z : List D) (s x : Opd)
  | appendZ (z : List D) (s n : Opd)
  | appendO (sz : Nat) (s x : Opd)

structure Step where
  dst : Option Nat
  op : AOp
  guard : Option (Nat × Bool)

inductive Cd where
  | skip
  | region (ops : List Step) (kill : List Nat)
  | seq (a b : Cd)
  | cond (c : Opd) (a b : Cd)
  | block (id : Nat) (body : Cd)
  | loop (body : Cd)
  | exit (id : Nat)
  | ret
  | weak (body : Cd)

inductive Ex where
  | normal
  | exit (id : Nat)
  | ret

/-! ### references -/

def Ref.re (n : Nat) : Ref → Ref
  | .e b => .e b
  | .l i => .e (n + i)
def C.re (n : Nat) : C → C
  | .ptr r off => .ptr (r.re n) off
  | .own r pos rows => .own (r.re n) pos rows
  | .fsl r len sz => .fsl (r.re n) len sz
  | .psl r lo m sz => .psl (r.re n) lo m sz
  | .csl r m sz => .csl (r.re n) m sz
  | .rel r i off => .rel (r.re n) i off
  | .map r => .map (r.re n)
  | .fn f caps => .fn f (caps.map fun x => (x.1.re n, x.2))
  | c => c
mutual
def A.re (n : Nat) : A → A
  | .u => .u
  | .c x => .c (x.re n)
  | .agg cs => .agg (cs.map (C.re n))
  | .tup vs => .tup (A.res n vs)
  | .gd g x => .gd g (x.re n)
def A.res (n : Nat) : List A → List A
  | [] => []
  | a :: l => a.re n :: A.res n l
end
def Ob.re (n : Nat) : Ob → Ob
  | .cells cs => .cells (cs.map (C.re n))
  | o => o

/-- all references are below a bound -/
def Ref.fits (n m : Nat) : Ref → Prop
  | .e b => b < n + m
  | .l i => i < m
def C.fits (n m : Nat) : C → Prop
  | .ptr r _ => r.fits n m
  | .own r _ _ => r.fits n m
  | .fsl r _ _ => r.fits n m
  | .psl r _ _ _ => r.fits n m
  | .csl r _ _ => r.fits n m
  | .rel r _ _ => r.fits n m
  | .map r => r.fits n m
  | .fn _ caps => ∀ x ∈ caps, x.1.fits n m
  | _ => True
def Cs.fits (n m : Nat) : List C → Prop
  | [] => True
  | c :: l => c.fits n m ∧ Cs.fits n m l
mutual
def A.fits (n m : Nat) : A → Prop
  | .u => True
  | .c x => x.fits n m
  | .agg cs => Cs.fits n m cs
  | .tup vs => As.fits n m vs
  | .gd g x => x.fits n m
def As.fits (n m : Nat) : List A → Prop
  | [] => True
  | a :: l => a.fits n m ∧ As.fits n m l
end
def Ob.fits (n m : Nat) : Ob → Prop
  | .cells cs => Cs.fits n m cs
  | _ => True
def Obs.fits (n m : Nat) : List Ob → Prop
  | [] => True
  | o :: l => o.fits n m ∧ Obs.fits n m l

/-! ### values -/

def Opd.ev (s : List A) : Opd → A
  | .t i => s.getD i .u
  | .k a => a

def d_ (s : List A) : Option Nat → A → List A
  | some i, a => s.set i a
  | none, _ => s

def o_ (s : List A) : List Nat → List A
  | [] => s
  | i :: l => o_ (s.set i .u) l

/-- the value behind a guard -/
def A.val : A → A
  | .gd _ x => x
  | a => a
/-- a guarded value may be used under a guard -/
def A.ok (G : Bool) : A → Prop
  | .gd g _ => G = true → g = true
  | _ => True

def z_ (st : St) : Ref → Ob
  | .e b => st.ext.getD b .dead
  | .l i => st.loc.getD i .dead
def B_ (st : St) : Ref → Ob → St
  | .e b, o => { st with ext := st.ext.set b (o.re st.ext.length) }
  | .l i, o => { st with loc := st.loc.set i o }
def obAt (n : Nat) : Ref → Ob → Ob
  | .e _, o => o.re n
  | .l _, o => o
def A_ (st : St) (o : Ob) : St := { st with loc := st.loc ++ [o] }

def A.cells : A → Option (List C)
  | .c x => some [x]
  | .agg cs => some cs
  | _ => none

def C.toD : C → Option D
  | .d x => some x
  | .own _ _ rows => some (.sl rows)
  | .full rows => some (.sl rows)
  | _ => none
def O_ : List C → Option (List D)
  | [] => some []
  | c :: l => match c.toD, O_ l with
    | some d, some ds => some (d :: ds)
    | _, _ => none

/-- a token is dropped -/
def C.pure : C → C
  | .own _ _ rows => .d (.sl rows)
  | .full rows => .d (.sl rows)
  | c => c
def A.pure : A → A
  | .c x => .c x.pure
  | .agg cs => .agg (cs.map C.pure)
  | a => a

def C.rows? : C → Option (List (List D))
  | .d (.sl r) => some r
  | .own _ _ r => some r
  | .full r => some r
  | _ => none

def cut (cs : List C) (off : Nat) : Option Nat → Option A
  | some n => if off + n ≤ cs.length then some (.agg ((cs.drop off).take n)) else none
  | none => (cs[off]?).map A.c

def D_ (cs : List C) (off : Nat) (new : List C) : List C := cs.take off ++ (new ++ cs.drop (off + new.length))

def y_ (st : St) (agg : Option Nat) : C → Option A
  | .ptr r off => match z_ st r with
    | .cells cs => cut cs off agg
    | _ => none
  | .el row off => cut (row.map C.d) off agg
  | .rel r i off => match z_ st r with
    | .rows rs => match rs[i]? with
      | some row => cut (row.map C.d) off agg
      | none => none
    | _ => none
  | _ => none

def P_ (cs : List D) (off : Nat) (new : List D) : List D := cs.take off ++ (new ++ cs.drop (off + new.length))

def C_ (st : St) (x : List C) : C → Option St
  | .ptr r off => match z_ st r with
    | .cells cs => if off + x.length ≤ cs.length then some (B_ st r (.cells (D_ cs off x))) else none
    | _ => none
  | .rel r i off => match z_ st r with
    | .rows rs => match rs[i]?, O_ x with
      | some row, some ds => if off + ds.length ≤ row.length then some (B_ st r (.rows (rs.set i (P_ row off ds)))) else none
      | _, _ => none
    | _ => none
  | _ => none

/-- the cells of a part of an own row of one-cell elements are cleared -/
def a0_ (st : St) (z : List D) : C → Option St
  | .psl r lo n sz => match z_ st r with
    | .rows rs => if 0 < n ∧ sz = 1 ∧ z.length = 1 then some (B_ st r (.rows (rs.take lo ++ (List.replicate n z ++ rs.drop (lo + n))))) else none
    | _ => none
  | _ => none

def l_ (op : BinOp) (x y : Int) : D :=
  match op with
  | .eql => .bool (x == y)
  | .neq => .bool (x != y)
  | .lss => .bool (decide (x < y))
  | .leq => .bool (decide (x ≤ y))
  | .gtr => .bool (decide (x > y))
  | _ => .bool (decide (x ≥ y))

def m_ : BinOp → Bool
  | .eql | .neq | .lss | .leq | .gtr | .geq => true
  | _ => false

def bitsVal (op : BinOp) (k : IntKind) (x y : Int) : Int :=
  let a := BitVec.ofInt k.bits x
  let b := BitVec.ofInt k.bits y
  match op with
  | .and => k.wrap (a &&& b).toNat
  | .or => k.wrap (a ||| b).toNat
  | .xor => k.wrap (a ^^^ b).toNat
  | _ => k.wrap (a &&& ~~~b).toNat

/-- what a binary operation asks, and its value -/
def k_ (op : BinOp) : D → D → Prop × D
  | .int k x, .int k' y =>
    match op with
    | .add => (k = k' ∧ inR k (x + y), .int k (x + y))
    | .sub => (k = k' ∧ inR k (x - y), .int k (x - y))
    | .mul => (k = k' ∧ inR k (x * y), .int k (x * y))
    | .quo => (k = k' ∧ y ≠ 0 ∧ inR k (x.tdiv y), .int k (x.tdiv y))
    | .rem => (k = k' ∧ y ≠ 0, .int k (x.tmod y))
    | .shl => (0 ≤ y ∧ y < k.bits ∧ inR k (x * 2 ^ y.toNat), .int k (x * 2 ^ y.toNat))
    | .shr => (0 ≤ y ∧ y < k.bits, .int k (x.fdiv (2 ^ y.toNat)))
    | .and | .or | .xor | .andNot => (k = k', .int k (bitsVal op k x y))
    | op => (k = k' ∧ m_ op = true, l_ op x y)
  | .str a, .str b =>
    match op with
    | .add => (a.length + b.length ≤ maxStr, .str (a ++ b))
    | .eql => (True, .bool (a == b))
    | .neq => (True, .bool (a != b))
    | .lss => (True, .bool (Op.bytesLess a b))
    | .leq => (True, .bool (Op.bytesLess a b || a == b))
    | .gtr => (True, .bool (!(Op.bytesLess a b || a == b)))
    | .geq => (True, .bool (!Op.bytesLess a b))
    | _ => (False, .bool false)
  | _, _ => (False, .bool false)

def j_ (op : BinOp) : C → C → Prop × D
  | .d x, .d y => k_ op x y
  | _, _ => (False, .bool false)

def i_ (op : BinOp) : A → A → Prop × A
  | .c x, .c y => ((j_ op x y).1, .c (.d (j_ op x y).2))
  | _, _ => (False, .u)

/-- equality of plain cells -/
def eqD : FK → D → D → Option Bool
  | .bool, .bool a, .bool b => some (a == b)
  | .int, .int k a, .int k' b => if k = k' then some (a == b) else none
  | .str, .str a, .str b => some (a == b)
  | _, _, _ => none
def U_ : List FK → List C → List C → Option Bool
  | [], [], [] => some true
  | k :: ks, .d x :: l, .d y :: r => match eqD k x y, U_ ks l r with
    | some a, some b => some (a && b)
    | _, _ => none
  | _, _, _ => none

def unD (op : UnOp) : D → Prop × D
  | .int k x => match op with
    | .neg => (inR k (0 - x), .int k (0 - x))
    | _ => (False, .bool false)
  | .bool b => match op with
    | .not => (True, .bool (!b))
    | _ => (False, .bool false)
  | _ => (False, .bool false)
def unA (op : UnOp) : A → Prop × A
  | .c (.d x) => ((unD op x).1, .c (.d (unD op x).2))
  | _ => (False, .u)

def n_ (st : St) (k : Nat) : A → Option Int
  | .c (.d (.str s)) => if k = 0 then some s.length else none
  | .c (.fsl _ n _) => if k = 1 then some n else none
  | .c (.psl _ _ n _) => if k = 1 then some n else none
  | .c (.map r) => if k = 2 then match z_ st r with
    | .map m => some m.length
    | _ => none else none
  | .c x => if k = 1 then x.rows?.map fun r => (r.length : Int) else none
  | _ => none

def h_ (t : Bool) : A → A → A
  | .c (.d (.bool x)), .c (.d (.bool y)) => .c (.d (.bool (cond t x y)))
  | a, b => cond t a b

def g_ : A → Option Bool
  | .c (.d (.bool b)) => some b
  | _ => none

/-- is a step run? -/
def f_ (w : Bool) : A → Option Bool
  | .c (.d (.bool b)) => some (b == w)
  | .gd g x => match x with
    | .c (.d (.bool b)) => some (g && (b == w))
    | _ => if g then none else some false
  | _ => none

def x_ (off : Nat) : A → Option A
  | .c (.ptr r o) => some (.c (.ptr r (o + off)))
  | .c (.el row o) => some (.c (.el row (o + off)))
  | .c (.rel r i o) => some (.c (.rel r i (o + off)))
  | _ => none

def evs (s : List A) : List Opd → List A
  | [] => []
  | x :: l => (x.ev s).val :: evs s l
def oks (G : Bool) (s : List A) : List Opd → Prop
  | [] => True
  | x :: l => (x.ev s).ok G ∧ oks G s l

def R_ : List A → Option (List (Ref × Nat))
  | [] => some []
  | .c (.ptr r o) :: l => (R_ l).map ((r, o) :: ·)
  | _ => none

/-- the parts of a literal laid over its zero -/
def I_ (cs : List C) : List (Nat × Nat × A) → Option (List C)
  | [] => some cs
  | (off, n, a) :: l => match a.cells with
    | some x => if x.length = n ∧ off + n ≤ cs.length then I_ (D_ cs off x) l else none
    | none => none
def J_ (rows : List (List D)) (sz : Nat) : List (Nat × A) → Option (List (List D))
  | [] => some rows
  | (i, a) :: l => match (a.cells).bind O_ with
    | some x => if x.length = sz ∧ i < rows.length then J_ (rows.set i x) sz l else none
    | none => none

def bytesRows (s : List UInt8) : List (List D) := s.map fun b => [.int .u8 b.toNat]
/-! ### calls -/

/-- what a call of a function gives, told of abstract values -/
def ACalls (P : Program) (f : FuncId) (args : List A) (H : Heap) (Q : A → Heap → Prop) : Prop :=
  (∃ fn, P.funcs[f]? = some fn ∧ fn.body.isSome = true ∧ fn.name ≠ "runtime.NumGoroutine") ∧
  ∀ (w : World) (ι : List K) (cargs : List Value), Sim w ι H.length H → cargs.length = args.length →
    (∀ (i : Nat) a v, args[i]? = some a → cargs[i]? = some v → RA w ι H.length a v) →
    Calls P f cargs.toArray w fun e w' => ∃ r H' ι' v, e = .returned v ∧ Q r H' ∧ Sim w' ι' H'.length H' ∧ RA w' ι' H'.length r v ∧ Ext w ι w' ι' ∧ H.length ≤ H'.length

/-! ### states -/

/-- a state of the machine, told of a world and a frame -/
structure SimSt (w : World) (ι : List K) (st : St) (a : Act) : Prop where
  sim : Sim w ι st.ext.length (st.ext ++ st.loc)
  size : a.tmps.size = st.sl.length
  slots : ∀ (i : Nat) x v, st.sl[i]? = some x → a.tmps[i]? = some v → RA w ι st.ext.length x v
  fit : Obs.fits st.ext.length 0 st.ext
  defers : a.defers = []

/-- whoever is told by the first state is told by the second -/
def St.le (s s' : St) : Prop :=
  s'.ext.length = s.ext.length ∧ ∀ w ι a, SimSt w ι s a → ∃ ι', SimSt w ι' s' a ∧ ∀ w₀ ι₀, ι₀.length ≤ s.ext.length → Ext w₀ ι₀ w ι → Ext w₀ ι₀ w ι'

/-- whoever is told by the state is told by one of others -/
def St.leTo (s : St) (X : St → Prop) : Prop :=
  ∀ w ι a, SimSt w ι s a → ∃ s', X s' ∧ s'.ext.length = s.ext.length ∧ ∃ ι', SimSt w ι' s' a ∧ ∀ w₀ ι₀, ι₀.length ≤ s.ext.length → Ext w₀ ι₀ w ι → Ext w₀ ι₀ w ι'

inductive Fr where
  | seq (b : Cd)
  | block (id : Nat)
  | loop (I : St → Nat → Prop) (m : Nat)

/-- what stands behind a step -/
structure Kt where
  dst : Option Nat
  gd : Option Bool
  rest : List Step
  kill : List Nat
  fs : List Fr

def e_ : Option Bool → A → A
  | none, a => a
  | some g, a => .gd g a

/-- what stands behind a call -/
def CallK (K : A → St → Prop) (st : St) (r : A) (h : Heap) : Prop :=
  ∃ ext' loc' r', h = ext' ++ loc'.map (Ob.re st.ext.length) ∧ ext'.length = st.ext.length ∧ st.loc.length ≤ loc'.length ∧
    Obs.fits st.ext.length 0 ext' ∧ r = A.re st.ext.length r' ∧ K r' ⟨st.sl, ext', loc'⟩

def w_ (tok : Bool) (n : Nat) : List A → List A
  | [] => []
  | a :: l => (if tok then a else a.pure).re n :: w_ tok n l

def allLen (sz : Nat) (rows : List (List D)) : Prop := ∀ r ∈ rows, r.length = sz

def maxApp : Nat := 2 ^ 32

def S_ : Bool → C → Option (List (List D))
  | true, .d (.str s) => some (bytesRows s)
  | false, c => c.rows?
  | _, _ => none

def K_ (s : List A) (dflt : Int) : Option Opd → Option Int
  | none => some dflt
  | some x => match (x.ev s).val with
    | .c (.d (.int _ n)) => some n
    | _ => none
def L_ (G : Bool) (s : List A) : Option Opd → Prop
  | none => True
  | some x => (x.ev s).ok G

def T_ (lo : Nat) : C → C
  | .own r pos rows => .own r pos (rows.drop lo)
  | .full rows => .full (rows.drop lo)
  | .d (.sl rows) => .d (.sl (rows.drop lo))
  | c => c

/-- a slice whose end is put at its length: an owned slice that is kept whole stays owned -/
def N_ (lo hi : Int) : C → List (List D) → C
  | .own r pos rs, rows => if lo = 0 ∧ hi = rs.length then .own r pos rs else .full rows
  | _, rows => .full rows

def M_ (G : Bool) (K : A → Prop) (sz : Nat) (lo : Int) (hi max : Option Int) : C → Prop
  | .d (.str s) => sz = 0 ∧ max = none ∧ (G = true → 0 ≤ lo ∧ lo ≤ hi.getD s.length ∧ hi.getD s.length ≤ s.length) ∧ K (.c (.d (.str ((s.take (hi.getD s.length).toNat).drop lo.toNat))))
  | .fsl r len sz' => (sz' = sz ∧ sz ≠ 0) ∧ max = none ∧ (G = true → 0 ≤ lo ∧ lo ≤ hi.getD len ∧ hi.getD len ≤ len) ∧ K (.c (.psl r lo.toNat (hi.getD len - lo).toNat sz))
  | c => match c.rows? with
    | none => False
    | some rows => sz ≠ 0 ∧ allLen sz rows ∧ match hi, max with
      | none, none => (G = true → 0 ≤ lo ∧ lo ≤ rows.length) ∧ K (.c (T_ lo.toNat c))
      | some hi, none => (G = true → 0 ≤ lo ∧ lo ≤ hi ∧ hi ≤ rows.length) ∧ K (.c (.d (.sl ((rows.take hi.toNat).drop lo.toNat))))
      | some hi, some mx => (G = true → 0 ≤ lo ∧ lo ≤ hi ∧ hi = mx ∧ hi ≤ rows.length) ∧ K (.c (N_ lo hi c ((rows.take hi.toNat).drop lo.toNat)))
      | none, some _ => False

def AOp.total : AOp → Bool
  | .alloc _ | .box _ | .store .. | .append .. | .mkSlice .. | .call .. | .callv .. | .qcall .. | .nilSl .. | .appendF .. | .callL .. | .mkMap | .mapGet .. | .mapSet .. | .clear .. | .bot | .buildSliceF .. | .loadG .. | .appendP .. | .appendZ .. | .appendO .. => false
  | _ => true

/-- the entry of a key, and a map with another entry -/
def V_ : List (Int × List D) → Int → Option (List D)
  | [], _ => none
  | (k, r) :: l, x => if k = x then some r else V_ l x
def W_ : List (Int × List D) → Int → List D → List (Int × List D)
  | [], x, r => [(x, r)]
  | (k, q) :: l, x, r => if k = x then (k, r) :: l else (k, q) :: W_ l x r
def Y_ : Option Nat → List D → A
  | none, row => .c (.d (row.headD (.bool false)))
  | some _, row => .agg (row.map .d)
def X_ (n : Option Nat) (ok : Bool) (row : List D) (b : Bool) : A :=
  if ok then .tup [Y_ n row, .c (.d (.bool b))] else Y_ n row
def Z_ : A → Option (List D)
  | .c c => c.toD.map fun d => [d]
  | .agg cs => if cs.length = 1 then none else O_ cs
  | _ => none

def E_ (s : List A) : List (Nat × Nat × Opd) → List (Nat × Nat × A)
  | [] => []
  | (a, b, x) :: l => (a, b, (x.ev s).val) :: E_ s l
def F_ (G : Bool) (s : List A) : List (Nat × Nat × Opd) → Prop
  | [] => True
  | (_, _, x) :: l => (x.ev s).ok G ∧ F_ G s l
def G_ (s : List A) : List (Nat × Opd) → List (Nat × A)
  | [] => []
  | (a, x) :: l => (a, (x.ev s).val) :: G_ s l
def H_ (G : Bool) (s : List A) : List (Nat × Opd) → Prop
  | [] => True
  | (_, x) :: l => (x.ev s).ok G ∧ H_ G s l

def ptrsOf (caps : List (Ref × Nat)) : List A := caps.map fun x => .c (.ptr x.1 x.2)

/-- the place of what is added to a slice without room: if nothing is added the array isn't known to be an own one -/
def posF (rows xs : List (List D)) : Nat :=
  match rows, xs with
  | _ :: l, [] => l.length + 2
  | rows, xs => rows.length + xs.length
theorem posF_cons (rows : List (List D)) (x : List D) (xs : List (List D)) : posF rows (x :: xs) = rows.length + (xs.length + 1) := by cases rows <;> simp [posF]
theorem posF_ne (rows xs : List (List D)) (h : xs ≠ []) : posF rows xs = rows.length + xs.length := by cases xs with | nil => exact absurd rfl h | cons x l => exact posF_cons rows x l

def Q_ (K : A → St → Prop) (st : St) (str : Bool) (sz : Nat) (s x : C) : Prop :=
  match S_ str x with
  | none => False
  | some xs => allLen sz xs ∧ match s with
    | .own r pos rows => match z_ st r with
      | .grow p sz' => p = pos ∧ sz' = sz ∧ allLen sz rows ∧ rows.length + xs.length ≤ maxApp ∧ K (.c (.own r (pos + xs.length) (rows ++ xs))) (B_ st r (.grow (pos + xs.length) sz))
      | _ => False
    | .full rows => allLen sz rows ∧ rows.length + xs.length ≤ maxApp ∧
        K (.c (.own (.l st.loc.length) (posF rows xs) (rows ++ xs))) (A_ st (.grow (posF rows xs) sz))
    | _ => False

/-- objects that have been added to: those that are looked at are as they were -/
def Grown (ext loc ext' loc' : Heap) : Prop :=
  ext'.length = ext.length ∧ (Obs.fits ext.length 0 ext → Obs.fits ext.length 0 ext') ∧ ∀ sl sl' r o, z_ ⟨sl, ext, loc⟩ r = o → o ≠ .dead → (∀ p s, o ≠ .grow p s) → z_ ⟨sl', ext', loc'⟩ r = o
/-- objects of two cells (sources of draws) may be changed by what is done beside a load off an own object -/
def b0_ : Ob → Prop
  | .cells cs => cs.length ≠ 2
  | _ => True
/-- own objects that are looked at are as they were -/
def LocSame (loc loc' : Heap) : Prop := ∀ i o, loc.getD i .dead = o → o ≠ .dead → (∀ p s, o ≠ .grow p s) → b0_ o → loc'.getD i .dead = o
/-- the first cells of the caller's objects are as they were -/
def HeadSame (ext ext' : Heap) : Prop := ∀ i cs, ext.getD i .dead = .cells cs → ∃ cs', ext'.getD i .dead = .cells cs' ∧ cs'[0]? = cs[0]?
theorem HeadSame.refl (ext : Heap) : HeadSame ext ext := fun i cs h => ⟨cs, h, rfl⟩
theorem HeadSame.trans {a b c : Heap} (h : HeadSame a b) (k : HeadSame b c) : HeadSame a c := fun i cs e => by
  obtain ⟨cs', e1, e2⟩ := h i cs e
  obtain ⟨cs'', e3, e4⟩ := k i cs' e1
  exact ⟨cs'', e3, e4.trans e2⟩
theorem LocSame.refl (loc : Heap) : LocSame loc loc := fun i o h _ _ _ => h
theorem LocSame.push (loc x : Heap) : LocSame loc (loc ++ x) := fun i o h h1 _ _ => by
  simp only [List.getD] at h ⊢
  rcases Nat.lt_or_ge i loc.length with hi | hi
  · rw [List.getElem?_append_left hi]; exact h
  · rw [List.getElem?_eq_none hi] at h; exact absurd h.symm h1
theorem LocSame.trans {a b c : Heap} (h : LocSame a b) (k : LocSame b c) : LocSame a c := fun i o h1 h2 h3 h4 => k i o (h i o h1 h2 h3 h4) h2 h3 h4
theorem Grown.same {ext loc ext' loc' : Heap} (h : Grown ext loc ext' loc') : LocSame loc loc' := fun i o h1 h2 h3 _ => h.2.2 [] [] (.l i) o h1 h2 h3
theorem LocSame.set {loc : Heap} {j : Nat} {a b : Ob} (h : loc[j]? = some a) (hs : ¬ b0_ a) : LocSame loc (loc.set j b) := fun i o h1 _ _ h4 => by
  by_cases e : j = i
  · subst e
    simp only [List.getD, h, Option.getD_some] at h1
    subst h1
    exact absurd h4 hs
  · simp only [List.getD, List.getElem?_set_ne e] at h1 ⊢
    exact h1
theorem Grown.head {ext loc ext' loc' : Heap} (h : Grown ext loc ext' loc') : HeadSame ext ext' := fun i cs e => ⟨cs, h.2.2 [] [] (.e i) _ e (by simp) (by simp), rfl⟩
theorem Grown.refl (ext loc : Heap) : Grown ext loc ext loc := ⟨rfl, id, fun sl sl' r o h _ _ => by cases r <;> exact h⟩
theorem Grown.trans {a b c d e f : Heap} (h : Grown a b c d) (k : Grown c d e f) : Grown a b e f :=
  ⟨k.1.trans h.1, fun hf => by have := k.2.1 (by rw [h.1]; exact h.2.1 hf); rw [h.1] at this; exact this, fun sl sl' r o h1 h2 h3 => k.2.2 sl sl' r o (h.2.2 sl sl r o h1 h2 h3) h2 h3⟩

/-- a call whose result is determined and that leaves the objects as they were -/
def QCallK (P : Program) (f : FuncId) (as : List A) (st : St) (K : A → St → Prop) : Prop :=
  Obs.fits st.ext.length 0 st.ext ∧ ∃ r, A.re st.ext.length r = r ∧
      (∀ st' : St, Grown st.ext st.loc st'.ext st'.loc → ACalls P f as (st'.ext ++ st'.loc.map (Ob.re st.ext.length)) (fun r' H' => H' = st'.ext ++ st'.loc.map (Ob.re st.ext.length) ∧ r' = r)) ∧ K r st
/-- a row of a told slice -/
def RowK (G : Bool) (rows : List (List D)) (i : Int) (sz : Nat) (K : A → St → Prop) (st : St) : Prop :=
  (G = true → 0 ≤ i) ∧ ∃ row, (G = true → rows[i.toNat]? = some row ∧ row.length = sz) ∧ K (.c (.el row 0)) st
/-- a byte of a string -/
def ByteK (G : Bool) (s : List UInt8) (i : Int) (K : A → St → Prop) (st : St) : Prop :=
  ∃ b : UInt8, (G = true → 0 ≤ i ∧ s[i.toNat]? = some b) ∧ K (.c (.d (.int .u8 b.toNat))) st
/-- the string of a slice of bytes -/
def B2SK (G : Bool) (rows : List (List D)) (K : A → St → Prop) (st : St) : Prop :=
  ∃ s, (G = true → rows = bytesRows s) ∧ K (.c (.d (.str s))) st

/-- a value that is told, or nothing -/
def OptK (o : Option A) (K : A → St → Prop) (st : St) : Prop :=
  match o with
  | some v => K v st
  | none => False
def StoreK (o : Option St) (K : A → St → Prop) : Prop :=
  match o with
  | some st' => Obs.fits st'.ext.length 0 st'.ext ∧ K .u st'
  | none => False
theorem optK_map {α : Type} {o : Option α} {f : α → A} {K : A → St → Prop} {st : St} (h : OptK (o.map f) K st) : ∃ v, o = some v ∧ K (f v) st := by
  cases o with
  | none => exact h.elim
  | some v => exact ⟨v, rfl, h⟩
/-- one operation -/
def c_ (P : Program) (st : St) (G : Bool) (K : A → St → Prop) : AOp → Prop
  | .mv x => (x.ev st.sl).ok G ∧ K (x.ev st.sl).val st
  | .pick c a b => match g_ (c.ev st.sl).val with
    | some t => (c.ev st.sl).ok G ∧ (a.ev st.sl).ok (G && t) ∧ (b.ev st.sl).ok (G && !t) ∧ K (h_ t (a.ev st.sl).val (b.ev st.sl).val) st
    | none => G = false ∧ K .u st
  | .alloc z => K (.c (.ptr (.l st.loc.length) 0)) (A_ st (.cells z))
  | .box x => match (x.ev st.sl).val.cells with
    | some cs => (x.ev st.sl).ok G ∧ K (.c (.ptr (.l st.loc.length) 0)) (A_ st (.cells cs))
    | none => False
  | .build z ps => F_ G st.sl ps ∧ OptK ((I_ z (E_ st.sl ps)).map A.agg) K st
  | .buildSlice sz len z ps => H_ G st.sl ps ∧ OptK ((J_ (List.replicate len z) sz (G_ st.sl ps)).map fun rows => .c (.full rows)) K st
  | .load n a => match (a.ev st.sl).val with
    | .c p => (a.ev st.sl).ok G ∧ OptK (y_ st n p) K st
    | _ => False
  | .loadG n a => match (a.ev st.sl).val with
    | .c p => (a.ev st.sl).ok G ∧ OptK (y_ st n p) K st
    | _ => False
  | .store n a x => match (a.ev st.sl).val, (x.ev st.sl).val.cells with
    | .c p, some cs => (a.ev st.sl).ok G ∧ (x.ev st.sl).ok G ∧ cs.length = n ∧ StoreK (C_ st cs p) K
    | _, _ => False
  | .nilCheck x => match (x.ev st.sl).val with
    | .c (.ptr r o) => (x.ev st.sl).ok G ∧ K (.c (.ptr r o)) st
    | .c (.el row o) => (x.ev st.sl).ok G ∧ K (.c (.el row o)) st
    | .c (.rel r i o) => (x.ev st.sl).ok G ∧ K (.c (.rel r i o)) st
    | .c (.fn f caps) => (x.ev st.sl).ok G ∧ K (.c (.fn f caps)) st
    | _ => False
  | .bin op x y => (x.ev st.sl).ok G ∧ (y.ev st.sl).ok G ∧ (G = true → (i_ op (x.ev st.sl).val (y.ev st.sl).val).1) ∧
      K (i_ op (x.ev st.sl).val (y.ev st.sl).val).2 st
  | .binB neg x y => match (x.ev st.sl).val, (y.ev st.sl).val with
    | .c (.d (.bool p)), .c (.d (.bool q)) => (x.ev st.sl).ok G ∧ (y.ev st.sl).ok G ∧ K (.c (.d (.bool (neg ^^ (p == q))))) st
    | _, _ => G = false ∧ K .u st
  | .isNil neg x => match (x.ev st.sl).val with
    | .c (.ptr _ _) => (x.ev st.sl).ok G ∧ K (.c (.d (.bool neg))) st
    | .c (.d (.v (.pointer none))) => (x.ev st.sl).ok G ∧ K (.c (.d (.bool (!neg)))) st
    | _ => False
  | .errNil neg x => match (x.ev st.sl).val with
    | .c (.d (.v .nilIface)) => (x.ev st.sl).ok G ∧ K (.c (.d (.bool (!neg)))) st
    | .c (.d (.v (.iface _ _))) => (x.ev st.sl).ok G ∧ K (.c (.d (.bool neg))) st
    | _ => False
  | .imax x y => match (x.ev st.sl).val, (y.ev st.sl).val with
    | .c (.d (.int k m)), .c (.d (.int k' n)) => (x.ev st.sl).ok G ∧ (y.ev st.sl).ok G ∧ k = k' ∧ K (.c (.d (.int k (if n > m then n else m)))) st
    | _, _ => False
  | .eqAgg neg ks x y => match (x.ev st.sl).val, (y.ev st.sl).val with
    | .agg xs, .agg ys => (x.ev st.sl).ok G ∧ (y.ev st.sl).ok G ∧ match U_ ks xs ys with
      | some b => K (.c (.d (.bool (neg ^^ b)))) st
      | none => False
    | _, _ => False
  | .un op x => (x.ev st.sl).ok G ∧ (G = true → (unA op (x.ev st.sl).val).1) ∧ K (unA op (x.ev st.sl).val).2 st
  | .cvInt k x => match (x.ev st.sl).val with
    | .c (.d (.int _ n)) => (x.ev st.sl).ok G ∧ K (.c (.d (.int k (k.wrap n)))) st
    | _ => False
  | .cvStr x => match (x.ev st.sl).val with
    | .c (.d (.str s)) => (x.ev st.sl).ok G ∧ K (.c (.d (.str s))) st
    | _ => False
  | .cvB2S x => match (x.ev st.sl).val with
    | .c c => match c.rows? with
      | some rows => (x.ev st.sl).ok G ∧ B2SK G rows K st
      | none => False
    | _ => False
  | .cvS2B x => match (x.ev st.sl).val with
    | .c (.d (.str s)) => (x.ev st.sl).ok G ∧ s.length ≤ maxRows ∧ K (.c (.d (.sl (bytesRows s)))) st
    | _ => False
  | .len k x => match n_ st k (x.ev st.sl).val with
    | some n => (x.ev st.sl).ok G ∧ (G = true → inR .i64 n) ∧ K (.c (.d (.int .i64 n))) st
    | none => k ≠ 2 ∧ G = false ∧ K .u st
  | .append str sz s x => match (s.ev st.sl).val, (x.ev st.sl).val with
    | .c s', .c x' => (s.ev st.sl).ok G ∧ (x.ev st.sl).ok G ∧ Q_ K st str sz s' x'
    | _, _ => False
  | .mkSlice z n => match (n.ev st.sl).val with
    | .c (.d (.int _ n')) => (n.ev st.sl).ok G ∧ 0 ≤ n' ∧ n' ≤ maxApp ∧ K (.c (.fsl (.l st.loc.length) n'.toNat z.length)) (A_ st (.rows (List.replicate n'.toNat z)))
    | _ => False
  | .fieldAddr off x => match x_ off (x.ev st.sl).val with
    | some v => (x.ev st.sl).ok G ∧ K v st
    | none => False
  | .field off n x => match (x.ev st.sl).val with
    | .agg cs => (x.ev st.sl).ok G ∧ OptK (cut cs off n) K st
    | _ => False
  | .indexAddr sz x i => match (x.ev st.sl).val, (i.ev st.sl).val with
    | .c (.fsl r len sz'), .c (.d (.int _ i')) => (x.ev st.sl).ok G ∧ (i.ev st.sl).ok G ∧ (G = true → 0 ≤ i' ∧ i'.toNat < len ∧ sz' = sz) ∧ K (.c (.rel r i'.toNat 0)) st
    | .c c, .c (.d (.int _ i')) => match c.rows? with
      | some rows => (x.ev st.sl).ok G ∧ (i.ev st.sl).ok G ∧ RowK G rows i' sz K st
      | none => False
    | _, _ => False
  | .indexArr len sz x i => match (x.ev st.sl).val, (i.ev st.sl).val with
    | .c (.ptr r o), .c (.d (.int _ i')) => (x.ev st.sl).ok G ∧ (i.ev st.sl).ok G ∧ (G = true → 0 ≤ i' ∧ i' < len) ∧ K (.c (.ptr r (o + i'.toNat * sz))) st
    | _, _ => False
  | .index x i => match (x.ev st.sl).val, (i.ev st.sl).val with
    | .c (.d (.str s)), .c (.d (.int _ i')) => (x.ev st.sl).ok G ∧ (i.ev st.sl).ok G ∧ ByteK G s i' K st
    | _, _ => False
  | .slice sz x lo hi mx => match (x.ev st.sl).val, K_ st.sl 0 lo, hi.map (K_ st.sl 0 ∘ some), mx.map (K_ st.sl 0 ∘ some) with
    | .c c, some lo', none, none => (x.ev st.sl).ok G ∧ L_ G st.sl lo ∧ M_ G (fun a => K a st) sz lo' none none c
    | .c c, some lo', some (some hi'), none => (x.ev st.sl).ok G ∧ L_ G st.sl lo ∧ L_ G st.sl hi ∧ M_ G (fun a => K a st) sz lo' (some hi') none c
    | .c c, some lo', some (some hi'), some (some mx') => (x.ev st.sl).ok G ∧ L_ G st.sl lo ∧ L_ G st.sl hi ∧ L_ G st.sl mx ∧ M_ G (fun a => K a st) sz lo' (some hi') (some mx') c
    | _, _, _, _ => False
  | .extract i x => match (x.ev st.sl).val with
    | .tup vs => (x.ev st.sl).ok G ∧ OptK vs[i]? K st
    | _ => False
  | .mkFunc f caps => match R_ (evs st.sl caps) with
    | some cs => oks G st.sl caps ∧ K (.c (.fn f cs)) st
    | none => False
  | .call tok f args => oks G st.sl args ∧
      ACalls P f (w_ tok st.ext.length (evs st.sl args)) (st.ext ++ st.loc.map (Ob.re st.ext.length)) (CallK K st)
  | .callv f args => match (f.ev st.sl).val with
    | .c (.fn g caps) => (f.ev st.sl).ok G ∧ oks G st.sl args ∧
        ACalls P g (w_ false st.ext.length (evs st.sl args ++ ptrsOf caps)) (st.ext ++ st.loc.map (Ob.re st.ext.length)) (CallK K st)
    | _ => False
  | .qcall f args => oks G st.sl args ∧ QCallK P f (w_ false st.ext.length (evs st.sl args)) st K
  | .loadI n a => match (a.ev st.sl).val with
    | .c (.el row o) => (a.ev st.sl).ok G ∧ OptK (cut (row.map C.d) o n) K st
    | _ => False
  | .nilSl neg x => match (x.ev st.sl).val with
    | .c c => match c.rows? with
      | some rows => (x.ev st.sl).ok G ∧ ∀ b : Bool, (rows ≠ [] → b = false) → K (.c (.d (.bool (neg ^^ b)))) st
      | none => False
    | _ => False
  | .appendF sz s x => match (s.ev st.sl).val, (x.ev st.sl).val with
    | .c (.full []), .c x' => match x'.rows? with
      | some xs => (s.ev st.sl).ok G ∧ (x.ev st.sl).ok G ∧ allLen sz xs ∧ xs.length ≤ maxApp ∧ (xs = [] → K (.c (.full [])) st) ∧ (xs ≠ [] → K (.c (.fsl (.l st.loc.length) xs.length sz)) (A_ st (.rows xs)))
      | none => False
    | _, _ => False
  | .appendP z s x => match (s.ev st.sl).val, (x.ev st.sl).val with
    | .c (.full []), .c x' => match x'.rows? with
      | some xs => (s.ev st.sl).ok G ∧ (x.ev st.sl).ok G ∧ allLen z.length xs ∧ xs.length ≤ maxApp ∧ (xs = [] → K (.c (.full [])) st) ∧
          (xs ≠ [] → ∀ g, xs.length + g ≤ maxRows → K (.c (.csl (.l st.loc.length) xs.length z.length)) (A_ st (.rows (xs ++ List.replicate g z))))
      | none => False
    | _, _ => False
  | .appendO sz s x => match (s.ev st.sl).val, (x.ev st.sl).val with
    | .c (.full []), .c (.fsl r n sz') => match z_ st r with
      | .rows rs => (s.ev st.sl).ok G ∧ (x.ev st.sl).ok G ∧ (sz' = sz ∧ rs.length = n ∧ n ≤ maxApp) ∧ (rs = [] → K (.c (.full [])) st) ∧ (rs ≠ [] → K (.c (.fsl (.l st.loc.length) rs.length sz)) (A_ st (.rows rs)))
      | _ => False
    | _, _ => False
  | .appendZ z s x => match (s.ev st.sl).val, (x.ev st.sl).val with
    | .c (.csl (.l i) n sz), .c (.d (.int _ k)) => match st.loc.getD i .dead with
      | .rows rs => (s.ev st.sl).ok G ∧ (x.ev st.sl).ok G ∧ (sz = z.length ∧ 0 ≤ k ∧ n + k.toNat ≤ maxApp ∧ rs = rs.take n ++ List.replicate (rs.length - n) z) ∧
          (n + k.toNat ≤ rs.length → K (.c (.csl (.l i) (n + k.toNat) sz)) st) ∧
          (∀ g, n + k.toNat + g ≤ maxRows → K (.c (.csl (.l st.loc.length) (n + k.toNat) sz)) (A_ st (.rows (rs.take n ++ List.replicate (k.toNat + g) z))))
      | _ => False
    | _, _ => False
  | .buildSliceF sz len z ps => H_ G st.sl ps ∧ (match J_ (List.replicate len z) sz (G_ st.sl ps) with
    | some rows => K (.c (.fsl (.l st.loc.length) len sz)) (A_ st (.rows rows))
    | none => False)
  | .loadL hd n a => match (a.ev st.sl).val with
    | .c (.ptr (.l i) o) => (a.ev st.sl).ok G ∧ b0_ (z_ st (.l i)) ∧ OptK (y_ st n (.ptr (.l i) o)) K st
    | .c (.ptr (.e i) o) => (hd = true ∧ n = none ∧ o = 0) ∧ (a.ev st.sl).ok G ∧ OptK (y_ st n (.ptr (.e i) o)) K st
    | _ => False
  | .callL hd tok f args => oks G st.sl args ∧
      ACalls P f (w_ tok st.ext.length (evs st.sl args)) (st.ext ++ st.loc.map (Ob.re st.ext.length)) (CallK (fun v st' => (LocSame st.loc st'.loc ∧ (hd = true → HeadSame st.ext st'.ext)) ∧ K v st') st)
  | .mkMap => K (.c (.map (.l st.loc.length))) (A_ st (.map []))
  | .mapGet n z ok x k => match (x.ev st.sl).val, (k.ev st.sl).val with
    | .c (.map r), .c (.d (.int .i64 k')) => (x.ev st.sl).ok G ∧ (k.ev st.sl).ok G ∧ match z_ st r with
      | .map m => match V_ m k' with
        | some row => row.length = n.getD 1 ∧ K (X_ n ok row true) st
        | none => K (X_ n ok z false) st
      | _ => False
    | _, _ => False
  | .mapSet x k v => match (x.ev st.sl).val, (k.ev st.sl).val with
    | .c (.map r), .c (.d (.int .i64 k')) => (x.ev st.sl).ok G ∧ (k.ev st.sl).ok G ∧ (v.ev st.sl).ok G ∧ match z_ st r, Z_ (v.ev st.sl).val with
      | .map m, some ds => Obs.fits (B_ st r (.map (W_ m k' ds))).ext.length 0 (B_ st r (.map (W_ m k' ds))).ext ∧ K .u (B_ st r (.map (W_ m k' ds)))
      | _, _ => False
    | _, _ => False
  | .clear z x => match (x.ev st.sl).val with
    | .c c => (x.ev st.sl).ok G ∧ StoreK (a0_ st z c) K
    | _ => False
  | .bot => False

def p_ (w : Bool) : A → A
  | .c (.d (.bool _)) => .c (.d (.bool w))
  | a => a

/-- the operations of a region -/
def awOps (P : Program) (Q : St → Prop) (kill : List Nat) : List Step → St → Prop
  | [], st => Q ⟨o_ st.sl kill, st.ext, st.loc⟩
  | s :: rest, st =>
    match s.guard with
    | none => c_ P st true (fun a st' => awOps P Q kill rest ⟨d_ st'.sl s.dst a, st'.ext, st'.loc⟩) s.op
    | some (g, w) =>
      match f_ w (st.sl.getD g .u) with
      | none => False
      | some G =>
        if s.op.total then c_ P st G (fun a st' => awOps P Q kill rest ⟨d_ st'.sl s.dst (.gd G a), st'.ext, st'.loc⟩) s.op
        else
          (G = true → c_ P ⟨st.sl.set g (p_ w (st.sl.getD g .u)), st.ext, st.loc⟩ true (fun a st' => awOps P Q kill rest ⟨d_ st'.sl s.dst a, st'.ext, st'.loc⟩) s.op) ∧
          (G = false → awOps P Q kill rest ⟨d_ (st.sl.set g (p_ (!w) (st.sl.getD g .u))) s.dst .u, st.ext, st.loc⟩)

/-- code -/
def aw (P : Program) : Cd → (Ex → St → Prop) → St → Prop
  | .skip, Q, st => Q .normal st
  | .region ops kill, Q, st => awOps P (Q .normal) kill ops st
  | .seq a b, Q, st => aw P a (fun e st' => match e with | .normal => aw P b Q st' | e => Q e st') st
  | .cond c a b, Q, st => match g_ (c.ev st.sl).val with
    | some t => (c.ev st.sl).ok true ∧ (t = true → aw P a Q st) ∧ (t = false → aw P b Q st)
    | none => False
  | .block id c, Q, st => aw P c (fun e st' => match e with | .exit i => if i = id then Q .normal st' else Q (.exit i) st' | e => Q e st') st
  | .loop c, Q, st => ∃ (I : St → Nat → Prop) (m₀ : Nat) (s₀ : St), St.le st s₀ ∧ I s₀ m₀ ∧
      ∀ s m, I s m → aw P c (fun e s' => match e with | .normal => ∃ s'' m', St.le s' s'' ∧ I s'' m' ∧ m' < m | e => Q e s') s
  | .exit id, Q, st => Q (.exit id) st
  | .ret, Q, st => Q .ret st
  | .weak c, Q, st => ∃ X : St → Prop, St.leTo st X ∧ ∀ st', X st' → aw P c Q st'

/-! ### the machine's equations, without functions under binders -/

def kq (P : Program) (F : Ex → St → Prop) : List Fr → Ex → St → Prop
  | [], e, st => F e st
  | .seq b :: fs, e, st => match e with | .normal => aw P b (kq P F fs) st | e => kq P F fs e st
  | .block id :: fs, e, st => match e with | .exit i => if i = id then kq P F fs .normal st else kq P F fs (.exit i) st | e => kq P F fs e st
  | .loop I m :: fs, e, st => match e with | .normal => ∃ s'' m', St.le st s'' ∧ I s'' m' ∧ m' < m | e => kq P F fs e st

def nx (P : Program) (F : Ex → St → Prop) (k : Kt) (a : A) (st : St) : Prop :=
  awOps P (kq P F k.fs .normal) k.kill k.rest ⟨d_ st.sl k.dst (e_ k.gd a), st.ext, st.loc⟩

section eqs
variable {P : Program} {F : Ex → St → Prop} {fs : List Fr} {st : St}
theorem a_ {c : Opd} {a b} : aw P (.cond c a b) (kq P F fs) st = match g_ (c.ev st.sl).val with
    | some t => (c.ev st.sl).ok true ∧ (t = true → aw P a (kq P F fs) st) ∧ (t = false → aw P b (kq P F fs) st)
    | none => False := rfl
/-- the way back to a loop's head -/
def LB (I : St → Nat → Prop) (m : Nat) (s : St) : Prop := ∃ s'' m', St.le s s'' ∧ I s'' m' ∧ m' < m
end eqs

/-! ### results -/

inductive Rv where
  | tmp (t : Nat)
  | cell (t : Nat) (agg : Option Nat)

/-- a local token is dropped, a local slice is told by its rows -/
def C.thaw (st : St) : C → C
  | .own (.l _) _ rows => .d (.sl rows)
  | .full rows => .d (.sl rows)
  | .fsl (.l i) _ _ => match st.loc.getD i .dead with
    | .rows rs => .d (.sl rs)
    | _ => .u
  | .psl (.l i) lo n _ => match st.loc.getD i .dead with
    | .rows rs => .d (.sl ((rs.drop lo).take n))
    | _ => .u
  | c => c
def A.thaw (st : St) : A → A
  | .c x => .c (x.thaw st)
  | .agg cs => .agg (cs.map (C.thaw st))
  | a => a

def v_ (st : St) : Rv → Option A
  | .tmp t => some (A.thaw st (st.sl.getD t .u).val)
  | .cell t n => match (st.sl.getD t .u).val with
    | .c p => (y_ st n p).map (A.thaw st)
    | _ => none
def s_ (st : St) : Rv → Prop
  | .tmp t => (st.sl.getD t .u).ok true
  | .cell t _ => (st.sl.getD t .u).ok true
def u_ (st : St) : List Rv → Option (List A)
  | [] => some []
  | r :: l => match v_ st r, u_ st l with
    | some a, some as => some (a :: as)
    | _, _ => none
def r_ (st : St) : List Rv → Prop
  | [] => True
  | r :: l => s_ st r ∧ r_ st l
def t_ (st : St) (rs : List Rv) : Option A :=
  match u_ st rs with
  | some [a] => some a
  | some as => some (.tup as)
  | none => none

/-- the end of a function that keeps none of its own objects -/
def q_ (rs : List Rv) (Q : A → Heap → Prop) : Ex → St → Prop
  | .exit _, _ => False
  | _, st => r_ st rs ∧ ∃ r, t_ st rs = some r ∧ r.fits st.ext.length 0 ∧ Q r st.ext

end Go.AM
