/-
  The abstract machine: code is translated into its own.
  Conditions: none (definitions).
-/
import Derived.Test.YtcapnainldlnjaaGreatAbsC2
namespace Go.AM
set_option linter.unusedVariables false
set_option linter.unusedSimpArgs false

instance (k : IntKind) (n : Int) : Decidable (inR k n) := by unfold inR; infer_instance

def constC : Value → Option C
  | .bool b => some (.d (.bool b))
  | .int k n => if inR k n then some (.d (.int k n)) else none
  | .string s => if s.data.toList.length ≤ maxStr then some (.d (.str s.data.toList)) else none
  | .slice none 0 0 => some (.full [])
  | .pointer none => some (.d (.v (.pointer none)))
  | .nilFunc => some (.d (.v .nilFunc))
  | .nilIface => some (.d (.v .nilIface))
  | .map none => some (.d (.v (.map none)))
  | _ => none
def constCs : List Value → Option (List C)
  | [] => some []
  | v :: l => match constC v, constCs l with
    | some c, some cs => some (c :: cs)
    | _, _ => none
def constA : Value → Option A
  | .agg cs => (constCs cs.toList).map A.agg
  | .tuple vs => if vs.toList.isEmpty then some (.tup []) else none
  | v => (constC v).map A.c

def cOpd : Operand → Option Opd
  | .tmp t => some (.t t)
  | .const v => (constA v).map Opd.k
  | .func f => some (.k (.c (.fn f [])))
  | .global _ => none
def cOpds : List Operand → Option (List Opd)
  | [] => some []
  | x :: l => match cOpd x, cOpds l with
    | some y, some r => some (y :: r)
    | _, _ => none
def cOpt : Option Operand → Option (Option Opd)
  | none => some none
  | some x => (cOpd x).map some

def aggOf (P : Program) (t : TypeId) : Option (Option Nat) :=
  match P.info? t, P.underlying t with
  | some i, some (.struct _) => some (some i.size)
  | some i, some (.array _ _) => some (some i.size)
  | some _, some _ => some none
  | _, _ => none

def zeroCs (P : Program) (t : TypeId) : Option (List C) :=
  match P.info? t with
  | some i => match i.zero with
    | some v => constCs v.cells.toList
    | none => none
  | none => none

def sizeOf? (P : Program) (t : TypeId) : Option Nat := (P.info? t).map (·.size)

def placesOf (P : Program) : List Field → Option (List (Nat × Nat))
  | [] => some []
  | f :: l => match sizeOf? P f.type, placesOf P l with
    | some n, some r => some ((f.offset, n) :: r)
    | _, _ => none

def cParts (pl : Nat → Option (Nat × Nat)) : List (Nat × Operand) → Option (List (Nat × Nat × Opd))
  | [] => some []
  | (i, x) :: l => match pl i, cOpd x, cParts pl l with
    | some (off, n), some y, some r => some ((off, n, y) :: r)
    | _, _, _ => none
def cParts2 : List (Nat × Operand) → Option (List (Nat × Opd))
  | [] => some []
  | (i, x) :: l => match cOpd x, cParts2 l with
    | some y, some r => some ((i, y) :: r)
    | _, _ => none

/-- a struct of plain fields: its cells are compared one by one -/
def plainFields (P : Program) : Nat → List Field → Option (List FK)
  | _, [] => some []
  | n, f :: l => if f.name ≠ "_" ∧ f.offset = n then
      match P.info? f.type, P.underlying f.type, plainFields P (n + 1) l with
      | some _, some (.int _), some r => some (.int :: r)
      | some _, some .string, some r => some (.str :: r)
      | some _, some .bool, some r => some (.bool :: r)
      | _, _, _ => none
    else none

/-- an element of a map: the number of its cells if it is no single value, and its zero -/
def cMapElem (P : Program) (e : TypeId) : Option (Option Nat × List D) :=
  match P.info? e with
  | some i => match i.zero, (zeroCs P e).bind O_ with
    | some (.agg vs), some z => if vs.size = 1 then none else some (some vs.size, z)
    | some _, some z => some (none, z)
    | _, _ => none
  | none => none

/-- the zero value of the elements of a slice -/
def spareZ (P : Program) : List TypeId → Option (List D)
  | t :: _ => match P.underlying t with
    | some (.slice e) => (zeroCs P e).bind O_
    | _ => none
  | _ => none

def cBuiltin (P : Program) (b : Builtin) (args : List Operand) (ts : List TypeId) : Option AOp :=
  match b, args, ts with
  | .len, [x], [t] => match P.underlying t, cOpd x with
    | some .string, some y => some (.len 0 y)
    | some (.slice _), some y => some (.len 1 y)
    | some (.map _ _), some y => some (.len 2 y)
    | _, _ => none
  | .append, [s, x], [t, u] => match P.underlying t, P.underlying u, cOpd s, cOpd x with
    | some (.slice e), some (.slice _), some s', some x' => match P.info? e with
      | some i => match i.zero with
        | some z => if z.cells.size = i.size ∧ 0 < i.size ∧ i.bytes ≤ 4096 ∧ 0 < i.bytes then some (.append false i.size s' x') else none
        | none => none
      | none => none
    | some (.slice e), some .string, some s', some x' => match P.info? e with
      | some i => match i.zero with
        | some z => if z.cells.size = i.size ∧ i.size = 1 ∧ i.bytes ≤ 4096 ∧ 0 < i.bytes then some (.append true i.size s' x') else none
        | none => none
      | none => none
    | some (.slice e), some (.int _), some s', some x' => match P.info? e, (zeroCs P e).bind O_ with
      | some i, some z => if z.length = i.size ∧ 0 < i.size ∧ i.bytes ≤ 4096 ∧ 0 < i.bytes then some (.appendZ z s' x') else none
      | _, _ => none
    | _, _, _, _ => none
  | .max, [x, y], [_, _] => match cOpd x, cOpd y with
    | some x', some y' => some (.imax x' y')
    | _, _ => none
  | .clear, [x], [t] => match P.underlying t, cOpd x with
    | some (.slice e), some y => match cMapElem P e with
      | some (none, z) => some (.clear z y)
      | _ => none
    | _, _ => none
  | _, _, _ => none

def cConv (P : Program) (src dst : TypeId) (x : Opd) : Option AOp :=
  match P.underlying src, P.underlying dst with
  | some (.int _), some (.int k) => some (.cvInt k x)
  | some .string, some .string => some (.cvStr x)
  | some (.slice e), some .string => match P.underlying e with
    | some (.int .u8) => some (.cvB2S x)
    | _ => none
  | some .string, some (.slice e) => match P.underlying e with
    | some (.int .u8) => some (.cvS2B x)
    | _ => none
  | _, _ => none

/-- functions that are told to be quiet bear their number and this -/
def quietBase : Nat := 1000000
/-- regions in front of which a state may be told by less are told by their number and this -/
def weakBase : Nat := 4000000
/-- the load off slot i is off the function's own objects / the call of f leaves the caller's own objects as they were -/
def ownBase : Nat := 5000000
def keepBase : Nat := 6000000
/-- the call whose first argument is slot i is no quiet one -/
def loudBase : Nat := 7000000
/-- the load off slot i is off the first cell of an object of the caller's or of the function's own / the call of f leaves such cells and the caller's own objects as they were -/
def headBase : Nat := 11000000
def keepHBase : Nat := 12000000
def loud (toks : List FuncId) : List Opd → Bool
  | .t i :: _ => toks.contains (i + loudBase)
  | _ => false
/-- an append onto nothing whose result is an own row of cells is told by the slot of its first argument and this -/
def freshBase : Nat := 3000000
/-- an append onto nothing whose result has told room is told by the slot of its first argument and this -/
def spareBase : Nat := 15000000
/-- an append of an own row onto nothing whose result is an own row is told by the slot of its first argument and this -/
def copyBase : Nat := 16000000
/-- a load that is left out where its guard says no is told by the slot of its address and this -/
def guardBase : Nat := 14000000
/-- a literal that yields an own row of cells is told by the slot of its first element and this -/
def sliceBase : Nat := 13000000
def ownSl (toks : List FuncId) : List (Nat × Opd) → Bool
  | (_, .t i) :: _ => toks.contains (i + sliceBase)
  | _ => false
/-- loads off immutable rows are told by the slot of their address and this -/
def loadBase : Nat := 2000000


def cOp (P : Program) (toks : List FuncId) : Op → Option AOp
  | .move x => (cOpd x).map .mv
  | .assign x => (cOpd x).map .mv
  | .pick c a b => match cOpd c, cOpd a, cOpd b with
    | some c, some a, some b => some (.pick c a b)
    | _, _, _ => none
  | .alloc t => (zeroCs P t).map .alloc
  | .box _ x => (cOpd x).map .box
  | .build t ps => match zeroCs P t, P.underlying t with
    | some z, some (.struct fs) => match placesOf P fs.toList with
      | some pl => (cParts (pl[·]?) ps.toList).map (.build z)
      | none => none
    | some z, some (.array _ e) => match sizeOf? P e with
      | some n => (cParts (fun i => some (i * n, n)) ps.toList).map (.build z)
      | none => none
    | _, _ => none
  | .buildSlice t len ps => match P.underlying t with
    | some (.slice e) => match sizeOf? P e, (zeroCs P e).bind O_ with
      | some n, some z => if len * n ≤ 2 ^ 24 ∧ z.length = n ∧ 0 < n ∧ len ≤ maxRows then (cParts2 ps.toList).map (fun ps' => if ownSl toks ps' = true then .buildSliceF n len z ps' else .buildSlice n len z ps') else none
      | _, _ => none
    | _ => none
  | .load t a => match aggOf P t, cOpd a with
    | some n, some (.t i) => if toks.contains (i + guardBase) then some (.loadG n (.t i)) else if toks.contains (i + loadBase) then some (.loadI n (.t i)) else if (toks.contains (i + ownBase) || toks.contains (i + headBase)) = true then some (.loadL (toks.contains (i + headBase)) n (.t i)) else some (.load n (.t i))
    | some n, some a => some (.load n a)
    | _, _ => none
  | .store t a x => match sizeOf? P t, cOpd a, cOpd x with
    | some n, some a, some x => some (.store n a x)
    | _, _, _ => none
  | .nilCheck x => (cOpd x).map .nilCheck
  | .binOp op t x y _ => match cOpd x, cOpd y, P.underlying t with
    | some x, some y, some (.struct fs) =>
      match plainFields P 0 fs.toList with
      | some ks => if P.stoodInHeld t = false ∧ P.eqGuardType P.depth t = false then
          match op with
          | .eql => some (.eqAgg false ks x y)
          | .neq => some (.eqAgg true ks x y)
          | _ => none
        else none
      | none => none
    | some x, some y, some (.int _) => some (.bin op x y)
    | some x, some y, some .string => some (.bin op x y)
    | some x, some y, some .bool => match op with
      | .eql => some (.binB false x y)
      | .neq => some (.binB true x y)
      | _ => none
    | some x, some (.k (.c (.d (.v (.pointer none))))), some (.pointer _) => match op with
      | .eql => some (.isNil false x)
      | .neq => some (.isNil true x)
      | _ => none
    | some x, some (.k (.c (.d (.v .nilIface)))), some (.interface _) => match op with
      | .eql => some (.errNil false x)
      | .neq => some (.errNil true x)
      | _ => none
    | some x, some (.k (.c (.full []))), some (.slice _) => match op with
      | .eql => some (.nilSl false x)
      | .neq => some (.nilSl true x)
      | _ => none
    | _, _, _ => none
  | .panic _ => some .bot
  | .makeInterface _ _ => some .bot
  | .unOp op _ x => (cOpd x).map (.un op)
  | .convert src dst x => (cOpd x).bind (cConv P src dst)
  | .makeSlice t l c => match P.underlying t, l, c with
    | some (.slice e), .tmp i, .tmp j => if i = j then match P.info? e, (zeroCs P e).bind O_ with
        | some inf, some z => if inf.bytes ≤ 4096 ∧ z.length = inf.size ∧ 0 < inf.size then some (.mkSlice z (.t i)) else none
        | _, _ => none
      else none
    | some (.slice e), .const (.int k m), .const (.int k' m') => if k = k' ∧ m = m' then match P.info? e, (zeroCs P e).bind O_ with
        | some inf, some z => if inf.bytes ≤ 4096 ∧ z.length = inf.size ∧ 0 < inf.size then (cOpd (.const (.int k m))).map (.mkSlice z) else none
        | _, _ => none
      else none
    | _, _, _ => none
  | .slice t x lo hi mx => match P.underlying t, cOpd x, cOpt lo, cOpt hi, cOpt mx with
    | some .string, some x, some lo, some hi, some none => some (.slice 0 x lo hi none)
    | some (.slice e), some x, some lo, some hi, some mx => match sizeOf? P e with
      | some n => if n = 0 then none else some (.slice n x lo hi mx)
      | none => none
    | _, _, _, _, _ => none
  | .fieldAddr t x f => match P.underlying t, cOpd x with
    | some (.struct fs), some x => match fs[f]? with
      | some fd => match sizeOf? P fd.type with
        | some n => if n = 0 then none else some (.fieldAddr fd.offset x)
        | none => none
      | none => none
    | _, _ => none
  | .field t x f => match P.underlying t, cOpd x with
    | some (.struct fs), some x => match fs[f]? with
      | some fd => match aggOf P fd.type with
        | some n => some (.field fd.offset n x)
        | none => none
      | none => none
    | _, _ => none
  | .indexAddr t x i => match P.underlying t, cOpd x, cOpd i with
    | some (.slice e), some x, some i => match sizeOf? P e with
      | some n => some (.indexAddr n x i)
      | none => none
    | some (.array len e), some x, some i => match sizeOf? P e with
      | some n => some (.indexArr len n x i)
      | none => none
    | _, _, _ => none
  | .index t x i => match P.underlying t, cOpd x, cOpd i with
    | some .string, some x, some i => some (.index x i)
    | _, _, _ => none
  | .extract x i => (cOpd x).map (.extract i)
  | .makeMap _ none => some .mkMap
  | .lookup t x k ok => match P.underlying t, cOpd x, cOpd k with
    | some (.map kt e), some x, some k => match P.underlying kt, cMapElem P e with
      | some (.int .i64), some (n, z) => some (.mapGet n z ok x k)
      | _, _ => none
    | _, _, _ => none
  | .mapUpdate t m k x => match P.underlying t, cOpd m, cOpd k, cOpd x with
    | some (.map kt _), some m, some k, some x => match P.underlying kt with
      | some (.int .i64) => some (.mapSet m k x)
      | _ => none
    | _, _, _, _ => none
  | .makeFunc (.func f) first caps => if first.toList.isEmpty then (cOpds caps.toList).map (.mkFunc f) else none
  | .call { callee := .value (.func f), args, .. } => (cOpds args.toList).map fun as => if (toks.contains (f + quietBase) && !loud toks as) = true then .qcall f as else if (toks.contains (f + keepBase) || toks.contains (f + keepHBase)) = true then .callL (toks.contains (f + keepHBase)) (toks.contains f) f as else .call (toks.contains f) f as
  | .call { callee := .value (.tmp t), args, .. } => (cOpds args.toList).map (.callv (.t t))
  | .call { callee := .builtin b, args, argTypes } => match cBuiltin P b args.toList argTypes.toList with
    | some (.append false sz (.t i) x) => if toks.contains (i + freshBase) then some (.appendF sz (.t i) x) else if toks.contains (i + spareBase) then (match spareZ P argTypes.toList with
      | some z => if z.length = sz then some (.appendP z (.t i) x) else none
      | none => none) else if toks.contains (i + copyBase) then some (.appendO sz (.t i) x) else some (.append false sz (.t i) x)
    | o => o
  | _ => none

def cStep (P : Program) (toks : List FuncId) (ops : Array Oper) (o : Oper) : Option Step :=
  match cOp P toks o.op with
  | some op => match o.guard with
    | none => some ⟨o.dst, op, none⟩
    | some (j, w) => match (ops[j]?).bind (·.dst) with
      | some d => some ⟨o.dst, op, some (d, w)⟩
      | none => none
  | none => none
def cSteps (P : Program) (toks : List FuncId) (ops : Array Oper) : List Oper → Option (List Step)
  | [] => some []
  | o :: l => match cStep P toks ops o, cSteps P toks ops l with
    | some s, some r => some (s :: r)
    | _, _ => none

end Go.AM
