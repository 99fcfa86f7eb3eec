/-
  The abstract machine: several parts of it in one text.
  Conditions: none.
-/
import Derived.Test.YtcapnainldlnjaaGreatAbsD
import Derived.Laws.StructEq
import Derived.Laws.BytesString
import Derived.Laws.MakeOwn
import Derived.Deep.AppendSrc
import Derived.Deep.Upon
import Derived.Deep.DeepAppendWide
import Derived.WideMake
import Derived.MapKept
import Derived.Lib.SliceRun
import Derived.Lib.AppendZerosOnto
/-
  The abstract machine: what each operation does in a world, told by its abstract operation.
  Conditions: none.
-/
namespace Go.AM
set_option linter.unusedVariables false
set_option linter.unusedSimpArgs false

theorem addr_add (b off j : Nat) : Addr.add ⟨b, off, none⟩ j = ⟨b, off + j, none⟩ := by unfold Addr.add; split <;> simp_all

/-! ### constants and operands -/

theorem constC_ra {w : World} {ι : List K} {n : Nat} {v : Value} {c : C} (h : constC v = some c) : RC w ι n c v := by
  unfold constC at h
  split at h
  · cases h; exact .d (.bool _)
  · split at h
    · cases h; rename_i hr; exact .d (.int _ _ hr)
    · cases h
  · split at h
    · cases h; rename_i hr; exact .d (.str _ hr)
    · cases h
  · cases h; exact .full (.nil _)
  · cases h; exact .d (.v _ rfl)
  · cases h; exact .d (.v _ rfl)
  · cases h; exact .d (.v _ rfl)
  · cases h; exact .d (.v _ rfl)
  · cases h

theorem constCs_ra {w : World} {ι : List K} {n : Nat} : ∀ {vs : List Value} {cs : List C}, constCs vs = some cs → RCs w ι n cs vs
  | [], cs, h => by
    simp [constCs] at h
    subst h
    exact ⟨rfl, fun i c v h => by simp at h⟩
  | v :: l, cs, h => by
    simp only [constCs] at h
    split at h
    · rename_i c r h1 h2
      cases h
      have ih := constCs_ra (w := w) (ι := ι) (n := n) h2
      refine ⟨by simp [ih.1], fun i c' v' hc hv => ?_⟩
      cases i with
      | zero => simp at hc hv; subst hc; subst hv; exact constC_ra h1
      | succ i => simp at hc hv; exact ih.2 i c' v' hc hv
    · cases h

theorem constA_ra {w : World} {ι : List K} {n : Nat} {v : Value} {x : A} (h : constA v = some x) : RA w ι n x v := by
  unfold constA at h
  split at h
  · rename_i cs
    simp only [Option.map_eq_some_iff] at h
    obtain ⟨cs', h1, rfl⟩ := h
    have := RA.agg (constCs_ra (w := w) (ι := ι) (n := n) h1)
    simpa using this
  · rename_i vs
    split at h
    · rename_i he
      cases h
      have e : vs = (#[] : Array Value) := by
        have : vs.toList = [] := by simpa using he
        exact Array.toList_eq_nil_iff.1 this
      subst e
      exact RA.tup (vs := []) rfl (fun i a v h => by simp at h)
    · cases h
  · simp only [Option.map_eq_some_iff] at h
    obtain ⟨c, h1, rfl⟩ := h
    exact .c (constC_ra h1)

theorem opd_ra {w : World} {ι : List K} {st : St} {a : Act} (hs : SimSt w ι st a) {o : Operand} {y : Opd} (h : cOpd o = some y) : RA w ι st.ext.length (y.ev st.sl) (a.eval o) := by
  cases o with
  | tmp t => simp [cOpd] at h; subst h; exact hs.eval t
  | const v =>
    simp only [cOpd, Option.map_eq_some_iff] at h
    obtain ⟨x, h1, rfl⟩ := h
    exact constA_ra h1
  | global g => simp [cOpd] at h
  | func f =>
    simp [cOpd] at h
    subst h
    exact .c (RC.fn (vs := []) rfl (fun i r o h => by simp at h))

theorem val_ra {w : World} {ι : List K} {st : St} {a : Act} (hs : SimSt w ι st a) {o : Operand} {y : Opd} (h : cOpd o = some y) (hok : (y.ev st.sl).ok true) :
    RA w ι st.ext.length (y.ev st.sl).val (a.eval o) := (opd_ra hs h).val hok

theorem cOpds_len {l : List Operand} {ys : List Opd} (h : cOpds l = some ys) : ys.length = l.length := by
  induction l generalizing ys with
  | nil => simp [cOpds] at h; subst h; rfl
  | cons x l ih =>
    simp only [cOpds] at h
    split at h
    · rename_i y r h1 h2; cases h; simp [ih h2]
    · cases h

theorem cOpds_ra {w : World} {ι : List K} {st : St} {a : Act} (hs : SimSt w ι st a) {l : List Operand} {ys : List Opd} (h : cOpds l = some ys) (hok : oks true st.sl ys) :
    ∀ (i : Nat) x v, (evs st.sl ys)[i]? = some x → (l.map a.eval)[i]? = some v → RA w ι st.ext.length x v := by
  induction l generalizing ys with
  | nil => simp [cOpds] at h; subst h; intro i x v hx; simp [evs] at hx
  | cons o l ih =>
    simp only [cOpds] at h
    split at h
    · rename_i y r h1 h2
      cases h
      simp only [oks] at hok
      intro i x v hx hv
      cases i with
      | zero => simp [evs] at hx hv; subst hx; subst hv; exact val_ra hs h1 hok.1
      | succ i => simp [evs] at hx hv; exact ih h2 hok.2 i x v hx (by simpa using hv)
    · cases h

theorem evs_len (s : List A) (ys : List Opd) : (evs s ys).length = ys.length := by
  induction ys with
  | nil => rfl
  | cons y l ih => simp [evs, ih]

/-! ### what an operation gives -/

def OpRes (w : World) (ι : List K) (st : St) (a : Act) (K : A → St → Prop) (r : Result Next) : Prop :=
  ∃ v w' x st' ι', (r = .ok (.value v) w' ∨ (r = .ok .skip w' ∧ v = undef)) ∧ K x st' ∧ SimSt w' ι' st' a ∧ RA w' ι' st.ext.length x v ∧ Ext w ι w' ι' ∧ st'.ext.length = st.ext.length

section ops
variable {P : Program} {w : World} {ι : List K} {st : St} {a : Act} {K : A → St → Prop}

theorem OpRes.pure {r : Result Next} {v : Value} {x : A} (hs : SimSt w ι st a) (hr : r = .ok (.value v) w) (hK : K x st) (hx : RA w ι st.ext.length x v) : OpRes w ι st a K r :=
  ⟨v, w, x, st, ι, .inl hr, hK, hs, hx, .refl _ _, rfl⟩

theorem RA.c_inv {n : Nat} {c : C} {v : Value} (h : RA w ι n (.c c) v) : RC w ι n c v := by cases h with | c h => exact h
theorem RA.agg_inv {n : Nat} {cs : List C} {v : Value} (h : RA w ι n (.agg cs) v) : ∃ vs : List Value, v = .agg vs.toArray ∧ RCs w ι n cs vs := by
  cases h with | agg h => exact ⟨_, rfl, h⟩
theorem RA.int_inv {n : Nat} {k : IntKind} {z : Int} {v : Value} (h : RA w ι n (.c (.d (.int k z))) v) : v = .int k z ∧ inR k z := by
  cases h with | c h => cases h with | d h => cases h; exact ⟨rfl, by assumption⟩
theorem RA.bool_inv {n : Nat} {b : Bool} {v : Value} (h : RA w ι n (.c (.d (.bool b))) v) : v = .bool b := by
  cases h with | c h => cases h with | d h => cases h; rfl
theorem RA.str_inv {n : Nat} {s : List UInt8} {v : Value} (h : RA w ι n (.c (.d (.str s))) v) : ∃ t : ByteArray, v = .string t ∧ t.data.toList = s ∧ s.length ≤ maxStr := by
  cases h with | c h => cases h with | d h => cases h; exact ⟨_, rfl, rfl, by assumption⟩
theorem RA.mkInt {n : Nat} {k : IntKind} {z : Int} (h : inR k z) : RA w ι n (.c (.d (.int k z))) (.int k z) := .c (.d (.int k z h))
theorem RA.mkBool {n : Nat} (b : Bool) : RA w ι n (.c (.d (.bool b))) (.bool b) := .c (.d (.bool b))
theorem RA.mkStr {n : Nat} {t : ByteArray} {s : List UInt8} (h : t.data.toList = s) (hl : s.length ≤ maxStr) : RA w ι n (.c (.d (.str s))) (.string t) := by
  subst h; exact .c (.d (.str t hl))

/-- a value's cells -/
theorem RA.cells_inv {n : Nat} {x : A} {cs : List C} {v : Value} (h : RA w ι n x v) (hc : x.cells = some cs) : RCs w ι n cs v.cells.toList := by
  cases x with
  | u => simp [A.cells] at hc
  | c y =>
    simp [A.cells] at hc
    subst hc
    have hy := h.c_inv
    have : v.cells.toList = [v] := by cases v <;> first | rfl | (have := hy.oneCell; simp [Value.oneCell'] at this)
    rw [this]
    refine ⟨rfl, fun i c u h1 h2 => ?_⟩
    cases i with
    | zero => simp at h1 h2; subst h1; subst h2; exact hy
    | succ i => simp at h1
  | agg l =>
    simp [A.cells] at hc
    subst hc
    obtain ⟨vs, rfl, h1⟩ := h.agg_inv
    simpa [Value.cells] using h1
  | tup l => simp [A.cells] at hc
  | gd g y => simp [A.cells] at hc

theorem RCs.oneCell {n : Nat} {cs : List C} {vs : List Value} (h : RCs w ι n cs vs) : ∀ v ∈ vs, v.oneCell' = true := by
  intro v hv
  obtain ⟨i, hi⟩ := List.mem_iff_getElem?.1 hv
  have hlt : i < cs.length := by have := (List.getElem?_eq_some_iff.1 hi).1; rw [h.1] at this; exact this
  exact (h.2 i cs[i] v (List.getElem?_eq_getElem hlt) hi).oneCell

/-! moves -/
theorem res_mv {o : Oper} {x : Operand} {y : Opd} (ho : o.op = .move x ∨ o.op = .assign x) (hx : cOpd x = some y) (hs : SimSt w ι st a) (h : c_ P st true K (.mv y)) :
    OpRes w ι st a K ((execOp a.eval o).run P w) := by
  simp only [c_, QCallK, RowK, ByteK, B2SK, OptK, StoreK] at h
  refine .pure hs (v := a.eval x) ?_ h.2 (val_ra hs hx h.1)
  rcases ho with ho | ho <;> simp [execOp, ho]

theorem pickA_ra {n : Nat} {t : Bool} {x y : A} {u v : Value} (hx : t = true → RA w ι n x u) (hy : t = false → RA w ι n y v) : RA w ι n (h_ t x y) (if t then u else v) := by
  have gen : RA w ι n (cond t x y) (if t then u else v) := by
    cases t with
    | true => exact hx rfl
    | false => exact hy rfl
  unfold h_
  split
  · cases t with
    | true => exact hx rfl
    | false => exact hy rfl
  · exact gen

theorem res_pick {o : Oper} {c x y : Operand} {c' x' y' : Opd} (ho : o.op = .pick c x y) (hc : cOpd c = some c') (hx : cOpd x = some x') (hy : cOpd y = some y') (hs : SimSt w ι st a) (h : c_ P st true K (.pick c' x' y')) :
    OpRes w ι st a K ((execOp a.eval o).run P w) := by
  simp only [c_, QCallK, RowK, ByteK, B2SK, OptK, StoreK] at h
  split at h
  · rename_i t ht
    obtain ⟨h1, h2, h3, h4⟩ := h
    have hcv := val_ra hs hc h1
    have hb : (c'.ev st.sl).val = .c (.d (.bool t)) := by
      unfold g_ at ht; split at ht
      · cases ht; assumption
      · cases ht
    rw [hb] at hcv
    have hcv := hcv.bool_inv
    refine .pure hs (v := if t then a.eval x else a.eval y) ?_ h4 ?_
    · simp only [execOp, ho, hcv, asBool, Sem.run_bind, Sem.run_pure, Result.andThen_ok]
    · exact pickA_ra (fun e => val_ra hs hx (by simpa [e] using h2)) (fun e => val_ra hs hy (by simpa [e] using h3))
  · exact absurd h.1 (by simp)

end ops
end Go.AM

/-
  The abstract machine: memory operations.
  Conditions: none.
-/
namespace Go.AM
set_option linter.unusedVariables false
set_option linter.unusedSimpArgs false
section ops
variable {P : Program} {w : World} {ι : List K} {st : St} {a : Act} {K : A → St → Prop}

theorem run_zeroValue {t : TypeId} {i : TypeInfo} {v : Value} (hi : P.info? t = some i) (hz : i.zero = some v) : (zeroValue t).run P w = .ok v w := by
  simp [zeroValue, typeInfo, hi, hz]
theorem run_sizeOf' {t : TypeId} {n : Nat} (h : sizeOf? P t = some n) : (sizeOf t).run P w = .ok n w := by
  unfold sizeOf? at h
  cases hi : P.info? t with
  | none => simp [hi] at h
  | some i => simp [hi] at h; simp [sizeOf, typeInfo, hi, h]

theorem zeroCs_spec {t : TypeId} {cs : List C} (h : zeroCs P t = some cs) : ∃ i v, P.info? t = some i ∧ i.zero = some v ∧ constCs v.cells.toList = some cs := by
  unfold zeroCs at h
  split at h
  · rename_i i hi
    split at h
    · rename_i v hv; exact ⟨i, v, hi, hv, h⟩
    · cases h
  · cases h

/-! a new object of cells -/
theorem newCells {vs : Array Value} {cs : List C} {el : TypeId} (hs : SimSt w ι st a) (hc : RCs w ι st.ext.length cs vs.toList) :
    SimSt (w.alloc (.cells vs el)) (ι ++ [.blk w.heap.size]) (A_ st (.cells cs)) a ∧ Ext w ι (w.alloc (.cells vs el)) (ι ++ [.blk w.heap.size]) ∧
    RA (w.alloc (.cells vs el)) (ι ++ [.blk w.heap.size]) st.ext.length (.c (.ptr (.l st.loc.length) 0)) (.pointer (some ⟨w.heap.size, 0, none⟩)) := by
  have hx0 := Ext.alloc w ι (.cells vs el)
  have hx := hx0.push (k := .blk w.heap.size) (fun b hb => by cases hb; exact Nat.le_refl _)
  refine ⟨hs.push hx0 (fun b hb => heap_alloc_lt w _ hb) (fun b hb => by cases hb; simp) ⟨vs, el, heap_alloc_new w _, hc.mono hx⟩, hx, .c (.ptr (hs.newIdx _))⟩

theorem res_alloc {o : Oper} {t : TypeId} {z : List C} (ho : o.op = .alloc t) (hz : zeroCs P t = some z) (hs : SimSt w ι st a) (h : c_ P st true K (.alloc z)) :
    OpRes w ι st a K ((execOp a.eval o).run P w) := by
  obtain ⟨i, v, h1, h2, h3⟩ := zeroCs_spec hz
  obtain ⟨h4, h5, h6⟩ := newCells (el := t) hs (constCs_ra h3)
  refine ⟨_, _, _, _, _, .inl ?_, h, h4, h6, h5, rfl⟩
  simp [execOp, ho, Instr.alloc, run_zeroValue h1 h2, newVar, newRow]

theorem res_box {o : Oper} {t : TypeId} {x : Operand} {x' : Opd} (ho : o.op = .box t x) (hx : cOpd x = some x') (hs : SimSt w ι st a) (h : c_ P st true K (.box x')) :
    OpRes w ι st a K ((execOp a.eval o).run P w) := by
  simp only [c_, QCallK, RowK, ByteK, B2SK, OptK, StoreK] at h
  split at h
  · rename_i cs hc
    obtain ⟨h4, h5, h6⟩ := newCells (el := t) hs ((val_ra hs hx h.1).cells_inv hc)
    refine ⟨_, _, _, _, _, .inl ?_, h.2, h4, h6, h5, rfl⟩
    simp [execOp, ho, Instr.box, newVar, newRow]
  · exact h.elim

/-! loads -/
theorem aggOf_some {t : TypeId} {n : Nat} (h : aggOf P t = some (some n)) (a : Addr) (ys : List Value) (hl : ys.length = n) (hc : ∀ (j : Nat) v, ys[j]? = some v → w.cell? (a.add j) = some v) :
    (loadVar t a).run P w = .ok (.agg ys.toArray) w := by
  unfold aggOf at h
  have hload := run_loadCells_list (P := P) w a ys hc
  split at h
  · rename_i i fs h1 h2
    cases h
    simp [loadVar, isAgg, run_underlying h2, sizeOf, typeInfo, h1, ← hl, hload]
  · rename_i i k e h1 h2
    cases h
    simp [loadVar, isAgg, run_underlying h2, sizeOf, typeInfo, h1, ← hl, hload]
  · cases h
  · cases h
theorem aggOf_none {t : TypeId} (h : aggOf P t = some none) (a : Addr) {y : Value} (hc : w.cell? a = some y) : (loadVar t a).run P w = .ok y w := by
  unfold aggOf at h
  split at h
  · cases h
  · cases h
  · rename_i i d h1 h2 hn1 hn2
    simp only [loadVar, isAgg, Sem.run_bind, run_underlying hn2, Result.andThen_ok]
    cases d <;> first | (simp [run_load, hc]; done) | (exact absurd rfl (h1 _ _ rfl)) | (exact absurd rfl (h2 _ _ _ rfl)) | skip
    all_goals simp_all
  · cases h

theorem part_agg {t : TypeId} {n : Nat} (h : aggOf P t = some (some n)) (cs : Array Value) (off : Nat) : (part t cs off).run P w = .ok (.agg (cs.extract off (off + n))) w := by
  unfold aggOf at h
  split at h
  · rename_i i fs h1 h2
    cases h
    simp [part, isAgg, run_underlying h2, sizeOf, typeInfo, h1]
  · rename_i i k e h1 h2
    cases h
    simp [part, isAgg, run_underlying h2, sizeOf, typeInfo, h1]
  · cases h
  · cases h
theorem part_one {t : TypeId} (h : aggOf P t = some none) (cs : Array Value) (off : Nat) {y : Value} (hc : cs[off]? = some y) : (part t cs off).run P w = .ok y w := by
  unfold aggOf at h
  split at h
  · cases h
  · cases h
  · rename_i i d h1 h2 hn1 hn2
    simp only [part, isAgg, Sem.run_bind, run_underlying hn2, Result.andThen_ok]
    cases d <;> first | (simp [hc]; done) | (exact absurd rfl (h1 _ _ rfl)) | (exact absurd rfl (h2 _ _ _ rfl)) | skip
    all_goals simp_all
  · cases h

/-- cells that are told can be loaded -/
theorem load_cut {t : TypeId} {n : Option Nat} {m : Nat} (ht : aggOf P t = some n) {cs : List C} {b o off : Nat} {x : A}
    (hc : ∀ (j : Nat) c, cs[j]? = some c → ∃ y, w.cell? ⟨b, o + j, none⟩ = some y ∧ RC w ι m c y) (hcut : cut cs off n = some x) :
    ∃ y, (loadVar t ⟨b, o + off, none⟩).run P w = .ok y w ∧ RA w ι m x y := by
  cases n with
  | none =>
    simp only [cut, Option.map_eq_some_iff] at hcut
    obtain ⟨c, h1, rfl⟩ := hcut
    obtain ⟨y, h2, h3⟩ := hc off c h1
    exact ⟨y, aggOf_none ht _ h2, .c h3⟩
  | some n =>
    simp only [cut] at hcut
    split at hcut
    · rename_i hle
      cases hcut
      let ys : List Value := (List.range n).map fun j => (w.cell? ⟨b, o + off + j, none⟩).getD undef
      have hg : ∀ j, j < n → ∃ c, cs[off + j]? = some c := fun j hj => ⟨cs[off + j], List.getElem?_eq_getElem (by omega)⟩
      refine ⟨.agg ys.toArray, aggOf_some ht _ ys (by simp [ys]) (fun j v hj => ?_), .agg ⟨by simp [ys]; omega, fun j c v h1 h2 => ?_⟩⟩
      · simp only [ys, List.getElem?_map, Option.map_eq_some_iff] at hj
        obtain ⟨j', h1, rfl⟩ := hj
        have hj' : j < n := by have := (List.getElem?_eq_some_iff.1 h1).1; simpa using this
        rw [List.getElem?_range hj'] at h1
        cases h1
        obtain ⟨c, h2⟩ := hg j hj'
        obtain ⟨y, h3, _⟩ := hc _ c h2
        rw [addr_add]
        rw [← Nat.add_assoc] at h3
        rw [h3]; rfl
      · have hj' : j < n := by
          have := (List.getElem?_eq_some_iff.1 h2).1
          simpa [ys] using this
        simp only [List.getElem?_take, hj', ↓reduceIte, List.getElem?_drop] at h1
        obtain ⟨y, h3, h4⟩ := hc _ c h1
        simp only [ys, List.getElem?_map, List.getElem?_range hj', Option.map_some] at h2
        rw [← Nat.add_assoc] at h3
        rw [h3] at h2
        cases h2
        exact h4
    · cases hcut

theorem load_ra {t : TypeId} {n : Option Nat} (ht : aggOf P t = some n) (hs : SimSt w ι st a) {c : C} {v : Value} (hc : RC w ι st.ext.length c v) {x : A} (hl : y_ st n c = some x) :
    ∃ ad y, v = .pointer (some ad) ∧ (loadVar t ad).run P w = .ok y w ∧ RA w ι st.ext.length x y := by
  cases hc with
  | @ptr r off b h1 =>
    simp only [y_] at hl
    split at hl
    · rename_i cs hg
      obtain ⟨h2, _⟩ := getOb_heap hg (by simp)
      obtain ⟨vs, el, h3, h4⟩ := hs.sim.obj _ _ _ h2 h1
      have hcell : ∀ (j : Nat) c, cs[j]? = some c → ∃ y, w.cell? ⟨b, 0 + j, none⟩ = some y ∧ RC w ι st.ext.length c y := fun j c hj => by
        have hlt : j < vs.size := by have := (List.getElem?_eq_some_iff.1 hj).1; rw [← h4.1] at this; simpa using this
        refine ⟨vs[j], by simp [World.cell?, h3, hlt], h4.2 j c _ hj (by simp [hlt])⟩
      obtain ⟨y, h5, h6⟩ := load_cut ht hcell hl
      rw [Nat.zero_add] at h5
      exact ⟨_, y, rfl, h5, h6⟩
    · cases hl
  | @el row off b o h1 =>
    simp only [y_] at hl
    have hcell : ∀ (j : Nat) c, (row.map C.d)[j]? = some c → ∃ y, w.cell? ⟨b, o + j, none⟩ = some y ∧ RC w ι st.ext.length c y := fun j c hj => by
      simp only [List.getElem?_map, Option.map_eq_some_iff] at hj
      obtain ⟨d, h2, rfl⟩ := hj
      obtain ⟨y, h3, _, h4⟩ := h1 j d h2
      exact ⟨y, h3, .d h4⟩
    obtain ⟨y, h5, h6⟩ := load_cut ht hcell hl
    exact ⟨_, y, rfl, h5, h6⟩
  | @rel r i off b sz len h1 =>
    simp only [y_] at hl
    split at hl
    · rename_i rs hg
      split at hl
      · rename_i row hrow
        obtain ⟨h2, _⟩ := getOb_heap hg (by simp)
        obtain ⟨vs, el, h3, h4, h5, h6⟩ := hs.sim.obj _ _ _ h2 h1
        obtain ⟨h7, h8⟩ := h6 i row hrow
        have hcell : ∀ (j : Nat) c, (row.map C.d)[j]? = some c → ∃ y, w.cell? ⟨b, i * sz + j, none⟩ = some y ∧ RC w ι st.ext.length c y := fun j c hj => by
          simp only [List.getElem?_map, Option.map_eq_some_iff] at hj
          obtain ⟨d, h9, rfl⟩ := hj
          obtain ⟨y, h10, h11⟩ := h8 j d h9
          exact ⟨y, by simp [World.cell?, h3, h10], .d h11⟩
        obtain ⟨y, h5, h6⟩ := load_cut ht hcell hl
        exact ⟨_, y, rfl, h5, h6⟩
      · cases hl
    · cases hl
  | _ => simp [y_] at hl

theorem res_load {o : Oper} {t : TypeId} {n : Option Nat} {x : Operand} {x' : Opd} (ho : o.op = .load t x) (ht : aggOf P t = some n) (hx : cOpd x = some x') (hs : SimSt w ι st a) (h : c_ P st true K (.load n x')) :
    OpRes w ι st a K ((execOp a.eval o).run P w) := by
  simp only [c_, QCallK, RowK, ByteK, B2SK, OptK, StoreK] at h
  split at h
  · rename_i c hc
    obtain ⟨h1, h2⟩ := h
    split at h2
    · rename_i y hy
      have hv := val_ra hs hx h1
      rw [hc] at hv
      obtain ⟨ad, z, h3, h4, h5⟩ := load_ra ht hs hv.c_inv hy
      refine .pure hs (v := z) ?_ h2 h5
      simp [execOp, ho, Instr.loadAt, h3, Instr.sureAddr, h4]
    · exact h2.elim
  · exact h.elim

/-! stores -/
theorem splice_get (cs : List C) (off : Nat) (new : List C) (h : off + new.length ≤ cs.length) (j : Nat) :
    (D_ cs off new)[j]? = if j < off then cs[j]? else if j < off + new.length then new[j - off]? else cs[j]? := by
  simp only [D_, List.getElem?_append, List.length_take, List.length_drop, List.getElem?_take, List.getElem?_drop]
  have : min off cs.length = off := by omega
  rw [this]
  by_cases h1 : j < off
  · simp [h1]
  · by_cases h2 : j < off + new.length
    · have : j - off < new.length := by omega
      simp [h1, h2, this]
    · have : ¬ j - off < new.length := by omega
      simp only [h1, h2, this, ↓reduceIte]
      congr 1
      omega
theorem spliceD_get (cs : List D) (off : Nat) (new : List D) (h : off + new.length ≤ cs.length) (j : Nat) :
    (P_ cs off new)[j]? = if j < off then cs[j]? else if j < off + new.length then new[j - off]? else cs[j]? := by
  simp only [P_, List.getElem?_append, List.length_take, List.length_drop, List.getElem?_take, List.getElem?_drop]
  have : min off cs.length = off := by omega
  rw [this]
  by_cases h1 : j < off
  · simp [h1]
  · by_cases h2 : j < off + new.length
    · have : j - off < new.length := by omega
      simp [h1, h2, this]
    · have : ¬ j - off < new.length := by omega
      simp only [h1, h2, this, ↓reduceIte]
      congr 1
      omega
theorem splice_len (cs : List C) (off : Nat) (new : List C) (h : off + new.length ≤ cs.length) : (D_ cs off new).length = cs.length := by
  simp [D_]; omega
theorem spliceD_len (cs : List D) (off : Nat) (new : List D) (h : off + new.length ≤ cs.length) : (P_ cs off new).length = cs.length := by
  simp [P_]; omega
/-- the same on values -/
theorem spliceV_get (cs : List Value) (off : Nat) (new : List Value) (h : off + new.length ≤ cs.length) (j : Nat) :
    (cs.take off ++ new ++ cs.drop (off + new.length))[j]? = if j < off then cs[j]? else if j < off + new.length then new[j - off]? else cs[j]? := by
  simp only [List.append_assoc, List.getElem?_append, List.length_take, List.length_drop, List.getElem?_take, List.getElem?_drop]
  have : min off cs.length = off := by omega
  rw [this]
  by_cases h1 : j < off
  · simp [h1]
  · by_cases h2 : j < off + new.length
    · have : j - off < new.length := by omega
      simp [h1, h2, this]
    · have : ¬ j - off < new.length := by omega
      simp only [h1, h2, this, ↓reduceIte]
      congr 1
      omega

theorem toDs_spec : ∀ {cs : List C} {ds : List D}, O_ cs = some ds → ds.length = cs.length ∧ ∀ (n : Nat) w ι (i : Nat) c d v, cs[i]? = some c → ds[i]? = some d → RC w ι n c v → RD w (Safe w ι) d v
  | [], ds, h => by simp [O_] at h; subst h; exact ⟨rfl, fun n w ι i c d v h => by simp at h⟩
  | c :: l, ds, h => by
    simp only [O_] at h
    split at h
    · rename_i d r h1 h2
      cases h
      obtain ⟨h3, h4⟩ := toDs_spec h2
      refine ⟨by simp [h3], fun n w ι i c' d' v hc hd hr => ?_⟩
      cases i with
      | zero =>
        simp at hc hd
        subst hc; subst hd
        cases hr with
        | d h5 => simp [C.toD] at h1; subst h1; exact h5
        | own h5 _ => simp [C.toD] at h1; subst h1; exact h5
        | full h5 => simp [C.toD] at h1; subst h1; exact h5
        | _ => simp [C.toD] at h1
      | succ i => simp at hc hd; exact h4 n w ι i c' d' v hc hd hr
    · cases h

theorem res_store {o : Oper} {t : TypeId} {n : Nat} {x y : Operand} {x' y' : Opd} (ho : o.op = .store t x y) (ht : sizeOf? P t = some n) (hx : cOpd x = some x') (hy : cOpd y = some y') (hs : SimSt w ι st a)
    (h : c_ P st true K (.store n x' y')) : OpRes w ι st a K ((execOp a.eval o).run P w) := by
  simp only [c_, QCallK, RowK, ByteK, B2SK, OptK, StoreK] at h
  split at h
  · rename_i c cs hc hcs
    obtain ⟨h1, h2, h3, h4⟩ := h
    split at h4
    · rename_i st' hst
      obtain ⟨hf, h4⟩ := h4
      have hv := val_ra hs hx h1
      rw [hc] at hv
      have hv := hv.c_inv
      have hcv := (val_ra hs hy h2).cells_inv hcs
      have hone := hcv.oneCell
      generalize hpv : a.eval x = pv at hv
      have hrun : ∀ b off w', (storeCells ⟨b, off, none⟩ (a.eval y).cells.toList 0).run P w = .ok () w' → pv = .pointer (some ⟨b, off, none⟩) → (execOp a.eval o).run P w = .ok .skip w' := fun b off w' hr hp => by
        have hsz : (a.eval y).cells.size = n := by have := hcv.1; simp at this; omega
        simp [execOp, ho, Instr.storeAt, hpv, hp, Instr.sureAddr, storeVar, run_sizeOf' ht, hsz, hr]
      cases hv with
      | @ptr r off b hk =>
        simp only [C_] at hst
        split at hst
        · rename_i cs0 hg
          split at hst
          · rename_i hle
            cases hst
            obtain ⟨hh, hr⟩ := getOb_heap hg (by simp)
            obtain ⟨vs, el, h5, h6⟩ := hs.sim.obj _ _ _ hh hk
            have hlen : vs.size = cs0.length := by have := h6.1; simpa using this
            have hl2 : (a.eval y).cells.toList.length = cs.length := hcv.1
            have hrun' := run_storeCells_at P b off el (a.eval y).cells.toList 0 vs w h5 (by omega) hone
            simp only [Nat.add_zero] at hrun'
            obtain ⟨X, hX⟩ : ∃ X, X = (vs.toList.take off ++ (a.eval y).cells.toList ++ vs.toList.drop (off + (a.eval y).cells.toList.length)).toArray := ⟨_, rfl⟩
            rw [← hX] at hrun'
            have hl3 : (a.eval y).cells.size = cs.length := by simpa using hl2
            have hXs : X.toList.length = vs.size := by rw [hX]; simp; omega
            have hXg : ∀ j, X.toList[j]? = if j < off then vs.toList[j]? else if j < off + cs.length then (a.eval y).cells.toList[j - off]? else vs.toList[j]? := fun j => by
              rw [hX]
              show (vs.toList.take off ++ (a.eval y).cells.toList ++ vs.toList.drop (off + (a.eval y).cells.toList.length))[j]? = _
              rw [spliceV_get _ _ _ (by simp at hl2 ⊢; omega), hl2]
            obtain ⟨hs', hx'⟩ := hs.setBlock (w' := w.setRow b X) hk (.inl rfl) hr rfl rfl rfl (by simp) (fun c hc => setRow_other w b c _ hc) (o := .cells (D_ cs0 off cs))
              (fun hx' => ⟨_, el, setRow_heap w b vs _ el (0, 0) h5, by
                refine ⟨by rw [splice_len _ _ _ hle, hXs]; omega, fun i c v h7 h8 => ?_⟩
                rw [splice_get _ _ _ hle] at h7
                rw [hXg] at h8
                refine RC.mono hx' ?_
                by_cases e1 : i < off
                · simp only [e1, ↓reduceIte] at h7 h8; exact h6.2 i c v h7 h8
                · by_cases e2 : i < off + cs.length
                  · simp only [e1, e2, ↓reduceIte] at h7 h8; exact hcv.2 _ c v h7 h8
                  · simp only [e1, e2, ↓reduceIte] at h7 h8; exact h6.2 i c v h7 h8⟩) hf
            refine ⟨undef, _, .u, _, ι, .inr ⟨hrun b off _ hrun' rfl, rfl⟩, h4, hs', .u, hx', ?_⟩
            cases r <;> simp [B_]
          · cases hst
        · cases hst
      | @rel r i off b sz len hk =>
        simp only [C_] at hst
        split at hst
        · rename_i rs hg
          split at hst
          · rename_i row ds hrow hds
            split at hst
            · rename_i hle
              cases hst
              obtain ⟨hh, hr⟩ := getOb_heap hg (by simp)
              obtain ⟨vs, el, h5, h6, h6', h7⟩ := hs.sim.obj _ _ _ hh hk
              obtain ⟨h8, h9⟩ := h7 i row hrow
              obtain ⟨hdl, hdr⟩ := toDs_spec hds
              have hl2 : (a.eval y).cells.toList.length = cs.length := hcv.1
              have hi : i < rs.length := (List.getElem?_eq_some_iff.1 hrow).1
              have hmul : i * sz + sz ≤ rs.length * sz := by
                have : (i + 1) * sz ≤ rs.length * sz := Nat.mul_le_mul_right sz hi
                simpa [Nat.add_mul] using this
              have hrun' := run_storeCells_at P b (i * sz + off) el (a.eval y).cells.toList 0 vs w h5 (by omega) hone
              simp only [Nat.add_zero] at hrun'
              obtain ⟨X, hX⟩ : ∃ X, X = (vs.toList.take (i * sz + off) ++ (a.eval y).cells.toList ++ vs.toList.drop (i * sz + off + (a.eval y).cells.toList.length)).toArray := ⟨_, rfl⟩
              rw [← hX] at hrun'
              have hl3 : (a.eval y).cells.size = cs.length := by simpa using hl2
              have hXs : X.size = vs.size := by rw [hX]; simp; omega
              have hget : ∀ j, X[j]? = if j < i * sz + off then vs[j]? else if j < i * sz + off + cs.length then (a.eval y).cells.toList[j - (i * sz + off)]? else vs[j]? := fun j => by
                rw [hX, List.getElem?_toArray, spliceV_get _ _ _ (by simp; omega), hl2]
                simp
              obtain ⟨hs', hx'⟩ := hs.setBlock (w' := w.setRow b X) hk (.inr ⟨sz, len, rfl⟩) hr rfl rfl rfl (by simp) (fun c hc => setRow_other w b c _ hc) (o := .rows (rs.set i (P_ row off ds)))
                (fun hx' => ⟨_, el, setRow_heap w b vs _ el (0, 0) h5, by rw [hXs]; simpa using h6, by simpa using h6', fun i' r' hr' => by
                  simp only [List.getElem?_set] at hr'
                  by_cases e : i = i'
                  · subst e
                    simp only [↓reduceIte, hi] at hr'
                    cases hr'
                    refine ⟨by rw [spliceD_len _ _ _ hle]; exact h8, fun j x hj => ?_⟩
                    rw [spliceD_get _ _ _ hle] at hj
                    have hjl : j < row.length := by
                      by_cases e1 : j < off
                      · omega
                      · by_cases e2 : j < off + ds.length
                        · omega
                        · simp only [e1, e2, ↓reduceIte] at hj; exact (List.getElem?_eq_some_iff.1 hj).1
                    rw [hget]
                    by_cases e1 : j < off
                    · simp only [e1, ↓reduceIte] at hj
                      obtain ⟨y, p, q⟩ := h9 j x hj
                      refine ⟨y, ?_, q.mono hx'.safe⟩
                      rw [if_pos (by omega)]; exact p
                    · by_cases e2 : j < off + ds.length
                      · simp only [e1, e2, ↓reduceIte] at hj
                        have hj2 : j - off < cs.length := by omega
                        have hj3 : j - off < (a.eval y).cells.toList.length := by omega
                        have hv := hdr st.ext.length w ι (j - off) cs[j - off] x (a.eval y).cells.toList[j - off] (List.getElem?_eq_getElem hj2) hj
                          (hcv.2 _ _ _ (List.getElem?_eq_getElem hj2) (List.getElem?_eq_getElem hj3))
                        refine ⟨_, ?_, hv.mono hx'.safe⟩
                        rw [if_neg (by omega), if_pos (by omega), show i * sz + j - (i * sz + off) = j - off by omega]
                        exact List.getElem?_eq_getElem hj3
                      · simp only [e1, e2, ↓reduceIte] at hj
                        obtain ⟨y, p, q⟩ := h9 j x hj
                        refine ⟨y, ?_, q.mono hx'.safe⟩
                        rw [if_neg (by omega), if_neg (by omega)]; exact p
                  · simp only [e, ↓reduceIte] at hr'
                    obtain ⟨p1, p2⟩ := h7 i' r' hr'
                    refine ⟨p1, fun j x hj => ?_⟩
                    obtain ⟨y, p, q⟩ := p2 j x hj
                    refine ⟨y, ?_, q.mono hx'.safe⟩
                    have hjs : j < sz := by rw [← p1]; exact (List.getElem?_eq_some_iff.1 hj).1
                    rw [hget]
                    rcases Nat.lt_or_gt_of_ne e with h10 | h10
                    · have : (i + 1) * sz ≤ i' * sz := Nat.mul_le_mul_right sz h10
                      rw [Nat.add_mul] at this
                      rw [if_neg (by omega), if_neg (by omega)]; exact p
                    · have : (i' + 1) * sz ≤ i * sz := Nat.mul_le_mul_right sz h10
                      rw [Nat.add_mul] at this
                      rw [if_pos (by omega)]; exact p⟩) hf
              refine ⟨undef, _, .u, _, ι, .inr ⟨hrun b (i * sz + off) _ hrun' rfl, rfl⟩, h4, hs', .u, hx', ?_⟩
              cases r <;> simp [B_]
            · cases hst
          · cases hst
        · cases hst
      | _ => simp [C_] at hst
    · exact h4.elim
  · exact h.elim

end ops
end Go.AM

/-
  The abstract machine: plain operations.
  Conditions: none.
-/
namespace Go.AM
set_option linter.unusedVariables false
set_option linter.unusedSimpArgs false
section ops
variable {P : Program} {w : World} {ι : List K} {st : St} {a : Act} {K : A → St → Prop}

theorem wrap_inR {k : IntKind} {n : Int} (h : inR k n) : k.wrap n = n := by
  unfold inR at h
  cases k <;> simp [IntKind.min, IntKind.max, IntKind.signed, IntKind.bits] at h <;> simp [IntKind.wrap, IntKind.signed, IntKind.bits] <;> omega

theorem inR_wrap (k : IntKind) (n : Int) : inR k (k.wrap n) := by
  unfold inR
  cases k <;> simp [IntKind.min, IntKind.max, IntKind.signed, IntKind.bits] <;> simp [IntKind.wrap, IntKind.signed, IntKind.bits] <;> omega

theorem tmod_inR {k : IntKind} {x y : Int} (h : inR k x) : inR k (x.tmod y) := by
  unfold inR at *
  have h3 : k.min ≤ 0 := by cases k <;> simp [IntKind.min, IntKind.signed, IntKind.bits]
  have h4 : 0 ≤ k.max := by cases k <;> simp [IntKind.max, IntKind.signed, IntKind.bits]
  have h5 : (x.tmod y).natAbs = x.natAbs % y.natAbs := Int.natAbs_tmod x y
  have h6 : x.natAbs % y.natAbs ≤ x.natAbs := Nat.mod_le _ _
  rcases Int.le_total 0 x with hx | hx
  · have := Int.tmod_nonneg (a := x) y hx; omega
  · have := Int.tmod_nonneg (a := -x) y (by omega)
    rw [Int.neg_tmod] at this; omega

theorem fdiv_inR {k : IntKind} {x : Int} {m : Nat} (h : inR k x) : inR k (x.fdiv (2 ^ m)) := by
  unfold inR at *
  have hp : (0 : Int) < 2 ^ m := Int.pow_pos (by omega)
  have h3 : k.min ≤ 0 := by cases k <;> simp [IntKind.min, IntKind.signed, IntKind.bits]
  have h4 : 0 ≤ k.max := by cases k <;> simp [IntKind.max, IntKind.signed, IntKind.bits]
  rw [Int.fdiv_eq_ediv_of_nonneg _ (Int.le_of_lt hp)]
  rcases Int.le_total 0 x with hx | hx
  · have a1 := Int.ediv_nonneg hx (Int.le_of_lt hp)
    have a2 := Int.ediv_le_self (2 ^ m : Int) hx
    omega
  · have h1 : x / 2 ^ m ≤ 0 := by
      have := Int.ediv_le_ediv hp hx
      simpa using this
    have h2 : x ≤ x / 2 ^ m := by
      have := Int.le_ediv_of_mul_le hp (a := x) (b := x) (by
        have : x * 2 ^ m ≤ x * 1 := Int.mul_le_mul_of_nonpos_left hx (by omega)
        simpa using this)
      exact this
    omega

theorem binOp_int {S : Nat → Nat → Prop} (op : BinOp) (t : TypeId) (k : IntKind) (x y : Int) (hx : inR k x) (h : (k_ op (.int k x) (.int k y)).1) :
    ∃ r, (binOp op t (.int k x) (.int k y)).run P w = .ok r w ∧ RD w S (k_ op (.int k x) (.int k y)).2 r := by
  cases op <;> simp only [k_, m_, Bool.false_eq_true, and_false] at h
  case add => exact ⟨_, by simp [binOp, Op.intArith, wrap_inR h.2], .int _ _ h.2⟩
  case sub => exact ⟨_, by simp [binOp, Op.intArith, wrap_inR h.2], .int _ _ h.2⟩
  case mul => exact ⟨_, by simp [binOp, Op.intArith, wrap_inR h.2], .int _ _ h.2⟩
  case quo => exact ⟨_, by simp [binOp, Op.intDiv, h.2.1, wrap_inR h.2.2], .int _ _ h.2.2⟩
  case rem => exact ⟨_, by simp [binOp, Op.intDiv, h.2], .int _ _ (tmod_inR hx)⟩
  case and => exact ⟨.int k (bitsVal .and k x y), by simp only [binOp, ne_eq, not_true_eq_false, ↓reduceIte]; rfl, .int _ _ (inR_wrap _ _)⟩
  case or => exact ⟨.int k (bitsVal .or k x y), by simp only [binOp, ne_eq, not_true_eq_false, ↓reduceIte]; rfl, .int _ _ (inR_wrap _ _)⟩
  case xor => exact ⟨.int k (bitsVal .xor k x y), by simp only [binOp, ne_eq, not_true_eq_false, ↓reduceIte]; rfl, .int _ _ (inR_wrap _ _)⟩
  case andNot => exact ⟨.int k (bitsVal .andNot k x y), by simp only [binOp, ne_eq, not_true_eq_false, ↓reduceIte]; rfl, .int _ _ (inR_wrap _ _)⟩
  case shl => 
    obtain ⟨h1, h2, h3⟩ := h
    have e : min y.toNat k.bits = y.toNat := by omega
    exact ⟨_, by simp [binOp, Op.shift, show ¬ y < 0 by omega, e, wrap_inR h3], .int _ _ h3⟩
  case shr =>
    obtain ⟨h1, h2⟩ := h
    have e : min y.toNat k.bits = y.toNat := by omega
    exact ⟨_, by simp [binOp, Op.shift, show ¬ y < 0 by omega, e], .int _ _ (fdiv_inR hx)⟩
  all_goals exact ⟨_, by simp [binOp, Op.intCmp], .bool _⟩

theorem toList_eq (s : ByteArray) : s.toList = s.data.toList := ByteArray.toList_eq s

theorem str_append (s t : ByteArray) : (s ++ t).data.toList = s.data.toList ++ t.data.toList := by simp [ByteArray.data_append]

theorem binOp_str {S : Nat → Nat → Prop} (op : BinOp) (t : TypeId) (x y : ByteArray) (hx : x.data.toList.length ≤ maxStr) (h : (k_ op (.str x.data.toList) (.str y.data.toList)).1) :
    ∃ r, (binOp op t (.string x) (.string y)).run P w = .ok r w ∧ RD w S (k_ op (.str x.data.toList) (.str y.data.toList)).2 r := by
  have e1 : x.data.toList.length = x.size := rfl
  have e2 : y.data.toList.length = y.size := rfl
  cases op <;> simp only [k_] at h
  case add =>
    have : ¬ (IntKind.i64.max < ((x.size : Int) + (y.size : Int))) := by
      have e : IntKind.i64.max = 9223372036854775807 := by decide
      rw [e]; unfold maxStr at h; rw [e1, e2] at h; omega
    refine ⟨.string (x ++ y), by simp only [binOp, Op.stringOp, Int.natCast_add]; rw [if_neg (by simpa using this)]; rfl, ?_⟩
    simp only [k_]
    rw [← str_append]
    exact .str _ (by rw [str_append]; simpa using h)
  case eql => exact ⟨.bool (x.data.toList == y.data.toList), by simp only [binOp, Op.stringOp, toList_eq]; rfl, .bool _⟩
  case neq => exact ⟨.bool (x.data.toList != y.data.toList), by simp only [binOp, Op.stringOp, toList_eq]; rfl, .bool _⟩
  case lss => exact ⟨.bool (Op.bytesLess x.data.toList y.data.toList), by simp only [binOp, Op.stringOp, toList_eq]; rfl, .bool _⟩
  case leq => exact ⟨.bool (Op.bytesLess x.data.toList y.data.toList || x.data.toList == y.data.toList), by simp only [binOp, Op.stringOp, toList_eq]; rfl, .bool _⟩
  case gtr => exact ⟨.bool (!(Op.bytesLess x.data.toList y.data.toList || x.data.toList == y.data.toList)), by simp only [binOp, Op.stringOp, toList_eq]; rfl, .bool _⟩
  case geq => exact ⟨.bool (!Op.bytesLess x.data.toList y.data.toList), by simp only [binOp, Op.stringOp, toList_eq]; rfl, .bool _⟩

theorem eqGuard_scalar (op : BinOp) (t : TypeId) (x y : Operand) {u v : Value} (hu : u.oneCell' = true) (hv : u ≠ .nilIface) : (eqGuard op t x y u v).run P w = .ok () w := by
  cases op <;> simp [eqGuard] <;> (cases u <;> simp_all [Value.oneCell'])

theorem RD.bool_eq {S : Nat → Nat → Prop} {b : Bool} {v : Value} (h : RD w S (.bool b) v) : v = .bool b := by cases h; rfl

theorem RD.int_eq {S : Nat → Nat → Prop} {k : IntKind} {n : Int} {v : Value} (h : RD w S (.int k n) v) : v = .int k n ∧ inR k n := by cases h; exact ⟨rfl, by assumption⟩
theorem RD.str_eq {S : Nat → Nat → Prop} {s : List UInt8} {v : Value} (h : RD w S (.str s) v) : ∃ t : ByteArray, v = .string t ∧ t.data.toList = s ∧ s.length ≤ maxStr := by cases h; exact ⟨_, rfl, rfl, by assumption⟩

/-- the values of plain data, whatever the world -/
theorem binA_run {o : Oper} {op : BinOp} {t u : TypeId} {x y : Operand} {x' y' : Opd} (ho : o.op = .binOp op t x y u)
    (hx : cOpd x = some x') (hy : cOpd y = some y') (hs : SimSt w ι st a) (h1 : (x'.ev st.sl).ok true) (h2 : (y'.ev st.sl).ok true) (h3 : (i_ op (x'.ev st.sl).val (y'.ev st.sl).val).1) :
    ∃ v, (execOp a.eval o).run P w = .ok (.value v) w ∧ RA w ι st.ext.length (i_ op (x'.ev st.sl).val (y'.ev st.sl).val).2 v := by
  have hxv := val_ra hs hx h1
  have hyv := val_ra hs hy h2
  generalize hxe : (x'.ev st.sl).val = xa at *
  generalize hye : (y'.ev st.sl).val = ya at *
  cases xa <;> (try exact (show False from h3).elim)
  rename_i cx
  cases ya <;> (try exact (show False from h3).elim)
  rename_i cy
  cases cx <;> (try exact (show False from h3).elim)
  rename_i dx
  cases cy <;> (try exact (show False from h3).elim)
  rename_i dy
  have hxv := hxv.c_inv
  have hyv := hyv.c_inv
  cases hxv with
  | d hxv =>
  cases hyv with
  | d hyv =>
  have key : ∃ v, (do eqGuard op t x y (a.eval x) (a.eval y); binOp op t (a.eval x) (a.eval y) : Sem Value).run P w = .ok v w ∧ RD w (Safe w ι) (k_ op dx dy).2 v := by
    cases dx with
    | int k p =>
      cases dy with
      | int k' q =>
        obtain ⟨e1, r1⟩ := hxv.int_eq
        obtain ⟨e2, r2⟩ := hyv.int_eq
        rw [e1, e2]
        have hk : (∃ r, (binOp op t (.int k p) (.int k' q)).run P w = .ok r w ∧ RD w (Safe w ι) (k_ op (.int k p) (.int k' q)).2 r) := by
          by_cases hsh : op = .shl ∨ op = .shr
          · have h3' : (k_ op (.int k p) (.int k q)).1 := by rcases hsh with rfl | rfl <;> exact h3
            obtain ⟨r, h4, h5⟩ := binOp_int (P := P) (w := w) (S := Safe w ι) op t k p q r1 h3'
            refine ⟨r, ?_, ?_⟩
            · rw [← h4]; rcases hsh with rfl | rfl <;> simp only [binOp, Op.shift]
            · rcases hsh with rfl | rfl <;> exact h5
          · have hkk : k = k' := by
              cases op <;> first | exact h3.1 | exact h3 | exact (hsh (.inl rfl)).elim | exact (hsh (.inr rfl)).elim
            subst hkk
            exact binOp_int (P := P) (w := w) (S := Safe w ι) op t k p q r1 h3
        obtain ⟨r, h4, h5⟩ := hk
        exact ⟨r, by simp [eqGuard_scalar op t x y (u := .int k p) rfl (by simp), h4], h5⟩
      | _ => exact (show False from h3).elim
    | str p' =>
      cases dy with
      | str q' =>
        obtain ⟨p, e1, rfl, l1⟩ := hxv.str_eq
        obtain ⟨q, e2, rfl, l2⟩ := hyv.str_eq
        rw [e1, e2]
        obtain ⟨r, h4, h5⟩ := binOp_str (P := P) (w := w) (S := Safe w ι) op t p q l1 h3
        exact ⟨r, by simp [eqGuard_scalar op t x y (u := .string p) rfl (by simp), h4], h5⟩
      | _ => exact (show False from h3).elim
    | _ => exact (show False from h3).elim
  obtain ⟨v, h4, h5⟩ := key
  refine ⟨v, ?_, .c (.d h5)⟩
  simp only [execOp, ho, Sem.run_bind, Sem.run_pure] at h4 ⊢
  rw [h4]; rfl

theorem res_bin {o : Oper} {op : BinOp} {t u : TypeId} {x y : Operand} {x' y' : Opd} (ho : o.op = .binOp op t x y u)
    (hx : cOpd x = some x') (hy : cOpd y = some y') (hs : SimSt w ι st a) (h : c_ P st true K (.bin op x' y')) : OpRes w ι st a K ((execOp a.eval o).run P w) := by
  unfold c_ at h
  obtain ⟨v, h1, h2⟩ := binA_run ho hx hy hs h.1 h.2.1 (h.2.2.1 rfl)
  exact .pure hs h1 h.2.2.2 h2

theorem res_binB {o : Oper} {op : BinOp} {neg : Bool} {t u : TypeId} {x y : Operand} {x' y' : Opd} (ho : o.op = .binOp op t x y u) (hop : op = if neg then .neq else .eql) (hu : P.underlying t = some .bool)
    (hx : cOpd x = some x') (hy : cOpd y = some y') (hs : SimSt w ι st a) (h : c_ P st true K (.binB neg x' y')) : OpRes w ι st a K ((execOp a.eval o).run P w) := by
  simp only [c_, QCallK, RowK, ByteK, B2SK, OptK, StoreK] at h
  split at h
  · rename_i p q h1 h2
    obtain ⟨h3, h4, h5⟩ := h
    have hxv := val_ra hs hx h3
    have hyv := val_ra hs hy h4
    rw [h1] at hxv
    rw [h2] at hyv
    have e1 := hxv.bool_inv
    have e2 := hyv.bool_inv
    have eq := run_equalIn_bool' (P := P) w 9999 t p q hu
    refine .pure hs (v := .bool (neg ^^ (p == q))) ?_ h5 (.mkBool _)
    cases neg
    · simp only [Bool.false_eq_true, ↓reduceIte] at hop
      subst hop
      simp only [execOp, ho, e1, e2, binOp, Sem.run_bind, eqGuard_scalar .eql t x y (u := .bool p) rfl (by simp), Result.andThen_ok, Op.equal, Op.maxDepth, eq, Sem.run_pure, Bool.false_xor]
    · simp only [↓reduceIte] at hop
      subst hop
      simp only [execOp, ho, e1, e2, binOp, Sem.run_bind, eqGuard_scalar .neq t x y (u := .bool p) rfl (by simp), Result.andThen_ok, Op.equal, Op.maxDepth, eq, Sem.run_pure, Bool.true_xor]
  · exact absurd h.1 (by simp)

/-- a told slice of some rows is not nil -/
theorem rows_nilness {n : Nat} {c : C} {v : Value} {rows : List (List D)} (h : RC w ι n c v) (hr : c.rows? = some rows) : ∃ p l cp, v = .slice p l cp ∧ (rows ≠ [] → p.isNone = false) := by
  have key : ∀ {S : Nat → Nat → Prop} {rs : List (List D)} {v : Value}, RD w S (.sl rs) v → ∃ p l cp, v = .slice p l cp ∧ (rs ≠ [] → p.isNone = false) := fun {S rs v} hd => by
    cases hd with
    | nil a => exact ⟨_, _, _, rfl, fun h => absurd rfl h⟩
    | sl rs b off cap sz vs h1 h2 h3 h4 h5 => exact ⟨_, _, _, rfl, fun _ => rfl⟩
  cases h with
  | d h => rename_i x; cases x <;> simp [C.rows?] at hr; subst hr; exact key h
  | own h _ => simp [C.rows?] at hr; subst hr; exact key h
  | full h => simp [C.rows?] at hr; subst hr; exact key h
  | _ => simp [C.rows?] at hr

theorem res_isNil {o : Oper} {op : BinOp} {neg : Bool} {t u e : TypeId} {x y : Operand} {x' : Opd} (ho : o.op = .binOp op t x y u) (hop : op = if neg then .neq else .eql) (hu : P.underlying t = some (.pointer e))
    (hx : cOpd x = some x') (hy : cOpd y = some (.k (.c (.d (.v (.pointer none)))))) (hs : SimSt w ι st a) (h : c_ P st true K (.isNil neg x')) : OpRes w ι st a K ((execOp a.eval o).run P w) := by
  have hyv := opd_ra hs hy
  have hy0 : a.eval y = .pointer none := by
    have := hyv.c_inv
    generalize a.eval y = v at this
    cases this with | d h => cases h; rfl
  have heq : ∀ p : Option Addr, (Op.equal t (.pointer p) (.pointer none)).run P w = .ok p.isNone w := fun p => by
    have : ∀ d, (Op.equalIn (d + 1) t (.pointer p) (.pointer none)).run P w = .ok p.isNone w := fun d => by
      cases p <;> simp [Op.equalIn, run_underlying hu]
    exact this 9999
  have hrun : ∀ p : Option Addr, a.eval x = .pointer p → (execOp a.eval o).run P w = .ok (.value (.bool (neg ^^ p.isNone))) w := fun p hp => by
    cases neg
    · simp only [Bool.false_eq_true, ↓reduceIte] at hop
      subst hop
      simp only [execOp, ho, hp, hy0, binOp, Sem.run_bind, eqGuard_scalar .eql t x y (u := .pointer p) rfl (by simp), Result.andThen_ok, heq, Sem.run_pure, Bool.false_xor]
    · simp only [↓reduceIte] at hop
      subst hop
      simp only [execOp, ho, hp, hy0, binOp, Sem.run_bind, eqGuard_scalar .neq t x y (u := .pointer p) rfl (by simp), Result.andThen_ok, heq, Sem.run_pure, Bool.true_xor]
  simp only [c_, QCallK, RowK, ByteK, B2SK, OptK, StoreK] at h
  split at h
  · rename_i r off h1
    have hxv := val_ra hs hx h.1
    rw [h1] at hxv
    have := hxv.c_inv
    generalize hg : a.eval x = v at this
    cases this with
    | ptr hk => exact .pure hs (hrun _ hg) (by simpa using h.2) (by simpa using RA.mkBool _)
  · rename_i h1
    have hxv := val_ra hs hx h.1
    rw [h1] at hxv
    have := hxv.c_inv
    generalize hg : a.eval x = v at this
    cases this with
    | d hd => cases hd; exact .pure hs (hrun _ hg) (by simpa using h.2) (by simpa using RA.mkBool _)
  · exact h.elim


theorem cOpd_iface {y : Operand} (h : cOpd y = some (.k (.c (.d (.v .nilIface))))) : y = .const .nilIface := by
  cases y with
  | tmp t => simp [cOpd] at h
  | global g => simp [cOpd] at h
  | func f => simp [cOpd] at h
  | const v =>
    simp only [cOpd, Option.map_eq_some_iff] at h
    obtain ⟨x, h1, h2⟩ := h
    cases h2
    unfold constA at h1
    split at h1
    · simp only [Option.map_eq_some_iff] at h1
      obtain ⟨_, _, h2⟩ := h1
      cases h2
    · split at h1 <;> cases h1
    · simp only [Option.map_eq_some_iff] at h1
      obtain ⟨c, h2, h3⟩ := h1
      cases h3
      unfold constC at h2
      split at h2
      · cases h2
      · split at h2 <;> cases h2
      · split at h2 <;> cases h2
      · cases h2
      · cases h2
      · cases h2
      · rfl
      · cases h2
      · cases h2
theorem res_errNil {o : Oper} {op : BinOp} {neg : Bool} {t u : TypeId} {e : Array (String × TypeId)} {x y : Operand} {x' : Opd} (ho : o.op = .binOp op t x y u) (hop : op = if neg then .neq else .eql) (hu : P.underlying t = some (.interface e))
    (hx : cOpd x = some x') (hy : cOpd y = some (.k (.c (.d (.v .nilIface))))) (hs : SimSt w ι st a) (h : c_ P st true K (.errNil neg x')) : OpRes w ι st a K ((execOp a.eval o).run P w) := by
  have hyc := cOpd_iface hy
  subst hyc
  have hy0 : a.eval (.const .nilIface) = .nilIface := by
    have hyv := opd_ra hs hy
    have := hyv.c_inv
    generalize a.eval (.const .nilIface) = v at this
    cases this with | d h => cases h; rfl
  have heq : ∀ v : Value, (v = .nilIface ∨ ∃ p q, v = .iface p q) → (Op.equal t v .nilIface).run P w = .ok (v matches .nilIface) w := fun v hv => by
    rcases hv with rfl | ⟨p, q, rfl⟩
    · have : ∀ d, (Op.equalIn (d + 1) t .nilIface .nilIface).run P w = .ok true w := fun d => by
        simp [Op.equalIn, run_underlying hu]
      exact this 9999
    · have : ∀ d, (Op.equalIn (d + 1) t (.iface p q) .nilIface).run P w = .ok false w := fun d => by
        simp [Op.equalIn, run_underlying hu]
      exact this 9999
  have hg : ∀ v : Value, (v = .nilIface ∨ ∃ p q, v = .iface p q) → ∀ o : BinOp, (eqGuard o t x (.const .nilIface) v .nilIface).run P w = .ok () w := fun v hv o => by
    rcases hv with rfl | ⟨p, q, rfl⟩ <;> cases o <;> simp [eqGuard]
  have hrun : ∀ v : Value, (v = .nilIface ∨ ∃ p q, v = .iface p q) → a.eval x = v → (execOp a.eval o).run P w = .ok (.value (.bool (neg ^^ (v matches .nilIface)))) w := fun v hv hp => by
    have h1 := heq v hv
    have h2 := hg v hv
    cases neg
    · simp only [Bool.false_eq_true, ↓reduceIte] at hop
      subst hop
      rcases hv with rfl | ⟨p, q, rfl⟩ <;> simp only [execOp, ho, hp, hy0, binOp, Sem.run_bind, h2, Result.andThen_ok, h1, Sem.run_pure, Bool.false_xor]
    · simp only [↓reduceIte] at hop
      subst hop
      rcases hv with rfl | ⟨p, q, rfl⟩ <;> simp only [execOp, ho, hp, hy0, binOp, Sem.run_bind, h2, Result.andThen_ok, h1, Sem.run_pure, Bool.true_xor]
  simp only [c_, QCallK, RowK, ByteK, B2SK, OptK, StoreK] at h
  split at h
  · rename_i h1
    have hxv := val_ra hs hx h.1
    rw [h1] at hxv
    have := hxv.c_inv
    generalize hg : a.eval x = v at this
    cases this with
    | d hd => cases hd; exact .pure hs (hrun _ (.inl rfl) hg) (by simpa using h.2) (by simpa using RA.mkBool _)
  · rename_i p q h1
    have hxv := val_ra hs hx h.1
    rw [h1] at hxv
    have := hxv.c_inv
    generalize hg : a.eval x = v at this
    cases this with
    | d hd => cases hd; exact .pure hs (hrun _ (.inr ⟨_, _, rfl⟩) hg) (by simpa using h.2) (by simpa using RA.mkBool _)
  · exact h.elim

theorem cOpd_nil {y : Operand} (h : cOpd y = some (.k (.c (.full [])))) : a.eval y = .slice none 0 0 := by
  cases y with
  | tmp t => simp [cOpd] at h
  | global g => simp [cOpd] at h
  | func f => simp [cOpd] at h
  | const v =>
    simp only [cOpd, Option.map_eq_some_iff] at h
    obtain ⟨x, h1, h2⟩ := h
    cases h2
    unfold constA at h1
    split at h1
    · simp only [Option.map_eq_some_iff] at h1
      obtain ⟨_, _, h2⟩ := h1
      cases h2
    · split at h1 <;> cases h1
    · simp only [Option.map_eq_some_iff] at h1
      obtain ⟨c, h2, h3⟩ := h1
      cases h3
      unfold constC at h2
      split at h2
      · cases h2
      · split at h2 <;> cases h2
      · split at h2 <;> cases h2
      · rfl
      · cases h2
      · cases h2
      · cases h2
      · cases h2
      · cases h2

theorem res_nilSl {o : Oper} {op : BinOp} {neg : Bool} {t u e : TypeId} {x y : Operand} {x' : Opd} (ho : o.op = .binOp op t x y u) (hop : op = if neg then .neq else .eql) (hu : P.underlying t = some (.slice e))
    (hx : cOpd x = some x') (hy : cOpd y = some (.k (.c (.full [])))) (hs : SimSt w ι st a) (h : c_ P st true K (.nilSl neg x')) : OpRes w ι st a K ((execOp a.eval o).run P w) := by
  have hy0 : a.eval y = .slice none 0 0 := cOpd_nil hy
  have heq : ∀ (p : Option Addr) (l c : Nat), (Op.equal t (.slice p l c) (.slice none 0 0)).run P w = .ok p.isNone w := fun p l c => by
    have : ∀ d, (Op.equalIn (d + 1) t (.slice p l c) (.slice none 0 0)).run P w = .ok p.isNone w := fun d => by
      cases p <;> simp [Op.equalIn, run_underlying hu]
    exact this 9999
  have hrun : ∀ (p : Option Addr) (l c : Nat), a.eval x = .slice p l c → (execOp a.eval o).run P w = .ok (.value (.bool (neg ^^ p.isNone))) w := fun p l c hp => by
    cases neg
    · simp only [Bool.false_eq_true, ↓reduceIte] at hop
      subst hop
      simp only [execOp, ho, hp, hy0, binOp, Sem.run_bind, eqGuard_scalar .eql t x y (u := .slice p l c) rfl (by simp), Result.andThen_ok, heq, Sem.run_pure, Bool.false_xor]
    · simp only [↓reduceIte] at hop
      subst hop
      simp only [execOp, ho, hp, hy0, binOp, Sem.run_bind, eqGuard_scalar .neq t x y (u := .slice p l c) rfl (by simp), Result.andThen_ok, heq, Sem.run_pure, Bool.true_xor]
  simp only [c_, QCallK, RowK, ByteK, B2SK, OptK, StoreK] at h
  split at h
  · rename_i c h1
    split at h
    · rename_i rows hr
      have hxv := val_ra hs hx h.1
      rw [h1] at hxv
      obtain ⟨p, l, cp, h3, h4⟩ := rows_nilness hxv.c_inv hr
      exact .pure hs (hrun _ _ _ h3) (h.2 _ h4) (RA.mkBool _)
    · exact h.elim
  · exact h.elim

/-! struct equality -/
theorem eqCs_run : ∀ (fs : List Field) (ks : List FK) (n d : Nat) (xs ys : List C) (us vs : List Value) (b : Bool), plainFields P n fs = some ks → U_ ks xs ys = some b →
    (∀ (i : Nat) c v, xs[i]? = some c → us[n + i]? = some v → RC w ι st.ext.length c v) → (∀ (i : Nat) c v, ys[i]? = some c → vs[n + i]? = some v → RC w ι st.ext.length c v) → us.length = n + xs.length → vs.length = n + ys.length →
    (Op.eqFields (d + 1) us.toArray vs.toArray fs).run P w = .ok b w
  | [], ks, n, d, xs, ys, us, vs, b, hp, he, _, _, _, _ => by
    simp [plainFields] at hp
    subst hp
    cases xs with
    | nil => cases ys with
      | nil => simp [U_] at he; subst he; rfl
      | cons _ _ => simp [U_] at he
    | cons _ _ => simp [U_] at he
  | f :: fs, ks, n, d, xs, ys, us, vs, b, hp, he, hu, hv, hlu, hlv => by
    simp only [plainFields] at hp
    split at hp
    · rename_i hf
      obtain ⟨hp1, hp2⟩ := hf
      have hkind : ∃ k ks', ks = k :: ks' ∧ plainFields P (n + 1) fs = some ks' ∧ aggOf P f.type = some none ∧
          ((k = .int ∧ ∃ q, P.underlying f.type = some (.int q)) ∨ (k = .str ∧ P.underlying f.type = some .string) ∨ (k = .bool ∧ P.underlying f.type = some .bool)) := by
        split at hp
        · rename_i h1 h2 h3; cases hp; exact ⟨_, _, rfl, h3, by simp [aggOf, h1, h2], .inl ⟨rfl, _, h2⟩⟩
        · rename_i h1 h2 h3; cases hp; exact ⟨_, _, rfl, h3, by simp [aggOf, h1, h2], .inr (.inl ⟨rfl, h2⟩)⟩
        · rename_i h1 h2 h3; cases hp; exact ⟨_, _, rfl, h3, by simp [aggOf, h1, h2], .inr (.inr ⟨rfl, h2⟩)⟩
        · cases hp
      obtain ⟨k, ks', rfl, hp4, hone, hk⟩ := hkind
      cases xs with
      | nil => cases ys <;> simp [U_] at he
      | cons x xs =>
        cases ys with
        | nil => cases x <;> simp [U_] at he
        | cons y ys =>
          have hnu : n < us.length := by simp at hlu; omega
          have hnv : n < vs.length := by simp at hlv; omega
          have hx0 := hu 0 x us[n] rfl (by simp [hnu])
          have hy0 := hv 0 y vs[n] rfl (by simp [hnv])
          have hgu : us.toArray[f.offset]? = some us[n] := by rw [hp2]; simp [hnu]
          have hgv : vs.toArray[f.offset]? = some vs[n] := by rw [hp2]; simp [hnv]
          cases x <;> (try (simp [U_] at he; done))
          rename_i dx
          cases y <;> (try (simp [U_] at he; done))
          rename_i dy
          simp only [U_] at he
          split at he
          · rename_i b1 b2 he1 he2
            cases he
            have ih := eqCs_run fs ks' (n + 1) d xs ys us vs b2 hp4 he2 (fun i c v h1 h2 => hu (i + 1) c v (by simpa using h1) (by rw [← h2]; congr 1; omega))
              (fun i c v h1 h2 => hv (i + 1) c v (by simpa using h1) (by rw [← h2]; congr 1; omega)) (by simp at hlu; omega) (by simp at hlv; omega)
            cases hx0 with
            | d hx0 =>
            cases hy0 with
            | d hy0 =>
            have p1 := part_one (w := w) hone us.toArray f.offset hgu
            have p2 := part_one (w := w) hone vs.toArray f.offset hgv
            have hq : (Op.equalIn (d + 1) f.type us[n] vs[n]).run P w = .ok b1 w := by
              rcases hk with ⟨rfl, q, h2⟩ | ⟨rfl, h2⟩ | ⟨rfl, h2⟩
              · cases dx <;> simp only [eqD] at he1 <;> try (cases he1; done)
                cases dy <;> simp only [eqD] at he1 <;> try (cases he1; done)
                split at he1
                · rename_i e; subst e; cases he1
                  rw [hx0.int_eq.1, hy0.int_eq.1, run_equalIn_int w d f.type _ q _ _ h2]
                · cases he1
              · cases dx <;> simp only [eqD] at he1 <;> try (cases he1; done)
                cases dy <;> simp only [eqD] at he1 <;> try (cases he1; done)
                cases he1
                obtain ⟨t1, e1, rfl, _⟩ := hx0.str_eq
                obtain ⟨t2, e2, rfl, _⟩ := hy0.str_eq
                rw [e1, e2, run_equalIn_string w d f.type _ _ h2, toList_eq, toList_eq]
              · cases dx <;> simp only [eqD] at he1 <;> try (cases he1; done)
                cases dy <;> simp only [eqD] at he1 <;> try (cases he1; done)
                cases he1
                rw [hx0.bool_eq, hy0.bool_eq, run_equalIn_bool' w d f.type _ _ h2]
            simp only [Op.eqFields, ne_eq, hp1, not_false_eq_true, ↓reduceIte, Sem.run_bind, p1, p2, Result.andThen_ok, hq, Sem.run_ite, ih, Sem.run_pure]
            cases b1 <;> simp
          · cases he
    · cases hp

theorem res_eqAgg {o : Oper} {op : BinOp} {neg : Bool} {t u : TypeId} {x y : Operand} {x' y' : Opd} {fs : Array Field} {ks : List FK} (ho : o.op = .binOp op t x y u) (hop : op = if neg then .neq else .eql)
    (hu : P.underlying t = some (.struct fs)) (hf : plainFields P 0 fs.toList = some ks) (h5 : P.stoodInHeld t = false) (h6 : P.eqGuardType P.depth t = false)
    (hx : cOpd x = some x') (hy : cOpd y = some y') (hs : SimSt w ι st a) (h : c_ P st true K (.eqAgg neg ks x' y')) : OpRes w ι st a K ((execOp a.eval o).run P w) := by
  simp only [c_, QCallK, RowK, ByteK, B2SK, OptK, StoreK] at h
  split at h
  · rename_i xs ys h1 h2
    obtain ⟨h3, h4, h7⟩ := h
    split at h7
    · rename_i b hb
      have hxv := val_ra hs hx h3
      have hyv := val_ra hs hy h4
      rw [h1] at hxv
      rw [h2] at hyv
      obtain ⟨us, e1, r1⟩ := hxv.agg_inv
      obtain ⟨vs, e2, r2⟩ := hyv.agg_inv
      have hfo : P.fieldsOf t = fs := by simp [Program.fieldsOf, hu]
      have hrun : (Op.equalIn 10000 t (.agg us.toArray) (.agg vs.toArray)).run P w = .ok b w := by
        have e := run_equalIn_struct (P := P) w 9999 t us.toArray vs.toArray (by rw [hfo]; exact hu) h5
        have e' := eqCs_run (P := P) (w := w) (ι := ι) (st := st) fs.toList ks 0 9998 xs ys us vs b hf hb (fun i c v p q => r1.2 i c v p (by simpa using q)) (fun i c v p q => r2.2 i c v p (by simpa using q)) (by simpa using r1.1) (by simpa using r2.1)
        rw [hfo] at e
        exact e.trans e'
      refine .pure hs (v := .bool (neg ^^ b)) ?_ h7 (.mkBool _)
      cases neg
      · simp only [Bool.false_eq_true, ↓reduceIte] at hop
        subst hop
        simp only [execOp, ho, e1, e2, Sem.run_bind, run_eqGuard_agg w .eql t x y _ _ h6, Result.andThen_ok, run_eql_struct, hrun, Sem.run_pure, Bool.false_xor]
      · simp only [↓reduceIte] at hop
        subst hop
        simp only [execOp, ho, e1, e2, Sem.run_bind, run_eqGuard_agg w .neq t x y _ _ h6, Result.andThen_ok, run_neq_struct, hrun, Sem.run_pure, Bool.true_xor]
    · exact h7.elim
  · exact h.elim

end ops
end Go.AM

/-
  The abstract machine: further plain operations.
  Conditions: none.
-/
namespace Go.AM
set_option linter.unusedVariables false
set_option linter.unusedSimpArgs false
section ops
variable {P : Program} {w : World} {ι : List K} {st : St} {a : Act} {K : A → St → Prop}

theorem res_nilCheck {o : Oper} {x : Operand} {x' : Opd} (ho : o.op = .nilCheck x) (hx : cOpd x = some x') (hs : SimSt w ι st a) (h : c_ P st true K (.nilCheck x')) : OpRes w ι st a K ((execOp a.eval o).run P w) := by
  simp only [c_, QCallK, RowK, ByteK, B2SK, OptK, StoreK] at h
  split at h <;> (try exact h.elim)
  all_goals
    rename_i h1
    have hxv := val_ra hs hx h.1
    rw [h1] at hxv
    refine .pure hs (v := a.eval x) ?_ h.2 hxv
    have := hxv.c_inv
    generalize hg : a.eval x = v at this
    cases this
    all_goals simp [execOp, ho, hg]

theorem res_un {o : Oper} {op : UnOp} {t : TypeId} {x : Operand} {x' : Opd} (ho : o.op = .unOp op t x) (hx : cOpd x = some x') (hs : SimSt w ι st a) (h : c_ P st true K (.un op x')) : OpRes w ι st a K ((execOp a.eval o).run P w) := by
  unfold c_ at h
  obtain ⟨h1, h2, h3⟩ := h
  have h2 := h2 rfl
  have hxv := val_ra hs hx h1
  generalize hxe : (x'.ev st.sl).val = xa at *
  cases xa with
  | c cx =>
    cases cx with
    | d dx =>
      have hxv := hxv.c_inv
      cases hxv with
      | d hxv =>
      cases dx with
      | bool b =>
        cases op with
        | not => exact .pure hs (v := .bool (!b)) (by simp [execOp, ho, hxv.bool_eq, Op.unary]) h3 (.mkBool _)
        | _ => exact (show False from h2).elim
      | int k n =>
        obtain ⟨e, r⟩ := hxv.int_eq
        cases op with
        | neg => 
          have h2' : inR k (0 - n) := h2
          exact .pure hs (v := .int k (0 - n)) (by simp only [execOp, ho, e, Op.unary, Op.intArith, wrap_inR h2', Sem.run_bind, Sem.run_pure, Result.andThen_ok]) h3 (.mkInt h2')
        | _ => exact (show False from h2).elim
      | _ => exact (show False from h2).elim
    | _ => exact (show False from h2).elim
  | _ => exact (show False from h2).elim

theorem res_cvInt {o : Oper} {src dst : TypeId} {k q : IntKind} {x : Operand} {x' : Opd} (ho : o.op = .convert src dst x) (h1 : P.underlying src = some (.int q)) (h2 : P.underlying dst = some (.int k)) (hx : cOpd x = some x') (hs : SimSt w ι st a)
    (h : c_ P st true K (.cvInt k x')) : OpRes w ι st a K ((execOp a.eval o).run P w) := by
  simp only [c_, QCallK, RowK, ByteK, B2SK, OptK, StoreK] at h
  split at h
  · rename_i k0 n hn
    have hxv := val_ra hs hx h.1
    rw [hn] at hxv
    refine .pure hs (v := .int k (k.wrap n)) ?_ h.2 (.mkInt (inR_wrap _ _))
    simp [execOp, ho, hxv.int_inv.1, convert, run_underlying h1, run_underlying h2, Conv.intToInt]
  · exact h.elim

theorem res_cvStr {o : Oper} {src dst : TypeId} {x : Operand} {x' : Opd} (ho : o.op = .convert src dst x) (h1 : P.underlying src = some .string) (h2 : P.underlying dst = some .string) (hx : cOpd x = some x') (hs : SimSt w ι st a)
    (h : c_ P st true K (.cvStr x')) : OpRes w ι st a K ((execOp a.eval o).run P w) := by
  simp only [c_, QCallK, RowK, ByteK, B2SK, OptK, StoreK] at h
  split at h
  · rename_i s hn
    have hxv := val_ra hs hx h.1
    rw [hn] at hxv
    obtain ⟨t, e, e2, e3⟩ := hxv.str_inv
    refine .pure hs (v := .string t) ?_ h.2 (.mkStr e2 e3)
    simp [execOp, ho, e, convert, run_underlying h1, run_underlying h2]
  · exact h.elim

/-- a told slice, cell by cell -/
theorem RC.rows {n : Nat} {c : C} {rows : List (List D)} {v : Value} (h : RC w ι n c v) (hr : c.rows? = some rows) : RD w (Safe w ι) (.sl rows) v := by
  cases h with
  | @d x v h => cases x <;> simp [C.rows?] at hr; subst hr; exact h
  | own h _ => simp [C.rows?] at hr; subst hr; exact h
  | full h => simp [C.rows?] at hr; subst hr; exact h
  | _ => simp [C.rows?] at hr

theorem RD.sl_inv {S : Nat → Nat → Prop} {rows : List (List D)} {v : Value} (h : RD w S (.sl rows) v) : ∃ ad cap, v = .slice ad rows.length cap := by
  cases h with
  | nil a => exact ⟨a, 0, rfl⟩
  | sl => exact ⟨_, _, rfl⟩

theorem bytes_fold (s : List UInt8) (acc : ByteArray) : (s.map fun b => (b.toNat : Int)).foldl (fun r n => r.push (UInt8.ofNat n.toNat)) acc = ⟨acc.data ++ s.toArray⟩ := by
  induction s generalizing acc with
  | nil => simp
  | cons b s ih =>
    simp only [List.map_cons, List.foldl_cons]
    rw [ih]
    congr 1
    simp [ByteArray.push]

theorem res_cvB2S {o : Oper} {src dst e : TypeId} {x : Operand} {x' : Opd} (ho : o.op = .convert src dst x) (h1 : P.underlying src = some (.slice e)) (h2 : P.underlying dst = some .string) (h0 : P.underlying e = some (.int .u8)) (hx : cOpd x = some x') (hs : SimSt w ι st a)
    (h : c_ P st true K (.cvB2S x')) : OpRes w ι st a K ((execOp a.eval o).run P w) := by
  simp only [c_, QCallK, RowK, ByteK, B2SK, OptK, StoreK] at h
  split at h
  · rename_i c hc
    split at h
    · rename_i rows hr
      obtain ⟨h3, s, h4, h5⟩ := h
      have h4 := h4 trivial
      have hxv := val_ra hs hx h3
      rw [hc] at hxv
      have hrd := hxv.c_inv.rows hr
      obtain ⟨ad, cap, hv⟩ := hrd.sl_inv
      rw [hv] at hrd
      have hlen : rows.length = s.length := by rw [h4]; simp [bytesRows]
      have hfin : ∀ r, (Conv.bytesToString (a.eval x)).run P w = .ok (.string ⟨s.toArray⟩) w → r = (execOp a.eval o).run P w → OpRes w ι st a K r := fun r hr hr2 => by
        subst hr2
        refine .pure hs (v := .string ⟨s.toArray⟩) ?_ h5 (.mkStr (by simp) ?_)
        · rw [hv] at hr
          simp [execOp, ho, hv, convert, run_underlying h1, run_underlying h2, run_underlying h0, hr]
        · rw [RD.sl_iff] at hrd
          rcases hrd with ⟨e1, _⟩ | ⟨b, off, sz, e1, e2, e3, e4, e5⟩
          · rw [e1] at hlen; simp at hlen; simp [← hlen]
          · unfold maxRows at e4; unfold maxStr; omega
      refine hfin _ ?_ rfl
      rw [RD.sl_iff] at hrd
      rcases hrd with ⟨e1, e3, e4⟩ | ⟨b, off, sz, e1, e2, e3, e4, e5⟩
      · rw [e1] at hlen
        simp at hlen
        have : s = [] := List.length_eq_zero_iff.1 hlen.symm
        subst this
        rw [hv, e1]
        cases ad with
        | none => simp [Conv.bytesToString]; rfl
        | some ad => simp [Conv.bytesToString, loadCells, loadCellsFrom]; rfl
      · have hcell : ∀ (j : Nat) v, (s.map fun b => Value.int .u8 b.toNat)[j]? = some v → w.cell? (Addr.add ⟨b, off, none⟩ j) = some v := fun j v hj => by
          simp only [List.getElem?_map, Option.map_eq_some_iff] at hj
          obtain ⟨u, hu, rfl⟩ := hj
          have hrow : rows[j]? = some [.int .u8 u.toNat] := by rw [h4]; simp [bytesRows, hu]
          obtain ⟨hsz, hat⟩ := e5 j _ hrow
          simp at hsz
          obtain ⟨y, p, _, q⟩ := hat 0 _ rfl
          have := q.int_eq.1
          subst this
          rw [addr_add]
          rw [← hsz] at p
          simpa using p
        have hl := run_loadCells_list (P := P) w ⟨b, off, none⟩ _ hcell
        simp only [List.length_map] at hl
        rw [hv, e1, hlen]
        have hb := run_bytesToString (P := P) w ⟨b, off, none⟩ s.length cap (s.map fun b => (b.toNat : Int)) (by rw [hl]; simp)
        rw [hb, bytes_fold]
        simp
    · exact h.elim
  · exact h.elim


theorem res_cvS2B {o : Oper} {src dst e : TypeId} {x : Operand} {x' : Opd} (ho : o.op = .convert src dst x) (h1 : P.underlying src = some .string) (h2 : P.underlying dst = some (.slice e)) (h0 : P.underlying e = some (.int .u8)) (hx : cOpd x = some x') (hs : SimSt w ι st a)
    (h : c_ P st true K (.cvS2B x')) : OpRes w ι st a K ((execOp a.eval o).run P w) := by
  simp only [c_, QCallK, RowK, ByteK, B2SK, OptK, StoreK] at h
  split at h
  · rename_i s hn
    obtain ⟨h3, h4, h5⟩ := h
    have hxv := val_ra hs hx h3
    rw [hn] at hxv
    obtain ⟨t, e1, e2, e3⟩ := hxv.str_inv
    obtain ⟨cap, hcap⟩ : ∃ cap, cap = (Question.appendCap t.size 0 e).cut (w.tape w.drawn (.appendCap t.size 0 e)) := ⟨_, rfl⟩
    have hcap' : t.size ≤ cap := by rw [hcap]; simp only [Question.cut]; omega
    obtain ⟨cs, hcs⟩ : ∃ cs : Array Value, cs = (t.data.map fun b => Value.int .u8 b.toNat) ++ Array.replicate (cap - t.size) (.int .u8 0) := ⟨_, rfl⟩
    have hsz : cs.size = cap := by rw [hcs]; simp; change t.size + (cap - t.size) = cap; omega
    let w1 : World := { w with drawn := w.drawn + 1 }
    let w2 := w1.alloc (.cells cs e)
    let w3 := w2.freeze ⟨w.heap.size, cap, none⟩ 1
    have hrun : (execOp a.eval o).run P w = .ok (.value (.slice (some ⟨w.heap.size, 0, none⟩) t.size cap)) w3 := by
      have hf : (Question.appendCap t.size 0 e).forced = false := rfl
      have hsh : w2.shape? w.heap.size = some (e, cap) := by
        show (match (w1.alloc (.cells cs e)).heap[w1.heap.size]? with | some (.cells c elem _) => some (elem, c.size) | _ => none) = _
        rw [heap_alloc_new]
        simp [hsz]
      simp only [execOp, ho, e1, convert, Sem.run_bind, run_underlying h1, run_underlying h2, run_underlying h0, Result.andThen_ok, Conv.stringToBytes, run_choose, hf, Bool.false_eq_true, ↓reduceIte, ← hcap, newRow, run_newObj, ← hcs,
        markStringish, run_shape, Sem.run_pure]
      have hsh' : World.shape? { w1 with heap := w1.heap.push (.cells cs e) } w1.heap.size = some (e, cap) := hsh
      simp only [w1] at hsh'
      simp only [hsh', run_freeze, Result.andThen_ok, Sem.run_pure]
      rfl
    have hb : ∀ c, c < w.heap.size → w3.heap[c]? = w.heap[c]? := fun c hc => by
      have : w2.heap[c]? = w.heap[c]? := heap_alloc_lt w1 _ hc
      rw [← this]
      simp only [w3, World.freeze, Nat.one_ne_zero, ↓reduceIte, Array.getElem?_modify]
      rw [if_neg (by omega)]
    have hsize : w3.heap.size = w.heap.size + 1 := by simp [w3, World.freeze, w2, w1, World.alloc]
    have hx3 : Ext w ι w3 ι := .of_blocks (by simp [w3, World.freeze, w2, w1, World.alloc]) (by simp [w3, World.freeze, w2, w1, World.alloc]) (by simp [w3, World.freeze, w2, w1, World.alloc]) (by omega) hb
    have hcell : ∀ j, w3.cell? ⟨w.heap.size, j, none⟩ = cs[j]? := fun j => by
      simp only [w3, World.freeze, Nat.one_ne_zero, ↓reduceIte, World.cell?, Array.getElem?_modify]
      have : w2.heap[w.heap.size]? = some (.cells cs e) := heap_alloc_new w1 _
      simp [this]
    have hsafe : ∀ j, Safe w3 ι w.heap.size j := fun j => ⟨by omega, fun k hk ho => by have := hs.sim.low k _ hk (AM.K.at_of_owns ho); omega⟩
    refine ⟨_, w3, _, st, ι, .inl hrun, h5, hs.of_blocks hx3 hb, .c (.d ?_), hx3, rfl⟩
    have hlen : (bytesRows s).length = t.size := by simp [bytesRows, ← e2]
    rw [← hlen, RD.sl_iff]
    refine .inr ⟨w.heap.size, 0, 1, rfl, rfl, by rw [hlen]; exact hcap', by rw [hlen]; rw [← e2] at h4; exact h4, fun i r hi => ?_⟩
    simp only [bytesRows, List.getElem?_map, Option.map_eq_some_iff] at hi
    obtain ⟨b, hb', rfl⟩ := hi
    refine ⟨rfl, fun j x hj => ?_⟩
    cases j with
    | zero =>
      simp at hj
      subst hj
      refine ⟨.int .u8 b.toNat, ?_, hsafe _, .int _ _ ?_⟩
      · rw [hcell, hcs]
        rw [← e2] at hb'
        have hlt : i < t.data.size := by have := (List.getElem?_eq_some_iff.1 hb').1; simpa using this
        have hbv : t.data[i] = b := (Array.getElem?_eq_some_iff.1 (show t.data[i]? = some b by simpa using hb')).2
        have hlt' : i < t.size := hlt
        simp [Array.getElem?_append, hlt', hlt, hbv]
      · have := b.toNat_lt
        unfold inR
        simp [IntKind.min, IntKind.max, IntKind.signed, IntKind.bits]
        omega
    | succ j => simp at hj
  · exact h.elim

theorem res_extract {o : Oper} {i : Nat} {x : Operand} {x' : Opd} (ho : o.op = .extract x i) (hx : cOpd x = some x') (hs : SimSt w ι st a) (h : c_ P st true K (.extract i x')) : OpRes w ι st a K ((execOp a.eval o).run P w) := by
  simp only [c_, QCallK, RowK, ByteK, B2SK, OptK, StoreK] at h
  split at h
  · rename_i vs hv
    obtain ⟨hok, h⟩ := h
    split at h
    · rename_i y hy
      have hxv := val_ra hs hx hok
      rw [hv] at hxv
      generalize hg : a.eval x = v at hxv
      cases hxv with
      | @tup _ us h1 h2 =>
        have hlt : i < us.length := by rw [h1]; exact (List.getElem?_eq_some_iff.1 hy).1
        refine .pure hs (v := us[i]) ?_ h (h2 i y _ hy (List.getElem?_eq_getElem hlt))
        simp [execOp, ho, hg, Instr.extract, hlt]
    · exact h.elim
  · exact h.elim

theorem res_fieldAddr {o : Oper} {t : TypeId} {f n : Nat} {fs : Array Field} {fd : Field} {x : Operand} {x' : Opd} (ho : o.op = .fieldAddr t x f) (h1 : P.underlying t = some (.struct fs)) (h2 : fs[f]? = some fd) (h3 : sizeOf? P fd.type = some n) (h4 : n ≠ 0)
    (hx : cOpd x = some x') (hs : SimSt w ι st a) (h : c_ P st true K (.fieldAddr fd.offset x')) : OpRes w ι st a K ((execOp a.eval o).run P w) := by
  simp only [c_, QCallK, RowK, ByteK, B2SK, OptK, StoreK] at h
  split at h
  · rename_i y hy
    have hxv := val_ra hs hx h.1
    have hrun : ∀ b off, a.eval x = .pointer (some ⟨b, off, none⟩) → (execOp a.eval o).run P w = .ok (.value (.pointer (some ⟨b, off + fd.offset, none⟩))) w := fun b off e => by
      simp [execOp, ho, e, Instr.fieldAt, run_underlying h1, h2, Instr.sureAddr, fieldPlace, run_sizeOf' h3, h4, addr_add]
    generalize hxe : (x'.ev st.sl).val = xa at *
    cases xa with
    | c cx =>
      have hc := hxv.c_inv
      generalize hg : a.eval x = v at hc
      cases hc with
      | ptr hk =>
        simp only [x_] at hy
        cases hy
        exact .pure hs (hrun _ _ hg) h.2 (.c (.ptr hk))
      | el hk =>
        simp only [x_] at hy
        cases hy
        exact .pure hs (hrun _ _ hg) h.2 (by rw [Nat.add_assoc]; exact .c (.el hk))
      | rel hk =>
        simp only [x_] at hy
        cases hy
        exact .pure hs (hrun _ _ hg) h.2 (by rw [Nat.add_assoc]; exact .c (.rel hk))
      | _ => simp [x_] at hy
    | _ => simp [x_] at hy
  · exact h.elim

theorem cut_ra {n : Option Nat} {m off : Nat} {t : TypeId} {cs : List C} {vs : List Value} {x : A} (ht : aggOf P t = some n) (hr : RCs w ι m cs vs) (h : cut cs off n = some x) :
    ∃ y, (part t vs.toArray off).run P w = .ok y w ∧ RA w ι m x y := by
  cases n with
  | none =>
    simp only [cut, Option.map_eq_some_iff] at h
    obtain ⟨c, h1, rfl⟩ := h
    have hlt : off < vs.length := by rw [hr.1]; exact (List.getElem?_eq_some_iff.1 h1).1
    exact ⟨vs[off], part_one ht _ _ (by simp [hlt]), .c (hr.2 off c _ h1 (List.getElem?_eq_getElem hlt))⟩
  | some n =>
    simp only [cut] at h
    split at h
    · rename_i hle
      cases h
      refine ⟨_, part_agg ht _ _, ?_⟩
      have e : vs.toArray.extract off (off + n) = ((vs.drop off).take n).toArray := by
        simp [List.extract_toArray]
      rw [e]
      refine .agg ⟨by simp [hr.1], fun i c v h1 h2 => ?_⟩
      simp only [List.getElem?_take, List.getElem?_drop] at h1 h2
      split at h1
      · rename_i hi
        simp only [hi, ↓reduceIte] at h2
        exact hr.2 _ c v h1 h2
      · cases h1
    · cases h

theorem res_field {o : Oper} {t : TypeId} {f : Nat} {n : Option Nat} {fs : Array Field} {fd : Field} {x : Operand} {x' : Opd} (ho : o.op = .field t x f) (h1 : P.underlying t = some (.struct fs)) (h2 : fs[f]? = some fd) (h3 : aggOf P fd.type = some n)
    (hx : cOpd x = some x') (hs : SimSt w ι st a) (h : c_ P st true K (.field fd.offset n x')) : OpRes w ι st a K ((execOp a.eval o).run P w) := by
  simp only [c_, QCallK, RowK, ByteK, B2SK, OptK, StoreK] at h
  split at h
  · rename_i cs hc
    obtain ⟨h4, h5⟩ := h
    split at h5
    · rename_i y hy
      have hxv := val_ra hs hx h4
      rw [hc] at hxv
      obtain ⟨vs, e, r⟩ := hxv.agg_inv
      obtain ⟨z, h6, h7⟩ := cut_ra (P := P) h3 r hy
      refine .pure hs (v := z) ?_ h5 h7
      simp [execOp, ho, e, Instr.field, run_underlying h1, h2, asAgg, h6]
    · exact h5.elim
  · exact h.elim

end ops
end Go.AM

/-
  The abstract machine: places in slices, and slices of slices.
  Conditions: none.
-/
namespace Go.AM
set_option linter.unusedVariables false
set_option linter.unusedSimpArgs false
section ops
variable {P : Program} {w : World} {ι : List K} {st : St} {a : Act} {K : A → St → Prop}

theorem row_place {rows : List (List D)} {v : Value} {i sz : Nat} {row : List D} (h : RD w (Safe w ι) (.sl rows) v) (hi : rows[i]? = some row) (hsz : row.length = sz) :
    ∃ b off cap, v = .slice (some ⟨b, off, none⟩) rows.length cap ∧ RowAt w (Safe w ι) row b (off + i * sz) := by
  obtain ⟨ad, cap, rfl⟩ := h.sl_inv
  rw [RD.sl_iff] at h
  rcases h with ⟨e1, _⟩ | ⟨b, off, sz', e1, e2, e3, e4, e5⟩
  · subst e1; simp at hi
  · obtain ⟨h1, h2⟩ := e5 i row hi
    have : sz' = sz := by omega
    subst this
    exact ⟨b, off, cap, by rw [e1], h2⟩

theorem res_indexAddr {o : Oper} {t e : TypeId} {n : Nat} {x i : Operand} {x' i' : Opd} (ho : o.op = .indexAddr t x i) (h1 : P.underlying t = some (.slice e)) (h2 : sizeOf? P e = some n) (hx : cOpd x = some x') (hi : cOpd i = some i') (hs : SimSt w ι st a)
    (h : c_ P st true K (.indexAddr n x' i')) : OpRes w ι st a K ((execOp a.eval o).run P w) := by
  have hrun : ∀ b off k iv len cap, a.eval x = .slice (some ⟨b, off, none⟩) len cap → a.eval i = .int k iv → 0 ≤ iv → iv.toNat < len → (execOp a.eval o).run P w = .ok (.value (.pointer (some ⟨b, off + iv.toNat * n, none⟩))) w := fun b off k iv len cap e1 e2 e3 e4 => by
    have : 0 ≤ iv ∧ iv < (len : Int) := ⟨e3, by omega⟩
    simp [execOp, ho, e1, e2, Instr.indexAt, asIntOf, run_underlying h1, this, run_sizeOf' h2, addr_add]
  simp only [c_, QCallK, RowK, ByteK, B2SK, OptK, StoreK] at h
  split at h
  · rename_i r len sz' k iv hxe hie
    obtain ⟨h3, h4, h5, h6⟩ := h
    obtain ⟨g5, g5', h5''⟩ := h5 trivial
    subst h5''
    have hxv := val_ra hs hx h3
    have hiv := val_ra hs hi h4
    rw [hxe] at hxv
    rw [hie] at hiv
    have hc := hxv.c_inv
    generalize hgv : a.eval x = v at hc
    cases hc with
    | @fsl _ _ b _ cap hk hcap =>
      refine .pure hs (hrun b 0 k iv len cap hgv hiv.int_inv.1 g5 g5') h6 ?_
      have := RA.c (RC.rel (w := w) (n := st.ext.length) (i := iv.toNat) (off := 0) hk)
      simpa using this
  · rename_i c k iv hnf hxe hie
    split at h
    · rename_i rows hr
      obtain ⟨h3, h4, h5, row, h6, h7⟩ := h
      have h5 := h5 trivial
      obtain ⟨h6, h6'⟩ := h6 trivial
      have hxv := val_ra hs hx h3
      have hiv := val_ra hs hi h4
      rw [hxe] at hxv
      rw [hie] at hiv
      obtain ⟨b, off, cap, e1, e2⟩ := row_place (hxv.c_inv.rows hr) h6 h6'
      have hlt : iv.toNat < rows.length := (List.getElem?_eq_some_iff.1 h6).1
      exact .pure hs (hrun b off k iv _ cap e1 hiv.int_inv.1 h5 hlt) h7 (by simpa using RA.c (RC.el (off := 0) e2))
    · exact h.elim
  · exact h.elim

theorem res_indexArr {o : Oper} {t e : TypeId} {n len : Nat} {x i : Operand} {x' i' : Opd} (ho : o.op = .indexAddr t x i) (h1 : P.underlying t = some (.array len e)) (h2 : sizeOf? P e = some n) (hx : cOpd x = some x') (hi : cOpd i = some i') (hs : SimSt w ι st a)
    (h : c_ P st true K (.indexArr len n x' i')) : OpRes w ι st a K ((execOp a.eval o).run P w) := by
  simp only [c_, QCallK, RowK, ByteK, B2SK, OptK, StoreK] at h
  split at h
  · rename_i r off k iv hxe hie
    obtain ⟨h3, h4, h5, h6⟩ := h
    obtain ⟨h5, h5'⟩ := h5 trivial
    have hxv := val_ra hs hx h3
    have hiv := val_ra hs hi h4
    rw [hxe] at hxv
    rw [hie] at hiv
    have hc := hxv.c_inv
    generalize hgv : a.eval x = v at hc
    cases hc with
    | @ptr _ _ b hk =>
      refine .pure hs (v := .pointer (some ⟨b, off + iv.toNat * n, none⟩)) ?_ h6 (.c (.ptr hk))
      have : 0 ≤ iv ∧ iv < (len : Int) := ⟨h5, h5'⟩
      simp [execOp, ho, hgv, hiv.int_inv.1, Instr.indexAt, asIntOf, run_underlying h1, this, run_sizeOf' h2, addr_add, Instr.sureAddr]
  · exact h.elim

theorem res_index {o : Oper} {t : TypeId} {x i : Operand} {x' i' : Opd} (ho : o.op = .index t x i) (h1 : P.underlying t = some .string) (hx : cOpd x = some x') (hi : cOpd i = some i') (hs : SimSt w ι st a)
    (h : c_ P st true K (.index x' i')) : OpRes w ι st a K ((execOp a.eval o).run P w) := by
  simp only [c_, QCallK, RowK, ByteK, B2SK, OptK, StoreK] at h
  split at h
  · rename_i s k iv hxe hie
    obtain ⟨h3, h4, b, h5, h6⟩ := h
    obtain ⟨h5, h5'⟩ := h5 trivial
    have hxv := val_ra hs hx h3
    have hiv := val_ra hs hi h4
    rw [hxe] at hxv
    rw [hie] at hiv
    obtain ⟨u, e1, e2, e3⟩ := hxv.str_inv
    have hget : u[iv.toNat]? = some b := by
      rw [← e2] at h5'
      have hlt : iv.toNat < u.size := by have := (List.getElem?_eq_some_iff.1 h5').1; simpa using this
      have : u.data[iv.toNat]? = some b := by simpa using h5'
      have h7 := (Array.getElem?_eq_some_iff.1 this).2
      rw [getElem?_pos u iv.toNat hlt]
      exact congrArg some h7
    refine .pure hs (v := .int .u8 b.toNat) ?_ h6 (.mkInt ?_)
    · simp [execOp, ho, e1, hiv.int_inv.1, Instr.index, asIntOf, run_underlying h1, h5, hget]
    · have := b.toNat_lt
      unfold inR
      simp [IntKind.min, IntKind.max, IntKind.signed, IntKind.bits]
      omega
  · exact h.elim

theorem RD.drop {S : Nat → Nat → Prop} {rows : List (List D)} {b off cap sz : Nat} (h : ∀ (i : Nat) (r : List D), rows[i]? = some r → r.length = sz ∧ RowAt w S r b (off + i * sz)) (lo hi : Nat) (hlo : lo ≤ hi) (hhi : hi ≤ rows.length) (hm : rows.length ≤ maxRows) (hcap : hi - lo ≤ cap) :
    RD w S (.sl ((rows.take hi).drop lo)) (.slice (some ⟨b, off + lo * sz, none⟩) (hi - lo) cap) := by
  rw [RD.sl_iff]
  have hl : ((rows.take hi).drop lo).length = hi - lo := by simp; omega
  refine .inr ⟨b, off + lo * sz, sz, rfl, hl.symm, by omega, by omega, fun i r hr => ?_⟩
  simp only [List.getElem?_drop, List.getElem?_take] at hr
  split at hr
  · obtain ⟨h1, h2⟩ := h _ r hr
    refine ⟨h1, ?_⟩
    rw [Nat.add_mul] at h2
    rw [Nat.add_assoc]; exact h2
  · cases hr

/-! slices -/

theorem optInt_ra {dflt n : Int} {o : Option Operand} {o' : Option Opd} (hs : SimSt w ι st a) (ho : cOpt o = some o') (hok : L_ true st.sl o') (h : K_ st.sl dflt o' = some n) :
    (o = none ∧ o' = none ∧ n = dflt) ∨ ∃ x k, o = some x ∧ a.eval x = .int k n ∧ (∃ y, o' = some y) := by
  cases o with
  | none => simp [cOpt] at ho; subst ho; simp [K_] at h; exact .inl ⟨rfl, rfl, h.symm⟩
  | some x =>
    simp only [cOpt, Option.map_eq_some_iff] at ho
    obtain ⟨y, h1, rfl⟩ := ho
    simp only [K_] at h
    split at h
    · rename_i k m hv
      cases h
      have := val_ra hs h1 hok
      rw [hv] at this
      exact .inr ⟨x, k, rfl, this.int_inv.1, y, rfl⟩
    · cases h

theorem run_sliceBound {k : IntKind} {n : Int} {y : Nat} {code : BoundsCode} (h0 : 0 ≤ n) (h1 : n ≤ y) : (Instr.sliceBound (.int k n) y code).run P w = .ok n.toNat w := by
  have : 0 ≤ n ∧ n ≤ (y : Int) := ⟨h0, h1⟩
  simp [Instr.sliceBound, asIntOf, this]

/-- the bounds of a slice expression -/
theorem run_bounds {b : Bool} {len cap : Nat} {lo hi mx : Option Value} {l h m : Nat} (hm : (mx = none ∧ m = cap) ∨ ∃ k, mx = some (.int k m) ∧ m ≤ cap)
    (hh : (hi = none ∧ mx = none ∧ h = len) ∨ ∃ k, hi = some (.int k h) ∧ h ≤ m) (hl : (lo = none ∧ l = 0) ∨ ∃ k, lo = some (.int k l) ∧ l ≤ h) : (Instr.sliceBounds b len cap lo hi mx).run P w = .ok (l, h, m) w := by
  have bound : ∀ (k : IntKind) (n y : Nat) code, n ≤ y → (Instr.sliceBound (.int k n) y code).run P w = .ok n w := fun k n y code hle => by
    have := run_sliceBound (P := P) (w := w) (k := k) (n := n) (y := y) (code := code) (by omega) (by omega)
    simpa using this
  rcases hm with ⟨rfl, rfl⟩ | ⟨k1, rfl, hm⟩ <;> rcases hh with ⟨rfl, h', rfl⟩ | ⟨k2, rfl, hh⟩ <;> rcases hl with ⟨rfl, rfl⟩ | ⟨k3, rfl, hl⟩ <;> (try cases h')
  all_goals simp [Instr.sliceBounds, bound, *]

theorem sliceStr_run {o : Oper} {t : TypeId} {x : Operand} {lo hi : Option Operand} {u : ByteArray} {l h : Nat} (ho : o.op = .slice t x lo hi none) (h1 : P.underlying t = some .string) (hx : a.eval x = .string u)
    (hh : (hi = none ∧ h = u.size) ∨ ∃ y k, hi = some y ∧ a.eval y = .int k h ∧ h ≤ u.size) (hl : (lo = none ∧ l = 0) ∨ ∃ y k, lo = some y ∧ a.eval y = .int k l ∧ l ≤ h) :
    (execOp a.eval o).run P w = .ok (.value (.string (u.extract l h))) w := by
  have hb : (Instr.sliceBounds false u.size u.size (lo.map a.eval) (hi.map a.eval) none).run P w = .ok (l, h, u.size) w := by
    refine run_bounds (.inl ⟨rfl, rfl⟩) ?_ ?_
    · rcases hh with ⟨rfl, rfl⟩ | ⟨y, k, rfl, e, h2⟩
      · exact .inl ⟨rfl, rfl, rfl⟩
      · exact .inr ⟨k, by simp [e], h2⟩
    · rcases hl with ⟨rfl, rfl⟩ | ⟨y, k, rfl, e, h2⟩
      · exact .inl ⟨rfl, rfl⟩
      · exact .inr ⟨k, by simp [e], h2⟩
  simp [execOp, ho, hx, Instr.sliceAt, Instr.slice, run_underlying h1, hb]

theorem sliceSl_run {o : Oper} {t e : TypeId} {n : Nat} {x : Operand} {lo hi mx : Option Operand} {ad : Option Addr} {len cap l h m : Nat} (ho : o.op = .slice t x lo hi mx) (h1 : P.underlying t = some (.slice e)) (h2 : sizeOf? P e = some n) (hx : a.eval x = .slice ad len cap)
    (hm : (mx = none ∧ m = cap) ∨ ∃ y k, mx = some y ∧ a.eval y = .int k m ∧ m ≤ cap) (hh : (hi = none ∧ mx = none ∧ h = len) ∨ ∃ y k, hi = some y ∧ a.eval y = .int k h ∧ h ≤ m) (hl : (lo = none ∧ l = 0) ∨ ∃ y k, lo = some y ∧ a.eval y = .int k l ∧ l ≤ h) :
    (execOp a.eval o).run P w = .ok (.value (.slice (if m = l then ad else ad.map (·.add (l * n))) (h - l) (m - l))) w := by
  have hb : (Instr.sliceBounds true len cap (lo.map a.eval) (hi.map a.eval) (mx.map a.eval)).run P w = .ok (l, h, m) w := by
    refine run_bounds ?_ ?_ ?_
    · rcases hm with ⟨rfl, rfl⟩ | ⟨y, k, rfl, e, h2⟩
      · exact .inl ⟨rfl, rfl⟩
      · exact .inr ⟨k, by simp [e], h2⟩
    · rcases hh with ⟨rfl, rfl, rfl⟩ | ⟨y, k, rfl, e, h2⟩
      · exact .inl ⟨rfl, rfl, rfl⟩
      · exact .inr ⟨k, by simp [e], h2⟩
    · rcases hl with ⟨rfl, rfl⟩ | ⟨y, k, rfl, e, h2⟩
      · exact .inl ⟨rfl, rfl⟩
      · exact .inr ⟨k, by simp [e], h2⟩
  simp [execOp, ho, hx, Instr.sliceAt, Instr.slice, run_underlying h1, hb, run_sizeOf' h2]

/-- what is left of a told slice -/
theorem RD.part {S : Nat → Nat → Prop} {rows : List (List D)} {ad : Option Addr} {len cap l h m n : Nat} (hr : RD w S (.sl rows) (.slice ad len cap)) (hsz : ∀ r ∈ rows, r.length = n) (hlh : l ≤ h) (hh : h ≤ rows.length) (hm : h ≤ m) (hmc : m ≤ cap) :
    RD w S (.sl ((rows.take h).drop l)) (.slice (if m = l then ad else ad.map (·.add (l * n))) (h - l) (m - l)) := by
  rw [RD.sl_iff] at hr
  rcases hr with ⟨rfl, rfl, rfl⟩ | ⟨b, off, sz, rfl, rfl, e3, e4, e5⟩
  · have : h = 0 := by simpa using hh
    have : l = 0 := by omega
    have : m = 0 := by omega
    subst_vars
    simp; exact .nil _
  · by_cases hrow : rows = []
    · subst hrow
      have h0 : h = 0 := by simpa using hh
      have l0 : l = 0 := by omega
      subst h0; subst l0
      by_cases hm0 : m = 0
      · subst hm0
        simp only [↓reduceIte]
        exact RD.sl_iff.2 (.inr ⟨b, off, 0, rfl, by simp, by simp, by simp, fun i r hi => by simp at hi⟩)
      · simp only [hm0, ↓reduceIte, Option.map_some, addr_add]
        exact RD.sl_iff.2 (.inr ⟨b, off + 0 * n, 0, rfl, by simp, by simp, by simp, fun i r hi => by simp at hi⟩)
    · obtain ⟨r0, rest, rfl⟩ := List.exists_cons_of_ne_nil hrow
      have hn : sz = n := by
        have h1 := (e5 0 r0 rfl).1
        have h2 := hsz r0 (by simp)
        omega
      subst hn
      by_cases hml : m = l
      · subst hml
        have : h = m := by omega
        subst this
        simp only [↓reduceIte, Nat.sub_self]
        have hd : ((r0 :: rest).take h).drop h = [] := by simp
        rw [hd]
        exact RD.sl_iff.2 (.inr ⟨b, off, 0, rfl, by simp, by simp, by simp, fun i r hi => by simp at hi⟩)
      · simp only [hml, ↓reduceIte, Option.map_some, addr_add]
        exact RD.drop e5 l h hlh hh e4 (by omega)

theorem str_extract (u : ByteArray) (l h : Nat) : (u.extract l h).data.toList = (u.data.toList.take h).drop l := by
  simp [ByteArray.data_extract, List.drop_take]

theorem take_all {α : Type} (l : List α) {n : Nat} (h : l.length ≤ n) : l.take n = l := List.take_of_length_le h

/-- the value of a slice expression -/
theorem sliceA_run {o : Oper} {t : TypeId} {n : Nat} {x : Operand} {lo hi mx : Option Operand} {lo' hi' mx' : Option Opd} {x' : Opd} {c : C} {l : Int} {h m : Option Int} (ho : o.op = .slice t x lo hi mx)
    (ht : (P.underlying t = some .string ∧ mx = none) ∨ ∃ e, P.underlying t = some (.slice e) ∧ sizeOf? P e = some n) (hx : RC w ι st.ext.length c (a.eval x)) (hs : SimSt w ι st a)
    (hstr : ∀ s, c = .d (.str s) → P.underlying t = some .string) (hsl : ∀ rows, c.rows? = some rows → ∃ e, P.underlying t = some (.slice e) ∧ sizeOf? P e = some n) (hnstr : ∀ r len s, c = .fsl r len s → ¬ P.underlying t = some .string)
    (hl : (lo = none ∧ l = 0) ∨ ∃ y k, lo = some y ∧ a.eval y = .int k l) (hh : (hi = none ∧ h = none) ∨ ∃ y k z, hi = some y ∧ h = some z ∧ a.eval y = .int k z)
    (hm : (mx = none ∧ m = none) ∨ ∃ y k z, mx = some y ∧ m = some z ∧ a.eval y = .int k z) (hK : M_ true (fun x => K x st) n l h m c) : OpRes w ι st a K ((execOp a.eval o).run P w) := by
  have hlo : ∀ B : Nat, 0 ≤ l → l ≤ B → (lo = none ∧ l.toNat = 0) ∨ ∃ y k, lo = some y ∧ a.eval y = .int k (l.toNat : Nat) ∧ l.toNat ≤ B := fun B h0 h1 => by
    rcases hl with ⟨rfl, rfl⟩ | ⟨y, k, rfl, e⟩
    · exact .inl ⟨rfl, rfl⟩
    · exact .inr ⟨y, k, rfl, by rw [e, Int.toNat_of_nonneg h0], by omega⟩
  by_cases hcs : ∃ s, c = .d (.str s)
  · obtain ⟨s, rfl⟩ := hcs
    have hu := hstr s rfl
    simp only [M_] at hK
    obtain ⟨_, rfl, h1, h2⟩ := hK
    obtain ⟨h3, h4, h5⟩ := h1 trivial
    generalize hg : a.eval x = v at hx
    cases hx with
    | d hd =>
    obtain ⟨u, rfl, rfl, hu2⟩ := hd.str_eq
    have hus : u.data.toList.length = u.size := rfl
    have hmx : mx = none := by
      rcases hm with ⟨h6, _⟩ | ⟨_, _, _, _, h6, _⟩
      · exact h6
      · cases h6
    subst hmx
    rcases hh with ⟨rfl, rfl⟩ | ⟨y, k, z, rfl, rfl, e⟩
    · simp only [Option.getD_none] at h2 h3 h4 h5
      have hrun := sliceStr_run (P := P) (w := w) ho hu hg (.inl ⟨rfl, rfl⟩) (hlo u.size h3 (by omega))
      refine .pure hs hrun h2 (.mkStr (by rw [str_extract]; simp [take_all]) (by simp; omega))
    · simp only [Option.getD_some] at h2 h3 h4 h5
      have hrun := sliceStr_run (P := P) (w := w) (h := z.toNat) ho hu hg (.inr ⟨y, k, rfl, by rw [e, Int.toNat_of_nonneg (by omega)], by omega⟩) (hlo z.toNat h3 (by omega))
      refine .pure hs hrun h2 (.mkStr (by rw [str_extract]) (by simp; omega))
  · by_cases hfs : ∃ r len sz', c = .fsl r len sz'
    · obtain ⟨r, len, sz', rfl⟩ := hfs
      simp only [M_] at hK
      obtain ⟨⟨rfl, hn0⟩, rfl, h1, h2⟩ := hK
      obtain ⟨h3, h4, h5⟩ := h1 trivial
      obtain ⟨e, hu, hn⟩ : ∃ e, P.underlying t = some (.slice e) ∧ sizeOf? P e = some sz' := by
        rcases ht with ⟨h6, _⟩ | h6
        · exact absurd h6 (hnstr r len sz' rfl)
        · exact h6
      have hmx : mx = none := by
        rcases hm with ⟨h6, _⟩ | ⟨_, _, _, _, h6, _⟩
        · exact h6
        · cases h6
      subst hmx
      generalize hg : a.eval x = v at hx
      cases hx with
      | @fsl _ _ b _ cap hk hcap =>
        obtain ⟨H, hH⟩ : ∃ H : Nat, h.getD (len : Int) = (H : Int) := ⟨(h.getD (len : Int)).toNat, by omega⟩
        rw [hH] at h2 h4 h5
        have hrun := sliceSl_run (P := P) (w := w) (h := H) (m := cap) ho hu hn hg (.inl ⟨rfl, rfl⟩) (by
          rcases hh with ⟨rfl, rfl⟩ | ⟨y, k, z, rfl, rfl, e⟩
          · exact .inl ⟨rfl, rfl, by simp at hH; omega⟩
          · simp only [Option.getD_some] at hH; subst hH; exact .inr ⟨y, k, rfl, e, by omega⟩) (hlo H h3 (by omega))
        have hsub : ((H : Int) - l).toNat = H - l.toNat := by omega
        rw [hsub] at h2
        refine .pure hs hrun h2 (.c ?_)
        by_cases hm0 : cap = l.toNat
        · rw [if_pos hm0]
          exact .psl hk (by omega) (by omega) (by omega)
        · rw [if_neg hm0]
          simp only [Option.map_some, addr_add]
          exact .psl hk (by omega) (by omega) (fun _ => by omega)
    have hrows : ∃ rows, c.rows? = some rows := by
      unfold M_ at hK
      split at hK
      · exact absurd ⟨_, rfl⟩ hcs
      · exact absurd ⟨_, _, _, rfl⟩ hfs
      · split at hK
        · exact hK.elim
        · rename_i rows hr; exact ⟨rows, hr⟩
    obtain ⟨rows, hr⟩ := hrows
    obtain ⟨e, hu, hn⟩ := hsl rows hr
    have hK' : allLen n rows ∧ (match (generalizing := false) h, m with
      | none, none => (true = true → 0 ≤ l ∧ l ≤ rows.length) ∧ K (.c (T_ l.toNat c)) st
      | some hi, none => (true = true → 0 ≤ l ∧ l ≤ hi ∧ hi ≤ rows.length) ∧ K (.c (.d (.sl ((rows.take hi.toNat).drop l.toNat)))) st
      | some hi, some mx => (true = true → 0 ≤ l ∧ l ≤ hi ∧ hi = mx ∧ hi ≤ rows.length) ∧ K (.c (N_ l hi c ((rows.take hi.toNat).drop l.toNat))) st
      | none, some _ => False) := by
      unfold M_ at hK
      split at hK
      · exact absurd ⟨_, rfl⟩ hcs
      · exact absurd ⟨_, _, _, rfl⟩ hfs
      · rw [hr] at hK; exact hK.2
    obtain ⟨hall, hK'⟩ := hK'
    have hrd := hx.rows hr
    obtain ⟨ad, cap, hv⟩ := hrd.sl_inv
    rw [hv] at hrd
    have hcap : rows.length ≤ cap := by
      have := hrd
      rw [RD.sl_iff] at this
      rcases this with ⟨e1, _, _⟩ | ⟨_, _, _, _, _, h6, _⟩
      · rw [e1]; simp
      · exact h6
    rcases hh with ⟨rfl, rfl⟩ | ⟨y, k, z, rfl, rfl, ez⟩
    · rcases hm with ⟨rfl, rfl⟩ | ⟨_, _, _, _, rfl, _⟩
      · simp only at hK'
        obtain ⟨h1, h2⟩ := hK'
        obtain ⟨h3, h4⟩ := h1 trivial
        have hrun := sliceSl_run (P := P) (w := w) (h := rows.length) (m := cap) ho hu hn hv (.inl ⟨rfl, rfl⟩) (.inl ⟨rfl, rfl, rfl⟩) (hlo rows.length h3 (by omega))
        have hpart := hrd.part (h := rows.length) (l := l.toNat) (m := cap) hall (by omega) (Nat.le_refl _) hcap (Nat.le_refl _)
        rw [take_all _ (Nat.le_refl _)] at hpart
        refine .pure hs hrun h2 (.c ?_)
        rw [hv] at hx
        cases hx with
        | @d xd _ hd =>
          cases xd <;> simp [C.rows?] at hr
          subst hr
          exact .d hpart
        | @own r pos rows' _ h6 h7 =>
          simp [C.rows?] at hr
          subst hr
          obtain ⟨q, p, h8, h9, h10⟩ := h7
          refine .own hpart ⟨q, p, h8, h9, fun e => ?_⟩
          have hc := h10 e
          cases ad with
          | none => 
            have : (if cap = l.toNat then (none : Option Addr) else (none : Option Addr).map (·.add (l.toNat * n))) = none := by split <;> rfl
            rw [this]
            refine ⟨trivial, by have := hc.2.1; simp; omega, fun e1 => ?_⟩
            have h11 := hc.2.1
            simp at e1
            rcases hc.2.2 (by omega) with ⟨h12, h13⟩ | ⟨_, _, _, _, _, e4, _⟩
            · exact .inl ⟨by rw [h12]; simp, h13⟩
            · simp at e4
          | some ad =>
            have hspot : ad.spot = none ∨ rows' = [] := by
              rw [RD.sl_iff] at hrd
              rcases hrd with ⟨h, _, _⟩ | ⟨b, off, _, h, _⟩
              · exact .inr h
              · cases h; exact .inl rfl
            by_cases hcl : cap = l.toNat
            · simp only [hcl, ↓reduceIte, Cur]
              refine ⟨fun h => by omega, by have := hc.2.1; simp; omega, fun e1 => ?_⟩
              have h11 := hc.2.1
              simp at e1
              rcases hc.2.2 (by omega) with ⟨h12, h13⟩ | ⟨b, cap', capx, sz, e3, e4, e5, e5', e6⟩
              · exact .inl ⟨by rw [h12]; simp, h13⟩
              · simp only [Value.slice.injEq, Option.some.injEq] at e4
                obtain ⟨rfl, _, rfl⟩ := e4
                have hl0 : l.toNat = 0 := by omega
                have hr0 : rows'.length = 0 := by omega
                have hcap0 : cap = 0 := by omega
                refine .inr ⟨b, 0, capx, sz, ?_, ?_, ?_, by omega, ?_⟩
                · rw [hl0]; simpa using e3
                · simp [hl0, hr0]
                · simp [hr0]
                · rw [hl0]; simpa using e6
            · simp only [hcl, ↓reduceIte, Option.map_some, Cur]
              refine ⟨?_, by have := hc.2.1; simp; omega, fun e1 => ?_⟩
              rotate_left
              · have h11 := hc.2.1
                simp at e1
                rcases hc.2.2 (by omega) with ⟨h12, h13⟩ | ⟨b, cap', capx, sz, e3, e4, e5, e5', e6⟩
                · exact .inl ⟨by rw [h12]; simp, h13⟩
                · simp only [Value.slice.injEq, Option.some.injEq] at e4
                  obtain ⟨rfl, _, rfl⟩ := e4
                  by_cases hl0 : l.toNat = 0
                  · rw [hl0]
                    exact .inr ⟨b, cap, capx, sz, by simpa using e3, by simp [addr_add], by simpa using e5, e5', by simpa using e6⟩
                  · have : rows'.length = 0 := by omega
                    omega
              intro hlt
              obtain ⟨sz, e1, e2⟩ := hc.1 (by omega)
              have hspot : ad.spot = none := by
                rw [RD.sl_iff] at hrd
                rcases hrd with ⟨_, _, h⟩ | ⟨b, off, _, h, _⟩
                · omega
                · cases h; rfl
              have hadd : (ad.add (l.toNat * n)).block = ad.block ∧ (ad.add (l.toNat * n)).off = ad.off + l.toNat * n := by
                obtain ⟨b, off, sp⟩ := ad
                simp only at hspot
                subst hspot
                rw [addr_add]
                exact ⟨rfl, rfl⟩
              rw [hadd.1, hadd.2]
              by_cases hre : rows' = []
              · subst hre
                have l0 : l.toNat = 0 := by simp at h4; omega
                rw [l0]
                exact ⟨sz, by simpa [l0] using e1, fun r hr => e2 r (List.mem_of_mem_drop hr)⟩
              · obtain ⟨r0, rest, rfl⟩ := List.exists_cons_of_ne_nil hre
                have hsz : sz = n := by rw [← e2 r0 (by simp), hall r0 (by simp)]
                subst hsz
                refine ⟨sz, ?_, fun r hr => e2 r (List.mem_of_mem_drop hr)⟩
                rw [e1]
                have a1 : l.toNat * sz + ((r0 :: rest).length - l.toNat) * sz = (r0 :: rest).length * sz := by rw [← Nat.add_mul]; congr 1; omega
                have a2 : l.toNat * sz + (cap - l.toNat) * sz = cap * sz := by rw [← Nat.add_mul]; congr 1; omega
                rw [Nat.add_assoc, Nat.add_assoc, a1, a2]
        | @full rows' _ _ h6 =>
          simp [C.rows?] at hr
          subst hr
          exact .full hpart
        | _ => simp [C.rows?] at hr
      · exact hK'.elim
    · rcases hm with ⟨rfl, rfl⟩ | ⟨y2, k2, z2, rfl, rfl, ez2⟩
      · simp only at hK'
        obtain ⟨h1, h2⟩ := hK'
        obtain ⟨h3, h4, h5⟩ := h1 trivial
        have hrun := sliceSl_run (P := P) (w := w) (h := z.toNat) (m := cap) ho hu hn hv (.inl ⟨rfl, rfl⟩) (.inr ⟨y, k, rfl, by rw [ez, Int.toNat_of_nonneg (by omega)], by omega⟩) (hlo z.toNat h3 (by omega))
        have hpart := hrd.part (h := z.toNat) (l := l.toNat) (m := cap) hall (by omega) (by omega) (by omega) (Nat.le_refl _)
        have hlen : ((rows.take z.toNat).drop l.toNat).length = z.toNat - l.toNat := by simp; omega
        exact .pure hs hrun h2 (.c (.d hpart))
      · simp only at hK'
        obtain ⟨h1, h2⟩ := hK'
        obtain ⟨h3, h4, h5, h6⟩ := h1 trivial
        subst h5
        have hrun := sliceSl_run (P := P) (w := w) (h := z.toNat) (m := z.toNat) ho hu hn hv (.inr ⟨y2, k2, rfl, by rw [ez2, Int.toNat_of_nonneg (by omega)], by omega⟩) (.inr ⟨y, k, rfl, by rw [ez, Int.toNat_of_nonneg (by omega)], by omega⟩) (hlo z.toNat h3 (by omega))
        have hpart := hrd.part (h := z.toNat) (l := l.toNat) (m := z.toNat) hall (by omega) (by omega) (Nat.le_refl _) (by omega)
        refine .pure hs hrun h2 (.c ?_)
        rw [hv] at hx
        cases c with
        | own r pos rs =>
          simp only [N_]
          split
          · rename_i hcond
            obtain ⟨hl0, hz⟩ := hcond
            simp only [C.rows?, Option.some.injEq] at hr
            subst hr
            cases hx with
            | own h7 h8 =>
              obtain ⟨q, p, h9, h10, h11⟩ := h8
              have hzn : z.toNat = rs.length := by omega
              have hln : l.toNat = 0 := by omega
              rw [hzn, hln] at hpart ⊢
              simp only [List.take_length, List.drop_zero] at hpart
              refine .own hpart ⟨q, p, h9, h10, fun e => ?_⟩
              have hc := h11 e
              refine ⟨?_, hc.2.1, fun e1 => ?_⟩
              · cases ad with
                | none =>
                  have : (if rs.length = 0 then (none : Option Addr) else (none : Option Addr).map (·.add (0 * n))) = none := by split <;> rfl
                  rw [this]
                  trivial
                | some ad => by_cases h0 : rs.length = 0 <;> simp [h0]
              · rcases hc.2.2 e1 with h12 | ⟨b, cap', capx, sz, e3, e4, e5, e5', e6⟩
                · exact .inl h12
                · simp only [Value.slice.injEq, Option.some.injEq] at e4
                  obtain ⟨rfl, _, rfl⟩ := e4
                  exact .inr ⟨b, rs.length, capx, sz, e3, by by_cases h0 : rs.length = 0 <;> simp [h0, addr_add], Nat.le_refl _, by omega, e6⟩
          · exact .full hpart
        | _ => exact .full hpart

theorem sliceA_kind {n : Nat} {l : Int} {h m : Option Int} {c : C} {K' : A → Prop} (hK : M_ true K' n l h m c) : (∀ s, c = .d (.str s) → n = 0) ∧ (∀ rows, c.rows? = some rows → n ≠ 0) ∧ (∀ r m s, c = .fsl r m s → n ≠ 0) := by
  unfold M_ at hK
  split at hK
  · exact ⟨fun _ _ => hK.1, fun rows hr => by simp [C.rows?] at hr, fun _ _ _ e => by cases e⟩
  · exact ⟨fun _ e => (by cases e), fun rows hr => (by simp [C.rows?] at hr), fun _ _ _ _ => hK.1.2⟩
  · rename_i hns hnf
    refine ⟨fun s e => absurd e (hns s), fun rows hr => ?_, fun _ _ _ e => absurd e (hnf _ _ _)⟩
    rw [hr] at hK
    exact hK.1

theorem res_slice {o : Oper} {t : TypeId} {n : Nat} {x : Operand} {lo hi mx : Option Operand} {lo' hi' mx' : Option Opd} {x' : Opd} (ho : o.op = .slice t x lo hi mx)
    (ht : (P.underlying t = some .string ∧ mx = none ∧ n = 0) ∨ ∃ e, P.underlying t = some (.slice e) ∧ sizeOf? P e = some n ∧ n ≠ 0) (hx : cOpd x = some x') (hlo : cOpt lo = some lo') (hhi : cOpt hi = some hi') (hmx : cOpt mx = some mx')
    (hs : SimSt w ι st a) (h : c_ P st true K (.slice n x' lo' hi' mx')) : OpRes w ι st a K ((execOp a.eval o).run P w) := by
  have fin : ∀ (c : C) (l : Int) (h m : Option Int), (x'.ev st.sl).val = .c c → (x'.ev st.sl).ok true → ((lo = none ∧ l = 0) ∨ ∃ y k, lo = some y ∧ a.eval y = .int k l) → ((hi = none ∧ h = none) ∨ ∃ y k z, hi = some y ∧ h = some z ∧ a.eval y = .int k z) →
      ((mx = none ∧ m = none) ∨ ∃ y k z, mx = some y ∧ m = some z ∧ a.eval y = .int k z) → M_ true (fun x => K x st) n l h m c → OpRes w ι st a K ((execOp a.eval o).run P w) := fun c l h m e1 e2 e3 e4 e5 e6 => by
    have hxv := val_ra hs hx e2
    rw [e1] at hxv
    obtain ⟨k1, k2, k3⟩ := sliceA_kind e6
    refine sliceA_run (x' := x') (lo' := lo') (hi' := hi') (mx' := mx') ho ?_ hxv.c_inv hs (fun s hc => ?_) (fun rows hr => ?_) (fun r m s hc hu => ?_) e3 e4 e5 e6
    · rcases ht with ⟨h1, h2, _⟩ | ⟨e, h1, h2, _⟩
      · exact .inl ⟨h1, h2⟩
      · exact .inr ⟨e, h1, h2⟩
    · rcases ht with ⟨h1, _⟩ | ⟨e, _, _, h3⟩
      · exact h1
      · exact absurd (k1 s hc) h3
    · rcases ht with ⟨_, _, h3⟩ | ⟨e, h1, h2, _⟩
      · exact absurd h3 (k2 rows hr)
      · exact ⟨e, h1, h2⟩
    · rcases ht with ⟨_, _, h3⟩ | ⟨e, h1, _, _⟩
      · exact k3 r m s hc h3
      · rw [h1] at hu; cases hu
  have loI : ∀ l, L_ true st.sl lo' → K_ st.sl 0 lo' = some l → (lo = none ∧ l = 0) ∨ ∃ y k, lo = some y ∧ a.eval y = .int k l := fun l e1 e2 => by
    rcases optInt_ra hs hlo e1 e2 with ⟨h1, _, h2⟩ | ⟨y, k, h1, h2, _⟩
    · exact .inl ⟨h1, h2⟩
    · exact .inr ⟨y, k, h1, h2⟩
  simp only [c_, QCallK, RowK, ByteK, B2SK, OptK, StoreK] at h
  have optN : ∀ {o : Option Operand} {o' : Option Opd}, cOpt o = some o' → o'.map (K_ st.sl 0 ∘ some) = none → o = none := fun {o o'} h1 h2 => by
    cases o' with
    | none => cases o with
      | none => rfl
      | some x => simp [cOpt] at h1
    | some x => simp at h2
  have optS : ∀ {o : Option Operand} {o' : Option Opd} {z : Int}, cOpt o = some o' → L_ true st.sl o' → o'.map (K_ st.sl 0 ∘ some) = some (some z) → ∃ y k, o = some y ∧ a.eval y = .int k z := fun {o o' z} h1 h2 h3 => by
    cases o' with
    | none => simp at h3
    | some x =>
      simp only [Option.map_some, Function.comp_apply, Option.some.injEq] at h3
      rcases optInt_ra hs h1 h2 h3 with ⟨_, h4, _⟩ | ⟨y, k, h4, h5, _⟩
      · cases h4
      · exact ⟨y, k, h4, h5⟩
  split at h
  · rename_i c l e1 e2 e3 e4
    exact fin c l none none e1 h.1 (loI l h.2.1 e2) (.inl ⟨optN hhi e3, rfl⟩) (.inl ⟨optN hmx e4, rfl⟩) h.2.2
  · rename_i c l z e1 e2 e3 e4
    obtain ⟨y, k, h5, h6⟩ := optS hhi h.2.2.1 e3
    exact fin c l (some z) none e1 h.1 (loI l h.2.1 e2) (.inr ⟨y, k, z, h5, rfl, h6⟩) (.inl ⟨optN hmx e4, rfl⟩) h.2.2.2
  · rename_i c l z z2 e1 e2 e3 e4
    obtain ⟨y, k, h5, h6⟩ := optS hhi h.2.2.1 e3
    obtain ⟨y2, k2, h7, h8⟩ := optS hmx h.2.2.2.1 e4
    exact fin c l (some z) (some z2) e1 h.1 (loI l h.2.1 e2) (.inr ⟨y, k, z, h5, rfl, h6⟩) (.inr ⟨y2, k2, z2, h7, rfl, h8⟩) h.2.2.2.2
  · exact h.elim

/-! lengths -/
theorem run_call_builtin {o : Oper} {c : Call} {b : Builtin} (ho : o.op = .call c) (hc : c.callee = .builtin b) :
    (execOp a.eval o).run P w = (builtin b c.argTypes o.type (c.args.map fun | .const _ => true | _ => false) (c.args.map a.eval)).run P w := by
  simp [execOp, ho, resolve, hc, invoke]
  rfl

theorem res_imax {o : Oper} {x y : Operand} {x' y' : Opd} {c : Call} (ho : o.op = .call c) (hc1 : c.callee = .builtin .max) (hc2 : c.args.toList = [x, y]) (hx : cOpd x = some x') (hy : cOpd y = some y')
    (hs : SimSt w ι st a) (h : c_ P st true K (.imax x' y')) : OpRes w ι st a K ((execOp a.eval o).run P w) := by
  have ea : c.args = #[x, y] := by rw [← Array.toArray_toList (xs := c.args), hc2]
  simp only [c_, QCallK, RowK, ByteK, B2SK, OptK, StoreK] at h
  split at h
  · rename_i k m k' n hvx hvy
    obtain ⟨h1, h2, rfl, h4⟩ := h
    have hxv := val_ra hs hx h1
    have hyv := val_ra hs hy h2
    rw [hvx] at hxv
    rw [hvy] at hyv
    have hxc := hxv.c_inv
    have hyc := hyv.c_inv
    generalize hgx : a.eval x = vx at hxc
    generalize hgy : a.eval y = vy at hyc
    cases hxc with
    | d hd =>
      obtain ⟨rfl, hm⟩ := hd.int_eq
      cases hyc with
      | d hd2 =>
        obtain ⟨rfl, hn⟩ := hd2.int_eq
        refine .pure hs (v := .int k (if n > m then n else m)) ?_ h4 (.mkInt (by split <;> assumption))
        rw [run_call_builtin ho hc1, ea]
        simp [builtin, Builtin.max_, Builtin.max2, hgx, hgy]
  · exact h.elim
theorem res_len {o : Oper} {t : TypeId} {k : Nat} {x : Operand} {x' : Opd} {c : Call} (ho : o.op = .call c) (hc1 : c.callee = .builtin .len) (hc2 : c.args.toList = [x]) (hc3 : c.argTypes.toList = [t])
    (ht : (P.underlying t = some .string ∧ k = 0) ∨ (∃ e, P.underlying t = some (.slice e) ∧ k = 1) ∨ ∃ q e, P.underlying t = some (.map q e) ∧ k = 2) (hx : cOpd x = some x')
    (hs : SimSt w ι st a) (h : c_ P st true K (.len k x')) : OpRes w ι st a K ((execOp a.eval o).run P w) := by
  have ea : c.args = #[x] := by rw [← Array.toArray_toList (xs := c.args), hc2]
  have et : c.argTypes = #[t] := by rw [← Array.toArray_toList (xs := c.argTypes), hc3]
  simp only [c_, QCallK, RowK, ByteK, B2SK, OptK, StoreK] at h
  split at h
  · rename_i n hn
    obtain ⟨h1, h2, h3⟩ := h
    have h2 := h2 trivial
    have hxv := val_ra hs hx h1
    refine .pure hs (v := .int .i64 n) ?_ h3 (.mkInt h2)
    rw [run_call_builtin ho hc1, ea, et]
    have str : ∀ u, a.eval x = .string u → k = 0 → n = u.size → (builtin .len #[t] o.type (#[x].map fun | .const _ => true | _ => false) (#[x].map a.eval)).run P w = .ok (.value (.int .i64 n)) w := fun u e1 e2 e3 => by
      rcases ht with ⟨h4, _⟩ | ⟨e, _, h5⟩ | ⟨q, e, _, h5⟩
      · simp [builtin, Builtin.len_, e1, run_underlying h4, goInt, e3]
      · omega
      · omega
    have sli : ∀ ad m cap, a.eval x = .slice ad m cap → k = 1 → n = m → (builtin .len #[t] o.type (#[x].map fun | .const _ => true | _ => false) (#[x].map a.eval)).run P w = .ok (.value (.int .i64 n)) w := fun ad m cap e1 e2 e3 => by
      rcases ht with ⟨_, h5⟩ | ⟨e, h4, _⟩ | ⟨q, e, _, h5⟩
      · omega
      · simp [builtin, Builtin.len_, e1, run_underlying h4, goInt, e3]
      · omega
    generalize hxe : (x'.ev st.sl).val = xa at *
    cases xa with
    | c cx =>
      have hc := hxv.c_inv
      have rowsCase : ∀ rows, cx.rows? = some rows → k = 1 → n = rows.length → (builtin .len #[t] o.type (#[x].map fun | .const _ => true | _ => false) (#[x].map a.eval)).run P w = .ok (.value (.int .i64 n)) w := fun rows hr hk hn => by
        obtain ⟨ad, cap, hv⟩ := (hc.rows hr).sl_inv
        exact sli ad _ cap hv hk hn
      cases cx with
      | d dx =>
        cases dx with
        | str s =>
          simp only [n_] at hn
          split at hn
          · cases hn
            obtain ⟨u, e1, e2, e3⟩ := hxv.str_inv
            exact str u e1 ‹_› (by rw [← e2]; rfl)
          · cases hn
        | sl rows =>
          simp only [n_] at hn
          split at hn
          · simp [C.rows?] at hn; exact rowsCase rows rfl ‹_› hn.symm
          · cases hn
        | _ => simp [n_, C.rows?] at hn
      | own r p rows =>
        simp only [n_] at hn
        split at hn
        · simp [C.rows?] at hn; exact rowsCase rows rfl ‹_› hn.symm
        · cases hn
      | full rows =>
        simp only [n_] at hn
        split at hn
        · simp [C.rows?] at hn; exact rowsCase rows rfl ‹_› hn.symm
        · cases hn
      | fsl r m s =>
        simp only [n_] at hn
        split at hn
        · cases hn
          generalize hg : a.eval x = v at hc
          cases hc with
          | fsl hk _ => exact sli _ _ _ hg ‹_› rfl
        · cases hn
      | psl r lo m s =>
        simp only [n_] at hn
        split at hn
        · cases hn
          generalize hg : a.eval x = v at hc
          cases hc with
          | psl hk _ _ _ => exact sli _ _ _ hg ‹_› rfl
        · cases hn
      | map r =>
        simp only [n_] at hn
        split at hn
        · rename_i hk
          split at hn
          · rename_i m hgo
            cases hn
            generalize hg : a.eval x = v at hc
            cases hc with
            | map hkb =>
              obtain ⟨hh, _⟩ := getOb_heap hgo (by simp)
              obtain ⟨es, clock, h6, h7, _⟩ := hs.sim.obj _ _ _ hh hkb
              rcases ht with ⟨_, h5⟩ | ⟨e, _, h5⟩ | ⟨q, e, h4, _⟩
              · omega
              · omega
              · simp [builtin, Builtin.len_, hg, run_underlying h4, goInt, getObj, Sem.run, h6, h7]
          · cases hn
        · cases hn
      | _ => simp [n_, C.rows?] at hn
    | _ => simp [n_] at hn
  · cases h.2.1

/-! function values -/
theorem capsOf_spec : ∀ {as : List A} {cs : List (Ref × Nat)} {vs : List Value} {n : Nat}, R_ as = some cs → vs.length = as.length → (∀ (i : Nat) x v, as[i]? = some x → vs[i]? = some v → RA w ι n x v) →
    vs.length = cs.length ∧ ∀ (i : Nat) (r : Ref) (o : Nat), cs[i]? = some (r, o) → ∃ b : Nat, ι[idx n r]? = some (.blk b) ∧ vs[i]? = some (.pointer (some ⟨b, o, none⟩))
  | [], cs, vs, n, h, hl, _ => by simp [R_] at h; subst h; exact ⟨by simpa using hl, fun i r o hi => by simp at hi⟩
  | x :: l, cs, vs, n, h, hl, hr => by
    cases x with
    | c cx =>
      cases cx with
      | ptr r o =>
        simp only [R_, Option.map_eq_some_iff] at h
        obtain ⟨cs', h1, rfl⟩ := h
        cases vs with
        | nil => simp at hl
        | cons v vs =>
          obtain ⟨h2, h3⟩ := capsOf_spec h1 (by simpa using hl) (fun i x u h4 h5 => hr (i + 1) x u (by simpa using h4) (by simpa using h5))
          refine ⟨by simp [h2], fun i r' o' hi => ?_⟩
          cases i with
          | zero =>
            simp at hi
            obtain ⟨rfl, rfl⟩ := hi
            have := (hr 0 _ v rfl rfl).c_inv
            cases this with
            | ptr hk => exact ⟨_, hk, rfl⟩
          | succ i => simpa using h3 i r' o' (by simpa using hi)
      | _ => simp [R_] at h
    | _ => simp [R_] at h

theorem res_mkFunc {o : Oper} {f : FuncId} {first caps : Array Operand} {caps' : List Opd} (ho : o.op = .makeFunc (.func f) first caps) (hf : first.toList.isEmpty = true) (hc : cOpds caps.toList = some caps') (hs : SimSt w ι st a)
    (h : c_ P st true K (.mkFunc f caps')) : OpRes w ι st a K ((execOp a.eval o).run P w) := by
  simp only [c_, QCallK, RowK, ByteK, B2SK, OptK, StoreK] at h
  split at h
  · rename_i cs hcs
    have hra := cOpds_ra hs hc h.1
    obtain ⟨h1, h2⟩ := capsOf_spec (vs := caps.toList.map a.eval) hcs (by rw [evs_len, cOpds_len hc]; simp) hra
    have e : first = #[] := by
      have : first.toList = [] := by simpa using hf
      exact Array.toList_eq_nil_iff.1 this
    refine .pure hs (v := .func (.func f) #[] (caps.toList.map a.eval).toArray) ?_ h.2 (.c (.fn h1 h2))
    simp [execOp, ho, Instr.makeFunc, e]
    apply Array.ext'
    simp
  · exact h.elim

end ops
end Go.AM

/-
  The abstract machine: literals, and slices that are made.
  Conditions: none.
-/
namespace Go.AM
set_option linter.unusedVariables false
set_option linter.unusedSimpArgs false

theorem fold_get (xs : List Value) (off : Nat) : ∀ (k : Nat) (cells : Array Value) (j : Nat),
    ((xs.zipIdx k).foldl (fun cs p => cs.setIfInBounds (off + p.2) p.1) cells)[j]? = if off + k ≤ j ∧ j < off + k + xs.length ∧ j < cells.size then xs[j - (off + k)]? else cells[j]? := by
  induction xs with
  | nil => intro k cells j; simp; intro h1 h2; omega
  | cons x xs ih =>
    intro k cells j
    simp only [List.zipIdx_cons, List.foldl_cons, ih, Array.size_setIfInBounds, List.length_cons, Array.getElem?_setIfInBounds]
    by_cases h1 : off + (k + 1) ≤ j ∧ j < off + (k + 1) + xs.length ∧ j < cells.size
    · rw [if_pos h1, if_pos (by omega)]
      have : j - (off + k) = (j - (off + (k + 1))) + 1 := by omega
      rw [this]; simp
    · rw [if_neg h1]
      by_cases h2 : off + k = j
      · subst h2
        simp only [↓reduceIte]
        by_cases h3 : off + k < cells.size
        · simp [h3]
        · simp [h3]
      · simp only [h2, ↓reduceIte]
        rw [if_neg (by omega)]

theorem fold_toList (v : Array Value) (off : Nat) (cells : Array Value) (h : off + v.size ≤ cells.size) :
    (v.zipIdx.foldl (fun cs (p : Value × Nat) => cs.setIfInBounds (off + p.2) p.1) cells).toList = cells.toList.take off ++ v.toList ++ cells.toList.drop (off + v.toList.length) := by
  apply List.ext_getElem?
  intro j
  rw [← Array.foldl_toList, Array.toList_zipIdx, Array.getElem?_toList, fold_get v.toList off 0 cells j, spliceV_get _ _ _ (by simpa using h)]
  simp only [Array.length_toList, Nat.add_zero, Array.getElem?_toList]
  by_cases h1 : j < off
  · rw [if_neg (by omega), if_pos h1]
  · by_cases h2 : j < off + v.size
    · rw [if_pos (by omega), if_neg h1, if_pos h2]
    · rw [if_neg (by omega), if_neg h1, if_neg h2]

section ops
variable {P : Program} {w : World} {ι : List K} {st : St} {a : Act} {K : A → St → Prop}

theorem places_run {fs : List Field} {pl : List (Nat × Nat)} (h : placesOf P fs = some pl) : (fs.mapM fun f => do pure (f.offset, ← sizeOf f.type) : Sem (List (Nat × Nat))).run P w = .ok pl w := by
  induction fs generalizing pl with
  | nil => simp [placesOf] at h; subst h; simp
  | cons f fs ih =>
    simp only [placesOf] at h
    split at h
    · rename_i n r h1 h2
      cases h
      simp only [List.mapM_cons, Sem.run_bind, run_sizeOf' h1, Result.andThen_ok, Sem.run_pure, ih h2]
    · cases h

/-- a row of told cells, one part laid over it -/
theorem splice_RCs {n : Nat} {cs x : List C} {vs us : List Value} {off : Nat} (hc : RCs w ι n cs vs) (hx : RCs w ι n x us) (hle : off + x.length ≤ cs.length) :
    RCs w ι n (D_ cs off x) (vs.take off ++ us ++ vs.drop (off + us.length)) := by
  have hl : us.length = x.length := hx.1
  have hl2 : vs.length = cs.length := hc.1
  refine ⟨by rw [splice_len _ _ _ hle]; simp; omega, fun i c v h1 h2 => ?_⟩
  rw [splice_get _ _ _ hle] at h1
  rw [spliceV_get _ _ _ (by omega), hl] at h2
  by_cases e1 : i < off
  · simp only [e1, ↓reduceIte] at h1 h2; exact hc.2 i c v h1 h2
  · by_cases e2 : i < off + x.length
    · simp only [e1, e2, ↓reduceIte] at h1 h2; exact hx.2 _ c v h1 h2
    · simp only [e1, e2, ↓reduceIte] at h1 h2; exact hc.2 i c v h1 h2

theorem fill_spec (hs : SimSt w ι st a) (pl : Nat → Option (Nat × Nat)) : ∀ {ps : List (Nat × Operand)} {ps' : List (Nat × Nat × Opd)} {cs cs' : List C} {vs : Array Value}, cParts pl ps = some ps' → F_ true st.sl ps' → RCs w ι st.ext.length cs vs.toList →
    I_ cs (E_ st.sl ps') = some cs' → ∃ us : Array Value, Instr.fill pl vs (ps.map fun p => (p.1, a.eval p.2)) = some us ∧ RCs w ι st.ext.length cs' us.toList
  | [], ps', cs, cs', vs, h, _, hr, hf => by
    simp [cParts] at h
    subst h
    simp [E_, I_] at hf
    subst hf
    exact ⟨vs, rfl, hr⟩
  | (i, x) :: ps, ps', cs, cs', vs, h, hok, hr, hf => by
    simp only [cParts] at h
    split at h
    · rename_i off n y r h1 h2 h3
      cases h
      simp only [F_] at hok
      simp only [E_, I_] at hf
      split at hf
      · rename_i x' hx'
        split at hf
        · rename_i hle
          have hv := (val_ra hs h2 hok.1).cells_inv hx'
          have hsz : (a.eval x).cells.size = n := by have := hv.1; simp at this; omega
          have hcl : vs.size = cs.length := by have := hr.1; simpa using this
          have hstep : RCs w ι st.ext.length (D_ cs off x') ((a.eval x).cells.zipIdx.foldl (fun cs (p : Value × Nat) => cs.setIfInBounds (off + p.2) p.1) vs).toList := by
            rw [fold_toList _ _ _ (by omega)]
            exact splice_RCs hr hv (by omega)
          obtain ⟨us, h4, h5⟩ := fill_spec hs pl h3 hok.2 hstep hf
          refine ⟨us, ?_, h5⟩
          simp only [List.map_cons, Instr.fill, h1]
          rw [if_neg (by simp; omega)]
          exact h4
        · cases hf
      · cases hf
    · cases h

theorem res_build {o : Oper} {t : TypeId} {ps : Array (Nat × Operand)} {z : List C} {pl : Nat → Option (Nat × Nat)} {ps' : List (Nat × Nat × Opd)} (ho : o.op = .build t ps) (hz : zeroCs P t = some z)
    (ht : (∃ fs pls, P.underlying t = some (.struct fs) ∧ placesOf P fs.toList = some pls ∧ pl = (fun (i : Nat) => pls[i]?)) ∨ (∃ k e n, P.underlying t = some (.array k e) ∧ sizeOf? P e = some n ∧ pl = fun i => some (i * n, n)))
    (hp : cParts pl ps.toList = some ps') (hs : SimSt w ι st a) (h : c_ P st true K (.build z ps')) : OpRes w ι st a K ((execOp a.eval o).run P w) := by
  obtain ⟨i, v, h1, h2, h3⟩ := zeroCs_spec hz
  simp only [c_] at h
  obtain ⟨h4, h5⟩ := h
  obtain ⟨cs, hcs, h5⟩ := optK_map h5
  · obtain ⟨us, h6, h7⟩ := fill_spec hs pl hp h4 (constCs_ra h3) hcs
    refine .pure hs (v := .agg us) ?_ h5 (by simpa using RA.agg h7)
    have hmap : (ps.map fun (i, x) => (i, a.eval x)).toList = ps.toList.map fun p => (p.1, a.eval p.2) := by simp
    rcases ht with ⟨fs, pls, h8, h9, rfl⟩ | ⟨k, e, n, h8, h9, rfl⟩
    · have hpl : (fs.mapM fun f => do pure (f.offset, ← sizeOf f.type) : Sem (Array (Nat × Nat))).run P w = .ok pls.toArray w := by
        rw [Array.mapM_eq_mapM_toList, Sem.run_map, places_run h9]
        rfl
      have hfe : (fun (i : Nat) => pls.toArray[i]?) = (fun (i : Nat) => pls[i]?) := by funext i; simp
      simp only [execOp, ho, Instr.build, Sem.run_bind, run_zeroValue h1 h2, run_underlying h8, Result.andThen_ok, hpl, hmap, hfe, h6, Sem.run_pure]
    · simp only [execOp, ho, Instr.build, Sem.run_bind, run_zeroValue h1 h2, run_underlying h8, Result.andThen_ok, run_sizeOf' h9, hmap, h6, Sem.run_pure]

/-- cells in rows -/
def RowsRel (w : World) (S : Nat → Nat → Prop) (vs : Array Value) (rows : List (List D)) (n : Nat) : Prop :=
  vs.size = rows.length * n ∧ ∀ (i : Nat) (r : List D), rows[i]? = some r → r.length = n ∧ ∀ (j : Nat) (x : D), r[j]? = some x → ∃ y, vs[i * n + j]? = some y ∧ RD w S x y

theorem RowsRel.set {S : Nat → Nat → Prop} {vs : Array Value} {rows : List (List D)} {n i : Nat} {x : List D} {us : Array Value} (h : RowsRel w S vs rows n) (hi : i < rows.length) (hx : x.length = n) (hu : us.size = n)
    (hr : ∀ (j : Nat) d v, x[j]? = some d → us[j]? = some v → RD w S d v) : RowsRel w S (us.zipIdx.foldl (fun cs (p : Value × Nat) => cs.setIfInBounds (i * n + p.2) p.1) vs) (rows.set i x) n := by
  have hmul : i * n + n ≤ rows.length * n := by
    have : (i + 1) * n ≤ rows.length * n := Nat.mul_le_mul_right n hi
    simpa [Nat.add_mul] using this
  have hle : i * n + us.size ≤ vs.size := by rw [h.1, hu]; exact hmul
  have hl := fold_toList us (i * n) vs hle
  generalize us.zipIdx.foldl (fun cs (p : Value × Nat) => cs.setIfInBounds (i * n + p.2) p.1) vs = X at hl
  have hXs : X.size = vs.size := by
    have := congrArg List.length hl
    simp at this; omega
  have hX : ∀ j, X[j]? = if j < i * n then vs[j]? else if j < i * n + n then us[j - i * n]? else vs[j]? := fun j => by
    have : X.toList[j]? = _ := congrArg (·[j]?) hl
    rw [spliceV_get _ _ _ (by simpa using hle)] at this
    simpa [hu] using this
  refine ⟨by rw [hXs, h.1]; simp, fun i' r hr' => ?_⟩
  simp only [List.getElem?_set] at hr'
  by_cases e : i = i'
  · subst e
    simp only [↓reduceIte, hi] at hr'
    cases hr'
    refine ⟨hx, fun j d hj => ?_⟩
    have hjn : j < n := by rw [← hx]; exact (List.getElem?_eq_some_iff.1 hj).1
    rw [hX, if_neg (by omega), if_pos (by omega), show i * n + j - i * n = j by omega]
    exact ⟨us[j], by simp [hu, hjn], hr j d _ hj (by simp [hu, hjn])⟩
  · simp only [e, ↓reduceIte] at hr'
    obtain ⟨p1, p2⟩ := h.2 i' r hr'
    refine ⟨p1, fun j d hj => ?_⟩
    have hjn : j < n := by rw [← p1]; exact (List.getElem?_eq_some_iff.1 hj).1
    obtain ⟨y, p, q⟩ := p2 j d hj
    refine ⟨y, ?_, q⟩
    rw [hX]
    rcases Nat.lt_or_gt_of_ne e with h10 | h10
    · have : (i + 1) * n ≤ i' * n := Nat.mul_le_mul_right n h10
      rw [Nat.add_mul] at this
      rw [if_neg (by omega), if_neg (by omega)]; exact p
    · have : (i' + 1) * n ≤ i * n := Nat.mul_le_mul_right n h10
      rw [Nat.add_mul] at this
      rw [if_pos (by omega)]; exact p

/-- zero cells, row by row -/
theorem RowsRel.zero {S : Nat → Nat → Prop} {z : List D} {zv : Array Value} {n len : Nat} (hz : z.length = n) (hn : 0 < n) (hv : zv.size = n) (hr : ∀ (j : Nat) d v, z[j]? = some d → zv[j]? = some v → RD w S d v) :
    RowsRel w S ((Array.range (len * n)).map (zv[· % zv.size]!)) (List.replicate len z) n := by
  refine ⟨by simp, fun i r hi => ?_⟩
  have hil : i < len := by have := (List.getElem?_eq_some_iff.1 hi).1; simpa using this
  have : r = z := by simp [List.getElem?_replicate, hil] at hi; exact hi.symm
  subst this
  refine ⟨hz, fun j d hj => ?_⟩
  have hjn : j < n := by rw [← hz]; exact (List.getElem?_eq_some_iff.1 hj).1
  have hlt : i * n + j < len * n := by
    have : (i + 1) * n ≤ len * n := Nat.mul_le_mul_right n hil
    rw [Nat.add_mul] at this; omega
  refine ⟨zv[j]'(by omega), ?_, hr j d _ hj (by simp [hv, hjn])⟩
  have hmod : (i * n + j) % n = j := by rw [Nat.add_comm, Nat.add_mul_mod_self_right]; exact Nat.mod_eq_of_lt hjn
  simp [hlt, hv, hmod, hjn]

theorem fillRows_spec (hs : SimSt w ι st a) {n : Nat} : ∀ {ps : List (Nat × Operand)} {ps' : List (Nat × Opd)} {rows rows' : List (List D)} {vs : Array Value}, cParts2 ps = some ps' → H_ true st.sl ps' → RowsRel w (Safe w ι) vs rows n →
    J_ rows n (G_ st.sl ps') = some rows' → ∃ us : Array Value, Instr.fill (fun i => some (i * n, n)) vs (ps.map fun p => (p.1, a.eval p.2)) = some us ∧ RowsRel w (Safe w ι) us rows' n ∧ rows'.length = rows.length
  | [], ps', rows, rows', vs, h, _, hr, hf => by
    simp [cParts2] at h
    subst h
    simp [G_, J_] at hf
    subst hf
    exact ⟨vs, rfl, hr, rfl⟩
  | (i, x) :: ps, ps', rows, rows', vs, h, hok, hr, hf => by
    simp only [cParts2] at h
    split at h
    · rename_i y r h2 h3
      cases h
      simp only [H_] at hok
      simp only [G_, J_] at hf
      split at hf
      · rename_i x' hx'
        split at hf
        · rename_i hle
          obtain ⟨hle, hi⟩ := hle
          simp only [Option.bind_eq_some_iff] at hx'
          obtain ⟨cs, hcs, hds⟩ := hx'
          have hv := (val_ra hs h2 hok.1).cells_inv hcs
          obtain ⟨d1, d2⟩ := toDs_spec hds
          have hsz : (a.eval x).cells.size = n := by have := hv.1; simp at this; omega
          have hstep := hr.set hi hle hsz (fun j d v hj hjv => by
            have hjc : j < cs.length := by rw [← d1]; exact (List.getElem?_eq_some_iff.1 hj).1
            exact d2 st.ext.length w ι j cs[j] d v (List.getElem?_eq_getElem hjc) hj (hv.2 j _ v (List.getElem?_eq_getElem hjc) (by simpa using hjv)))
          obtain ⟨us, h4, h5, h6⟩ := fillRows_spec hs h3 hok.2 hstep hf
          refine ⟨us, ?_, h5, by simpa using h6⟩
          have hmul : i * n + n ≤ rows.length * n := by
            have : (i + 1) * n ≤ rows.length * n := Nat.mul_le_mul_right n hi
            simpa [Nat.add_mul] using this
          simp only [List.map_cons, Instr.fill]
          rw [if_neg (by have := hr.1; simp; omega)]
          exact h4
        · cases hf
      · cases hf
    · cases h

/-- a new row that no object says anything of -/
theorem newRows {rows : List (List D)} {vs : Array Value} {n cap : Nat} {el : TypeId} {w' : World} (hs : SimSt w ι st a) (hw : w'.heap = w.heap) (hd : w'.os = w.os ∧ w'.tape = w.tape ∧ w'.output = w.output)
    (hr : ∀ (i : Nat) (r : List D), rows[i]? = some r → r.length = n ∧ ∀ (j : Nat) (x : D), r[j]? = some x → ∃ y, vs[i * n + j]? = some y ∧ RD w (Safe w ι) x y) (hm : rows.length ≤ maxRows) (hc : rows.length ≤ cap) :
    SimSt (w'.alloc (.cells vs el)) ι st a ∧ Ext w ι (w'.alloc (.cells vs el)) ι ∧ RD (w'.alloc (.cells vs el)) (Safe (w'.alloc (.cells vs el)) ι) (.sl rows) (.slice (some ⟨w.heap.size, 0, none⟩) rows.length cap) := by
  have hb : ∀ b, b < w.heap.size → (w'.alloc (.cells vs el)).heap[b]? = w.heap[b]? := fun b hb => by rw [heap_alloc_lt _ _ (by rw [hw]; exact hb), hw]
  have hx : Ext w ι (w'.alloc (.cells vs el)) ι := .of_blocks hd.1 hd.2.1 hd.2.2 (by simp [hw]) hb
  refine ⟨hs.of_blocks hx hb, hx, RD.sl_iff.2 (.inr ⟨w.heap.size, 0, n, rfl, rfl, hc, hm, fun i r hi => ?_⟩)⟩
  obtain ⟨h1, h2⟩ := hr i r hi
  refine ⟨h1, fun j x hj => ?_⟩
  obtain ⟨y, p, q⟩ := h2 j x hj
  refine ⟨y, ?_, ⟨by simp [hw], fun k hk ho => by have := hs.sim.low k _ hk (AM.K.at_of_owns ho); omega⟩, q.mono hx.safe⟩
  have := heap_alloc_new w' (.cells vs el)
  rw [hw] at this
  simp [World.cell?, this, p]

theorem zeroDs_spec {e : TypeId} {z : List D} (h : (zeroCs P e).bind O_ = some z) : ∃ i v, P.info? e = some i ∧ i.zero = some v ∧ z.length = v.cells.size ∧ ∀ (w : World) (ι : List AM.K) (j : Nat) d u, z[j]? = some d → v.cells[j]? = some u → RD w (Safe w ι) d u := by
  simp only [Option.bind_eq_some_iff] at h
  obtain ⟨cs, h1, h2⟩ := h
  obtain ⟨i, v, h3, h4, h5⟩ := zeroCs_spec h1
  obtain ⟨d1, d2⟩ := toDs_spec h2
  have hl : v.cells.size = cs.length := by
    have := (constCs_ra (w := default) (ι := []) (n := 0) h5).1
    simpa using this
  refine ⟨i, v, h3, h4, by omega, fun w ι j d u hj hu => ?_⟩
  have hjc : j < cs.length := by rw [← d1]; exact (List.getElem?_eq_some_iff.1 hj).1
  exact d2 0 w ι j cs[j] d u (List.getElem?_eq_getElem hjc) hj ((constCs_ra h5).2 j _ u (List.getElem?_eq_getElem hjc) (by simpa using hu))

theorem res_buildSlice {o : Oper} {t e : TypeId} {len n : Nat} {ps : Array (Nat × Operand)} {z : List D} {ps' : List (Nat × Opd)} (ho : o.op = .buildSlice t len ps) (h1 : P.underlying t = some (.slice e)) (h2 : sizeOf? P e = some n) (h3 : (zeroCs P e).bind O_ = some z)
    (h4 : len * n ≤ 2 ^ 24 ∧ z.length = n ∧ 0 < n ∧ len ≤ maxRows) (hp : cParts2 ps.toList = some ps') (hs : SimSt w ι st a) (h : c_ P st true K (.buildSlice n len z ps')) : OpRes w ι st a K ((execOp a.eval o).run P w) := by
  obtain ⟨i, v, h5, h6, h7, h8⟩ := zeroDs_spec h3
  simp only [c_] at h
  obtain ⟨hok, h⟩ := h
  obtain ⟨rows, hrows, h⟩ := optK_map h
  · skip
    obtain ⟨zv, hzv⟩ : ∃ zv : Array Value, zv = if len * n = 0 then #[] else v.cells := ⟨_, rfl⟩
    have hrel : RowsRel w (Safe w ι) ((Array.range (len * n)).map (zv[· % zv.size]!)) (List.replicate len z) n := by
      by_cases h0 : len * n = 0
      · have : len = 0 := by rcases Nat.mul_eq_zero.1 h0 with h | h <;> omega
        subst this
        exact ⟨by simp, fun i r hi => by simp at hi⟩
      · rw [if_neg h0] at hzv
        subst hzv
        exact .zero h4.2.1 h4.2.2.1 (by omega) (fun j d u hj hu => h8 w ι j d u hj hu)
    obtain ⟨us, h9, h10, h11⟩ := fillRows_spec hs hp hok hrel hrows
    have hlen : rows.length = len := by rw [h11]; simp
    obtain ⟨k1, k2, k3⟩ := newRows (w' := w) (el := e) (cap := len) hs rfl ⟨rfl, rfl, rfl⟩ h10.2 (by omega) (by omega)
    rw [hlen] at k3
    refine ⟨_, _, _, st, ι, .inl ?_, h, k1, .c (.full k3), k2, rfl⟩
    have hmap : (ps.map fun (i, x) => (i, a.eval x)).toList = ps.toList.map fun p => (p.1, a.eval p.2) := by simp
    have hno : ¬ (len * n > 2 ^ 24) := by omega
    by_cases h0 : len * n = 0
    · rw [if_pos h0] at hzv
      subst hzv
      simp only [execOp, ho, Instr.buildSlice, Sem.run_bind, run_underlying h1, Result.andThen_ok, run_sizeOf' h2, hno, ↓reduceIte, h0, Sem.run_pure, hmap, show ¬ ((0 : Nat) > 2 ^ 24) by omega]
      rw [h0] at h9
      simp only [h9, newRow, Sem.run_bind, run_newObj, Result.andThen_ok, Sem.run_pure]
      rfl
    · rw [if_neg h0] at hzv
      subst hzv
      simp only [execOp, ho, Instr.buildSlice, Sem.run_bind, run_underlying h1, Result.andThen_ok, run_sizeOf' h2, hno, ↓reduceIte, h0, run_zeroValue h5 h6, Sem.run_pure, hmap, h9, newRow, run_newObj]
      rfl

theorem res_buildSliceF {o : Oper} {t e : TypeId} {len n : Nat} {ps : Array (Nat × Operand)} {z : List D} {ps' : List (Nat × Opd)} (ho : o.op = .buildSlice t len ps) (h1 : P.underlying t = some (.slice e)) (h2 : sizeOf? P e = some n) (h3 : (zeroCs P e).bind O_ = some z)
    (h4 : len * n ≤ 2 ^ 24 ∧ z.length = n ∧ 0 < n ∧ len ≤ maxRows) (hp : cParts2 ps.toList = some ps') (hs : SimSt w ι st a) (h : c_ P st true K (.buildSliceF n len z ps')) : OpRes w ι st a K ((execOp a.eval o).run P w) := by
  obtain ⟨i, v, h5, h6, h7, h8⟩ := zeroDs_spec h3
  simp only [c_] at h
  obtain ⟨hok, h⟩ := h
  split at h
  · rename_i rows hrows
    obtain ⟨zv, hzv⟩ : ∃ zv : Array Value, zv = if len * n = 0 then #[] else v.cells := ⟨_, rfl⟩
    have hrel : RowsRel w (Safe w ι) ((Array.range (len * n)).map (zv[· % zv.size]!)) (List.replicate len z) n := by
      by_cases h0 : len * n = 0
      · have : len = 0 := by rcases Nat.mul_eq_zero.1 h0 with h | h <;> omega
        subst this
        exact ⟨by simp, fun i r hi => by simp at hi⟩
      · rw [if_neg h0] at hzv
        subst hzv
        exact .zero h4.2.1 h4.2.2.1 (by omega) (fun j d u hj hu => h8 w ι j d u hj hu)
    obtain ⟨us, h9, h10, h11⟩ := fillRows_spec hs hp hok hrel hrows
    have hlen : rows.length = len := by rw [h11]; simp
    have hx0 := Ext.alloc w ι (.cells us e)
    have hk : ∀ b, (AM.K.rows w.heap.size n len).at b → w.heap.size ≤ b ∧ b < (w.alloc (.cells us e)).heap.size := fun b hb => by cases hb; simp
    have hx := hx0.push (k := .rows w.heap.size n len) (fun b hb => (hk b hb).1)
    refine ⟨_, _, _, _, ι ++ [.rows w.heap.size n len], .inl ?_, h, hs.push (k := .rows w.heap.size n len) (o := .rows rows) hx0 (fun b hb => heap_alloc_lt w _ hb) hk ⟨us, e, heap_alloc_new w _, Nat.le_of_eq (by rw [h10.1]), ⟨by rw [hlen]; exact h4.2.2.2, hlen⟩, fun i r hi => ?_⟩, .c (.fsl (hs.newIdx _) (Nat.le_refl _)), hx, rfl⟩
    rotate_left
    · obtain ⟨p1, p2⟩ := h10.2 i r hi
      refine ⟨p1, fun j x hj => ?_⟩
      obtain ⟨y, q1, q2⟩ := p2 j x hj
      exact ⟨y, q1, q2.mono hx.safe⟩
    have hmap : (ps.map fun (i, x) => (i, a.eval x)).toList = ps.toList.map fun p => (p.1, a.eval p.2) := by simp
    have hno : ¬ (len * n > 2 ^ 24) := by omega
    by_cases h0 : len * n = 0
    · rw [if_pos h0] at hzv
      subst hzv
      simp only [execOp, ho, Instr.buildSlice, Sem.run_bind, run_underlying h1, Result.andThen_ok, run_sizeOf' h2, hno, ↓reduceIte, h0, Sem.run_pure, hmap, show ¬ ((0 : Nat) > 2 ^ 24) by omega]
      rw [h0] at h9
      simp only [h9, newRow, Sem.run_bind, run_newObj, Result.andThen_ok, Sem.run_pure]
      rfl
    · rw [if_neg h0] at hzv
      subst hzv
      simp only [execOp, ho, Instr.buildSlice, Sem.run_bind, run_underlying h1, Result.andThen_ok, run_sizeOf' h2, hno, ↓reduceIte, h0, run_zeroValue h5 h6, Sem.run_pure, hmap, h9, newRow, run_newObj]
      rfl
  · exact h.elim

end ops
end Go.AM

/-
  The abstract machine: make and append.
  Conditions: none.
-/
namespace Go.AM
set_option linter.unusedVariables false
set_option linter.unusedSimpArgs false
section ops
variable {P : Program} {w : World} {ι : List K} {st : St} {a : Act} {K : A → St → Prop}

theorem res_mkSlice {o : Oper} {t e : TypeId} {l : Operand} {y : Opd} {inf : TypeInfo} {z : List D} (ho : o.op = .makeSlice t l l) (hy : cOpd l = some y) (h1 : P.underlying t = some (.slice e)) (h2 : P.info? e = some inf) (h3 : (zeroCs P e).bind O_ = some z)
    (h4 : inf.bytes ≤ 4096 ∧ z.length = inf.size ∧ 0 < inf.size) (hs : SimSt w ι st a) (h : c_ P st true K (.mkSlice z y)) : OpRes w ι st a K ((execOp a.eval o).run P w) := by
  obtain ⟨inf', v, h5, h6, h7, h8⟩ := zeroDs_spec h3
  rw [h2] at h5
  cases h5
  simp only [c_, QCallK, RowK, ByteK, B2SK, OptK, StoreK] at h
  split at h
  · rename_i k n hn
    obtain ⟨hok, h9, h10, h11⟩ := h
    have hv := val_ra hs (o := l) (y := y) hy hok
    rw [hn] at hv
    have hev := hv.int_inv.1
    unfold maxApp at h10
    obtain ⟨m, rfl⟩ := Int.eq_ofNat_of_zero_le h9
    have hm : m ≤ 2 ^ 32 := by omega
    simp only [Int.ofNat_eq_natCast, Int.toNat_natCast] at h11 hev
    have hb : (inf.bytes : Int) * (m : Int) ≤ 281474976710656 := by
      have : inf.bytes * m ≤ 4096 * 2 ^ 32 := Nat.mul_le_mul h4.1 hm
      have h' : (inf.bytes : Int) * (m : Int) = ((inf.bytes * m : Nat) : Int) := by simp
      rw [h']; omega
    have hmk := run_make (P := P) w t e inf v h1 h2 h6 k k (m : Int) (m : Int) (by omega) (Int.le_refl _) hb (by omega)
    simp only [Int.toNat_natCast] at hmk
    have hrel : ∀ (w' : World) ι', RowsRel w' (Safe w' ι') (madeCells v.cells (m * inf.size)) (List.replicate m z) inf.size := fun w' ι' =>
      .zero h4.2.1 h4.2.2 (by omega) (fun j d u hj hu => h8 w' ι' j d u hj hu)
    generalize hcells : madeCells v.cells (m * inf.size) = cells at hrel hmk
    have hrun : (execOp a.eval o).run P w = .ok (.value (.slice (some ⟨w.heap.size, 0, none⟩) m m)) (w.alloc (.cells cells e)) := by
      simp only [execOp, ho, hev, Sem.run_bind, hmk, Result.andThen_ok, Sem.run_pure]
    have hx0 := Ext.alloc w ι (.cells cells e)
    have hk : ∀ b, (AM.K.rows w.heap.size inf.size m).at b → w.heap.size ≤ b ∧ b < (w.alloc (.cells cells e)).heap.size := fun b hb => by cases hb; simp
    have hx := hx0.push (k := .rows w.heap.size inf.size m) (fun b hb => (hk b hb).1)
    have hr := hrel (w.alloc (.cells cells e)) (ι ++ [.rows w.heap.size inf.size m])
    refine ⟨_, _, _, _, ι ++ [.rows w.heap.size inf.size m], .inl hrun, h11, hs.push (k := .rows w.heap.size inf.size m) (o := .rows (List.replicate m z)) hx0 (fun b hb => heap_alloc_lt w _ hb) hk ⟨cells, e, heap_alloc_new w _, Nat.le_of_eq hr.1.symm, ⟨by simp [maxRows]; omega, by simp⟩, hr.2⟩, .c (.fsl (by rw [h4.2.1]; exact hs.newIdx _) (Nat.le_refl _)), hx, rfl⟩
  · exact h.elim

/-! append -/

theorem allLen_nil (sz : Nat) : allLen sz [] := fun r h => by cases h

/-- the cells of a told slice -/
theorem cells_of_rows {rows : List (List D)} {ad : Option Addr} {cap sz : Nat} (h : RD w (Safe w ι) (.sl rows) (.slice ad rows.length cap)) (hall : allLen sz rows) (hsz : 0 < sz) :
    ∃ ys : List Value, ys.length = rows.length * sz ∧ (∀ u ∈ ys, u.oneCell' = true) ∧ (∀ b, ad = some b → ∀ (j : Nat) u, ys[j]? = some u → w.cell? (b.add j) = some u) ∧ (ad = none → ys = []) ∧
      ∀ (i : Nat) (r : List D), rows[i]? = some r → r.length = sz ∧ ∀ (j : Nat) (x : D), r[j]? = some x → ∃ y, ys[i * sz + j]? = some y ∧ RD w (Safe w ι) x y := by
  rw [RD.sl_iff] at h
  rcases h with ⟨rfl, _, _⟩ | ⟨b, off, sz', rfl, _, h3, h4, h5⟩
  · exact ⟨[], by simp, (fun u hu => by cases hu), (fun b hb j u hj => by simp at hj), fun _ => rfl, (fun i r hi => by simp at hi)⟩
  · by_cases hne : rows = []
    · subst hne
      exact ⟨[], by simp, (fun u hu => by cases hu), (fun b hb j u hj => by simp at hj), (fun h => by cases h), (fun i r hi => by simp at hi)⟩
    · obtain ⟨r0, rest, hr0⟩ := List.exists_cons_of_ne_nil hne
      have hs' : sz' = sz := by
        have h1 := (h5 0 r0 (by rw [hr0]; rfl)).1
        have h2 := hall r0 (by rw [hr0]; simp)
        omega
      subst hs'
      let ys : List Value := (List.range (rows.length * sz')).map fun k => (w.cell? ⟨b, off + k, none⟩).getD undef
      have hcell : ∀ k, k < rows.length * sz' → ∃ y x, w.cell? ⟨b, off + k, none⟩ = some y ∧ RD w (Safe w ι) x y := fun k hk => by
        have hi : k / sz' < rows.length := Nat.div_lt_of_lt_mul (by rw [Nat.mul_comm]; exact hk)
        have hj : k % sz' < sz' := Nat.mod_lt _ hsz
        obtain ⟨h6, h7⟩ := h5 (k / sz') rows[k / sz'] (List.getElem?_eq_getElem hi)
        obtain ⟨y, p, _, q⟩ := h7 (k % sz') (rows[k / sz'])[k % sz'] (List.getElem?_eq_getElem (by omega))
        refine ⟨y, _, ?_, q⟩
        rw [← p]
        congr 2
        have := Nat.div_add_mod k sz'
        rw [Nat.mul_comm] at this
        omega
      have hget : ∀ k, k < rows.length * sz' → ∃ y, ys[k]? = some y ∧ w.cell? ⟨b, off + k, none⟩ = some y := fun k hk => by
        obtain ⟨y, x, p, _⟩ := hcell k hk
        exact ⟨y, by simp [ys, hk, p], p⟩
      refine ⟨ys, by simp [ys], fun u hu => ?_, fun b' hb' j u hj => ?_, (fun h => by cases h), fun i r hi => ?_⟩
      · obtain ⟨k, hk, rfl⟩ := List.mem_map.1 hu
        obtain ⟨y, x, p, q⟩ := hcell k (by simpa using hk)
        rw [p]; exact q.oneCell
      · cases hb'
        have hk : j < rows.length * sz' := by have := (List.getElem?_eq_some_iff.1 hj).1; simpa [ys] using this
        obtain ⟨y, p, q⟩ := hget j hk
        rw [p] at hj
        cases hj
        rw [addr_add]; exact q
      · obtain ⟨h6, h7⟩ := h5 i r hi
        refine ⟨h6, fun j x hj => ?_⟩
        obtain ⟨y, p, _, q⟩ := h7 j x hj
        have hil : i < rows.length := (List.getElem?_eq_some_iff.1 hi).1
        have hjl : j < sz' := by rw [← h6]; exact (List.getElem?_eq_some_iff.1 hj).1
        have hlt : i * sz' + j < rows.length * sz' := by
          have : (i + 1) * sz' ≤ rows.length * sz' := Nat.mul_le_mul_right sz' hil
          rw [Nat.add_mul] at this; omega
        obtain ⟨y', p', q'⟩ := hget _ hlt
        rw [Nat.add_assoc] at p
        rw [p] at q'
        cases q'
        exact ⟨y, p', q⟩

theorem inR_byte (b : UInt8) : inR .u8 (b.toNat : Int) := by
  have := b.toNat_lt
  unfold inR
  simp [IntKind.min, IntKind.max, IntKind.signed, IntKind.bits]
  omega

/-- what is appended -/
theorem src_of {x : C} {xs : List (List D)} {v : Value} {u : TypeId} {sz : Nat} {str : Bool} (hx : RC w ι st.ext.length x v) (hsrc : S_ str x = some xs) (hall : allLen sz xs) (hsz : 0 < sz)
    (hu : (∃ e', P.underlying u = some (.slice e') ∧ str = false) ∨ (P.underlying u = some .string ∧ sz = 1 ∧ str = true)) :
    ∃ ys : List Value, Src P sz u v xs.length ys w ∧ ∀ (i : Nat) (r : List D), xs[i]? = some r → r.length = sz ∧ ∀ (j : Nat) (x : D), r[j]? = some x → ∃ y, ys[i * sz + j]? = some y ∧ RD w (Safe w ι) x y := by
  rcases hu with ⟨e', hu, rfl⟩ | ⟨hu, rfl, rfl⟩
  · have hr : x.rows? = some xs := hsrc
    have hrd := hx.rows hr
    obtain ⟨ad, cap, rfl⟩ := hrd.sl_inv
    obtain ⟨ys, h1, h2, h3, h4, h5⟩ := cells_of_rows hrd hall hsz
    refine ⟨ys, ?_, h5⟩
    cases ad with
    | none =>
      have := h4 rfl
      subst this
      have hl : xs.length = 0 := by
        have : xs.length * sz = 0 := by simpa using h1.symm
        rcases Nat.mul_eq_zero.1 this with h | h <;> omega
      rw [hl]
      exact Src.ofNil w hu cap
    | some ad => exact Src.ofSlice w hu ad _ cap ys h1 (h3 ad rfl) h2
  · have hxs : ∃ s, x = .d (.str s) := by
      unfold S_ at hsrc
      split at hsrc
      · exact ⟨_, rfl⟩
      · rename_i heq; exact absurd heq (by simp)
      · cases hsrc
    obtain ⟨s, rfl⟩ := hxs
    generalize hv : v = v' at hx
    cases hx with
    | d hd =>
    obtain ⟨t, rfl, rfl, _⟩ := hd.str_eq
    simp only [S_, Option.some.injEq] at hsrc
    subst hsrc
    have hl : (bytesRows t.data.toList).length = t.size := by simp [bytesRows]
    refine ⟨byteCells t, by rw [hl]; exact Src.ofString w hu t, fun i r hi => ?_⟩
    simp only [bytesRows, List.getElem?_map, Option.map_eq_some_iff] at hi
    obtain ⟨b, hb, rfl⟩ := hi
    refine ⟨rfl, fun j x hj => ?_⟩
    cases j with
    | zero =>
      simp at hj
      subst hj
      exact ⟨.int .u8 b.toNat, by simp [byteCells]; exact ⟨b, by simpa using hb, rfl⟩, .int _ _ (inR_byte b)⟩
    | succ j => simp at hj

/-- rows behind one another, in one new row of cells -/
theorem rows_append {rows xs : List (List D)} {ys zs rest : List Value} {sz : Nat} (hyl : ys.length = rows.length * sz)
    (hy : ∀ (i : Nat) (r : List D), rows[i]? = some r → r.length = sz ∧ ∀ (j : Nat) (x : D), r[j]? = some x → ∃ y, ys[i * sz + j]? = some y ∧ RD w (Safe w ι) x y)
    (hzl : zs.length = xs.length * sz)
    (hz : ∀ (i : Nat) (r : List D), xs[i]? = some r → r.length = sz ∧ ∀ (j : Nat) (x : D), r[j]? = some x → ∃ y, zs[i * sz + j]? = some y ∧ RD w (Safe w ι) x y) :
    ∀ (i : Nat) (r : List D), (rows ++ xs)[i]? = some r → r.length = sz ∧ ∀ (j : Nat) (x : D), r[j]? = some x → ∃ y, (ys ++ zs ++ rest)[i * sz + j]? = some y ∧ RD w (Safe w ι) x y := by
  intro i r hi
  rcases Nat.lt_or_ge i rows.length with hlt | hge
  · rw [List.getElem?_append_left hlt] at hi
    obtain ⟨h1, h2⟩ := hy i r hi
    refine ⟨h1, fun j x hj => ?_⟩
    obtain ⟨y, p, q⟩ := h2 j x hj
    exact ⟨y, by rw [List.append_assoc, List.getElem?_append_left (List.getElem?_eq_some_iff.1 p).1]; exact p, q⟩
  · rw [List.getElem?_append_right hge] at hi
    obtain ⟨h1, h2⟩ := hz _ r hi
    refine ⟨h1, fun j x hj => ?_⟩
    obtain ⟨y, p, q⟩ := h2 j x hj
    have e : i * sz = rows.length * sz + (i - rows.length) * sz := by rw [← Nat.add_mul]; congr 1; omega
    refine ⟨y, ?_, q⟩
    rw [List.append_assoc, List.getElem?_append_right (by omega), show i * sz + j - ys.length = (i - rows.length) * sz + j by omega, List.getElem?_append_left (List.getElem?_eq_some_iff.1 p).1]
    exact p

theorem Obs_fits_set {n m : Nat} : ∀ {H : Heap} {i : Nat} {o : Ob}, Obs.fits n m H → o.fits n m → Obs.fits n m (H.set i o)
  | [], i, o, h, _ => by simpa using h
  | x :: l, 0, o, h, ho => ⟨ho, h.2⟩
  | x :: l, i + 1, o, h, ho => ⟨h.1, Obs_fits_set h.2 ho⟩

/-- an owned slice's new row -/
theorem grown_RD {w' : World} {ι' : List AM.K} {rows xs : List (List D)} {ys zs rest : List Value} {sz cap : Nat} {e : TypeId} (hx : Ext w ι w' ι') (hb : w'.heap[w.heap.size]? = some (.cells (ys ++ zs ++ rest).toArray e (0, 0)))
    (hyl : ys.length = rows.length * sz) (hy : ∀ (i : Nat) (r : List D), rows[i]? = some r → r.length = sz ∧ ∀ (j : Nat) (x : D), r[j]? = some x → ∃ y, ys[i * sz + j]? = some y ∧ RD w (Safe w ι) x y)
    (hzl : zs.length = xs.length * sz) (hz : ∀ (i : Nat) (r : List D), xs[i]? = some r → r.length = sz ∧ ∀ (j : Nat) (x : D), r[j]? = some x → ∃ y, zs[i * sz + j]? = some y ∧ RD w (Safe w ι) x y)
    (hcap : rows.length + xs.length ≤ cap) (hm : rows.length + xs.length ≤ maxRows) (hown : ∀ k ∈ ι', ∀ o, k.owns w.heap.size o → (rows.length + xs.length) * sz ≤ o) :
    RD w' (Safe w' ι') (.sl (rows ++ xs)) (.slice (some ⟨w.heap.size, 0, none⟩) (rows.length + xs.length) cap) := by
  have hl : (rows ++ xs).length = rows.length + xs.length := by simp
  rw [← hl, RD.sl_iff]
  refine .inr ⟨w.heap.size, 0, sz, rfl, rfl, by omega, by omega, fun i r hi => ?_⟩
  obtain ⟨h1, h2⟩ := rows_append (rest := rest) hyl hy hzl hz i r hi
  refine ⟨h1, fun j x hj => ?_⟩
  obtain ⟨y, p, q⟩ := h2 j x hj
  have hil : i < rows.length + xs.length := by rw [← hl]; exact (List.getElem?_eq_some_iff.1 hi).1
  have hjl : j < sz := by rw [← h1]; exact (List.getElem?_eq_some_iff.1 hj).1
  have hlt : i * sz + j < (rows.length + xs.length) * sz := by
    have : (i + 1) * sz ≤ (rows.length + xs.length) * sz := Nat.mul_le_mul_right sz hil
    rw [Nat.add_mul] at this; omega
  refine ⟨y, ?_, ⟨(Array.getElem?_eq_some_iff.1 hb).1, fun k hk ho => ?_⟩, q.mono hx.safe⟩
  · simp only [World.cell?, hb, Option.isSome_none, Bool.false_eq_true, ↓reduceIte, Nat.zero_add]
    simpa using p
  · have := hown k hk _ ho; omega

/-- a growing slice's new row, as the model makes it -/
theorem append_grows {t u ty e : TypeId} {i : TypeInfo} {z x : Value} {sz : Nat} {rows xs : List (List D)} {ad : Option Addr} {cap : Nat} {zs : List Value} (ht : P.underlying t = some (.slice e)) (hi : P.info? e = some i) (hz : i.zero = some z)
    (hzs : z.cells.size = i.size) (hsz : i.size = sz) (h0 : 0 < sz) (hby : i.bytes ≤ 4096) (hrd : RD w (Safe w ι) (.sl rows) (.slice ad rows.length cap)) (hall : allLen sz rows) (hsrc : Src P sz u x xs.length zs w)
    (hg : cap < rows.length + xs.length) (hm : rows.length + xs.length ≤ maxApp) :
    ∃ (ys rest : List Value) (gc : Nat), (Builtin.append_ #[t, u] ty #[.slice ad rows.length cap, x]).run P w =
        .ok (.slice (some ⟨w.heap.size, 0, none⟩) (rows.length + xs.length) gc) (w.drew.alloc (.cells (ys ++ zs ++ rest).toArray e)) ∧
      ys.length = rows.length * sz ∧ (∀ (i : Nat) (r : List D), rows[i]? = some r → r.length = sz ∧ ∀ (j : Nat) (x : D), r[j]? = some x → ∃ y, ys[i * sz + j]? = some y ∧ RD w (Safe w ι) x y) ∧
      rows.length + xs.length ≤ gc ∧ (ys ++ zs ++ rest).length = gc * sz := by
  subst hsz
  obtain ⟨ys, h1, h2, h3, h4, h5⟩ := cells_of_rows hrd hall h0
  have hold : (Builtin.firstCells i.size rows.length (.slice ad rows.length cap)).run P w.drew = .ok ys.toArray w.drew := by
    cases ad with
    | none => rw [h4 rfl]; exact run_firstCells_none w.drew i.size rows.length rows.length cap
    | some b => exact run_firstCells_some w.drew i.size rows.length b rows.length cap ys h1 (fun j u hj => by simpa using h3 b rfl j u hj)
  unfold maxApp at hm
  have hfit : Builtin.nextslicecap (rows.length + xs.length) cap * i.bytes ≤ 281474976710656 := by
    have h6 := nextslicecap_le_wide hg
    have h7 : Builtin.nextslicecap (rows.length + xs.length) cap * i.bytes ≤ (2 * 2 ^ 32) * 4096 := Nat.mul_le_mul (by omega) hby
    omega
  have hrun := run_append_grow_src (P := P) w t u ty e i z ht hi hz ad rows.length cap ys hold x xs.length zs hsrc hg (by omega) hfit
  have hge := grownCap_ge w (rows.length + xs.length) cap e
  generalize grownCap w (rows.length + xs.length) cap e = gc at hrun hge
  refine ⟨ys, (Builtin.zeroCells z.cells (gc - (rows.length + xs.length))).toList, gc, ?_, h1, h5, hge, ?_⟩
  · rw [hrun]
    congr 3
    apply Array.ext'
    simp
  · have hzc : (Builtin.zeroCells z.cells (gc - (rows.length + xs.length))).size = (gc - (rows.length + xs.length)) * i.size := by simp [Builtin.zeroCells, hzs]
    simp only [List.length_append, Array.length_toList, hzc, h1, hsrc.newsLen]
    rw [← Nat.add_mul, ← Nat.add_mul]
    congr 1
    omega

theorem res_append {o : Oper} {t u e : TypeId} {i : TypeInfo} {z : Value} {str : Bool} {sz : Nat} {s x : Operand} {s' x' : Opd} {c : Call} (ho : o.op = .call c) (hc1 : c.callee = .builtin .append) (hc2 : c.args.toList = [s, x]) (hc3 : c.argTypes.toList = [t, u])
    (ht : P.underlying t = some (.slice e)) (hi : P.info? e = some i) (hz : i.zero = some z) (hzs : z.cells.size = i.size) (hsz : i.size = sz) (h0 : 0 < sz) (hby : i.bytes ≤ 4096)
    (hu : (∃ e', P.underlying u = some (.slice e') ∧ str = false) ∨ (P.underlying u = some .string ∧ sz = 1 ∧ str = true)) (hs1 : cOpd s = some s') (hx1 : cOpd x = some x')
    (hs : SimSt w ι st a) (h : c_ P st true K (.append str sz s' x')) : OpRes w ι st a K ((execOp a.eval o).run P w) := by
  have ea : c.args = #[s, x] := by rw [← Array.toArray_toList (xs := c.args), hc2]
  have et : c.argTypes = #[t, u] := by rw [← Array.toArray_toList (xs := c.argTypes), hc3]
  simp only [c_, QCallK, RowK, ByteK, B2SK, OptK, StoreK] at h
  split at h
  · rename_i sc xc hse hxe
    obtain ⟨k1, k2, h⟩ := h
    have hsv0 := val_ra hs hs1 k1
    have hxv0 := val_ra hs hx1 k2
    rw [hse] at hsv0
    rw [hxe] at hxv0
    have hsv := hsv0.c_inv
    have hxv := hxv0.c_inv
    clear hsv0 hxv0
    unfold Q_ at h
    split at h
    · exact h.elim
    · rename_i xs hxs
      obtain ⟨hallx, h⟩ := h
      obtain ⟨zs, hsrc, hzr⟩ := src_of hxv hxs hallx h0 hu
      have fin : ∀ r w', (Builtin.append_ #[t, u] o.type #[a.eval s, a.eval x]).run P w = .ok r w' → (execOp a.eval o).run P w = .ok (.value r) w' := fun r w' hr => by
        rw [run_call_builtin ho hc1, ea, et]
        simp only [builtin, List.map_toArray, List.map_cons, List.map_nil, Sem.run_bind, hr, Result.andThen_ok, Sem.run_pure]
      split at h
      · -- an owned slice
        rename_i r pos rows
        split at h
        · rename_i p sz' hg
          obtain ⟨rfl, rfl, hall, hm, hK⟩ := h
          obtain ⟨hh, hre⟩ := getOb_heap hg (by simp)
          generalize hvs : a.eval s = sv at hsv fin
          cases hsv with
          | own hrd hk =>
          obtain ⟨q, pq, hk1, hk2, hk3⟩ := hk
          have hro := hs.sim.obj _ _ _ hh hk1
          have hpq : p = q := by cases pq <;> first | exact hro | exact hro.1.1
          subst hpq
          have hcur := hk3 rfl
          obtain ⟨ad, cap, rfl⟩ := hrd.sl_inv
          obtain ⟨e1, e2, e3⟩ := setOb_heap st r (.grow (p + xs.length) sz') hre
          have eob : ∀ m : Nat, obAt st.ext.length r (.grow m sz') = Ob.grow m sz' := fun m => by cases r <;> rfl
          rw [eob] at e1
          have hfit : Obs.fits (B_ st r (.grow (p + xs.length) sz')).ext.length 0 (B_ st r (.grow (p + xs.length) sz')).ext := by
            rw [e2]
            cases r with
            | e b => exact Obs_fits_set hs.fit trivial
            | l b => exact hs.fit
          have close : ∀ (w' : World) (q' : Option (Nat × Nat × Nat × Nat)) (rv : Value), (Builtin.append_ #[t, u] o.type #[.slice ad rows.length cap, a.eval x]).run P w = .ok rv w' →
              Ext w ι w' (ι.set (idx st.ext.length r) (.grow (p + xs.length) q')) → Sim w' (ι.set (idx st.ext.length r) (.grow (p + xs.length) q')) st.ext.length ((st.ext ++ st.loc).set (idx st.ext.length r) (.grow (p + xs.length) sz')) →
              RD w' (Safe w' (ι.set (idx st.ext.length r) (.grow (p + xs.length) q'))) (.sl (rows ++ xs)) rv → Cur (p + xs.length) (rows ++ xs) rv q' → OpRes w ι st a K ((execOp a.eval o).run P w) := fun w' q' rv hr hx hsim hrd' hcur' => by
            refine ⟨rv, w', _, _, _, .inl (fin rv w' hr), hK, ⟨by rw [e1, e2]; exact hsim, by rw [e3]; exact hs.size, ?_, hfit, hs.defers⟩, ?_, hx, e2⟩
            · rw [e2, e3]
              exact fun i x v h1 h2 => (hs.slots i x v h1 h2).mono hx
            · exact .c (.own hrd' ⟨_, q', by simp [(List.getElem?_eq_some_iff.1 hk1).1], Nat.le_refl _, fun _ => hcur'⟩)
          by_cases hn : xs.length = 0
          · have hxn : xs = [] := List.length_eq_zero_iff.1 hn
            subst hxn
            have hlc : rows.length ≤ cap := by
              have := hrd
              rw [RD.sl_iff] at this
              rcases this with ⟨e1, _, _⟩ | ⟨_, _, _, _, _, h6, _⟩
              · rw [e1]; simp
              · exact h6
            have hnw : zs = [] := by have := hsrc.newsLen; simpa using this
            subst hnw
            have hr := run_append_nothing (P := P) w t u o.type e i ht hi ad rows.length cap hlc (a.eval x) (by rw [hsz]; exact hsrc)
            have hset : ι.set (idx st.ext.length r) (.grow (p + ([] : List (List D)).length) pq) = ι := by
              apply List.ext_getElem?
              intro j
              simp only [List.getElem?_set, List.length_nil, Nat.add_zero]
              split
              · rename_i e; subst e
                rw [hk1]; simp [(List.getElem?_eq_some_iff.1 hk1).1]
              · rfl
            have hset2 : (st.ext ++ st.loc).set (idx st.ext.length r) (.grow (p + ([] : List (List D)).length) sz') = st.ext ++ st.loc := by
              apply List.ext_getElem?
              intro j
              simp only [List.getElem?_set, List.length_nil, Nat.add_zero]
              split
              · rename_i e; subst e
                have := (List.getElem?_eq_some_iff.1 hh).1
                rw [hh]; simp at this ⊢; omega
              · rfl
            refine close w pq _ hr ?_ ?_ ?_ ?_
            · rw [hset]; exact .refl _ _
            · rw [hset, hset2]; exact hs.sim
            · rw [hset]; simpa using hrd
            · simpa using hcur
          · rcases Nat.lt_or_ge cap (rows.length + xs.length) with hgrow | hroom
            · obtain ⟨ys, rest, gc, hr, hyl, hyr, hge, hlen⟩ := append_grows (P := P) (ty := o.type) ht hi hz hzs hsz h0 hby hrd hall hsrc hgrow hm
              have hx : Ext w ι (w.drew.alloc (.cells (ys ++ zs ++ rest).toArray e)) (ι.set (idx st.ext.length r) (.grow (p + xs.length) (some (w.heap.size, (rows.length + xs.length) * sz', gc * sz', sz')))) :=
                grow_ext hs.sim hk1 (.inl (by omega)) rfl rfl rfl (by simp) (fun c o hc => cell_of_heap (heap_alloc_lt w.drew _ hc.1) o) (fun c o hc ho => by have := ho.1; omega)
                  (fun c hc hn => ⟨heap_alloc_lt w.drew _ hc, fun hat => by have : c = w.heap.size := hat; omega⟩)
              refine close _ _ _ hr hx ?_ ?_ ?_
              · refine grow_sim hs.sim hk1 hx (fun c hc _ => heap_alloc_lt w.drew _ hc) (fun c hat => ?_) ⟨⟨rfl, rfl⟩, _, e, heap_alloc_new w.drew _, by simp at hlen ⊢; omega⟩
                have : c = w.heap.size := hat
                subst this
                exact ⟨.inr (Nat.le_refl _), by simp⟩
              · refine grown_RD hx (heap_alloc_new w.drew _) hyl hyr hsrc.newsLen hzr hge (by unfold maxApp at hm; unfold maxRows; omega) fun k hk o ho => ?_
                obtain ⟨j, hj⟩ := List.mem_iff_getElem?.1 hk
                simp only [List.getElem?_set] at hj
                split at hj
                · split at hj
                  · cases hj; exact ho.2.1
                  · cases hj
                · have := hs.sim.low k _ (List.mem_of_getElem? hj) (AM.K.at_of_owns ho); omega
              · have hal : ∀ r ∈ rows ++ xs, r.length = sz' := fun r hr => by rcases List.mem_append.1 hr with h | h; exact hall r h; exact hallx r h
                refine ⟨fun _ => ⟨sz', by simp, hal⟩, by have := hcur.2.1; simp; omega, fun _ => .inr ⟨w.heap.size, gc, gc, sz', by simp, by simp, by simp; omega, Nat.le_refl _, hal⟩⟩
            · -- there is room
              have hlt : rows.length < cap := by omega
              cases ad with
              | none =>
                rw [RD.sl_iff] at hrd
                rcases hrd with ⟨_, _, h6⟩ | ⟨_, _, _, h6, _⟩
                · omega
                · cases h6
              | some ad =>
              obtain ⟨szc, hp, _⟩ := hcur.1 hlt
              subst hp
              obtain ⟨⟨_, hszc⟩, vs, el, hblk, hlim⟩ := hro
              subst hszc
              have hspot : ad.spot = none := by
                rw [RD.sl_iff] at hrd
                rcases hrd with ⟨_, _, h⟩ | ⟨b, off, _, h, _⟩
                · omega
                · cases h; rfl
              obtain ⟨b, off, sp⟩ := ad
              simp only at hspot hblk hlim
              subst hspot
              change ι[idx st.ext.length r]? = some (.grow p (some (b, off + rows.length * szc, off + cap * szc, szc))) at hk1
              have hone := hsrc.one
              have hzl := hsrc.newsLen
              have hend : (rows.length + xs.length) * szc ≤ cap * szc := Nat.mul_le_mul_right _ hroom
              rw [Nat.add_mul] at hend
              have hst := run_storeCells_at P b (off + rows.length * szc) el zs 0 vs w hblk (by omega) hone
              simp only [Nat.add_zero] at hst
              obtain ⟨X, hX⟩ : ∃ X, X = (vs.toList.take (off + rows.length * szc) ++ zs ++ vs.toList.drop (off + rows.length * szc + zs.length)).toArray := ⟨_, rfl⟩
              rw [← hX] at hst
              have hXs : X.size = vs.size := by rw [hX]; simp; omega
              have hXg : ∀ j, X[j]? = if j < off + rows.length * szc then vs[j]? else if j < off + rows.length * szc + zs.length then zs[j - (off + rows.length * szc)]? else vs[j]? := fun j => by
                rw [hX, List.getElem?_toArray, spliceV_get _ _ _ (by simp; omega)]
                simp
              have hr : (Builtin.append_ #[t, u] o.type #[.slice (some ⟨b, off, none⟩) rows.length cap, a.eval x]).run P w = .ok (.slice (some ⟨b, off, none⟩) (rows.length + xs.length) cap) (w.setRow b X) := by
                rcases hsrc.kind with ⟨e', hk⟩ | hk <;> simp [Builtin.append_, run_underlying ht, run_underlying hk, sizeOf, typeInfo, hi, hsz, hsrc.len, hroom, hsrc.cells, addr_add, hst]
              have hcellX : ∀ o, (w.setRow b X).cell? ⟨b, o, none⟩ = X[o]? := fun o => cell_setRow_same w b o vs X el (0, 0) hblk
              have hcell0 : ∀ o, w.cell? ⟨b, o, none⟩ = vs[o]? := fun o => by simp [World.cell?, hblk]
              have hx : Ext w ι (w.setRow b X) (ι.set (idx st.ext.length r) (.grow (p + xs.length) (some (b, off + (rows.length + xs.length) * szc, off + cap * szc, szc)))) := by
                refine grow_ext hs.sim hk1 (.inl (by omega)) rfl rfl rfl (by simp) (fun c o hc => ?_) (fun c o hc ho => ?_) (fun c hc hn => ⟨setRow_other w b c X hn, hn⟩)
                · by_cases hcb : c = b
                  · subst hcb
                    rw [hcellX, hcell0, hXg]
                    have hno := hc.2 _ (List.mem_of_getElem? hk1)
                    by_cases h1 : o < off + rows.length * szc
                    · rw [if_pos h1]
                    · rw [if_neg h1, if_neg]
                      intro h2
                      exact hno ⟨rfl, by omega, by omega⟩
                  · exact cell_of_heap (setRow_other w b c X hcb) o
                · obtain ⟨h1, h2, h3⟩ := ho
                  rw [Nat.add_mul] at h2
                  exact ⟨h1, by omega, h3⟩
              have hsim : Sim (w.setRow b X) (ι.set (idx st.ext.length r) (.grow (p + xs.length) (some (b, off + (rows.length + xs.length) * szc, off + cap * szc, szc)))) st.ext.length ((st.ext ++ st.loc).set (idx st.ext.length r) (.grow (p + xs.length) szc)) := by
                refine grow_sim hs.sim hk1 hx (fun c hc hn => setRow_other w b c X hn) (fun c hat => ?_) ⟨⟨rfl, rfl⟩, X, el, setRow_heap w b vs X el (0, 0) hblk, by omega⟩
                have : c = b := hat
                subst this
                exact ⟨.inl rfl, by rw [setRow_size]; exact (Array.getElem?_eq_some_iff.1 hblk).1⟩
              have hsafe : ∀ o, o < off + (rows.length + xs.length) * szc → Safe (w.setRow b X) (ι.set (idx st.ext.length r) (.grow (p + xs.length) (some (b, off + (rows.length + xs.length) * szc, off + cap * szc, szc)))) b o := fun o ho => by
                refine ⟨by rw [setRow_size]; exact (Array.getElem?_eq_some_iff.1 hblk).1, fun k hk hown => ?_⟩
                obtain ⟨j, hj⟩ := List.mem_iff_getElem?.1 hk
                simp only [List.getElem?_set] at hj
                split at hj
                · split at hj
                  · cases hj; have := hown.2.1; omega
                  · cases hj
                · rename_i hne
                  exact hne (hs.sim.apart _ _ _ k b hk1 hj rfl (AM.K.at_of_owns hown))
              refine close _ _ _ hr hx hsim ?_ ?_
              · have hl : (rows ++ xs).length = rows.length + xs.length := by simp
                rw [RD.sl_iff] at hrd ⊢
                have hrows : ∀ (i : Nat) (r : List D), rows[i]? = some r → r.length = szc ∧ RowAt w (Safe w ι) r b (off + i * szc) := fun i r hi => by
                  rcases hrd with ⟨rfl, _⟩ | ⟨b', off', sz', h6, _, _, _, h7⟩
                  · simp at hi
                  · cases h6
                    obtain ⟨h8, h9⟩ := h7 i r hi
                    have : sz' = szc := by rw [← h8, hall r (List.mem_of_getElem? hi)]
                    subst this
                    exact ⟨h8, h9⟩
                refine .inr ⟨b, off, szc, rfl, hl.symm, by omega, by unfold maxApp at hm; unfold maxRows; omega, fun i r hi => ?_⟩
                rcases Nat.lt_or_ge i rows.length with h6 | h6
                · rw [List.getElem?_append_left h6] at hi
                  obtain ⟨h7, h8⟩ := hrows i r hi
                  exact ⟨h7, h8.mono hx.safe⟩
                · rw [List.getElem?_append_right h6] at hi
                  obtain ⟨h7, h8⟩ := hzr _ r hi
                  refine ⟨h7, fun j x hj => ?_⟩
                  obtain ⟨y, hy, hyr⟩ := h8 j x hj
                  have hil : i - rows.length < xs.length := (List.getElem?_eq_some_iff.1 hi).1
                  have hjl : j < szc := by rw [← h7]; exact (List.getElem?_eq_some_iff.1 hj).1
                  have e4 : i * szc = rows.length * szc + (i - rows.length) * szc := by rw [← Nat.add_mul]; congr 1; omega
                  have e5 : (i - rows.length + 1) * szc ≤ xs.length * szc := Nat.mul_le_mul_right _ hil
                  rw [Nat.add_mul] at e5
                  refine ⟨y, ?_, hsafe _ (by rw [Nat.add_mul]; omega), hyr.mono hx.safe⟩
                  rw [hcellX, hXg, if_neg (by omega), if_pos (by omega), show off + i * szc + j - (off + rows.length * szc) = (i - rows.length) * szc + j by omega]
                  exact hy
              · have hal : ∀ r ∈ rows ++ xs, r.length = szc := fun r hr => by rcases List.mem_append.1 hr with h | h; exact hall r h; exact hallx r h
                refine ⟨fun _ => ⟨szc, rfl, hal⟩, by have := hcur.2.1; simp; omega, fun hlp => ?_⟩
                have hlp : rows.length = p := by simp at hlp; omega
                rcases hcur.2.2 hlp with ⟨_, h⟩ | ⟨b', cap', capx, sz', e1, e2, e3, e3', e5⟩
                · cases h
                simp only [Value.slice.injEq, Option.some.injEq, Addr.mk.injEq] at e2
                obtain ⟨⟨rfl, rfl, _⟩, _, rfl⟩ := e2
                exact .inr ⟨b, cap, cap, szc, by simp, by simp, by simp; omega, Nat.le_refl _, hal⟩
        · exact h.elim
      · -- a slice without room
        rename_i rows
        obtain ⟨hall, hm, hK⟩ := h
        generalize hvs : a.eval s = sv at hsv fin
        cases hsv with
        | @full _ ad len hrd =>
        have hlen : len = rows.length := by obtain ⟨_, _, h⟩ := hrd.sl_inv; cases h; rfl
        subst hlen
        by_cases hn : xs.length = 0
        · have hxn : xs = [] := List.length_eq_zero_iff.1 hn
          subst hxn
          have hnw : zs = [] := by have := hsrc.newsLen; simpa using this
          subst hnw
          have hr := run_append_nothing (P := P) w t u o.type e i ht hi ad rows.length rows.length (Nat.le_refl _) (a.eval x) (by rw [hsz]; exact hsrc)
          have hp := hs.push (k := .grow (posF rows []) none) (o := .grow (posF rows []) sz) (.refl w ι) (fun _ _ => rfl) (fun b hb => by cases hb) (by exact rfl)
          have hx := (Ext.refl w ι).push (k := .grow (posF rows []) none) (fun b hb => by cases hb)
          refine ⟨_, w, _, _, _, .inl (fin _ w hr), hK, hp, .c (.own (by simpa using hrd.mono hx.safe) ⟨_, _, hs.newIdx _, by simp, fun _ => ?_⟩), hx, rfl⟩
          have hpos : rows.length ≤ posF rows [] ∧ (rows ≠ [] → rows.length ≠ posF rows []) := by cases rows <;> simp [posF]
          refine ⟨?_, by simpa using hpos.1, fun e => .inl ⟨Classical.byContradiction fun h => absurd (by simpa using e) (hpos.2 (by simpa using h)), rfl⟩⟩
          cases ad with
          | none => trivial
          | some ad => intro h; simp at h
        · rw [posF_ne rows xs (fun e => hn (by rw [e]; rfl))] at hK
          obtain ⟨ys, rest, gc, hr, hyl, hyr, hge, hlen⟩ := append_grows (P := P) (ty := o.type) ht hi hz hzs hsz h0 hby hrd hall hsrc (by omega) hm
          have hx0 : Ext w ι (w.drew.alloc (.cells (ys ++ zs ++ rest).toArray e)) ι := .of_blocks rfl rfl rfl (by simp) (fun b hb => heap_alloc_lt w.drew _ hb)
          have hk : ∀ b, (AM.K.grow (rows.length + xs.length) (some (w.heap.size, (rows.length + xs.length) * sz, gc * sz, sz))).at b → w.heap.size ≤ b ∧ b < (w.drew.alloc (.cells (ys ++ zs ++ rest).toArray e)).heap.size := fun b hb => by
            have : b = w.heap.size := hb
            subst this; simp
          have hx := hx0.push (k := .grow (rows.length + xs.length) (some (w.heap.size, (rows.length + xs.length) * sz, gc * sz, sz))) (fun b hb => (hk b hb).1)
          have hp := hs.push (k := .grow (rows.length + xs.length) (some (w.heap.size, (rows.length + xs.length) * sz, gc * sz, sz))) (o := .grow (rows.length + xs.length) sz) hx0 (fun b hb => heap_alloc_lt w.drew _ hb) hk
            ⟨⟨rfl, rfl⟩, _, e, heap_alloc_new w.drew _, by simp at hlen ⊢; omega⟩
          refine ⟨_, _, _, _, _, .inl (fin _ _ hr), hK, hp, .c (.own ?_ ⟨_, _, hs.newIdx _, Nat.le_refl _, fun _ => ?_⟩), hx, rfl⟩
          · refine grown_RD hx (heap_alloc_new w.drew _) hyl hyr hsrc.newsLen hzr hge (by unfold maxApp at hm; unfold maxRows; omega) fun k hk o ho => ?_
            rcases List.mem_append.1 hk with h1 | h1
            · have := hs.sim.low k _ h1 (AM.K.at_of_owns ho); omega
            · rw [List.mem_singleton.1 h1] at ho; exact ho.2.1
          · have hal : ∀ r ∈ rows ++ xs, r.length = sz := fun r hr => by rcases List.mem_append.1 hr with h | h; exact hall r h; exact hallx r h
            exact ⟨fun _ => ⟨sz, by simp, hal⟩, by simp, fun _ => .inr ⟨w.heap.size, gc, gc, sz, by simp, by simp, by simp; omega, Nat.le_refl _, hal⟩⟩
      · exact h.elim
  · exact h.elim

theorem res_appendF {o : Oper} {t u e : TypeId} {i : TypeInfo} {z : Value} {sz : Nat} {s x : Operand} {s' x' : Opd} {c : Call} (ho : o.op = .call c) (hc1 : c.callee = .builtin .append) (hc2 : c.args.toList = [s, x]) (hc3 : c.argTypes.toList = [t, u])
    (ht : P.underlying t = some (.slice e)) (hi : P.info? e = some i) (hz : i.zero = some z) (hzs : z.cells.size = i.size) (hsz : i.size = sz) (h0 : 0 < sz) (hby : i.bytes ≤ 4096)
    (hu : ∃ e', P.underlying u = some (.slice e')) (hs1 : cOpd s = some s') (hx1 : cOpd x = some x')
    (hs : SimSt w ι st a) (h : c_ P st true K (.appendF sz s' x')) : OpRes w ι st a K ((execOp a.eval o).run P w) := by
  have ea : c.args = #[s, x] := by rw [← Array.toArray_toList (xs := c.args), hc2]
  have et : c.argTypes = #[t, u] := by rw [← Array.toArray_toList (xs := c.argTypes), hc3]
  simp only [c_, QCallK, RowK, ByteK, B2SK, OptK, StoreK] at h
  split at h
  · rename_i xc hse hxe
    split at h
    · rename_i xs hxs
      obtain ⟨k1, k2, hallx, hm, hK1, hK2⟩ := h
      have hsv0 := val_ra hs hs1 k1
      have hxv0 := val_ra hs hx1 k2
      rw [hse] at hsv0
      rw [hxe] at hxv0
      have hsv := hsv0.c_inv
      have hxv := hxv0.c_inv
      clear hsv0 hxv0
      obtain ⟨e', hu⟩ := hu
      obtain ⟨zs, hsrc, hzr⟩ := src_of (str := false) hxv hxs hallx h0 (.inl ⟨e', hu, rfl⟩)
      have fin : ∀ r w', (Builtin.append_ #[t, u] o.type #[a.eval s, a.eval x]).run P w = .ok r w' → (execOp a.eval o).run P w = .ok (.value r) w' := fun r w' hr => by
        rw [run_call_builtin ho hc1, ea, et]
        simp only [builtin, List.map_toArray, List.map_cons, List.map_nil, Sem.run_bind, hr, Result.andThen_ok, Sem.run_pure]
      generalize hvs : a.eval s = sv at hsv fin
      cases hsv with
      | @full _ ad len hrd =>
      have hlen : len = ([] : List (List D)).length := by obtain ⟨_, _, h⟩ := hrd.sl_inv; cases h; rfl
      subst hlen
      by_cases hn : xs.length = 0
      · have hxn : xs = [] := List.length_eq_zero_iff.1 hn
        subst hxn
        have hnw : zs = [] := by have := hsrc.newsLen; simpa using this
        subst hnw
        have hr := run_append_nothing (P := P) w t u o.type e i ht hi ad 0 0 (Nat.le_refl _) (a.eval x) (by rw [hsz]; exact hsrc)
        exact ⟨_, w, _, _, _, .inl (fin _ w hr), hK1 rfl, hs, .c (.full hrd), .refl _ _, rfl⟩
      · obtain ⟨ys, rest, gc, hr, hyl, hyr, hge, hlen⟩ := append_grows (P := P) (ty := o.type) ht hi hz hzs hsz h0 hby hrd (allLen_nil sz) hsrc (by simp; omega) (by simpa using hm)
        have hys : ys = [] := by simpa using hyl
        subst hys
        simp only [List.length_nil, Nat.zero_add, List.nil_append] at hr hge hlen
        have hx0 : Ext w ι (w.drew.alloc (.cells (zs ++ rest).toArray e)) ι := .of_blocks rfl rfl rfl (by simp) (fun b hb => heap_alloc_lt w.drew _ hb)
        have hk : ∀ b, (AM.K.rows w.heap.size sz xs.length).at b → w.heap.size ≤ b ∧ b < (w.drew.alloc (.cells (zs ++ rest).toArray e)).heap.size := fun b hb => by
          have : b = w.heap.size := hb
          subst this; simp
        have hx := hx0.push (k := .rows w.heap.size sz xs.length) (fun b hb => (hk b hb).1)
        have hsl : xs.length * sz ≤ (zs ++ rest).length := by rw [hlen]; exact Nat.mul_le_mul_right _ hge
        have hp := hs.push (k := .rows w.heap.size sz xs.length) (o := .rows xs) hx0 (fun b hb => heap_alloc_lt w.drew _ hb) hk
          ⟨_, e, heap_alloc_new w.drew _, by simpa using hsl, ⟨by unfold maxApp at hm; unfold maxRows; omega, rfl⟩, fun i r hir => by
            obtain ⟨h1, h2⟩ := hzr i r hir
            refine ⟨h1, fun j x hj => ?_⟩
            obtain ⟨y, p, q⟩ := h2 j x hj
            refine ⟨y, ?_, q.mono hx.safe⟩
            have hlt := (List.getElem?_eq_some_iff.1 p).1
            simp only [List.getElem?_toArray]
            rw [List.getElem?_append_left hlt]
            exact p⟩
        exact ⟨_, _, _, _, _, .inl (fin _ _ hr), hK2 (fun e => hn (by rw [e]; rfl)), hp, .c (.fsl (hs.newIdx _) hge), hx, rfl⟩
    · exact h.elim
  · exact h.elim

end ops
end Go.AM

/-
  The abstract machine: maps whose keys are integers.
  Conditions: none.
-/
namespace Go.AM
set_option linter.unusedVariables false
set_option linter.unusedSimpArgs false
/-- the place of a key -/
def mapIdx : List (Int × List D) → Int → Option Nat
  | [], _ => none
  | (k, _) :: l, x => if k = x then some 0 else (mapIdx l x).map (· + 1)

theorem mapRow_idx : ∀ (m : List (Int × List D)) (x : Int), V_ m x = (mapIdx m x).bind fun i => (m[i]?).map (·.2)
  | [], x => rfl
  | (k, r) :: l, x => by
    simp only [V_, mapIdx]
    split
    · rfl
    · rw [mapRow_idx l x]
      cases mapIdx l x <;> rfl
theorem mapPut_idx : ∀ (m : List (Int × List D)) (x : Int) (r : List D), W_ m x r = match mapIdx m x with
    | some i => m.set i (x, r)
    | none => m ++ [(x, r)]
  | [], x, r => rfl
  | (k, q) :: l, x, r => by
    simp only [W_, mapIdx]
    split
    · rename_i h
      subst h
      rfl
    · rw [mapPut_idx l x r]
      cases mapIdx l x <;> rfl
theorem mapIdx_some : ∀ {m : List (Int × List D)} {x : Int} {i : Nat}, mapIdx m x = some i → ∃ r, m[i]? = some (x, r)
  | [], x, i, h => by cases h
  | (k, r) :: l, x, i, h => by
    simp only [mapIdx] at h
    split at h
    · rename_i e
      cases h; subst e
      exact ⟨r, rfl⟩
    · simp only [Option.map_eq_some_iff] at h
      obtain ⟨j, h1, rfl⟩ := h
      obtain ⟨q, h2⟩ := mapIdx_some h1
      exact ⟨q, by simpa using h2⟩
theorem findNow_map : ∀ {es : List MapEntry} {m : List (Int × List D)}, es.length = m.length → (∀ (i : Nat) k row e, m[i]? = some (k, row) → es[i]? = some e → e.key = .int .i64 k) → ∀ (x : Int) (base : Nat),
    Instr.findNow (.int .i64) (.int .i64 x) es base = some (match mapIdx m x with | some i => (es[i]?).map fun e => (base + i, e.val) | none => none)
  | [], [], _, _, x, base => rfl
  | [], _ :: _, h, _, _, _ => by simp at h
  | _ :: _, [], h, _, _, _ => by simp at h
  | e :: es, (k, r) :: m, hl, hk, x, base => by
    have h0 := hk 0 k r e rfl rfl
    simp only [Instr.findNow, h0, Instr.sameNow, mapIdx, if_true]
    by_cases hx : k = x
    · subst hx
      simp
    · have hb : (x == k) = false := by simpa using fun h => hx h.symm
      rw [hb]
      simp only [hx, if_false]
      rw [findNow_map (by simpa using hl) (fun i k' row e' h1 h2 => hk (i + 1) k' row e' (by simpa using h1) (by simpa using h2)) x (base + 1)]
      cases mapIdx m x with
      | none => rfl
      | some i => simp; congr 1; funext e; congr 1; omega

section ops
variable {P : Program} {w : World} {ι : List K} {st : St} {a : Act} {K : A → St → Prop}

theorem run_findKey_map {kt : TypeId} {es : Array MapEntry} {m : List (Int × List D)} (hk : P.underlying kt = some (.int .i64)) (hl : es.size = m.length) (hm : ∀ (i : Nat) k row e, m[i]? = some (k, row) → es[i]? = some e → e.key = .int .i64 k) (x : Int) :
    (Instr.findKey kt (.int .i64 x) es.toList).run P w = .ok (match mapIdx m x with | some i => (es[i]?).map fun e => (i, e.val) | none => none) w := by
  have h := findNow_map (es := es.toList) (m := m) (by simpa using hl) (fun i k row e h1 h2 => hm i k row e h1 (by simpa using h2)) x 0
  simp only [Nat.zero_add, Array.getElem?_toList] at h
  simp only [Instr.findKey, Sem.run_bind, run_underlying hk, Result.andThen_ok, h, Sem.run_pure]

theorem run_checkKey_int {kt : TypeId} {b : Bool} (hk : P.underlying kt = some (.int .i64)) (x : Int) : (Instr.checkKey b 10000 kt (.int .i64 x)).run P w = .ok () w := by
  have h : ∀ n : Nat, (Instr.checkKey b (n + 1) kt (.int .i64 x)).run P w = .ok () w := fun n => by
    simp only [Instr.checkKey, Sem.run_bind, run_underlying hk, Result.andThen_ok, Sem.run_pure]
  exact h 9999

theorem res_mkMap {o : Oper} {t : TypeId} (ho : o.op = .makeMap t none) (hs : SimSt w ι st a) (h : c_ P st true K .mkMap) : OpRes w ι st a K ((execOp a.eval o).run P w) := by
  simp only [c_] at h
  have hrun : (execOp a.eval o).run P w = .ok (.value (.map (some w.heap.size))) (w.alloc (.map #[] 0)) := by
    simp only [execOp, ho, Sem.run_bind, Option.map_none, run_makeMap_plain, Result.andThen_ok, Sem.run_pure]
  have hx0 := Ext.alloc w ι (.map #[] 0)
  have hk : ∀ b, (AM.K.blk w.heap.size).at b → w.heap.size ≤ b ∧ b < (w.alloc (.map #[] 0)).heap.size := fun b hb => by cases hb; simp
  have hx := hx0.push (k := .blk w.heap.size) (fun b hb => (hk b hb).1)
  refine ⟨_, _, _, _, ι ++ [.blk w.heap.size], .inl hrun, h, hs.push (k := .blk w.heap.size) (o := .map []) hx0 (fun b hb => heap_alloc_lt w _ hb) hk ⟨#[], 0, heap_alloc_new w _, rfl, List.nodup_nil, fun i k row e hi => by simp at hi⟩, .c (.map (hs.newIdx _)), hx, rfl⟩

/-- a row as a value -/
theorem mapVal_ra {n : Option Nat} {row : List D} {v : Value} (hn : row.length = n.getD 1) (hn1 : n ≠ some 1)
    (h : (∃ x v', row = [x] ∧ v = v' ∧ RD w (Safe w ι) x v') ∨ (∃ vs : Array Value, v = .agg vs ∧ (vs.size = row.length ∧ row.length ≠ 1) ∧ ∀ (j : Nat) x y, row[j]? = some x → vs[j]? = some y → RD w (Safe w ι) x y)) (N : Nat) :
    RA w ι N (Y_ n row) v := by
  rcases h with ⟨x, v', rfl, rfl, h⟩ | ⟨vs, rfl, h1, h2⟩
  · cases n with
    | none => exact .c (.d h)
    | some k => simp at hn; subst hn; exact absurd rfl hn1
  · cases n with
    | none => simp at hn; exact absurd hn h1.2
    | some k =>
      obtain ⟨vs⟩ := vs
      refine .agg (vs := vs) ⟨by simpa using h1.1, fun i c u hc hu => ?_⟩
      simp only [List.getElem?_map, Option.map_eq_some_iff] at hc
      obtain ⟨x, hx, rfl⟩ := hc
      exact .d (h2 i x u hx (by simpa using hu))

theorem mapVal_tup {n : Option Nat} {ok b : Bool} {row : List D} {v : Value} {N : Nat} (h : RA w ι N (Y_ n row) v) :
    RA w ι N (X_ n ok row b) (if ok then .tuple #[v, .bool b] else v) := by
  unfold X_
  cases ok with
  | false => exact h
  | true =>
    refine .tup (vs := [v, .bool b]) rfl fun i x u hx hu => ?_
    match i with
    | 0 => obtain rfl := Option.some.inj hx; obtain rfl := Option.some.inj hu; exact h
    | 1 => obtain rfl := Option.some.inj hx; obtain rfl := Option.some.inj hu; exact .c (.d (.bool b))
    | i + 2 => simp at hx

theorem cMapElem_spec {e : TypeId} {n : Option Nat} {z : List D} (h : cMapElem P e = some (n, z)) : n ≠ some 1 ∧ z.length = n.getD 1 ∧ ∃ i v, P.info? e = some i ∧ i.zero = some v ∧ ∀ (w : World) (ι : List AM.K),
    ((∃ x v', z = [x] ∧ v = v' ∧ RD w (Safe w ι) x v') ∨ (∃ vs : Array Value, v = .agg vs ∧ (vs.size = z.length ∧ z.length ≠ 1) ∧ ∀ (j : Nat) x y, z[j]? = some x → vs[j]? = some y → RD w (Safe w ι) x y)) := by
  unfold cMapElem at h
  split at h
  · rename_i i hi
    split at h
    · rename_i vs z' h1 h2
      split at h
      · cases h
      · rename_i h3
        cases h
        obtain ⟨i', v, h4, h5, h6, h7⟩ := zeroDs_spec h2
        rw [hi] at h4; cases h4
        rw [h1] at h5; cases h5
        simp only [Value.cells] at h6 h7
        exact ⟨by simpa using h3, by simpa using h6, i, .agg vs, hi, h1, fun w ι => .inr ⟨vs, rfl, ⟨h6.symm, by omega⟩, h7 w ι⟩⟩
    · rename_i v z' h1 h0 h2
      cases h
      obtain ⟨i', v', h4, h5, h6, h7⟩ := zeroDs_spec h2
      rw [hi] at h4; cases h4
      have hna := h0
      rw [hna] at h5; cases h5
      have hc : v.cells = #[v] := by
        cases v <;> first | rfl | exact absurd rfl (h1 _)
      rw [hc] at h6 h7
      obtain ⟨x, rfl⟩ := List.length_eq_one_iff.1 (show z.length = 1 by simpa using h6)
      exact ⟨by simp, by simp, i, v, hi, hna, fun w ι => .inl ⟨x, v, rfl, rfl, h7 w ι 0 x v rfl rfl⟩⟩
    · cases h
  · cases h

theorem res_mapGet {o : Oper} {t kt e : TypeId} {n : Option Nat} {z : List D} {ok : Bool} {x k : Operand} {x' k' : Opd} (ho : o.op = .lookup t x k ok) (h1 : P.underlying t = some (.map kt e)) (h2 : P.underlying kt = some (.int .i64)) (h3 : cMapElem P e = some (n, z))
    (hx : cOpd x = some x') (hk : cOpd k = some k') (hs : SimSt w ι st a) (h : c_ P st true K (.mapGet n z ok x' k')) : OpRes w ι st a K ((execOp a.eval o).run P w) := by
  obtain ⟨hn1, hz, inf, zv, hi, hzv, hzr⟩ := cMapElem_spec h3
  simp only [c_] at h
  split at h
  · rename_i r kk hxe hke
    obtain ⟨ok1, ok2, h⟩ := h
    have hv := val_ra hs hx ok1
    rw [hxe] at hv
    have hv := hv.c_inv
    have hw := val_ra hs hk ok2
    rw [hke] at hw
    have hkev := hw.int_inv.1
    split at h
    · rename_i m hg
      cases hpv : a.eval x with
      | map q =>
        rw [hpv] at hv
        cases hv with
        | @map r b hkb =>
          obtain ⟨hh, _⟩ := getOb_heap hg (by simp)
          obtain ⟨es, clock, hb, hsz, hnd, hent⟩ := hs.sim.obj _ _ _ hh hkb
          have hkeys : ∀ (i : Nat) k row e, m[i]? = some (k, row) → es[i]? = some e → e.key = .int .i64 k := fun i k row e a b => (hent i k row e a b).1
          have hfind := run_findKey_map (P := P) (w := w) h2 hsz hkeys kk
          cases hidx : mapIdx m kk with
          | none =>
            rw [hidx] at hfind
            have hr : (execOp a.eval o).run P w = .ok (.value (if ok then .tuple #[zv, .bool false] else zv)) w := by
              simp only [execOp, ho, hpv, hkev, Instr.lookup, Sem.run_bind, run_underlying h1, Result.andThen_ok, run_getObj_map _ _ _ _ hb, Sem.run_pure, run_checkKey_int h2, hfind, run_zeroValue hi hzv]
            rw [show V_ m kk = none by rw [mapRow_idx, hidx]; rfl] at h
            exact .pure hs hr h (mapVal_tup (mapVal_ra hz hn1 (hzr w ι) _))
          | some i =>
            rw [hidx] at hfind
            obtain ⟨row, hrow⟩ := mapIdx_some hidx
            have hil : i < es.size := by rw [hsz]; exact (List.getElem?_eq_some_iff.1 hrow).1
            have hes : es[i]? = some es[i] := Array.getElem?_eq_getElem hil
            have hr : (execOp a.eval o).run P w = .ok (.value (if ok then .tuple #[es[i].val, .bool true] else es[i].val)) w := by
              simp only [execOp, ho, hpv, hkev, Instr.lookup, Sem.run_bind, run_underlying h1, Result.andThen_ok, run_getObj_map _ _ _ _ hb, Sem.run_pure, run_checkKey_int h2, hfind, hes, Option.map_some]
            rw [show V_ m kk = some row by rw [mapRow_idx, hidx]; simp [hrow]] at h
            obtain ⟨h5, h6⟩ := h
            exact .pure hs hr h6 (mapVal_tup (mapVal_ra h5 hn1 (hent i kk row _ hrow hes).2.2 _))
      | _ => rw [hpv] at hv; cases hv
    · exact h.elim
  · exact h.elim

theorem mapCells_ra {x : A} {v : Value} {ds : List D} {n : Nat} (h : Z_ x = some ds) (hr : RA w ι n x v) (hv : ∀ cs, x ≠ .agg cs → True) :
    (∃ y v', ds = [y] ∧ v = v' ∧ RD w (Safe w ι) y v') ∨ (∃ vs : Array Value, v = .agg vs ∧ (vs.size = ds.length ∧ ds.length ≠ 1) ∧ ∀ (j : Nat) x y, ds[j]? = some x → vs[j]? = some y → RD w (Safe w ι) x y) := by
  cases x with
  | c c =>
    simp only [Z_, Option.map_eq_some_iff] at h
    obtain ⟨d, hd, rfl⟩ := h
    have h2 : O_ [c] = some [d] := by simp [O_, hd]
    exact .inl ⟨d, v, rfl, rfl, (toDs_spec h2).2 n w ι 0 c d v rfl rfl hr.c_inv⟩
  | agg cs =>
    simp only [Z_] at h
    split at h
    · cases h
    · rename_i hne
      obtain ⟨vs, rfl, hvs⟩ := hr.agg_inv
      obtain ⟨h1, h2⟩ := toDs_spec h
      refine .inr ⟨vs.toArray, rfl, ⟨by have := hvs.1; simp; omega, by omega⟩, fun j x y hx hy => ?_⟩
      have hj : j < cs.length := by rw [← h1]; exact (List.getElem?_eq_some_iff.1 hx).1
      exact h2 n w ι j cs[j] x y (List.getElem?_eq_getElem hj) hx (hvs.2 j _ y (List.getElem?_eq_getElem hj) (by simpa using hy))
  | _ => simp [Z_] at h

theorem mapPut_nodup : ∀ {m : List (Int × List D)} {x : Int} {r : List D}, (m.map (·.1)).Nodup → ((W_ m x r).map (·.1)).Nodup
  | [], x, r, _ => by simp [W_]
  | (k, q) :: l, x, r, h => by
    simp only [List.map_cons, List.nodup_cons] at h
    simp only [W_]
    split
    · simpa using h
    · rename_i hne
      simp only [List.map_cons, List.nodup_cons]
      refine ⟨fun hm => ?_, mapPut_nodup h.2⟩
      have hmem : ∀ (l : List (Int × List D)), k ∈ (W_ l x r).map (·.1) → k ∈ l.map (·.1) := by
        intro l
        induction l with
        | nil => intro hk; simp [W_] at hk; exact absurd hk hne
        | cons a l ih =>
          obtain ⟨k', q'⟩ := a
          simp only [W_]
          split
          · exact fun hk => by simpa using hk
          · intro hk
            rcases List.mem_cons.1 hk with h1 | h1
            · simp only at h1; subst h1; simp
            · exact List.mem_cons_of_mem _ (ih h1)
      exact h.1 (hmem l hm)

theorem sameBits_int (k : IntKind) (x : Int) : Instr.sameBits 10000 (.int k x) (.int k x) = true := by
  have h : ∀ n : Nat, Instr.sameBits n (.int k x) (.int k x) = true := fun n => by cases n <;> simp [Instr.sameBits]
  exact h 10000

theorem res_mapSet {o : Oper} {t kt e : TypeId} {x k v : Operand} {x' k' v' : Opd} (ho : o.op = .mapUpdate t x k v) (h1 : P.underlying t = some (.map kt e)) (h2 : P.underlying kt = some (.int .i64))
    (hx : cOpd x = some x') (hk : cOpd k = some k') (hv' : cOpd v = some v') (hs : SimSt w ι st a) (h : c_ P st true K (.mapSet x' k' v')) : OpRes w ι st a K ((execOp a.eval o).run P w) := by
  simp only [c_] at h
  split at h
  · rename_i r kk hxe hke
    obtain ⟨ok1, ok2, ok3, h⟩ := h
    have hv := val_ra hs hx ok1
    rw [hxe] at hv
    have hv := hv.c_inv
    have hw := val_ra hs hk ok2
    rw [hke] at hw
    have hkev := hw.int_inv.1
    split at h
    · rename_i m ds hg hds
      obtain ⟨hf, h⟩ := h
      have hval := mapCells_ra hds (val_ra hs hv' ok3) (fun _ _ => trivial)
      generalize hvv : a.eval v = vv at hval
      cases hpv : a.eval x with
      | map q =>
        rw [hpv] at hv
        cases hv with
        | @map r b hkb =>
          obtain ⟨hh, hre⟩ := getOb_heap hg (by simp)
          obtain ⟨es, clock, hb, hsz, hnd, hent⟩ := hs.sim.obj _ _ _ hh hkb
          have hkeys : ∀ (i : Nat) k row e, m[i]? = some (k, row) → es[i]? = some e → e.key = .int .i64 k := fun i k row e a b => (hent i k row e a b).1
          have hfind := run_findKey_map (P := P) (w := w) h2 hsz hkeys kk
          have hkr : inR .i64 kk := hw.int_inv.2
          have hlow : b < w.heap.size := hs.sim.low _ b (List.mem_of_getElem? hkb) rfl
          have hput : ∀ (o' : Obj) (c : Nat), c ≠ b → ({ w with heap := w.heap.setIfInBounds b o' } : World).heap[c]? = w.heap[c]? := fun o' c hc => by
            simp [Array.getElem?_setIfInBounds, Ne.symm hc]
          have hgot : ∀ (o' : Obj), ({ w with heap := w.heap.setIfInBounds b o' } : World).heap[b]? = some o' := fun o' => by
            simp [Array.getElem?_setIfInBounds, hlow]
          have hpl : ∀ q, (W_ m kk ds) = q → True := fun _ _ => trivial
          cases hidx : mapIdx m kk with
          | none =>
            rw [hidx] at hfind
            have hr : (execOp a.eval o).run P w = .ok .skip { w with heap := w.heap.setIfInBounds b (.map (es.push { key := .int .i64 kk, val := vv, born := clock }) (clock + 1)) } := by
              simp only [execOp, ho, hpv, hkev, hvv, Instr.mapUpdate, Sem.run_bind, run_underlying h1, Result.andThen_ok, run_getObj_map _ _ _ _ hb, run_checkKey_int h2, hfind, MapKept.run_setObj_map _ hb, Sem.run_pure]
            have hpe : W_ m kk ds = m ++ [(kk, ds)] := by rw [mapPut_idx, hidx]
            have hput' := hpe
            obtain ⟨hs', hx'⟩ := hs.setBlock (w' := { w with heap := w.heap.setIfInBounds b (.map (es.push { key := .int .i64 kk, val := vv, born := clock }) (clock + 1)) }) hkb (.inl rfl) hre rfl rfl rfl (by simp) (hput _) (o := .map (W_ m kk ds))
              (fun hx' => ⟨_, _, hgot _, by rw [hpe]; simp [hsz], mapPut_nodup hnd, fun i k row e hi he => by
                rw [hpe] at hi
                rcases Nat.lt_or_ge i m.length with hil | hil
                · rw [List.getElem?_append_left hil] at hi
                  rw [Array.getElem?_push, if_neg (by omega)] at he
                  obtain ⟨a1, a2, a3⟩ := hent i k row e hi he
                  refine ⟨a1, by omega, ?_⟩
                  rcases a3 with ⟨x, v, p, q, r⟩ | ⟨vs, p, q, r⟩
                  · exact .inl ⟨x, v, p, q, r.mono hx'.safe⟩
                  · exact .inr ⟨vs, p, q, fun j x y a b => (r j x y a b).mono hx'.safe⟩
                · rw [List.getElem?_append_right hil] at hi
                  have hi0 : i = m.length := by
                    have := (List.getElem?_eq_some_iff.1 hi).1
                    simp at this; omega
                  subst hi0
                  simp at hi
                  obtain ⟨rfl, rfl⟩ := hi
                  rw [Array.getElem?_push, if_pos (by omega)] at he
                  cases he
                  refine ⟨rfl, by simp, ?_⟩
                  rcases hval with ⟨x, v, p, q, r⟩ | ⟨vs, p, q, r⟩
                  · exact .inl ⟨x, v, p, q, r.mono hx'.safe⟩
                  · exact .inr ⟨vs, p, q, fun j x y a b => (r j x y a b).mono hx'.safe⟩⟩) hf
            refine ⟨undef, _, .u, _, ι, .inr ⟨hr, rfl⟩, h, hs', .u, hx', ?_⟩
            cases r <;> simp [B_]
          | some i0 =>
            rw [hidx] at hfind
            obtain ⟨row0, hrow0⟩ := mapIdx_some hidx
            have hil0 : i0 < es.size := by rw [hsz]; exact (List.getElem?_eq_some_iff.1 hrow0).1
            have hes : es[i0]? = some es[i0] := Array.getElem?_eq_getElem hil0
            have hk0 := hkeys i0 kk row0 _ hrow0 hes
            have hstay : (Instr.keyThatStays (.int .i64 kk) (.int .i64 kk)).run P w = .ok (.int .i64 kk) w := by
              simp only [Instr.keyThatStays, sameBits_int, if_true, Sem.run_pure]
            have hr : (execOp a.eval o).run P w = .ok .skip { w with heap := w.heap.setIfInBounds b (.map (es.modify i0 fun e => { e with key := .int .i64 kk, val := vv }) clock) } := by
              simp only [execOp, ho, hpv, hkev, hvv, Instr.mapUpdate, Sem.run_bind, run_underlying h1, Result.andThen_ok, run_getObj_map _ _ _ _ hb, run_checkKey_int h2, hfind, hes, Option.map_some, Option.getD_some, hk0, hstay, MapKept.run_setObj_map _ hb, Sem.run_pure]
            have hpe : W_ m kk ds = m.set i0 (kk, ds) := by rw [mapPut_idx, hidx]
            obtain ⟨hs', hx'⟩ := hs.setBlock (w' := { w with heap := w.heap.setIfInBounds b (.map (es.modify i0 fun e => { e with key := .int .i64 kk, val := vv }) clock) }) hkb (.inl rfl) hre rfl rfl rfl (by simp) (hput _) (o := .map (W_ m kk ds))
              (fun hx' => ⟨_, _, hgot _, by rw [hpe]; simp [hsz], mapPut_nodup hnd, fun i k row e hi he => by
                rw [hpe, List.getElem?_set] at hi
                rw [Array.getElem?_modify] at he
                by_cases hi0 : i0 = i
                · subst hi0
                  rw [if_pos rfl, if_pos (by rw [← hsz]; exact hil0)] at hi
                  rw [if_pos rfl, hes] at he
                  cases hi
                  simp only [Option.map_some, Option.some.injEq] at he
                  subst he
                  refine ⟨rfl, (hent i0 _ _ _ hrow0 hes).2.1, ?_⟩
                  rcases hval with ⟨x, v, p, q, r⟩ | ⟨vs, p, q, r⟩
                  · exact .inl ⟨x, v, p, q, r.mono hx'.safe⟩
                  · exact .inr ⟨vs, p, q, fun j x y a b => (r j x y a b).mono hx'.safe⟩
                · rw [if_neg hi0] at hi he
                  obtain ⟨a1, a2, a3⟩ := hent i k row e hi he
                  refine ⟨a1, a2, ?_⟩
                  rcases a3 with ⟨x, v, p, q, r⟩ | ⟨vs, p, q, r⟩
                  · exact .inl ⟨x, v, p, q, r.mono hx'.safe⟩
                  · exact .inr ⟨vs, p, q, fun j x y a b => (r j x y a b).mono hx'.safe⟩⟩) hf
            refine ⟨undef, _, .u, _, ι, .inr ⟨hr, rfl⟩, h, hs', .u, hx', ?_⟩
            cases r <;> simp [B_]
      | _ => rw [hpv] at hv; cases hv
    · exact h.elim
  · exact h.elim
end ops
end Go.AM

/-
  The abstract machine: a part of an own row of one-cell elements is cleared.
  Conditions: none.
-/
namespace Go.AM
set_option linter.unusedVariables false
set_option linter.unusedSimpArgs false
section ops
variable {P : Program} {w : World} {ι : List K} {st : St} {a : Act} {K : A → St → Prop}

theorem res_clear {o : Oper} {t e : TypeId} {z : List D} {x : Operand} {x' : Opd} {c : Call} (ho : o.op = .call c) (hc1 : c.callee = .builtin .clear) (hc2 : c.args.toList = [x]) (hc3 : c.argTypes.toList = [t])
    (ht : P.underlying t = some (.slice e)) (hz : cMapElem P e = some (none, z)) (hx : cOpd x = some x') (hs : SimSt w ι st a) (h : c_ P st true K (.clear z x')) : OpRes w ι st a K ((execOp a.eval o).run P w) := by
  have ea : c.args = #[x] := by rw [← Array.toArray_toList (xs := c.args), hc2]
  have et : c.argTypes = #[t] := by rw [← Array.toArray_toList (xs := c.argTypes), hc3]
  obtain ⟨_, hzl, inf, zv, hi, hzero, hspec⟩ := cMapElem_spec hz
  simp only [c_, StoreK] at h
  split at h
  · rename_i cc hcc
    obtain ⟨h1, h2⟩ := h
    split at h2
    · rename_i st' hst
      obtain ⟨hf, h2⟩ := h2
      have hv := val_ra hs hx h1
      rw [hcc] at hv
      have hv := hv.c_inv
      cases cc with
      | psl r lo n sz =>
        simp only [a0_] at hst
        split at hst
        · rename_i rs hg
          split at hst
          · rename_i hcond
            obtain ⟨hn0, rfl, hz1⟩ := hcond
            cases hst
            generalize hpv : a.eval x = pv at hv
            cases hv with
            | @psl _ _ _ b _ len off cap hk hlo hcap hoff =>
              have hoff := (hoff hn0).symm
              rw [Nat.mul_one] at hoff
              subst hoff
              obtain ⟨hh, hr⟩ := getOb_heap hg (by simp)
              obtain ⟨vs, el, h5, h6, ⟨h6', h6''⟩, h7⟩ := hs.sim.obj _ _ _ hh hk
              obtain ⟨d, rfl⟩ := List.length_eq_one_iff.1 hz1
              have hcells : zv.cells = #[zv] ∧ ∀ (w : World) (ι : List AM.K), RD w (Safe w ι) d zv := by
                have one : ∀ (w : World) (ι : List AM.K), RD w (Safe w ι) d zv := fun w ι => by
                  rcases hspec w ι with ⟨x1, v1, e1, rfl, e2⟩ | ⟨_, _, ⟨_, e2⟩, _⟩
                  · cases e1; exact e2
                  · simp at e2
                refine ⟨?_, one⟩
                have hone := (one w ι).oneCell
                cases zv <;> first | rfl | (simp [Value.oneCell'] at hone)
              have hone : zv.oneCell' = true := (hcells.2 w ι).oneCell
              rw [Nat.mul_one] at h6
              have hst' := run_storeCells_at P b lo el (List.replicate n zv) 0 vs w h5 (by simp; omega) (fun v hv => by rw [List.eq_of_mem_replicate hv]; exact hone)
              simp only [Nat.add_zero, List.length_replicate] at hst'
              obtain ⟨X, hX⟩ : ∃ X, X = (vs.toList.take lo ++ List.replicate n zv ++ vs.toList.drop (lo + n)).toArray := ⟨_, rfl⟩
              rw [← hX] at hst'
              have hrun : (execOp a.eval o).run P w = .ok (.value (.tuple #[])) (w.setRow b X) := by
                have hzc : (Builtin.zeroCells zv.cells n).toList = List.replicate n zv := by
                  rw [hcells.1]
                  simp [Builtin.zeroCells]
                  apply List.ext_getElem
                  · simp
                  · intro i h1 h2
                    simp [Nat.mod_one]
                obtain ⟨m, rfl⟩ : ∃ m, n = m + 1 := ⟨n - 1, by omega⟩
                rw [run_call_builtin ho hc1, ea, et]
                simp [builtin, hpv, Builtin.clear_, run_underlying ht, run_zeroValue hi hzero, hzc, hst']
              have hget : ∀ j, X[j]? = if j < lo then vs[j]? else if j < lo + n then some zv else vs[j]? := fun j => by
                rw [hX, List.getElem?_toArray]
                have hsp := spliceV_get vs.toList lo (List.replicate n zv) (by simp; omega) j
                simp only [List.length_replicate] at hsp
                rw [hsp]
                by_cases e1 : j < lo
                · simp [e1]
                · by_cases e2 : j < lo + n
                  · simp only [e1, e2, ↓reduceIte]
                    rw [List.getElem?_replicate, if_pos (by omega)]
                  · simp [e1, e2]
              have hXs : X.size = vs.size := by rw [hX]; simp; omega
              have hrg : ∀ (i : Nat), (rs.take lo ++ (List.replicate n [d] ++ rs.drop (lo + n)))[i]? = if i < lo then rs[i]? else if i < lo + n then some [d] else rs[i]? := fun i => by
                by_cases e1 : i < lo
                · simp only [e1, ↓reduceIte]
                  rw [List.getElem?_append_left (by simp; omega), List.getElem?_take, if_pos e1]
                · rw [List.getElem?_append_right (by simp; omega)]
                  have hl : (rs.take lo).length = lo := by simp; omega
                  rw [hl]
                  by_cases e2 : i < lo + n
                  · simp only [e1, e2, ↓reduceIte]
                    rw [List.getElem?_append_left (by simp; omega), List.getElem?_replicate, if_pos (by omega)]
                  · simp only [e1, e2, ↓reduceIte]
                    rw [List.getElem?_append_right (by simp; omega), List.getElem?_drop]
                    congr 1
                    simp; omega
              obtain ⟨hs', hx'⟩ := hs.setBlock (w' := w.setRow b X) hk (.inr ⟨1, len, rfl⟩) hr rfl rfl rfl (by simp) (fun c hc => setRow_other w b c _ hc) (o := .rows (rs.take lo ++ (List.replicate n [d] ++ rs.drop (lo + n))))
                (fun hx' => ⟨_, el, setRow_heap w b vs _ el (0, 0) h5, by rw [hXs]; simp; omega, ⟨by simp; omega, by simp; omega⟩, fun i r hi => by
                  rw [hrg] at hi
                  by_cases e1 : i < lo
                  · simp only [e1, ↓reduceIte] at hi
                    obtain ⟨p1, p2⟩ := h7 i r hi
                    refine ⟨p1, fun j x hj => ?_⟩
                    obtain ⟨y, p, q⟩ := p2 j x hj
                    have hj1 : j < 1 := by rw [← p1]; exact (List.getElem?_eq_some_iff.1 hj).1
                    exact ⟨y, by rw [hget, if_pos (by omega)]; exact p, q.mono hx'.safe⟩
                  · by_cases e2 : i < lo + n
                    · simp only [e1, e2, ↓reduceIte] at hi
                      cases hi
                      refine ⟨rfl, fun j x hj => ?_⟩
                      have hj0 : j = 0 := by have := (List.getElem?_eq_some_iff.1 hj).1; simpa using this
                      subst hj0
                      simp at hj
                      subst hj
                      exact ⟨zv, by rw [hget, if_neg (by omega), if_pos (by omega)], (hcells.2 _ _)⟩
                    · simp only [e1, e2, ↓reduceIte] at hi
                      obtain ⟨p1, p2⟩ := h7 i r hi
                      refine ⟨p1, fun j x hj => ?_⟩
                      obtain ⟨y, p, q⟩ := p2 j x hj
                      have hj1 : j < 1 := by rw [← p1]; exact (List.getElem?_eq_some_iff.1 hj).1
                      exact ⟨y, by rw [hget, if_neg (by omega), if_neg (by omega)]; exact p, q.mono hx'.safe⟩⟩) hf
              refine ⟨_, _, .u, _, ι, .inl hrun, h2, hs', .u, hx', ?_⟩
              cases r <;> simp [B_]
          · cases hst
        · cases hst
      | _ => simp [a0_] at hst
    · exact h2.elim
  · exact h.elim

end ops
end Go.AM

/-
  The abstract machine: append of zeros onto an own array.
  Conditions: none.
-/
namespace Go.AM
set_option linter.unusedVariables false
set_option linter.unusedSimpArgs false

theorem rep_get {α : Type} {l : List α} {z r : α} {a b i : Nat} (hab : a ≤ b) (h : (l ++ List.replicate a z)[i]? = some r) : (l ++ List.replicate b z)[i]? = some r := by
  rcases Nat.lt_or_ge i l.length with h1 | h1
  · rw [List.getElem?_append_left h1] at h ⊢; exact h
  · rw [List.getElem?_append_right h1, List.getElem?_replicate] at h ⊢
    split at h
    · rw [if_pos (by omega)]; exact h
    · cases h

/-- append of zeros where there is room -/
theorem run_append_room_zeros {P : Program} (w : World) (t tn ty e : TypeId) (i : TypeInfo) (z : Value) (kq kn : IntKind) (ht : P.underlying t = some (.slice e)) (htn : P.underlying tn = some (.int kn)) (hi : P.info? e = some i) (hz : i.zero = some z) (hzs : z.cells.size = i.size)
    (hone : ∀ v ∈ (Builtin.zeroCells z.cells 1).toList, v.oneCell' = true) (b n cap : Nat) (vs : Array Value) (el : TypeId) (hb : w.heap[b]? = some (.cells vs el (0, 0))) (k : Nat) (hroom : n + k ≤ cap) (hfit : (n + k) * i.size ≤ vs.size) (h63 : (k : Int) ≤ 9223372036854775807)
    (h48 : k * i.bytes ≤ 281474976710656) (h1 : ∀ v ∈ (Builtin.zeroCells z.cells k).toList, v.oneCell' = true) :
    (Builtin.append_ #[t, tn] ty #[.slice (some ⟨b, 0, none⟩) n cap, .int kq k]).run P w =
      .ok (.slice (some ⟨b, 0, none⟩) (n + k) cap) (w.setRow b (vs.toList.take (n * i.size) ++ (Builtin.zeroCells z.cells k).toList ++ vs.toList.drop (n * i.size + (Builtin.zeroCells z.cells k).toList.length)).toArray) := by
  have hw : IntKind.i64.wrap (k : Int) = k := by rw [IntKind.wrap_i64]; omega
  have h48i : ¬ (281474976710656 < (k : Int) * (i.bytes : Int)) := by
    rw [← Int.natCast_mul]
    omega
  have hneg : ¬ ((k : Int) < 0) := by omega
  have hzl : (Builtin.zeroCells z.cells k).toList.length = k * i.size := by simp [Builtin.zeroCells, hzs]
  have hst := run_storeCells_at P b (n * i.size) el (Builtin.zeroCells z.cells k).toList 0 vs w hb (by rw [hzl]; rw [Nat.add_mul] at hfit; omega) h1
  simp only [Nat.add_zero] at hst
  by_cases h0 : k * i.size = 0
  · have he : Builtin.zeroCells z.cells k = #[] := by
      apply Array.ext'
      have : (Builtin.zeroCells z.cells k).toList.length = 0 := by rw [hzl]; exact h0
      simpa using List.length_eq_zero_iff.1 this
    rw [he] at hst ⊢
    simp [Builtin.append_, run_underlying ht, run_underlying htn, sizeOf, typeInfo, zeroValue, hi, hz, asInt, asIntOf, hw, hneg, h48i, hroom, h0, addr_add]
    have hst2 : (storeCells ⟨b, n * i.size, none⟩ []).run P w = .ok () (w.setRow b vs) := by simpa using hst
    simp [hst2]
  · simp [Builtin.append_, run_underlying ht, run_underlying htn, sizeOf, typeInfo, zeroValue, hi, hz, asInt, asIntOf, hw, hneg, h48i, hroom, h0, addr_add, hst]
section ops
variable {P : Program} {w : World} {ι : List K} {st : St} {a : Act} {K : A → St → Prop}
/-- cells of zeros are rows of zeros -/
theorem zeros_rel {e : TypeId} {z : List D} {i : TypeInfo} (hi : P.info? e = some i) (hz : (zeroCs P e).bind O_ = some z) (hzl : z.length = i.size) (h0 : 0 < i.size) :
    ∃ v, i.zero = some v ∧ v.cells.size = i.size ∧ ∀ (w : World) (ι : List AM.K) (k : Nat), RowsRel w (Safe w ι) (Builtin.zeroCells v.cells k) (List.replicate k z) i.size := by
  obtain ⟨i', v, h1, h2, h3, h4⟩ := zeroDs_spec hz
  rw [hi] at h1
  cases h1
  have hs : v.cells.size = i.size := by omega
  refine ⟨v, h2, hs, fun w ι k => ?_⟩
  have h := RowsRel.zero (w := w) (S := Safe w ι) (len := k) (zv := v.cells) hzl h0 hs (fun j d u hj hu => h4 w ι j d u hj hu)
  unfold Builtin.zeroCells
  rw [hs]
  rw [hs] at h
  exact h
theorem rel_one {S : Nat → Nat → Prop} {vs : Array Value} {rows : List (List D)} {n : Nat} (h : RowsRel w S vs rows n) (hn : 0 < n) : ∀ v ∈ vs.toList, v.oneCell' = true := by
  intro v hv
  obtain ⟨p, hp⟩ := List.mem_iff_getElem?.1 hv
  have hlt : p < rows.length * n := by rw [← h.1]; simpa using (List.getElem?_eq_some_iff.1 hp).1
  have hi : p / n < rows.length := Nat.div_lt_of_lt_mul (by rw [Nat.mul_comm]; exact hlt)
  obtain ⟨h1, h2⟩ := h.2 (p / n) rows[p / n] (List.getElem?_eq_getElem hi)
  have hj : p % n < n := Nat.mod_lt _ hn
  obtain ⟨y, q, r⟩ := h2 (p % n) (rows[p / n])[p % n] (List.getElem?_eq_getElem (by omega))
  have e : p / n * n + p % n = p := by rw [Nat.mul_comm]; exact Nat.div_add_mod p n
  rw [e] at q
  rw [← Array.getElem?_toList, hp] at q
  cases q
  exact r.oneCell
theorem res_appendP {o : Oper} {t u e : TypeId} {i : TypeInfo} {z : List D} {s x : Operand} {s' x' : Opd} {c : Call} (ho : o.op = .call c) (hc1 : c.callee = .builtin .append) (hc2 : c.args.toList = [s, x]) (hc3 : c.argTypes.toList = [t, u])
    (ht : P.underlying t = some (.slice e)) (hi : P.info? e = some i) (hzd : (zeroCs P e).bind O_ = some z) (hsz : z.length = i.size) (h0 : 0 < i.size) (hby : i.bytes ≤ 4096)
    (hu : ∃ e', P.underlying u = some (.slice e')) (hs1 : cOpd s = some s') (hx1 : cOpd x = some x')
    (hs : SimSt w ι st a) (h : c_ P st true K (.appendP z s' x')) : OpRes w ι st a K ((execOp a.eval o).run P w) := by
  have ea : c.args = #[s, x] := by rw [← Array.toArray_toList (xs := c.args), hc2]
  have et : c.argTypes = #[t, u] := by rw [← Array.toArray_toList (xs := c.argTypes), hc3]
  obtain ⟨zv, hz, hzs, hrel⟩ := zeros_rel hi hzd hsz h0
  simp only [c_] at h
  split at h
  · rename_i xc hse hxe
    split at h
    · rename_i xs hxs
      obtain ⟨k1, k2, hallx, hm, hK1, hK2⟩ := h
      have hsv0 := val_ra hs hs1 k1
      have hxv0 := val_ra hs hx1 k2
      rw [hse] at hsv0
      rw [hxe] at hxv0
      have hsv := hsv0.c_inv
      have hxv := hxv0.c_inv
      clear hsv0 hxv0
      rw [hsz] at hallx hK2
      obtain ⟨e', hu⟩ := hu
      obtain ⟨zs, hsrc, hzr⟩ := src_of (P := P) (str := false) hxv hxs hallx h0 (.inl ⟨e', hu, rfl⟩)
      have fin : ∀ r w', (Builtin.append_ #[t, u] o.type #[a.eval s, a.eval x]).run P w = .ok r w' → (execOp a.eval o).run P w = .ok (.value r) w' := fun r w' hr => by
        rw [run_call_builtin ho hc1, ea, et]
        simp only [builtin, List.map_toArray, List.map_cons, List.map_nil, Sem.run_bind, hr, Result.andThen_ok, Sem.run_pure]
      generalize hvs : a.eval s = sv at hsv fin
      cases hsv with
      | @full _ ad len hrd =>
      have hlen : len = ([] : List (List D)).length := by obtain ⟨_, _, h⟩ := hrd.sl_inv; cases h; rfl
      subst hlen
      by_cases hn : xs.length = 0
      · have hxn : xs = [] := List.length_eq_zero_iff.1 hn
        subst hxn
        have hnw : zs = [] := by have := hsrc.newsLen; simpa using this
        subst hnw
        have hr := run_append_nothing (P := P) w t u o.type e i ht hi ad 0 0 (Nat.le_refl _) (a.eval x) hsrc
        exact ⟨_, w, _, _, _, .inl (fin _ w hr), hK1 rfl, hs, .c (.full hrd), .refl _ _, rfl⟩
      · unfold maxApp at hm
        have hg : 0 < 0 + xs.length := by omega
        have hfit : Builtin.nextslicecap (0 + xs.length) 0 * i.bytes ≤ 281474976710656 := by
          have h6 := nextslicecap_le_wide hg
          have h7 : Builtin.nextslicecap (0 + xs.length) 0 * i.bytes ≤ (2 * 2 ^ 32) * 4096 := Nat.mul_le_mul (by omega) hby
          omega
        have hold : (Builtin.firstCells i.size 0 (.slice ad 0 0)).run P w.drew = .ok ([] : List Value).toArray w.drew := by
          cases ad with
          | none => exact run_firstCells_none w.drew i.size 0 0 0
          | some b => exact run_firstCells_some w.drew i.size 0 b 0 0 [] (by simp) (fun j u hj => by simp at hj)
        have hrun := run_append_grow_src (P := P) w t u o.type e i zv ht hi hz ad 0 0 [] hold (a.eval x) xs.length zs hsrc hg (by omega) hfit
        have hge := grownCap_ge w (0 + xs.length) 0 e
        generalize grownCap w (0 + xs.length) 0 e = gc at hrun hge
        simp only [Nat.zero_add, List.nil_append] at hrun hge
        obtain ⟨ws, hws⟩ : ∃ ws, ws = zs.toArray ++ Builtin.zeroCells zv.cells (gc - xs.length) := ⟨_, rfl⟩
        rw [← hws] at hrun
        have hwl : ws.size = gc * i.size := by
          have hzc : (Builtin.zeroCells zv.cells (gc - xs.length)).size = (gc - xs.length) * i.size := by simp [Builtin.zeroCells, hzs]
          rw [hws, Array.size_append, hzc]
          simp only [List.size_toArray, hsrc.newsLen]
          rw [← Nat.add_mul]
          congr 1
          omega
        have hrows : ∀ (w' : World) (ι' : List AM.K), (∀ b o, Safe w ι b o → Safe w' ι' b o ∧ w'.cell? ⟨b, o, none⟩ = w.cell? ⟨b, o, none⟩) → ∀ (i' : Nat) (r : List D), (xs ++ List.replicate (gc - xs.length) z)[i']? = some r → r.length = i.size ∧ ∀ (j : Nat) (x : D), r[j]? = some x → ∃ y, ws[i' * i.size + j]? = some y ∧ RD w' (Safe w' ι') x y := by
          intro w' ι' hsafe i' r hi'
          have h2 := (hrel w ι (gc - xs.length))
          obtain ⟨q1, q2⟩ := rows_append (w := w) (ι := ι) (ys := zs) (zs := (Builtin.zeroCells zv.cells (gc - xs.length)).toList) (rest := []) hsrc.newsLen hzr (by simpa using h2.1) (fun i r hi => by
            obtain ⟨a1, a2⟩ := h2.2 i r hi
            exact ⟨a1, fun j x hj => by obtain ⟨y, p, q⟩ := a2 j x hj; exact ⟨y, by simpa using p, q⟩⟩) i' r hi'
          refine ⟨q1, fun j x hj => ?_⟩
          obtain ⟨y, p, q⟩ := q2 j x hj
          refine ⟨y, ?_, q.mono hsafe⟩
          rw [hws, ← Array.getElem?_toList]
          simpa using p
        obtain ⟨g, hgd⟩ : ∃ g, g = min (gc - xs.length) (2 ^ 40) := ⟨_, rfl⟩
        have hx0 : Ext w ι (w.drew.alloc (.cells ws e)) ι := .of_blocks rfl rfl rfl (by simp) (fun b hb => heap_alloc_lt w.drew _ hb)
        have hk : ∀ b, (AM.K.rows w.heap.size i.size (xs.length + g)).at b → w.heap.size ≤ b ∧ b < (w.drew.alloc (.cells ws e)).heap.size := fun b hb => by
          have : b = w.heap.size := hb
          subst this; simp
        have hx := hx0.push (k := .rows w.heap.size i.size (xs.length + g)) (fun b hb => (hk b hb).1)
        have hsl : (xs.length + g) * i.size ≤ ws.size := by rw [hwl]; exact Nat.mul_le_mul_right _ (by omega)
        have hp := hs.push (k := .rows w.heap.size i.size (xs.length + g)) (o := .rows (xs ++ List.replicate g z)) hx0 (fun b hb => heap_alloc_lt w.drew _ hb) hk
          ⟨_, e, heap_alloc_new w.drew _, by simpa using hsl, ⟨by unfold maxRows; simp; omega, by simp⟩, fun i' r hir => hrows _ _ hx.safe i' r (rep_get (by omega) hir)⟩
        refine ⟨_, _, _, _, _, .inl (fin _ _ hrun), hK2 (fun e => hn (by rw [e]; rfl)) g (by unfold maxRows; omega), hp, .c ?_, hx, rfl⟩
        exact .csl (hs.newIdx _) hge (by omega) (by omega)
    · exact h.elim
  · exact h.elim
theorem res_appendZ {o : Oper} {t u e : TypeId} {kn : IntKind} {i : TypeInfo} {z : List D} {s x : Operand} {s' x' : Opd} {c : Call} (ho : o.op = .call c) (hc1 : c.callee = .builtin .append) (hc2 : c.args.toList = [s, x]) (hc3 : c.argTypes.toList = [t, u])
    (ht : P.underlying t = some (.slice e)) (hu : P.underlying u = some (.int kn)) (hi : P.info? e = some i) (hzd : (zeroCs P e).bind O_ = some z) (hsz : z.length = i.size) (h0 : 0 < i.size) (hby : i.bytes ≤ 4096)
    (hs1 : cOpd s = some s') (hx1 : cOpd x = some x')
    (hs : SimSt w ι st a) (h : c_ P st true K (.appendZ z s' x')) : OpRes w ι st a K ((execOp a.eval o).run P w) := by
  have ea : c.args = #[s, x] := by rw [← Array.toArray_toList (xs := c.args), hc2]
  have et : c.argTypes = #[t, u] := by rw [← Array.toArray_toList (xs := c.argTypes), hc3]
  obtain ⟨zv, hz, hzs, hrel⟩ := zeros_rel hi hzd hsz h0
  simp only [c_] at h
  split at h
  · rename_i li n sz kq k hse hxe
    split at h
    · rename_i rs hrs
      obtain ⟨k1, k2, ⟨hsz2, hk0, hm, hrz⟩, hK1, hK2⟩ := h
      have hsv0 := val_ra hs hs1 k1
      have hxv0 := val_ra hs hx1 k2
      rw [hse] at hsv0
      rw [hxe] at hxv0
      have hsv := hsv0.c_inv
      have hxv := hxv0.int_inv.1
      obtain ⟨k, rfl⟩ := Int.eq_ofNat_of_zero_le hk0
      simp only [Int.ofNat_eq_natCast, Int.toNat_natCast] at hm hK1 hK2 hxv
      have hszi : sz = i.size := by omega
      subst hszi
      have fin : ∀ r w', (Builtin.append_ #[t, u] o.type #[a.eval s, a.eval x]).run P w = .ok r w' → (execOp a.eval o).run P w = .ok (.value r) w' := fun r w' hr => by
        rw [run_call_builtin ho hc1, ea, et]
        simp only [builtin, List.map_toArray, List.map_cons, List.map_nil, Sem.run_bind, hr, Result.andThen_ok, Sem.run_pure]
      rw [hxv] at fin
      generalize hvs : a.eval s = sv at hsv fin
      cases hsv with
      | @csl _ _ b _ len cap hk hmc hml hcl =>
      have hgo : z_ st (.l li) = .rows rs := hrs
      obtain ⟨hh, hr⟩ := getOb_heap hgo (by simp)
      obtain ⟨vs, el, h5, h6, ⟨h6', h6''⟩, h7⟩ := hs.sim.obj _ _ _ hh hk
      unfold maxApp at hm
      have hzk := hrel w ι k
      have honek := rel_one hzk h0
      have h48 : k * i.bytes ≤ 281474976710656 := by
        have : k * i.bytes ≤ 2 ^ 32 * 4096 := Nat.mul_le_mul (by omega) hby
        omega
      by_cases hroom : n + k ≤ cap
      · have hnl : n + k ≤ rs.length := by omega
        have hfit : (n + k) * i.size ≤ vs.size := Nat.le_trans (Nat.mul_le_mul_right _ hnl) h6
        have hrun := run_append_room_zeros (P := P) w t u o.type e i zv kq kn ht hu hi hz hzs (rel_one (hrel w ι 1) h0) b n cap vs el h5 k hroom hfit (by omega) h48 honek
        obtain ⟨X, hX⟩ : ∃ X, X = (vs.toList.take (n * i.size) ++ (Builtin.zeroCells zv.cells k).toList ++ vs.toList.drop (n * i.size + (Builtin.zeroCells zv.cells k).toList.length)).toArray := ⟨_, rfl⟩
        rw [← hX] at hrun
        have hzl : (Builtin.zeroCells zv.cells k).toList.length = k * i.size := by simpa using hzk.1
        have hnk : n * i.size + k * i.size ≤ vs.size := by rw [← Nat.add_mul]; exact hfit
        have hget : ∀ j, X[j]? = if j < n * i.size then vs[j]? else if j < n * i.size + k * i.size then (Builtin.zeroCells zv.cells k)[j - n * i.size]? else vs[j]? := fun j => by
          rw [hX, List.getElem?_toArray]
          have hsp := spliceV_get vs.toList (n * i.size) (Builtin.zeroCells zv.cells k).toList (by rw [hzl]; simpa using hnk) j
          rw [hzl] at hsp
          rw [hzl, hsp]
          simp
        have hXs : X.size = vs.size := by rw [hX]; simp only [List.size_toArray, List.length_append, List.length_take, List.length_drop, hzl, Array.length_toList]; omega
        obtain ⟨hs', hx'⟩ := hs.setBlock (w' := w.setRow b X) hk (.inr ⟨i.size, len, rfl⟩) (by simp) rfl rfl rfl (by simp) (fun c hc => setRow_other w b c _ hc) (o := .rows rs)
          (fun hx' => ⟨_, el, setRow_heap w b vs _ el (0, 0) h5, by rw [hXs]; exact h6, ⟨h6', h6''⟩, fun i' r hi' => by
            obtain ⟨p1, p2⟩ := h7 i' r hi'
            refine ⟨p1, fun j x hj => ?_⟩
            have hj1 : j < i.size := by rw [← p1]; exact (List.getElem?_eq_some_iff.1 hj).1
            by_cases e1 : i' < n
            · obtain ⟨y, p, q⟩ := p2 j x hj
              have e5 : (i' + 1) * i.size ≤ n * i.size := Nat.mul_le_mul_right _ e1
              rw [Nat.add_mul] at e5
              exact ⟨y, by rw [hget, if_pos (by omega)]; exact p, q.mono hx'.safe⟩
            · have e6 : n * i.size ≤ i' * i.size := Nat.mul_le_mul_right _ (by omega)
              by_cases e2 : i' < n + k
              · have e5 : (i' + 1) * i.size ≤ (n + k) * i.size := Nat.mul_le_mul_right _ e2
                rw [Nat.add_mul, Nat.add_mul] at e5
                have hrz' : r = z := by
                  rw [hrz, List.getElem?_append_right (by simp; omega), List.getElem?_replicate] at hi'
                  split at hi'
                  · exact (Option.some.inj hi').symm
                  · cases hi'
                subst hrz'
                obtain ⟨_, q2⟩ := hzk.2 (i' - n) r (by rw [List.getElem?_replicate, if_pos (by omega)])
                obtain ⟨y, p, q⟩ := q2 j x hj
                refine ⟨y, ?_, q.mono hx'.safe⟩
                rw [hget, if_neg (by omega), if_pos (by omega), ← p]
                congr 1
                have : (i' - n) * i.size + n * i.size = i' * i.size := by rw [← Nat.add_mul]; congr 1; omega
                omega
              · obtain ⟨y, p, q⟩ := p2 j x hj
                have e5 : (n + k) * i.size ≤ i' * i.size := Nat.mul_le_mul_right _ (by omega)
                rw [Nat.add_mul] at e5
                exact ⟨y, by rw [hget, if_neg (by omega), if_neg (by omega)]; exact p, q.mono hx'.safe⟩⟩) (by simpa [B_] using hs.fit)
        have hst : B_ st (.l li) (.rows rs) = st := by
          obtain ⟨sl, ext, loc⟩ := st
          simp only [B_, St.mk.injEq, true_and]
          have hrs : loc[li]?.getD .dead = .rows rs := hrs
          refine List.ext_getElem? fun j => ?_
          by_cases hj : j = li
          · subst hj
            cases hl : loc[j]? with
            | none => rw [hl] at hrs; cases hrs
            | some o => rw [hl] at hrs; simp only [Option.getD_some] at hrs; rw [List.getElem?_set_self (List.getElem?_eq_some_iff.1 hl).1, hrs]
          · rw [List.getElem?_set_ne (fun h => hj h.symm)]
        rw [hst] at hs'
        exact ⟨_, _, _, _, ι, .inl (fin _ _ hrun), hK1 hnl, hs', .c (.csl hk hroom (by omega) hcl), hx', rfl⟩
      · have hg : cap < n + k := by omega
        have hk1 : 0 < k := by omega
        have hfit : Builtin.nextslicecap (n + k) cap * i.bytes ≤ 281474976710656 := by
          have h6 := nextslicecap_le_wide hg
          have h7 : Builtin.nextslicecap (n + k) cap * i.bytes ≤ (2 * 2 ^ 32) * 4096 := Nat.mul_le_mul (by omega) hby
          omega
        have hnv : n * i.size ≤ vs.size := Nat.le_trans (Nat.mul_le_mul_right _ (by omega)) h6
        obtain ⟨ys, hys⟩ : ∃ ys, ys = vs.toList.take (n * i.size) := ⟨_, rfl⟩
        have hyl : ys.length = n * i.size := by rw [hys]; simp; omega
        have hyg : ∀ j, j < n * i.size → ys[j]? = vs[j]? := fun j hj => by rw [hys, List.getElem?_take, if_pos hj]; simp
        have hold : (Builtin.firstCells i.size n (.slice (some ⟨b, 0, none⟩) n cap)).run P w.drew = .ok ys.toArray w.drew :=
          run_firstCells_some w.drew i.size n ⟨b, 0, none⟩ n cap ys hyl (fun j u hj => by
            have hjl : j < n * i.size := by rw [← hyl]; exact (List.getElem?_eq_some_iff.1 hj).1
            rw [hyg j hjl] at hj
            rw [addr_add]
            show w.cell? _ = _
            simp [World.cell?, h5, hj])
        have hrun := Go.Lib.run_append_grow_zeros (P := P) w t u o.type e i zv kq kn ht hu hi hz (some ⟨b, 0, none⟩) n cap ys hold k hk1 h0 hg (by omega) h48 hfit
        have hge := grownCap_ge w (n + k) cap e
        generalize grownCap w (n + k) cap e = gc at hrun hge
        obtain ⟨ws, hws⟩ : ∃ ws, ws = ys.toArray ++ Builtin.zeroCells zv.cells k ++ Builtin.zeroCells zv.cells (gc - (n + k)) := ⟨_, rfl⟩
        rw [← hws] at hrun
        have hzl : ∀ q, (Builtin.zeroCells zv.cells q).size = q * i.size := fun q => by simpa using (hrel w ι q).1
        have hwl : ws.size = gc * i.size := by
          rw [hws, Array.size_append, Array.size_append, hzl, hzl]
          simp only [List.size_toArray, hyl]
          rw [← Nat.add_mul, ← Nat.add_mul]
          congr 1
          omega
        have hyr : ∀ (i' : Nat) (r : List D), (rs.take n)[i']? = some r → r.length = i.size ∧ ∀ (j : Nat) (x : D), r[j]? = some x → ∃ y, ys[i' * i.size + j]? = some y ∧ RD w (Safe w ι) x y := fun i' r hi' => by
          rw [List.getElem?_take] at hi'
          split at hi'
          · rename_i hin
            obtain ⟨p1, p2⟩ := h7 i' r hi'
            refine ⟨p1, fun j x hj => ?_⟩
            have hj1 : j < i.size := by rw [← p1]; exact (List.getElem?_eq_some_iff.1 hj).1
            have e5 : (i' + 1) * i.size ≤ n * i.size := Nat.mul_le_mul_right _ hin
            rw [Nat.add_mul] at e5
            obtain ⟨y, p, q⟩ := p2 j x hj
            exact ⟨y, by rw [hyg _ (by omega)]; exact p, q⟩
          · cases hi'
        have hzr : ∀ (q i' : Nat) (r : List D), (List.replicate q z)[i']? = some r → r.length = i.size ∧ ∀ (j : Nat) (x : D), r[j]? = some x → ∃ y, (Builtin.zeroCells zv.cells q).toList[i' * i.size + j]? = some y ∧ RD w (Safe w ι) x y := fun q i' r hi' => by
          obtain ⟨a1, a2⟩ := (hrel w ι q).2 i' r hi'
          exact ⟨a1, fun j x hj => by obtain ⟨y, p, q⟩ := a2 j x hj; exact ⟨y, by simpa using p, q⟩⟩
        have htl : (rs.take n).length = n := by simp; omega
        have hrows1 := rows_append (w := w) (ι := ι) (ys := ys) (zs := (Builtin.zeroCells zv.cells k).toList) (rest := []) (rows := rs.take n) (xs := List.replicate k z) (sz := i.size) (by rw [htl]; exact hyl) hyr (by simp [hzl]) (hzr k)
        have hrows2 := rows_append (w := w) (ι := ι) (ys := ys ++ (Builtin.zeroCells zv.cells k).toList ++ []) (zs := (Builtin.zeroCells zv.cells (gc - (n + k))).toList) (rest := []) (rows := rs.take n ++ List.replicate k z) (xs := List.replicate (gc - (n + k)) z) (sz := i.size)
          (by simp only [List.length_append, htl, hyl, List.length_replicate, Array.length_toList, hzl, List.length_nil]; rw [Nat.add_mul]; omega) hrows1 (by simp [hzl]) (hzr _)
        rw [List.append_assoc (rs.take n), List.replicate_append_replicate] at hrows2
        obtain ⟨g, hgd⟩ : ∃ g, g = min (gc - (n + k)) (2 ^ 40) := ⟨_, rfl⟩
        have hx0 : Ext w ι (w.drew.alloc (.cells ws e)) ι := .of_blocks rfl rfl rfl (by simp) (fun b hb => heap_alloc_lt w.drew _ hb)
        have hkk : ∀ b, (AM.K.rows w.heap.size i.size (n + k + g)).at b → w.heap.size ≤ b ∧ b < (w.drew.alloc (.cells ws e)).heap.size := fun b hb => by
          have : b = w.heap.size := hb
          subst this; simp
        have hx := hx0.push (k := .rows w.heap.size i.size (n + k + g)) (fun b hb => (hkk b hb).1)
        have hsl : (n + k + g) * i.size ≤ ws.size := by rw [hwl]; exact Nat.mul_le_mul_right _ (by omega)
        have hll : (rs.take n ++ List.replicate (k + g) z).length = n + k + g := by simp only [List.length_append, htl, List.length_replicate]; omega
        have hp := hs.push (k := .rows w.heap.size i.size (n + k + g)) (o := .rows (rs.take n ++ List.replicate (k + g) z)) hx0 (fun b hb => heap_alloc_lt w.drew _ hb) hkk
          ⟨_, e, heap_alloc_new w.drew _, by rw [hll]; exact hsl, ⟨by rw [hll]; unfold maxRows; omega, hll⟩, fun i' r hir => by
            obtain ⟨q1, q2⟩ := hrows2 i' r (rep_get (by omega) hir)
            refine ⟨q1, fun j x hj => ?_⟩
            obtain ⟨y, p, q⟩ := q2 j x hj
            refine ⟨y, ?_, q.mono hx.safe⟩
            rw [hws, ← Array.getElem?_toList]
            simpa using p⟩
        exact ⟨_, _, _, _, _, .inl (fin _ _ hrun), hK2 g (by unfold maxRows; omega), hp, .c (.csl (hs.newIdx _) hge (by omega) (by omega)), hx, rfl⟩
    · exact h.elim
  · exact h.elim
/-- the cells of an own row -/
theorem src_own {r : Ref} {n sz : Nat} {rs : List (List D)} {v : Value} {u e' : TypeId} (hs : SimSt w ι st a) (hx : RC w ι st.ext.length (.fsl r n sz) v) (hg : z_ st r = .rows rs) (hn : rs.length = n) (hu : P.underlying u = some (.slice e')) (h0 : 0 < sz) :
    ∃ ys : List Value, Src P sz u v rs.length ys w ∧ ∀ (i : Nat) (r : List D), rs[i]? = some r → r.length = sz ∧ ∀ (j : Nat) (x : D), r[j]? = some x → ∃ y, ys[i * sz + j]? = some y ∧ RD w (Safe w ι) x y := by
  cases hx with
  | @fsl _ _ b _ cap hk hcap =>
  obtain ⟨hh, hr⟩ := getOb_heap hg (by simp)
  obtain ⟨vs, el, h5, h6, ⟨h6', h6''⟩, h7⟩ := hs.sim.obj _ _ _ hh hk
  obtain ⟨ys, hys⟩ : ∃ ys, ys = vs.toList.take (rs.length * sz) := ⟨_, rfl⟩
  have hyl : ys.length = rs.length * sz := by rw [hys]; simp; omega
  have hyg : ∀ j, j < rs.length * sz → ys[j]? = vs[j]? := fun j hj => by rw [hys, List.getElem?_take, if_pos hj]; simp
  have hrow : ∀ (i : Nat) (r : List D), rs[i]? = some r → r.length = sz ∧ ∀ (j : Nat) (x : D), r[j]? = some x → ∃ y, ys[i * sz + j]? = some y ∧ RD w (Safe w ι) x y := fun i r hi => by
    obtain ⟨p1, p2⟩ := h7 i r hi
    refine ⟨p1, fun j x hj => ?_⟩
    have hj1 : j < sz := by rw [← p1]; exact (List.getElem?_eq_some_iff.1 hj).1
    have hil := (List.getElem?_eq_some_iff.1 hi).1
    have e5 : (i + 1) * sz ≤ rs.length * sz := Nat.mul_le_mul_right _ hil
    rw [Nat.add_mul] at e5
    obtain ⟨y, p, q⟩ := p2 j x hj
    exact ⟨y, by rw [hyg _ (by omega)]; exact p, q⟩
  refine ⟨ys, ?_, hrow⟩
  have hsrc := Src.ofSlice (P := P) w hu ⟨b, 0, none⟩ rs.length cap ys hyl (fun j u hj => by
    have hjl : j < rs.length * sz := by rw [← hyl]; exact (List.getElem?_eq_some_iff.1 hj).1
    rw [hyg j hjl] at hj
    rw [addr_add]
    simp [World.cell?, h5, hj]) (fun v hv => by
    obtain ⟨p, hp⟩ := List.mem_iff_getElem?.1 hv
    have hlt : p < rs.length * sz := by rw [← hyl]; exact (List.getElem?_eq_some_iff.1 hp).1
    have hi : p / sz < rs.length := Nat.div_lt_of_lt_mul (by rw [Nat.mul_comm]; exact hlt)
    obtain ⟨h1, h2⟩ := hrow (p / sz) rs[p / sz] (List.getElem?_eq_getElem hi)
    have hj : p % sz < sz := Nat.mod_lt _ h0
    obtain ⟨y, q, r⟩ := h2 (p % sz) (rs[p / sz])[p % sz] (List.getElem?_eq_getElem (by omega))
    have e : p / sz * sz + p % sz = p := by rw [Nat.mul_comm]; exact Nat.div_add_mod p sz
    rw [e, hp] at q
    cases q
    exact r.oneCell)
  rw [← hn]
  exact hsrc
theorem res_appendO {o : Oper} {t u e : TypeId} {i : TypeInfo} {z : Value} {sz : Nat} {s x : Operand} {s' x' : Opd} {c : Call} (ho : o.op = .call c) (hc1 : c.callee = .builtin .append) (hc2 : c.args.toList = [s, x]) (hc3 : c.argTypes.toList = [t, u])
    (ht : P.underlying t = some (.slice e)) (hi : P.info? e = some i) (hz : i.zero = some z) (hzs : z.cells.size = i.size) (hsz : i.size = sz) (h0 : 0 < sz) (hby : i.bytes ≤ 4096)
    (hu : ∃ e', P.underlying u = some (.slice e')) (hs1 : cOpd s = some s') (hx1 : cOpd x = some x')
    (hs : SimSt w ι st a) (h : c_ P st true K (.appendO sz s' x')) : OpRes w ι st a K ((execOp a.eval o).run P w) := by
  have ea : c.args = #[s, x] := by rw [← Array.toArray_toList (xs := c.args), hc2]
  have et : c.argTypes = #[t, u] := by rw [← Array.toArray_toList (xs := c.argTypes), hc3]
  simp only [c_] at h
  split at h
  · rename_i r n sz' hse hxe
    split at h
    · rename_i xs hxs
      obtain ⟨k1, k2, ⟨rfl, hln, hm⟩, hK1, hK2⟩ := h
      have hsv0 := val_ra hs hs1 k1
      have hxv0 := val_ra hs hx1 k2
      rw [hse] at hsv0
      rw [hxe] at hxv0
      have hsv := hsv0.c_inv
      have hxv := hxv0.c_inv
      clear hsv0 hxv0
      obtain ⟨e', hu⟩ := hu
      obtain ⟨zs, hsrc, hzr⟩ := src_own (P := P) hs hxv hxs hln hu h0
      have fin : ∀ r w', (Builtin.append_ #[t, u] o.type #[a.eval s, a.eval x]).run P w = .ok r w' → (execOp a.eval o).run P w = .ok (.value r) w' := fun r w' hr => by
        rw [run_call_builtin ho hc1, ea, et]
        simp only [builtin, List.map_toArray, List.map_cons, List.map_nil, Sem.run_bind, hr, Result.andThen_ok, Sem.run_pure]
      generalize hvs : a.eval s = sv at hsv fin
      cases hsv with
      | @full _ ad len hrd =>
      have hlen : len = ([] : List (List D)).length := by obtain ⟨_, _, h⟩ := hrd.sl_inv; cases h; rfl
      subst hlen
      by_cases hn : xs.length = 0
      · have hxn : xs = [] := List.length_eq_zero_iff.1 hn
        subst hxn
        have hnw : zs = [] := by have := hsrc.newsLen; simpa using this
        subst hnw
        have hr := run_append_nothing (P := P) w t u o.type e i ht hi ad 0 0 (Nat.le_refl _) (a.eval x) (by rw [hsz]; exact hsrc)
        exact ⟨_, w, _, _, _, .inl (fin _ w hr), hK1 rfl, hs, .c (.full hrd), .refl _ _, rfl⟩
      · obtain ⟨ys, rest, gc, hr, hyl, hyr, hge, hlen⟩ := append_grows (P := P) (ty := o.type) ht hi hz hzs hsz h0 hby hrd (allLen_nil sz') hsrc (by simp; omega) (by simp; omega)
        have hys : ys = [] := by simpa using hyl
        subst hys
        simp only [List.length_nil, Nat.zero_add, List.nil_append] at hr hge hlen
        have hx0 : Ext w ι (w.drew.alloc (.cells (zs ++ rest).toArray e)) ι := .of_blocks rfl rfl rfl (by simp) (fun b hb => heap_alloc_lt w.drew _ hb)
        have hk : ∀ b, (AM.K.rows w.heap.size sz' xs.length).at b → w.heap.size ≤ b ∧ b < (w.drew.alloc (.cells (zs ++ rest).toArray e)).heap.size := fun b hb => by
          have : b = w.heap.size := hb
          subst this; simp
        have hx := hx0.push (k := .rows w.heap.size sz' xs.length) (fun b hb => (hk b hb).1)
        have hsl : xs.length * sz' ≤ (zs ++ rest).length := by rw [hlen]; exact Nat.mul_le_mul_right _ hge
        have hp := hs.push (k := .rows w.heap.size sz' xs.length) (o := .rows xs) hx0 (fun b hb => heap_alloc_lt w.drew _ hb) hk
          ⟨_, e, heap_alloc_new w.drew _, by simpa using hsl, ⟨by unfold maxApp at hm; unfold maxRows; omega, rfl⟩, fun i r hir => by
            obtain ⟨h1, h2⟩ := hzr i r hir
            refine ⟨h1, fun j x hj => ?_⟩
            obtain ⟨y, p, q⟩ := h2 j x hj
            refine ⟨y, ?_, q.mono hx.safe⟩
            have hlt := (List.getElem?_eq_some_iff.1 p).1
            simp only [List.getElem?_toArray]
            rw [List.getElem?_append_left hlt]
            exact p⟩
        exact ⟨_, _, _, _, _, .inl (fin _ _ hr), hK2 (fun e => hn (by rw [e]; rfl)), hp, .c (.fsl (hs.newIdx _) hge), hx, rfl⟩
    · exact h.elim
  · exact h.elim
end ops
end Go.AM
