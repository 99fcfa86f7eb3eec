/-
  The abstract machine: what each operation does in a world, told by its abstract operation.
  Conditions: none.
-/
import Derived.Test.YtaegeehpajlebaaAbsD
namespace Go.AM
set_option linter.unusedVariables false
set_option linter.unusedSimpArgs false

theorem addr_add (b off j : Nat) : Addr.add ⟨b, off, none⟩ j = ⟨b, off + j, none⟩ := by unfold Addr.add; split <;> simp_all

/-! ### constants and operands -/

theorem constC_ra {w : World} {ι : List K} {n : Nat} {v : Value} {c : C} (h : constC v = some c) : RC w ι n c v := by
  unfold constC at h
  split at h
  · cases h; exact .d (.bool _)
  · split at h
    · cases h; rename_i hr; exact .d (.int _ _ hr)
    · cases h
  · split at h
    · cases h; rename_i hr; exact .d (.str _ hr)
    · cases h
  · cases h; exact .full (.nil _)
  · cases h; exact .d (.v _ rfl)
  · cases h; exact .d (.v _ rfl)
  · cases h; exact .d (.v _ rfl)
  · cases h; exact .d (.v _ rfl)
  · cases h

theorem constCs_ra {w : World} {ι : List K} {n : Nat} : ∀ {vs : List Value} {cs : List C}, constCs vs = some cs → RCs w ι n cs vs
  | [], cs, h => by
    simp [constCs] at h
    subst h
    exact ⟨rfl, fun i c v h => by simp at h⟩
  | v :: l, cs, h => by
    simp only [constCs] at h
    split at h
    · rename_i c r h1 h2
      cases h
      have ih := constCs_ra (w := w) (ι := ι) (n := n) h2
      refine ⟨by simp [ih.1], fun i c' v' hc hv => ?_⟩
      cases i with
      | zero => simp at hc hv; subst hc; subst hv; exact constC_ra h1
      | succ i => simp at hc hv; exact ih.2 i c' v' hc hv
    · cases h

theorem constA_ra {w : World} {ι : List K} {n : Nat} {v : Value} {x : A} (h : constA v = some x) : RA w ι n x v := by
  unfold constA at h
  split at h
  · rename_i cs
    simp only [Option.map_eq_some_iff] at h
    obtain ⟨cs', h1, rfl⟩ := h
    have := RA.agg (constCs_ra (w := w) (ι := ι) (n := n) h1)
    simpa using this
  · rename_i vs
    split at h
    · rename_i he
      cases h
      have e : vs = (#[] : Array Value) := by
        have : vs.toList = [] := by simpa using he
        exact Array.toList_eq_nil_iff.1 this
      subst e
      exact RA.tup (vs := []) rfl (fun i a v h => by simp at h)
    · cases h
  · simp only [Option.map_eq_some_iff] at h
    obtain ⟨c, h1, rfl⟩ := h
    exact .c (constC_ra h1)

theorem opd_ra {w : World} {ι : List K} {st : St} {a : Act} (hs : SimSt w ι st a) {o : Operand} {y : Opd} (h : cOpd o = some y) : RA w ι st.ext.length (y.ev st.sl) (a.eval o) := by
  cases o with
  | tmp t => simp [cOpd] at h; subst h; exact hs.eval t
  | const v =>
    simp only [cOpd, Option.map_eq_some_iff] at h
    obtain ⟨x, h1, rfl⟩ := h
    exact constA_ra h1
  | global g => simp [cOpd] at h
  | func f =>
    simp [cOpd] at h
    subst h
    exact .c (RC.fn (vs := []) rfl (fun i r o h => by simp at h))

theorem val_ra {w : World} {ι : List K} {st : St} {a : Act} (hs : SimSt w ι st a) {o : Operand} {y : Opd} (h : cOpd o = some y) (hok : (y.ev st.sl).ok true) :
    RA w ι st.ext.length (y.ev st.sl).val (a.eval o) := (opd_ra hs h).val hok

theorem cOpds_len {l : List Operand} {ys : List Opd} (h : cOpds l = some ys) : ys.length = l.length := by
  induction l generalizing ys with
  | nil => simp [cOpds] at h; subst h; rfl
  | cons x l ih =>
    simp only [cOpds] at h
    split at h
    · rename_i y r h1 h2; cases h; simp [ih h2]
    · cases h

theorem cOpds_ra {w : World} {ι : List K} {st : St} {a : Act} (hs : SimSt w ι st a) {l : List Operand} {ys : List Opd} (h : cOpds l = some ys) (hok : oks true st.sl ys) :
    ∀ (i : Nat) x v, (evs st.sl ys)[i]? = some x → (l.map a.eval)[i]? = some v → RA w ι st.ext.length x v := by
  induction l generalizing ys with
  | nil => simp [cOpds] at h; subst h; intro i x v hx; simp [evs] at hx
  | cons o l ih =>
    simp only [cOpds] at h
    split at h
    · rename_i y r h1 h2
      cases h
      simp only [oks] at hok
      intro i x v hx hv
      cases i with
      | zero => simp [evs] at hx hv; subst hx; subst hv; exact val_ra hs h1 hok.1
      | succ i => simp [evs] at hx hv; exact ih h2 hok.2 i x v hx (by simpa using hv)
    · cases h

theorem evs_len (s : List A) (ys : List Opd) : (evs s ys).length = ys.length := by
  induction ys with
  | nil => rfl
  | cons y l ih => simp [evs, ih]

/-! ### what an operation gives -/

def OpRes (w : World) (ι : List K) (st : St) (a : Act) (K : A → St → Prop) (r : Result Next) : Prop :=
  ∃ v w' x st' ι', (r = .ok (.value v) w' ∨ (r = .ok .skip w' ∧ v = undef)) ∧ K x st' ∧ SimSt w' ι' st' a ∧ RA w' ι' st.ext.length x v ∧ Ext w ι w' ι' ∧ st'.ext.length = st.ext.length

section ops
variable {P : Program} {w : World} {ι : List K} {st : St} {a : Act} {K : A → St → Prop}

theorem OpRes.pure {r : Result Next} {v : Value} {x : A} (hs : SimSt w ι st a) (hr : r = .ok (.value v) w) (hK : K x st) (hx : RA w ι st.ext.length x v) : OpRes w ι st a K r :=
  ⟨v, w, x, st, ι, .inl hr, hK, hs, hx, .refl _ _, rfl⟩

theorem RA.c_inv {n : Nat} {c : C} {v : Value} (h : RA w ι n (.c c) v) : RC w ι n c v := by cases h with | c h => exact h
theorem RA.agg_inv {n : Nat} {cs : List C} {v : Value} (h : RA w ι n (.agg cs) v) : ∃ vs : List Value, v = .agg vs.toArray ∧ RCs w ι n cs vs := by
  cases h with | agg h => exact ⟨_, rfl, h⟩
theorem RA.int_inv {n : Nat} {k : IntKind} {z : Int} {v : Value} (h : RA w ι n (.c (.d (.int k z))) v) : v = .int k z ∧ inR k z := by
  cases h with | c h => cases h with | d h => cases h; exact ⟨rfl, by assumption⟩
theorem RA.bool_inv {n : Nat} {b : Bool} {v : Value} (h : RA w ι n (.c (.d (.bool b))) v) : v = .bool b := by
  cases h with | c h => cases h with | d h => cases h; rfl
theorem RA.str_inv {n : Nat} {s : List UInt8} {v : Value} (h : RA w ι n (.c (.d (.str s))) v) : ∃ t : ByteArray, v = .string t ∧ t.data.toList = s ∧ s.length ≤ maxStr := by
  cases h with | c h => cases h with | d h => cases h; exact ⟨_, rfl, rfl, by assumption⟩
theorem RA.mkInt {n : Nat} {k : IntKind} {z : Int} (h : inR k z) : RA w ι n (.c (.d (.int k z))) (.int k z) := .c (.d (.int k z h))
theorem RA.mkBool {n : Nat} (b : Bool) : RA w ι n (.c (.d (.bool b))) (.bool b) := .c (.d (.bool b))
theorem RA.mkStr {n : Nat} {t : ByteArray} {s : List UInt8} (h : t.data.toList = s) (hl : s.length ≤ maxStr) : RA w ι n (.c (.d (.str s))) (.string t) := by
  subst h; exact .c (.d (.str t hl))

/-- a value's cells -/
theorem RA.cells_inv {n : Nat} {x : A} {cs : List C} {v : Value} (h : RA w ι n x v) (hc : x.cells = some cs) : RCs w ι n cs v.cells.toList := by
  cases x with
  | u => simp [A.cells] at hc
  | c y =>
    simp [A.cells] at hc
    subst hc
    have hy := h.c_inv
    have : v.cells.toList = [v] := by cases v <;> first | rfl | (have := hy.oneCell; simp [Value.oneCell'] at this)
    rw [this]
    refine ⟨rfl, fun i c u h1 h2 => ?_⟩
    cases i with
    | zero => simp at h1 h2; subst h1; subst h2; exact hy
    | succ i => simp at h1
  | agg l =>
    simp [A.cells] at hc
    subst hc
    obtain ⟨vs, rfl, h1⟩ := h.agg_inv
    simpa [Value.cells] using h1
  | tup l => simp [A.cells] at hc
  | gd g y => simp [A.cells] at hc

theorem RCs.oneCell {n : Nat} {cs : List C} {vs : List Value} (h : RCs w ι n cs vs) : ∀ v ∈ vs, v.oneCell' = true := by
  intro v hv
  obtain ⟨i, hi⟩ := List.mem_iff_getElem?.1 hv
  have hlt : i < cs.length := by have := (List.getElem?_eq_some_iff.1 hi).1; rw [h.1] at this; exact this
  exact (h.2 i cs[i] v (List.getElem?_eq_getElem hlt) hi).oneCell

/-! moves -/
theorem res_mv {o : Oper} {x : Operand} {y : Opd} (ho : o.op = .move x ∨ o.op = .assign x) (hx : cOpd x = some y) (hs : SimSt w ι st a) (h : awOp P st true K (.mv y)) :
    OpRes w ι st a K ((execOp a.eval o).run P w) := by
  simp only [awOp, QCallK, RowK, ByteK, B2SK, OptK, StoreK] at h
  refine .pure hs (v := a.eval x) ?_ h.2 (val_ra hs hx h.1)
  rcases ho with ho | ho <;> simp [execOp, ho]

theorem pickA_ra {n : Nat} {t : Bool} {x y : A} {u v : Value} (hx : t = true → RA w ι n x u) (hy : t = false → RA w ι n y v) : RA w ι n (pickA t x y) (if t then u else v) := by
  have gen : RA w ι n (cond t x y) (if t then u else v) := by
    cases t with
    | true => exact hx rfl
    | false => exact hy rfl
  unfold pickA
  split
  · cases t with
    | true => exact hx rfl
    | false => exact hy rfl
  · exact gen

theorem res_pick {o : Oper} {c x y : Operand} {c' x' y' : Opd} (ho : o.op = .pick c x y) (hc : cOpd c = some c') (hx : cOpd x = some x') (hy : cOpd y = some y') (hs : SimSt w ι st a) (h : awOp P st true K (.pick c' x' y')) :
    OpRes w ι st a K ((execOp a.eval o).run P w) := by
  simp only [awOp, QCallK, RowK, ByteK, B2SK, OptK, StoreK] at h
  split at h
  · rename_i t ht
    obtain ⟨h1, h2, h3, h4⟩ := h
    have hcv := val_ra hs hc h1
    have hb : (c'.ev st.sl).val = .c (.d (.bool t)) := by
      unfold getB at ht; split at ht
      · cases ht; assumption
      · cases ht
    rw [hb] at hcv
    have hcv := hcv.bool_inv
    refine .pure hs (v := if t then a.eval x else a.eval y) ?_ h4 ?_
    · simp only [execOp, ho, hcv, asBool, Sem.run_bind, Sem.run_pure, Result.andThen_ok]
    · exact pickA_ra (fun e => val_ra hs hx (by simpa [e] using h2)) (fun e => val_ra hs hy (by simpa [e] using h3))
  · exact absurd h.1 (by simp)

end ops
end Go.AM
