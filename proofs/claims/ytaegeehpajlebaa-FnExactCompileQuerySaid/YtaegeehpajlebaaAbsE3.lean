/-
  The abstract machine: plain operations.
  Conditions: none.
-/
import Derived.Test.YtaegeehpajlebaaAbsE2
import Derived.Laws.StructEq
namespace Go.AM
set_option linter.unusedVariables false
set_option linter.unusedSimpArgs false
section ops
variable {P : Program} {w : World} {ι : List K} {st : St} {a : Act} {K : A → St → Prop}

theorem wrap_inR {k : IntKind} {n : Int} (h : inR k n) : k.wrap n = n := by
  unfold inR at h
  cases k <;> simp [IntKind.min, IntKind.max, IntKind.signed, IntKind.bits] at h <;> simp [IntKind.wrap, IntKind.signed, IntKind.bits] <;> omega

theorem inR_wrap (k : IntKind) (n : Int) : inR k (k.wrap n) := by
  unfold inR
  cases k <;> simp [IntKind.min, IntKind.max, IntKind.signed, IntKind.bits] <;> simp [IntKind.wrap, IntKind.signed, IntKind.bits] <;> omega

theorem tmod_inR {k : IntKind} {x y : Int} (h : inR k x) : inR k (x.tmod y) := by
  unfold inR at *
  have h3 : k.min ≤ 0 := by cases k <;> simp [IntKind.min, IntKind.signed, IntKind.bits]
  have h4 : 0 ≤ k.max := by cases k <;> simp [IntKind.max, IntKind.signed, IntKind.bits]
  have h5 : (x.tmod y).natAbs = x.natAbs % y.natAbs := Int.natAbs_tmod x y
  have h6 : x.natAbs % y.natAbs ≤ x.natAbs := Nat.mod_le _ _
  rcases Int.le_total 0 x with hx | hx
  · have := Int.tmod_nonneg (a := x) y hx; omega
  · have := Int.tmod_nonneg (a := -x) y (by omega)
    rw [Int.neg_tmod] at this; omega

theorem fdiv_inR {k : IntKind} {x : Int} {m : Nat} (h : inR k x) : inR k (x.fdiv (2 ^ m)) := by
  unfold inR at *
  have hp : (0 : Int) < 2 ^ m := Int.pow_pos (by omega)
  have h3 : k.min ≤ 0 := by cases k <;> simp [IntKind.min, IntKind.signed, IntKind.bits]
  have h4 : 0 ≤ k.max := by cases k <;> simp [IntKind.max, IntKind.signed, IntKind.bits]
  rw [Int.fdiv_eq_ediv_of_nonneg _ (Int.le_of_lt hp)]
  rcases Int.le_total 0 x with hx | hx
  · have a1 := Int.ediv_nonneg hx (Int.le_of_lt hp)
    have a2 := Int.ediv_le_self (2 ^ m : Int) hx
    omega
  · have h1 : x / 2 ^ m ≤ 0 := by
      have := Int.ediv_le_ediv hp hx
      simpa using this
    have h2 : x ≤ x / 2 ^ m := by
      have := Int.le_ediv_of_mul_le hp (a := x) (b := x) (by
        have : x * 2 ^ m ≤ x * 1 := Int.mul_le_mul_of_nonpos_left hx (by omega)
        simpa using this)
      exact this
    omega

theorem binOp_int {S : Nat → Nat → Prop} (op : BinOp) (t : TypeId) (k : IntKind) (x y : Int) (hx : inR k x) (h : (binD op (.int k x) (.int k y)).1) :
    ∃ r, (binOp op t (.int k x) (.int k y)).run P w = .ok r w ∧ RD w S (binD op (.int k x) (.int k y)).2 r := by
  cases op <;> simp only [binD, isCmp, Bool.false_eq_true, and_false] at h
  case add => exact ⟨_, by simp [binOp, Op.intArith, wrap_inR h.2], .int _ _ h.2⟩
  case sub => exact ⟨_, by simp [binOp, Op.intArith, wrap_inR h.2], .int _ _ h.2⟩
  case mul => exact ⟨_, by simp [binOp, Op.intArith, wrap_inR h.2], .int _ _ h.2⟩
  case quo => exact ⟨_, by simp [binOp, Op.intDiv, h.2.1, wrap_inR h.2.2], .int _ _ h.2.2⟩
  case rem => exact ⟨_, by simp [binOp, Op.intDiv, h.2], .int _ _ (tmod_inR hx)⟩
  case and => exact ⟨.int k (bitsVal .and k x y), by simp only [binOp, ne_eq, not_true_eq_false, ↓reduceIte]; rfl, .int _ _ (inR_wrap _ _)⟩
  case or => exact ⟨.int k (bitsVal .or k x y), by simp only [binOp, ne_eq, not_true_eq_false, ↓reduceIte]; rfl, .int _ _ (inR_wrap _ _)⟩
  case xor => exact ⟨.int k (bitsVal .xor k x y), by simp only [binOp, ne_eq, not_true_eq_false, ↓reduceIte]; rfl, .int _ _ (inR_wrap _ _)⟩
  case andNot => exact ⟨.int k (bitsVal .andNot k x y), by simp only [binOp, ne_eq, not_true_eq_false, ↓reduceIte]; rfl, .int _ _ (inR_wrap _ _)⟩
  case shl => 
    obtain ⟨h1, h2, h3⟩ := h
    have e : min y.toNat k.bits = y.toNat := by omega
    exact ⟨_, by simp [binOp, Op.shift, show ¬ y < 0 by omega, e, wrap_inR h3], .int _ _ h3⟩
  case shr =>
    obtain ⟨h1, h2⟩ := h
    have e : min y.toNat k.bits = y.toNat := by omega
    exact ⟨_, by simp [binOp, Op.shift, show ¬ y < 0 by omega, e], .int _ _ (fdiv_inR hx)⟩
  all_goals exact ⟨_, by simp [binOp, Op.intCmp], .bool _⟩

theorem toList_eq (s : ByteArray) : s.toList = s.data.toList := ByteArray.toList_eq s

theorem str_append (s t : ByteArray) : (s ++ t).data.toList = s.data.toList ++ t.data.toList := by simp [ByteArray.data_append]

theorem binOp_str {S : Nat → Nat → Prop} (op : BinOp) (t : TypeId) (x y : ByteArray) (hx : x.data.toList.length ≤ maxStr) (h : (binD op (.str x.data.toList) (.str y.data.toList)).1) :
    ∃ r, (binOp op t (.string x) (.string y)).run P w = .ok r w ∧ RD w S (binD op (.str x.data.toList) (.str y.data.toList)).2 r := by
  have e1 : x.data.toList.length = x.size := rfl
  have e2 : y.data.toList.length = y.size := rfl
  cases op <;> simp only [binD] at h
  case add =>
    have : ¬ (IntKind.i64.max < ((x.size : Int) + (y.size : Int))) := by
      have e : IntKind.i64.max = 9223372036854775807 := by decide
      rw [e]; unfold maxStr at h; rw [e1, e2] at h; omega
    refine ⟨.string (x ++ y), by simp only [binOp, Op.stringOp, Int.natCast_add]; rw [if_neg (by simpa using this)]; rfl, ?_⟩
    simp only [binD]
    rw [← str_append]
    exact .str _ (by rw [str_append]; simpa using h)
  case eql => exact ⟨.bool (x.data.toList == y.data.toList), by simp only [binOp, Op.stringOp, toList_eq]; rfl, .bool _⟩
  case neq => exact ⟨.bool (x.data.toList != y.data.toList), by simp only [binOp, Op.stringOp, toList_eq]; rfl, .bool _⟩
  case lss => exact ⟨.bool (Op.bytesLess x.data.toList y.data.toList), by simp only [binOp, Op.stringOp, toList_eq]; rfl, .bool _⟩
  case leq => exact ⟨.bool (Op.bytesLess x.data.toList y.data.toList || x.data.toList == y.data.toList), by simp only [binOp, Op.stringOp, toList_eq]; rfl, .bool _⟩
  case gtr => exact ⟨.bool (!(Op.bytesLess x.data.toList y.data.toList || x.data.toList == y.data.toList)), by simp only [binOp, Op.stringOp, toList_eq]; rfl, .bool _⟩
  case geq => exact ⟨.bool (!Op.bytesLess x.data.toList y.data.toList), by simp only [binOp, Op.stringOp, toList_eq]; rfl, .bool _⟩

theorem eqGuard_scalar (op : BinOp) (t : TypeId) (x y : Operand) {u v : Value} (hu : u.oneCell' = true) (hv : u ≠ .nilIface) : (eqGuard op t x y u v).run P w = .ok () w := by
  cases op <;> simp [eqGuard] <;> (cases u <;> simp_all [Value.oneCell'])

theorem RD.bool_eq {S : Nat → Nat → Prop} {b : Bool} {v : Value} (h : RD w S (.bool b) v) : v = .bool b := by cases h; rfl

theorem RD.int_eq {S : Nat → Nat → Prop} {k : IntKind} {n : Int} {v : Value} (h : RD w S (.int k n) v) : v = .int k n ∧ inR k n := by cases h; exact ⟨rfl, by assumption⟩
theorem RD.str_eq {S : Nat → Nat → Prop} {s : List UInt8} {v : Value} (h : RD w S (.str s) v) : ∃ t : ByteArray, v = .string t ∧ t.data.toList = s ∧ s.length ≤ maxStr := by cases h; exact ⟨_, rfl, rfl, by assumption⟩

/-- the values of plain data, whatever the world -/
theorem binA_run {o : Oper} {op : BinOp} {t u : TypeId} {x y : Operand} {x' y' : Opd} (ho : o.op = .binOp op t x y u)
    (hx : cOpd x = some x') (hy : cOpd y = some y') (hs : SimSt w ι st a) (h1 : (x'.ev st.sl).ok true) (h2 : (y'.ev st.sl).ok true) (h3 : (binA op (x'.ev st.sl).val (y'.ev st.sl).val).1) :
    ∃ v, (execOp a.eval o).run P w = .ok (.value v) w ∧ RA w ι st.ext.length (binA op (x'.ev st.sl).val (y'.ev st.sl).val).2 v := by
  have hxv := val_ra hs hx h1
  have hyv := val_ra hs hy h2
  generalize hxe : (x'.ev st.sl).val = xa at *
  generalize hye : (y'.ev st.sl).val = ya at *
  cases xa <;> (try exact (show False from h3).elim)
  rename_i cx
  cases ya <;> (try exact (show False from h3).elim)
  rename_i cy
  cases cx <;> (try exact (show False from h3).elim)
  rename_i dx
  cases cy <;> (try exact (show False from h3).elim)
  rename_i dy
  have hxv := hxv.c_inv
  have hyv := hyv.c_inv
  cases hxv with
  | d hxv =>
  cases hyv with
  | d hyv =>
  have key : ∃ v, (do eqGuard op t x y (a.eval x) (a.eval y); binOp op t (a.eval x) (a.eval y) : Sem Value).run P w = .ok v w ∧ RD w (Safe w ι) (binD op dx dy).2 v := by
    cases dx with
    | int k p =>
      cases dy with
      | int k' q =>
        obtain ⟨e1, r1⟩ := hxv.int_eq
        obtain ⟨e2, r2⟩ := hyv.int_eq
        rw [e1, e2]
        have hk : (∃ r, (binOp op t (.int k p) (.int k' q)).run P w = .ok r w ∧ RD w (Safe w ι) (binD op (.int k p) (.int k' q)).2 r) := by
          by_cases hsh : op = .shl ∨ op = .shr
          · have h3' : (binD op (.int k p) (.int k q)).1 := by rcases hsh with rfl | rfl <;> exact h3
            obtain ⟨r, h4, h5⟩ := binOp_int (P := P) (w := w) (S := Safe w ι) op t k p q r1 h3'
            refine ⟨r, ?_, ?_⟩
            · rw [← h4]; rcases hsh with rfl | rfl <;> simp only [binOp, Op.shift]
            · rcases hsh with rfl | rfl <;> exact h5
          · have hkk : k = k' := by
              cases op <;> first | exact h3.1 | exact h3 | exact (hsh (.inl rfl)).elim | exact (hsh (.inr rfl)).elim
            subst hkk
            exact binOp_int (P := P) (w := w) (S := Safe w ι) op t k p q r1 h3
        obtain ⟨r, h4, h5⟩ := hk
        exact ⟨r, by simp [eqGuard_scalar op t x y (u := .int k p) rfl (by simp), h4], h5⟩
      | _ => exact (show False from h3).elim
    | str p' =>
      cases dy with
      | str q' =>
        obtain ⟨p, e1, rfl, l1⟩ := hxv.str_eq
        obtain ⟨q, e2, rfl, l2⟩ := hyv.str_eq
        rw [e1, e2]
        obtain ⟨r, h4, h5⟩ := binOp_str (P := P) (w := w) (S := Safe w ι) op t p q l1 h3
        exact ⟨r, by simp [eqGuard_scalar op t x y (u := .string p) rfl (by simp), h4], h5⟩
      | _ => exact (show False from h3).elim
    | _ => exact (show False from h3).elim
  obtain ⟨v, h4, h5⟩ := key
  refine ⟨v, ?_, .c (.d h5)⟩
  simp only [execOp, ho, Sem.run_bind, Sem.run_pure] at h4 ⊢
  rw [h4]; rfl

theorem res_bin {o : Oper} {op : BinOp} {t u : TypeId} {x y : Operand} {x' y' : Opd} (ho : o.op = .binOp op t x y u)
    (hx : cOpd x = some x') (hy : cOpd y = some y') (hs : SimSt w ι st a) (h : awOp P st true K (.bin op x' y')) : OpRes w ι st a K ((execOp a.eval o).run P w) := by
  unfold awOp at h
  obtain ⟨v, h1, h2⟩ := binA_run ho hx hy hs h.1 h.2.1 (h.2.2.1 rfl)
  exact .pure hs h1 h.2.2.2 h2

theorem res_binB {o : Oper} {op : BinOp} {neg : Bool} {t u : TypeId} {x y : Operand} {x' y' : Opd} (ho : o.op = .binOp op t x y u) (hop : op = if neg then .neq else .eql) (hu : P.underlying t = some .bool)
    (hx : cOpd x = some x') (hy : cOpd y = some y') (hs : SimSt w ι st a) (h : awOp P st true K (.binB neg x' y')) : OpRes w ι st a K ((execOp a.eval o).run P w) := by
  simp only [awOp, QCallK, RowK, ByteK, B2SK, OptK, StoreK] at h
  split at h
  · rename_i p q h1 h2
    obtain ⟨h3, h4, h5⟩ := h
    have hxv := val_ra hs hx h3
    have hyv := val_ra hs hy h4
    rw [h1] at hxv
    rw [h2] at hyv
    have e1 := hxv.bool_inv
    have e2 := hyv.bool_inv
    have eq := run_equalIn_bool' (P := P) w 9999 t p q hu
    refine .pure hs (v := .bool (neg ^^ (p == q))) ?_ h5 (.mkBool _)
    cases neg
    · simp only [Bool.false_eq_true, ↓reduceIte] at hop
      subst hop
      simp only [execOp, ho, e1, e2, binOp, Sem.run_bind, eqGuard_scalar .eql t x y (u := .bool p) rfl (by simp), Result.andThen_ok, Op.equal, Op.maxDepth, eq, Sem.run_pure, Bool.false_xor]
    · simp only [↓reduceIte] at hop
      subst hop
      simp only [execOp, ho, e1, e2, binOp, Sem.run_bind, eqGuard_scalar .neq t x y (u := .bool p) rfl (by simp), Result.andThen_ok, Op.equal, Op.maxDepth, eq, Sem.run_pure, Bool.true_xor]
  · exact absurd h.1 (by simp)

/-- a told slice of some rows is not nil -/
theorem rows_nilness {n : Nat} {c : C} {v : Value} {rows : List (List D)} (h : RC w ι n c v) (hr : c.rows? = some rows) : ∃ p l cp, v = .slice p l cp ∧ (rows ≠ [] → p.isNone = false) := by
  have key : ∀ {S : Nat → Nat → Prop} {rs : List (List D)} {v : Value}, RD w S (.sl rs) v → ∃ p l cp, v = .slice p l cp ∧ (rs ≠ [] → p.isNone = false) := fun {S rs v} hd => by
    cases hd with
    | nil a => exact ⟨_, _, _, rfl, fun h => absurd rfl h⟩
    | sl rs b off cap sz vs h1 h2 h3 h4 h5 => exact ⟨_, _, _, rfl, fun _ => rfl⟩
  cases h with
  | d h => rename_i x; cases x <;> simp [C.rows?] at hr; subst hr; exact key h
  | own h _ => simp [C.rows?] at hr; subst hr; exact key h
  | full h => simp [C.rows?] at hr; subst hr; exact key h
  | _ => simp [C.rows?] at hr

theorem res_isNil {o : Oper} {op : BinOp} {neg : Bool} {t u e : TypeId} {x y : Operand} {x' : Opd} (ho : o.op = .binOp op t x y u) (hop : op = if neg then .neq else .eql) (hu : P.underlying t = some (.pointer e))
    (hx : cOpd x = some x') (hy : cOpd y = some (.k (.c (.d (.v (.pointer none)))))) (hs : SimSt w ι st a) (h : awOp P st true K (.isNil neg x')) : OpRes w ι st a K ((execOp a.eval o).run P w) := by
  have hyv := opd_ra hs hy
  have hy0 : a.eval y = .pointer none := by
    have := hyv.c_inv
    generalize a.eval y = v at this
    cases this with | d h => cases h; rfl
  have heq : ∀ p : Option Addr, (Op.equal t (.pointer p) (.pointer none)).run P w = .ok p.isNone w := fun p => by
    have : ∀ d, (Op.equalIn (d + 1) t (.pointer p) (.pointer none)).run P w = .ok p.isNone w := fun d => by
      cases p <;> simp [Op.equalIn, run_underlying hu]
    exact this 9999
  have hrun : ∀ p : Option Addr, a.eval x = .pointer p → (execOp a.eval o).run P w = .ok (.value (.bool (neg ^^ p.isNone))) w := fun p hp => by
    cases neg
    · simp only [Bool.false_eq_true, ↓reduceIte] at hop
      subst hop
      simp only [execOp, ho, hp, hy0, binOp, Sem.run_bind, eqGuard_scalar .eql t x y (u := .pointer p) rfl (by simp), Result.andThen_ok, heq, Sem.run_pure, Bool.false_xor]
    · simp only [↓reduceIte] at hop
      subst hop
      simp only [execOp, ho, hp, hy0, binOp, Sem.run_bind, eqGuard_scalar .neq t x y (u := .pointer p) rfl (by simp), Result.andThen_ok, heq, Sem.run_pure, Bool.true_xor]
  simp only [awOp, QCallK, RowK, ByteK, B2SK, OptK, StoreK] at h
  split at h
  · rename_i r off h1
    have hxv := val_ra hs hx h.1
    rw [h1] at hxv
    have := hxv.c_inv
    generalize hg : a.eval x = v at this
    cases this with
    | ptr hk => exact .pure hs (hrun _ hg) (by simpa using h.2) (by simpa using RA.mkBool _)
  · rename_i h1
    have hxv := val_ra hs hx h.1
    rw [h1] at hxv
    have := hxv.c_inv
    generalize hg : a.eval x = v at this
    cases this with
    | d hd => cases hd; exact .pure hs (hrun _ hg) (by simpa using h.2) (by simpa using RA.mkBool _)
  · exact h.elim


theorem cOpd_nil {y : Operand} (h : cOpd y = some (.k (.c (.full [])))) : a.eval y = .slice none 0 0 := by
  cases y with
  | tmp t => simp [cOpd] at h
  | global g => simp [cOpd] at h
  | func f => simp [cOpd] at h
  | const v =>
    simp only [cOpd, Option.map_eq_some_iff] at h
    obtain ⟨x, h1, h2⟩ := h
    cases h2
    unfold constA at h1
    split at h1
    · simp only [Option.map_eq_some_iff] at h1
      obtain ⟨_, _, h2⟩ := h1
      cases h2
    · split at h1 <;> cases h1
    · simp only [Option.map_eq_some_iff] at h1
      obtain ⟨c, h2, h3⟩ := h1
      cases h3
      unfold constC at h2
      split at h2
      · cases h2
      · split at h2 <;> cases h2
      · split at h2 <;> cases h2
      · rfl
      · cases h2
      · cases h2
      · cases h2
      · cases h2
      · cases h2

theorem res_nilSl {o : Oper} {op : BinOp} {neg : Bool} {t u e : TypeId} {x y : Operand} {x' : Opd} (ho : o.op = .binOp op t x y u) (hop : op = if neg then .neq else .eql) (hu : P.underlying t = some (.slice e))
    (hx : cOpd x = some x') (hy : cOpd y = some (.k (.c (.full [])))) (hs : SimSt w ι st a) (h : awOp P st true K (.nilSl neg x')) : OpRes w ι st a K ((execOp a.eval o).run P w) := by
  have hy0 : a.eval y = .slice none 0 0 := cOpd_nil hy
  have heq : ∀ (p : Option Addr) (l c : Nat), (Op.equal t (.slice p l c) (.slice none 0 0)).run P w = .ok p.isNone w := fun p l c => by
    have : ∀ d, (Op.equalIn (d + 1) t (.slice p l c) (.slice none 0 0)).run P w = .ok p.isNone w := fun d => by
      cases p <;> simp [Op.equalIn, run_underlying hu]
    exact this 9999
  have hrun : ∀ (p : Option Addr) (l c : Nat), a.eval x = .slice p l c → (execOp a.eval o).run P w = .ok (.value (.bool (neg ^^ p.isNone))) w := fun p l c hp => by
    cases neg
    · simp only [Bool.false_eq_true, ↓reduceIte] at hop
      subst hop
      simp only [execOp, ho, hp, hy0, binOp, Sem.run_bind, eqGuard_scalar .eql t x y (u := .slice p l c) rfl (by simp), Result.andThen_ok, heq, Sem.run_pure, Bool.false_xor]
    · simp only [↓reduceIte] at hop
      subst hop
      simp only [execOp, ho, hp, hy0, binOp, Sem.run_bind, eqGuard_scalar .neq t x y (u := .slice p l c) rfl (by simp), Result.andThen_ok, heq, Sem.run_pure, Bool.true_xor]
  simp only [awOp, QCallK, RowK, ByteK, B2SK, OptK, StoreK] at h
  split at h
  · rename_i c h1
    split at h
    · rename_i rows hr
      have hxv := val_ra hs hx h.1
      rw [h1] at hxv
      obtain ⟨p, l, cp, h3, h4⟩ := rows_nilness hxv.c_inv hr
      exact .pure hs (hrun _ _ _ h3) (h.2 _ h4) (RA.mkBool _)
    · exact h.elim
  · exact h.elim

/-! struct equality -/
theorem eqCs_run : ∀ (fs : List Field) (ks : List FK) (n d : Nat) (xs ys : List C) (us vs : List Value) (b : Bool), plainFields P n fs = some ks → eqCs ks xs ys = some b →
    (∀ (i : Nat) c v, xs[i]? = some c → us[n + i]? = some v → RC w ι st.ext.length c v) → (∀ (i : Nat) c v, ys[i]? = some c → vs[n + i]? = some v → RC w ι st.ext.length c v) → us.length = n + xs.length → vs.length = n + ys.length →
    (Op.eqFields (d + 1) us.toArray vs.toArray fs).run P w = .ok b w
  | [], ks, n, d, xs, ys, us, vs, b, hp, he, _, _, _, _ => by
    simp [plainFields] at hp
    subst hp
    cases xs with
    | nil => cases ys with
      | nil => simp [eqCs] at he; subst he; rfl
      | cons _ _ => simp [eqCs] at he
    | cons _ _ => simp [eqCs] at he
  | f :: fs, ks, n, d, xs, ys, us, vs, b, hp, he, hu, hv, hlu, hlv => by
    simp only [plainFields] at hp
    split at hp
    · rename_i hf
      obtain ⟨hp1, hp2⟩ := hf
      have hkind : ∃ k ks', ks = k :: ks' ∧ plainFields P (n + 1) fs = some ks' ∧ aggOf P f.type = some none ∧
          ((k = .int ∧ ∃ q, P.underlying f.type = some (.int q)) ∨ (k = .str ∧ P.underlying f.type = some .string) ∨ (k = .bool ∧ P.underlying f.type = some .bool)) := by
        split at hp
        · rename_i h1 h2 h3; cases hp; exact ⟨_, _, rfl, h3, by simp [aggOf, h1, h2], .inl ⟨rfl, _, h2⟩⟩
        · rename_i h1 h2 h3; cases hp; exact ⟨_, _, rfl, h3, by simp [aggOf, h1, h2], .inr (.inl ⟨rfl, h2⟩)⟩
        · rename_i h1 h2 h3; cases hp; exact ⟨_, _, rfl, h3, by simp [aggOf, h1, h2], .inr (.inr ⟨rfl, h2⟩)⟩
        · cases hp
      obtain ⟨k, ks', rfl, hp4, hone, hk⟩ := hkind
      cases xs with
      | nil => cases ys <;> simp [eqCs] at he
      | cons x xs =>
        cases ys with
        | nil => cases x <;> simp [eqCs] at he
        | cons y ys =>
          have hnu : n < us.length := by simp at hlu; omega
          have hnv : n < vs.length := by simp at hlv; omega
          have hx0 := hu 0 x us[n] rfl (by simp [hnu])
          have hy0 := hv 0 y vs[n] rfl (by simp [hnv])
          have hgu : us.toArray[f.offset]? = some us[n] := by rw [hp2]; simp [hnu]
          have hgv : vs.toArray[f.offset]? = some vs[n] := by rw [hp2]; simp [hnv]
          cases x <;> (try (simp [eqCs] at he; done))
          rename_i dx
          cases y <;> (try (simp [eqCs] at he; done))
          rename_i dy
          simp only [eqCs] at he
          split at he
          · rename_i b1 b2 he1 he2
            cases he
            have ih := eqCs_run fs ks' (n + 1) d xs ys us vs b2 hp4 he2 (fun i c v h1 h2 => hu (i + 1) c v (by simpa using h1) (by rw [← h2]; congr 1; omega))
              (fun i c v h1 h2 => hv (i + 1) c v (by simpa using h1) (by rw [← h2]; congr 1; omega)) (by simp at hlu; omega) (by simp at hlv; omega)
            cases hx0 with
            | d hx0 =>
            cases hy0 with
            | d hy0 =>
            have p1 := part_one (w := w) hone us.toArray f.offset hgu
            have p2 := part_one (w := w) hone vs.toArray f.offset hgv
            have hq : (Op.equalIn (d + 1) f.type us[n] vs[n]).run P w = .ok b1 w := by
              rcases hk with ⟨rfl, q, h2⟩ | ⟨rfl, h2⟩ | ⟨rfl, h2⟩
              · cases dx <;> simp only [eqD] at he1 <;> try (cases he1; done)
                cases dy <;> simp only [eqD] at he1 <;> try (cases he1; done)
                split at he1
                · rename_i e; subst e; cases he1
                  rw [hx0.int_eq.1, hy0.int_eq.1, run_equalIn_int w d f.type _ q _ _ h2]
                · cases he1
              · cases dx <;> simp only [eqD] at he1 <;> try (cases he1; done)
                cases dy <;> simp only [eqD] at he1 <;> try (cases he1; done)
                cases he1
                obtain ⟨t1, e1, rfl, _⟩ := hx0.str_eq
                obtain ⟨t2, e2, rfl, _⟩ := hy0.str_eq
                rw [e1, e2, run_equalIn_string w d f.type _ _ h2, toList_eq, toList_eq]
              · cases dx <;> simp only [eqD] at he1 <;> try (cases he1; done)
                cases dy <;> simp only [eqD] at he1 <;> try (cases he1; done)
                cases he1
                rw [hx0.bool_eq, hy0.bool_eq, run_equalIn_bool' w d f.type _ _ h2]
            simp only [Op.eqFields, ne_eq, hp1, not_false_eq_true, ↓reduceIte, Sem.run_bind, p1, p2, Result.andThen_ok, hq, Sem.run_ite, ih, Sem.run_pure]
            cases b1 <;> simp
          · cases he
    · cases hp

theorem res_eqAgg {o : Oper} {op : BinOp} {neg : Bool} {t u : TypeId} {x y : Operand} {x' y' : Opd} {fs : Array Field} {ks : List FK} (ho : o.op = .binOp op t x y u) (hop : op = if neg then .neq else .eql)
    (hu : P.underlying t = some (.struct fs)) (hf : plainFields P 0 fs.toList = some ks) (h5 : P.stoodInHeld t = false) (h6 : P.eqGuardType P.depth t = false)
    (hx : cOpd x = some x') (hy : cOpd y = some y') (hs : SimSt w ι st a) (h : awOp P st true K (.eqAgg neg ks x' y')) : OpRes w ι st a K ((execOp a.eval o).run P w) := by
  simp only [awOp, QCallK, RowK, ByteK, B2SK, OptK, StoreK] at h
  split at h
  · rename_i xs ys h1 h2
    obtain ⟨h3, h4, h7⟩ := h
    split at h7
    · rename_i b hb
      have hxv := val_ra hs hx h3
      have hyv := val_ra hs hy h4
      rw [h1] at hxv
      rw [h2] at hyv
      obtain ⟨us, e1, r1⟩ := hxv.agg_inv
      obtain ⟨vs, e2, r2⟩ := hyv.agg_inv
      have hfo : P.fieldsOf t = fs := by simp [Program.fieldsOf, hu]
      have hrun : (Op.equalIn 10000 t (.agg us.toArray) (.agg vs.toArray)).run P w = .ok b w := by
        have e := run_equalIn_struct (P := P) w 9999 t us.toArray vs.toArray (by rw [hfo]; exact hu) h5
        have e' := eqCs_run (P := P) (w := w) (ι := ι) (st := st) fs.toList ks 0 9998 xs ys us vs b hf hb (fun i c v p q => r1.2 i c v p (by simpa using q)) (fun i c v p q => r2.2 i c v p (by simpa using q)) (by simpa using r1.1) (by simpa using r2.1)
        rw [hfo] at e
        exact e.trans e'
      refine .pure hs (v := .bool (neg ^^ b)) ?_ h7 (.mkBool _)
      cases neg
      · simp only [Bool.false_eq_true, ↓reduceIte] at hop
        subst hop
        simp only [execOp, ho, e1, e2, Sem.run_bind, run_eqGuard_agg w .eql t x y _ _ h6, Result.andThen_ok, run_eql_struct, hrun, Sem.run_pure, Bool.false_xor]
      · simp only [↓reduceIte] at hop
        subst hop
        simp only [execOp, ho, e1, e2, Sem.run_bind, run_eqGuard_agg w .neq t x y _ _ h6, Result.andThen_ok, run_neq_struct, hrun, Sem.run_pure, Bool.true_xor]
    · exact h7.elim
  · exact h.elim

end ops
end Go.AM
