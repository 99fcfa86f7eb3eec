/-
  The abstract machine: places in slices, and slices of slices.
  Conditions: none.
-/
import Derived.Test.YtaegeehpajlebaaAbsE4
namespace Go.AM
set_option linter.unusedVariables false
set_option linter.unusedSimpArgs false
section ops
variable {P : Program} {w : World} {ι : List K} {st : St} {a : Act} {K : A → St → Prop}

theorem C.rows_of_fsl {r : Ref} {n s : Nat} : (C.fsl r n s).rows? = none := rfl

theorem row_place {rows : List (List D)} {v : Value} {i sz : Nat} {row : List D} (h : RD w (Safe w ι) (.sl rows) v) (hi : rows[i]? = some row) (hsz : row.length = sz) :
    ∃ b off cap, v = .slice (some ⟨b, off, none⟩) rows.length cap ∧ RowAt w (Safe w ι) row b (off + i * sz) := by
  obtain ⟨ad, cap, rfl⟩ := h.sl_inv
  rw [RD.sl_iff] at h
  rcases h with ⟨e1, _⟩ | ⟨b, off, sz', e1, e2, e3, e4, e5⟩
  · subst e1; simp at hi
  · obtain ⟨h1, h2⟩ := e5 i row hi
    have : sz' = sz := by omega
    subst this
    exact ⟨b, off, cap, by rw [e1], h2⟩

theorem res_indexAddr {o : Oper} {t e : TypeId} {n : Nat} {x i : Operand} {x' i' : Opd} (ho : o.op = .indexAddr t x i) (h1 : P.underlying t = some (.slice e)) (h2 : sizeOf? P e = some n) (hx : cOpd x = some x') (hi : cOpd i = some i') (hs : SimSt w ι st a)
    (h : awOp P st true K (.indexAddr n x' i')) : OpRes w ι st a K ((execOp a.eval o).run P w) := by
  have hrun : ∀ b off k iv len cap, a.eval x = .slice (some ⟨b, off, none⟩) len cap → a.eval i = .int k iv → 0 ≤ iv → iv.toNat < len → (execOp a.eval o).run P w = .ok (.value (.pointer (some ⟨b, off + iv.toNat * n, none⟩))) w := fun b off k iv len cap e1 e2 e3 e4 => by
    have : 0 ≤ iv ∧ iv < (len : Int) := ⟨e3, by omega⟩
    simp [execOp, ho, e1, e2, Instr.indexAt, asIntOf, run_underlying h1, this, run_sizeOf' h2, addr_add]
  simp only [awOp, QCallK, RowK, ByteK, B2SK, OptK, StoreK] at h
  split at h
  · rename_i r len sz' k iv hxe hie
    obtain ⟨h3, h4, h5, h6⟩ := h
    obtain ⟨g5, g5', h5''⟩ := h5 trivial
    subst h5''
    have hxv := val_ra hs hx h3
    have hiv := val_ra hs hi h4
    rw [hxe] at hxv
    rw [hie] at hiv
    have hc := hxv.c_inv
    generalize hgv : a.eval x = v at hc
    cases hc with
    | @fsl _ _ b _ cap hk hcap =>
      refine .pure hs (hrun b 0 k iv len cap hgv hiv.int_inv.1 g5 g5') h6 ?_
      have := RA.c (RC.rel (w := w) (n := st.ext.length) (i := iv.toNat) (off := 0) hk)
      simpa using this
  · rename_i c k iv hnf hxe hie
    split at h
    · rename_i rows hr
      obtain ⟨h3, h4, h5, row, h6, h7⟩ := h
      have h5 := h5 trivial
      obtain ⟨h6, h6'⟩ := h6 trivial
      have hxv := val_ra hs hx h3
      have hiv := val_ra hs hi h4
      rw [hxe] at hxv
      rw [hie] at hiv
      obtain ⟨b, off, cap, e1, e2⟩ := row_place (hxv.c_inv.rows hr) h6 h6'
      have hlt : iv.toNat < rows.length := (List.getElem?_eq_some_iff.1 h6).1
      exact .pure hs (hrun b off k iv _ cap e1 hiv.int_inv.1 h5 hlt) h7 (by simpa using RA.c (RC.el (off := 0) e2))
    · exact h.elim
  · exact h.elim

theorem res_indexArr {o : Oper} {t e : TypeId} {n len : Nat} {x i : Operand} {x' i' : Opd} (ho : o.op = .indexAddr t x i) (h1 : P.underlying t = some (.array len e)) (h2 : sizeOf? P e = some n) (hx : cOpd x = some x') (hi : cOpd i = some i') (hs : SimSt w ι st a)
    (h : awOp P st true K (.indexArr len n x' i')) : OpRes w ι st a K ((execOp a.eval o).run P w) := by
  simp only [awOp, QCallK, RowK, ByteK, B2SK, OptK, StoreK] at h
  split at h
  · rename_i r off k iv hxe hie
    obtain ⟨h3, h4, h5, h6⟩ := h
    obtain ⟨h5, h5'⟩ := h5 trivial
    have hxv := val_ra hs hx h3
    have hiv := val_ra hs hi h4
    rw [hxe] at hxv
    rw [hie] at hiv
    have hc := hxv.c_inv
    generalize hgv : a.eval x = v at hc
    cases hc with
    | @ptr _ _ b hk =>
      refine .pure hs (v := .pointer (some ⟨b, off + iv.toNat * n, none⟩)) ?_ h6 (.c (.ptr hk))
      have : 0 ≤ iv ∧ iv < (len : Int) := ⟨h5, h5'⟩
      simp [execOp, ho, hgv, hiv.int_inv.1, Instr.indexAt, asIntOf, run_underlying h1, this, run_sizeOf' h2, addr_add, Instr.sureAddr]
  · exact h.elim

theorem res_index {o : Oper} {t : TypeId} {x i : Operand} {x' i' : Opd} (ho : o.op = .index t x i) (h1 : P.underlying t = some .string) (hx : cOpd x = some x') (hi : cOpd i = some i') (hs : SimSt w ι st a)
    (h : awOp P st true K (.index x' i')) : OpRes w ι st a K ((execOp a.eval o).run P w) := by
  simp only [awOp, QCallK, RowK, ByteK, B2SK, OptK, StoreK] at h
  split at h
  · rename_i s k iv hxe hie
    obtain ⟨h3, h4, b, h5, h6⟩ := h
    obtain ⟨h5, h5'⟩ := h5 trivial
    have hxv := val_ra hs hx h3
    have hiv := val_ra hs hi h4
    rw [hxe] at hxv
    rw [hie] at hiv
    obtain ⟨u, e1, e2, e3⟩ := hxv.str_inv
    have hget : u[iv.toNat]? = some b := by
      rw [← e2] at h5'
      have hlt : iv.toNat < u.size := by have := (List.getElem?_eq_some_iff.1 h5').1; simpa using this
      have : u.data[iv.toNat]? = some b := by simpa using h5'
      have h7 := (Array.getElem?_eq_some_iff.1 this).2
      rw [getElem?_pos u iv.toNat hlt]
      exact congrArg some h7
    refine .pure hs (v := .int .u8 b.toNat) ?_ h6 (.mkInt ?_)
    · simp [execOp, ho, e1, hiv.int_inv.1, Instr.index, asIntOf, run_underlying h1, h5, hget]
    · have := b.toNat_lt
      unfold inR
      simp [IntKind.min, IntKind.max, IntKind.signed, IntKind.bits]
      omega
  · exact h.elim

theorem RD.drop {S : Nat → Nat → Prop} {rows : List (List D)} {b off cap sz : Nat} (h : ∀ (i : Nat) (r : List D), rows[i]? = some r → r.length = sz ∧ RowAt w S r b (off + i * sz)) (lo hi : Nat) (hlo : lo ≤ hi) (hhi : hi ≤ rows.length) (hm : rows.length ≤ maxRows) (hcap : hi - lo ≤ cap) :
    RD w S (.sl ((rows.take hi).drop lo)) (.slice (some ⟨b, off + lo * sz, none⟩) (hi - lo) cap) := by
  rw [RD.sl_iff]
  have hl : ((rows.take hi).drop lo).length = hi - lo := by simp; omega
  refine .inr ⟨b, off + lo * sz, sz, rfl, hl.symm, by omega, by omega, fun i r hr => ?_⟩
  simp only [List.getElem?_drop, List.getElem?_take] at hr
  split at hr
  · obtain ⟨h1, h2⟩ := h _ r hr
    refine ⟨h1, ?_⟩
    rw [Nat.add_mul] at h2
    rw [Nat.add_assoc]; exact h2
  · cases hr

/-! slices -/

theorem optInt_ra {dflt n : Int} {o : Option Operand} {o' : Option Opd} (hs : SimSt w ι st a) (ho : cOpt o = some o') (hok : optOk true st.sl o') (h : optInt st.sl dflt o' = some n) :
    (o = none ∧ o' = none ∧ n = dflt) ∨ ∃ x k, o = some x ∧ a.eval x = .int k n ∧ (∃ y, o' = some y) := by
  cases o with
  | none => simp [cOpt] at ho; subst ho; simp [optInt] at h; exact .inl ⟨rfl, rfl, h.symm⟩
  | some x =>
    simp only [cOpt, Option.map_eq_some_iff] at ho
    obtain ⟨y, h1, rfl⟩ := ho
    simp only [optInt] at h
    split at h
    · rename_i k m hv
      cases h
      have := val_ra hs h1 hok
      rw [hv] at this
      exact .inr ⟨x, k, rfl, this.int_inv.1, y, rfl⟩
    · cases h

theorem run_sliceBound {k : IntKind} {n : Int} {y : Nat} {code : BoundsCode} (h0 : 0 ≤ n) (h1 : n ≤ y) : (Instr.sliceBound (.int k n) y code).run P w = .ok n.toNat w := by
  have : 0 ≤ n ∧ n ≤ (y : Int) := ⟨h0, h1⟩
  simp [Instr.sliceBound, asIntOf, this]

/-- the bounds of a slice expression -/
theorem run_bounds {b : Bool} {len cap : Nat} {lo hi mx : Option Value} {l h m : Nat} (hm : (mx = none ∧ m = cap) ∨ ∃ k, mx = some (.int k m) ∧ m ≤ cap)
    (hh : (hi = none ∧ mx = none ∧ h = len) ∨ ∃ k, hi = some (.int k h) ∧ h ≤ m) (hl : (lo = none ∧ l = 0) ∨ ∃ k, lo = some (.int k l) ∧ l ≤ h) : (Instr.sliceBounds b len cap lo hi mx).run P w = .ok (l, h, m) w := by
  have bound : ∀ (k : IntKind) (n y : Nat) code, n ≤ y → (Instr.sliceBound (.int k n) y code).run P w = .ok n w := fun k n y code hle => by
    have := run_sliceBound (P := P) (w := w) (k := k) (n := n) (y := y) (code := code) (by omega) (by omega)
    simpa using this
  rcases hm with ⟨rfl, rfl⟩ | ⟨k1, rfl, hm⟩ <;> rcases hh with ⟨rfl, h', rfl⟩ | ⟨k2, rfl, hh⟩ <;> rcases hl with ⟨rfl, rfl⟩ | ⟨k3, rfl, hl⟩ <;> (try cases h')
  all_goals simp [Instr.sliceBounds, bound, *]

theorem sliceStr_run {o : Oper} {t : TypeId} {x : Operand} {lo hi : Option Operand} {u : ByteArray} {l h : Nat} (ho : o.op = .slice t x lo hi none) (h1 : P.underlying t = some .string) (hx : a.eval x = .string u)
    (hh : (hi = none ∧ h = u.size) ∨ ∃ y k, hi = some y ∧ a.eval y = .int k h ∧ h ≤ u.size) (hl : (lo = none ∧ l = 0) ∨ ∃ y k, lo = some y ∧ a.eval y = .int k l ∧ l ≤ h) :
    (execOp a.eval o).run P w = .ok (.value (.string (u.extract l h))) w := by
  have hb : (Instr.sliceBounds false u.size u.size (lo.map a.eval) (hi.map a.eval) none).run P w = .ok (l, h, u.size) w := by
    refine run_bounds (.inl ⟨rfl, rfl⟩) ?_ ?_
    · rcases hh with ⟨rfl, rfl⟩ | ⟨y, k, rfl, e, h2⟩
      · exact .inl ⟨rfl, rfl, rfl⟩
      · exact .inr ⟨k, by simp [e], h2⟩
    · rcases hl with ⟨rfl, rfl⟩ | ⟨y, k, rfl, e, h2⟩
      · exact .inl ⟨rfl, rfl⟩
      · exact .inr ⟨k, by simp [e], h2⟩
  simp [execOp, ho, hx, Instr.sliceAt, Instr.slice, run_underlying h1, hb]

theorem sliceSl_run {o : Oper} {t e : TypeId} {n : Nat} {x : Operand} {lo hi mx : Option Operand} {ad : Option Addr} {len cap l h m : Nat} (ho : o.op = .slice t x lo hi mx) (h1 : P.underlying t = some (.slice e)) (h2 : sizeOf? P e = some n) (hx : a.eval x = .slice ad len cap)
    (hm : (mx = none ∧ m = cap) ∨ ∃ y k, mx = some y ∧ a.eval y = .int k m ∧ m ≤ cap) (hh : (hi = none ∧ mx = none ∧ h = len) ∨ ∃ y k, hi = some y ∧ a.eval y = .int k h ∧ h ≤ m) (hl : (lo = none ∧ l = 0) ∨ ∃ y k, lo = some y ∧ a.eval y = .int k l ∧ l ≤ h) :
    (execOp a.eval o).run P w = .ok (.value (.slice (if m = l then ad else ad.map (·.add (l * n))) (h - l) (m - l))) w := by
  have hb : (Instr.sliceBounds true len cap (lo.map a.eval) (hi.map a.eval) (mx.map a.eval)).run P w = .ok (l, h, m) w := by
    refine run_bounds ?_ ?_ ?_
    · rcases hm with ⟨rfl, rfl⟩ | ⟨y, k, rfl, e, h2⟩
      · exact .inl ⟨rfl, rfl⟩
      · exact .inr ⟨k, by simp [e], h2⟩
    · rcases hh with ⟨rfl, rfl, rfl⟩ | ⟨y, k, rfl, e, h2⟩
      · exact .inl ⟨rfl, rfl, rfl⟩
      · exact .inr ⟨k, by simp [e], h2⟩
    · rcases hl with ⟨rfl, rfl⟩ | ⟨y, k, rfl, e, h2⟩
      · exact .inl ⟨rfl, rfl⟩
      · exact .inr ⟨k, by simp [e], h2⟩
  simp [execOp, ho, hx, Instr.sliceAt, Instr.slice, run_underlying h1, hb, run_sizeOf' h2]

/-- what is left of a told slice -/
theorem RD.part {S : Nat → Nat → Prop} {rows : List (List D)} {ad : Option Addr} {len cap l h m n : Nat} (hr : RD w S (.sl rows) (.slice ad len cap)) (hsz : ∀ r ∈ rows, r.length = n) (hlh : l ≤ h) (hh : h ≤ rows.length) (hm : h ≤ m) (hmc : m ≤ cap) :
    RD w S (.sl ((rows.take h).drop l)) (.slice (if m = l then ad else ad.map (·.add (l * n))) (h - l) (m - l)) := by
  rw [RD.sl_iff] at hr
  rcases hr with ⟨rfl, rfl, rfl⟩ | ⟨b, off, sz, rfl, rfl, e3, e4, e5⟩
  · have : h = 0 := by simpa using hh
    have : l = 0 := by omega
    have : m = 0 := by omega
    subst_vars
    simp; exact .nil _
  · by_cases hrow : rows = []
    · subst hrow
      have h0 : h = 0 := by simpa using hh
      have l0 : l = 0 := by omega
      subst h0; subst l0
      by_cases hm0 : m = 0
      · subst hm0
        simp only [↓reduceIte]
        exact RD.sl_iff.2 (.inr ⟨b, off, 0, rfl, by simp, by simp, by simp, fun i r hi => by simp at hi⟩)
      · simp only [hm0, ↓reduceIte, Option.map_some, addr_add]
        exact RD.sl_iff.2 (.inr ⟨b, off + 0 * n, 0, rfl, by simp, by simp, by simp, fun i r hi => by simp at hi⟩)
    · obtain ⟨r0, rest, rfl⟩ := List.exists_cons_of_ne_nil hrow
      have hn : sz = n := by
        have h1 := (e5 0 r0 rfl).1
        have h2 := hsz r0 (by simp)
        omega
      subst hn
      by_cases hml : m = l
      · subst hml
        have : h = m := by omega
        subst this
        simp only [↓reduceIte, Nat.sub_self]
        have hd : ((r0 :: rest).take h).drop h = [] := by simp
        rw [hd]
        exact RD.sl_iff.2 (.inr ⟨b, off, 0, rfl, by simp, by simp, by simp, fun i r hi => by simp at hi⟩)
      · simp only [hml, ↓reduceIte, Option.map_some, addr_add]
        exact RD.drop e5 l h hlh hh e4 (by omega)

theorem str_extract (u : ByteArray) (l h : Nat) : (u.extract l h).data.toList = (u.data.toList.take h).drop l := by
  simp [ByteArray.data_extract, List.drop_take]

theorem take_all {α : Type} (l : List α) {n : Nat} (h : l.length ≤ n) : l.take n = l := List.take_of_length_le h

/-- the value of a slice expression -/
theorem sliceA_run {o : Oper} {t : TypeId} {n : Nat} {x : Operand} {lo hi mx : Option Operand} {lo' hi' mx' : Option Opd} {x' : Opd} {c : C} {l : Int} {h m : Option Int} (ho : o.op = .slice t x lo hi mx)
    (ht : (P.underlying t = some .string ∧ mx = none) ∨ ∃ e, P.underlying t = some (.slice e) ∧ sizeOf? P e = some n) (hx : RC w ι st.ext.length c (a.eval x)) (hs : SimSt w ι st a)
    (hstr : ∀ s, c = .d (.str s) → P.underlying t = some .string) (hsl : ∀ rows, c.rows? = some rows → ∃ e, P.underlying t = some (.slice e) ∧ sizeOf? P e = some n)
    (hl : (lo = none ∧ l = 0) ∨ ∃ y k, lo = some y ∧ a.eval y = .int k l) (hh : (hi = none ∧ h = none) ∨ ∃ y k z, hi = some y ∧ h = some z ∧ a.eval y = .int k z)
    (hm : (mx = none ∧ m = none) ∨ ∃ y k z, mx = some y ∧ m = some z ∧ a.eval y = .int k z) (hK : sliceA true (fun x => K x st) n l h m c) : OpRes w ι st a K ((execOp a.eval o).run P w) := by
  have hlo : ∀ B : Nat, 0 ≤ l → l ≤ B → (lo = none ∧ l.toNat = 0) ∨ ∃ y k, lo = some y ∧ a.eval y = .int k (l.toNat : Nat) ∧ l.toNat ≤ B := fun B h0 h1 => by
    rcases hl with ⟨rfl, rfl⟩ | ⟨y, k, rfl, e⟩
    · exact .inl ⟨rfl, rfl⟩
    · exact .inr ⟨y, k, rfl, by rw [e, Int.toNat_of_nonneg h0], by omega⟩
  by_cases hcs : ∃ s, c = .d (.str s)
  · obtain ⟨s, rfl⟩ := hcs
    have hu := hstr s rfl
    simp only [sliceA] at hK
    obtain ⟨_, rfl, h1, h2⟩ := hK
    obtain ⟨h3, h4, h5⟩ := h1 trivial
    generalize hg : a.eval x = v at hx
    cases hx with
    | d hd =>
    obtain ⟨u, rfl, rfl, hu2⟩ := hd.str_eq
    have hus : u.data.toList.length = u.size := rfl
    have hmx : mx = none := by
      rcases hm with ⟨h6, _⟩ | ⟨_, _, _, _, h6, _⟩
      · exact h6
      · cases h6
    subst hmx
    rcases hh with ⟨rfl, rfl⟩ | ⟨y, k, z, rfl, rfl, e⟩
    · simp only [Option.getD_none] at h2 h3 h4 h5
      have hrun := sliceStr_run (P := P) (w := w) ho hu hg (.inl ⟨rfl, rfl⟩) (hlo u.size h3 (by omega))
      refine .pure hs hrun h2 (.mkStr (by rw [str_extract]; simp [take_all]) (by simp; omega))
    · simp only [Option.getD_some] at h2 h3 h4 h5
      have hrun := sliceStr_run (P := P) (w := w) (h := z.toNat) ho hu hg (.inr ⟨y, k, rfl, by rw [e, Int.toNat_of_nonneg (by omega)], by omega⟩) (hlo z.toNat h3 (by omega))
      refine .pure hs hrun h2 (.mkStr (by rw [str_extract]) (by simp; omega))
  · have hrows : ∃ rows, c.rows? = some rows := by
      unfold sliceA at hK
      split at hK
      · exact absurd ⟨_, rfl⟩ hcs
      · split at hK
        · exact hK.elim
        · rename_i rows hr; exact ⟨rows, hr⟩
    obtain ⟨rows, hr⟩ := hrows
    obtain ⟨e, hu, hn⟩ := hsl rows hr
    have hK' : allLen n rows ∧ (match (generalizing := false) h, m with
      | none, none => (true = true → 0 ≤ l ∧ l ≤ rows.length) ∧ K (.c (dropC l.toNat c)) st
      | some hi, none => (true = true → 0 ≤ l ∧ l ≤ hi ∧ hi ≤ rows.length) ∧ K (.c (.d (.sl ((rows.take hi.toNat).drop l.toNat)))) st
      | some hi, some mx => (true = true → 0 ≤ l ∧ l ≤ hi ∧ hi = mx ∧ hi ≤ rows.length) ∧ K (.c (clipC l hi c ((rows.take hi.toNat).drop l.toNat))) st
      | none, some _ => False) := by
      unfold sliceA at hK
      split at hK
      · exact absurd ⟨_, rfl⟩ hcs
      · rw [hr] at hK; exact hK.2
    obtain ⟨hall, hK'⟩ := hK'
    have hrd := hx.rows hr
    obtain ⟨ad, cap, hv⟩ := hrd.sl_inv
    rw [hv] at hrd
    have hcap : rows.length ≤ cap := by
      have := hrd
      rw [RD.sl_iff] at this
      rcases this with ⟨e1, _, _⟩ | ⟨_, _, _, _, _, h6, _⟩
      · rw [e1]; simp
      · exact h6
    rcases hh with ⟨rfl, rfl⟩ | ⟨y, k, z, rfl, rfl, ez⟩
    · rcases hm with ⟨rfl, rfl⟩ | ⟨_, _, _, _, rfl, _⟩
      · simp only at hK'
        obtain ⟨h1, h2⟩ := hK'
        obtain ⟨h3, h4⟩ := h1 trivial
        have hrun := sliceSl_run (P := P) (w := w) (h := rows.length) (m := cap) ho hu hn hv (.inl ⟨rfl, rfl⟩) (.inl ⟨rfl, rfl, rfl⟩) (hlo rows.length h3 (by omega))
        have hpart := hrd.part (h := rows.length) (l := l.toNat) (m := cap) hall (by omega) (Nat.le_refl _) hcap (Nat.le_refl _)
        rw [take_all _ (Nat.le_refl _)] at hpart
        refine .pure hs hrun h2 (.c ?_)
        rw [hv] at hx
        cases hx with
        | @d xd _ hd =>
          cases xd <;> simp [C.rows?] at hr
          subst hr
          exact .d hpart
        | @own r pos rows' _ h6 h7 =>
          simp [C.rows?] at hr
          subst hr
          obtain ⟨q, p, h8, h9, h10⟩ := h7
          refine .own hpart ⟨q, p, h8, h9, fun e => ?_⟩
          have hc := h10 e
          cases ad with
          | none => 
            have : (if cap = l.toNat then (none : Option Addr) else (none : Option Addr).map (·.add (l.toNat * n))) = none := by split <;> rfl
            rw [this]
            refine ⟨trivial, by have := hc.2.1; simp; omega, fun e1 => ?_⟩
            have h11 := hc.2.1
            simp at e1
            rcases hc.2.2 (by omega) with ⟨h12, h13⟩ | ⟨_, _, _, _, _, e4, _⟩
            · exact .inl ⟨by rw [h12]; simp, h13⟩
            · simp at e4
          | some ad =>
            have hspot : ad.spot = none ∨ rows' = [] := by
              rw [RD.sl_iff] at hrd
              rcases hrd with ⟨h, _, _⟩ | ⟨b, off, _, h, _⟩
              · exact .inr h
              · cases h; exact .inl rfl
            by_cases hcl : cap = l.toNat
            · simp only [hcl, ↓reduceIte, Cur]
              refine ⟨fun h => by omega, by have := hc.2.1; simp; omega, fun e1 => ?_⟩
              have h11 := hc.2.1
              simp at e1
              rcases hc.2.2 (by omega) with ⟨h12, h13⟩ | ⟨b, cap', capx, sz, e3, e4, e5, e5', e6⟩
              · exact .inl ⟨by rw [h12]; simp, h13⟩
              · simp only [Value.slice.injEq, Option.some.injEq] at e4
                obtain ⟨rfl, _, rfl⟩ := e4
                have hl0 : l.toNat = 0 := by omega
                have hr0 : rows'.length = 0 := by omega
                have hcap0 : cap = 0 := by omega
                refine .inr ⟨b, 0, capx, sz, ?_, ?_, ?_, by omega, ?_⟩
                · rw [hl0]; simpa using e3
                · simp [hl0, hr0]
                · simp [hr0]
                · rw [hl0]; simpa using e6
            · simp only [hcl, ↓reduceIte, Option.map_some, Cur]
              refine ⟨?_, by have := hc.2.1; simp; omega, fun e1 => ?_⟩
              rotate_left
              · have h11 := hc.2.1
                simp at e1
                rcases hc.2.2 (by omega) with ⟨h12, h13⟩ | ⟨b, cap', capx, sz, e3, e4, e5, e5', e6⟩
                · exact .inl ⟨by rw [h12]; simp, h13⟩
                · simp only [Value.slice.injEq, Option.some.injEq] at e4
                  obtain ⟨rfl, _, rfl⟩ := e4
                  by_cases hl0 : l.toNat = 0
                  · rw [hl0]
                    exact .inr ⟨b, cap, capx, sz, by simpa using e3, by simp [addr_add], by simpa using e5, e5', by simpa using e6⟩
                  · have : rows'.length = 0 := by omega
                    omega
              intro hlt
              obtain ⟨sz, e1, e2⟩ := hc.1 (by omega)
              have hspot : ad.spot = none := by
                rw [RD.sl_iff] at hrd
                rcases hrd with ⟨_, _, h⟩ | ⟨b, off, _, h, _⟩
                · omega
                · cases h; rfl
              have hadd : (ad.add (l.toNat * n)).block = ad.block ∧ (ad.add (l.toNat * n)).off = ad.off + l.toNat * n := by
                obtain ⟨b, off, sp⟩ := ad
                simp only at hspot
                subst hspot
                rw [addr_add]
                exact ⟨rfl, rfl⟩
              rw [hadd.1, hadd.2]
              by_cases hre : rows' = []
              · subst hre
                have l0 : l.toNat = 0 := by simp at h4; omega
                rw [l0]
                exact ⟨sz, by simpa [l0] using e1, fun r hr => e2 r (List.mem_of_mem_drop hr)⟩
              · obtain ⟨r0, rest, rfl⟩ := List.exists_cons_of_ne_nil hre
                have hsz : sz = n := by rw [← e2 r0 (by simp), hall r0 (by simp)]
                subst hsz
                refine ⟨sz, ?_, fun r hr => e2 r (List.mem_of_mem_drop hr)⟩
                rw [e1]
                have a1 : l.toNat * sz + ((r0 :: rest).length - l.toNat) * sz = (r0 :: rest).length * sz := by rw [← Nat.add_mul]; congr 1; omega
                have a2 : l.toNat * sz + (cap - l.toNat) * sz = cap * sz := by rw [← Nat.add_mul]; congr 1; omega
                rw [Nat.add_assoc, Nat.add_assoc, a1, a2]
        | @full rows' _ _ h6 =>
          simp [C.rows?] at hr
          subst hr
          exact .full hpart
        | _ => simp [C.rows?] at hr
      · exact hK'.elim
    · rcases hm with ⟨rfl, rfl⟩ | ⟨y2, k2, z2, rfl, rfl, ez2⟩
      · simp only at hK'
        obtain ⟨h1, h2⟩ := hK'
        obtain ⟨h3, h4, h5⟩ := h1 trivial
        have hrun := sliceSl_run (P := P) (w := w) (h := z.toNat) (m := cap) ho hu hn hv (.inl ⟨rfl, rfl⟩) (.inr ⟨y, k, rfl, by rw [ez, Int.toNat_of_nonneg (by omega)], by omega⟩) (hlo z.toNat h3 (by omega))
        have hpart := hrd.part (h := z.toNat) (l := l.toNat) (m := cap) hall (by omega) (by omega) (by omega) (Nat.le_refl _)
        have hlen : ((rows.take z.toNat).drop l.toNat).length = z.toNat - l.toNat := by simp; omega
        exact .pure hs hrun h2 (.c (.d hpart))
      · simp only at hK'
        obtain ⟨h1, h2⟩ := hK'
        obtain ⟨h3, h4, h5, h6⟩ := h1 trivial
        subst h5
        have hrun := sliceSl_run (P := P) (w := w) (h := z.toNat) (m := z.toNat) ho hu hn hv (.inr ⟨y2, k2, rfl, by rw [ez2, Int.toNat_of_nonneg (by omega)], by omega⟩) (.inr ⟨y, k, rfl, by rw [ez, Int.toNat_of_nonneg (by omega)], by omega⟩) (hlo z.toNat h3 (by omega))
        have hpart := hrd.part (h := z.toNat) (l := l.toNat) (m := z.toNat) hall (by omega) (by omega) (Nat.le_refl _) (by omega)
        refine .pure hs hrun h2 (.c ?_)
        rw [hv] at hx
        cases c with
        | own r pos rs =>
          simp only [clipC]
          split
          · rename_i hcond
            obtain ⟨hl0, hz⟩ := hcond
            simp only [C.rows?, Option.some.injEq] at hr
            subst hr
            cases hx with
            | own h7 h8 =>
              obtain ⟨q, p, h9, h10, h11⟩ := h8
              have hzn : z.toNat = rs.length := by omega
              have hln : l.toNat = 0 := by omega
              rw [hzn, hln] at hpart ⊢
              simp only [List.take_length, List.drop_zero] at hpart
              refine .own hpart ⟨q, p, h9, h10, fun e => ?_⟩
              have hc := h11 e
              refine ⟨?_, hc.2.1, fun e1 => ?_⟩
              · cases ad with
                | none =>
                  have : (if rs.length = 0 then (none : Option Addr) else (none : Option Addr).map (·.add (0 * n))) = none := by split <;> rfl
                  rw [this]
                  trivial
                | some ad => by_cases h0 : rs.length = 0 <;> simp [h0]
              · rcases hc.2.2 e1 with h12 | ⟨b, cap', capx, sz, e3, e4, e5, e5', e6⟩
                · exact .inl h12
                · simp only [Value.slice.injEq, Option.some.injEq] at e4
                  obtain ⟨rfl, _, rfl⟩ := e4
                  exact .inr ⟨b, rs.length, capx, sz, e3, by by_cases h0 : rs.length = 0 <;> simp [h0, addr_add], Nat.le_refl _, by omega, e6⟩
          · exact .full hpart
        | _ => exact .full hpart

theorem sliceA_kind {n : Nat} {l : Int} {h m : Option Int} {c : C} {K' : A → Prop} (hK : sliceA true K' n l h m c) : (∀ s, c = .d (.str s) → n = 0) ∧ (∀ rows, c.rows? = some rows → n ≠ 0) := by
  unfold sliceA at hK
  split at hK
  · exact ⟨fun _ _ => hK.1, fun rows hr => by simp [C.rows?] at hr⟩
  · rename_i hns
    refine ⟨fun s e => absurd e (hns s), fun rows hr => ?_⟩
    rw [hr] at hK
    exact hK.1

theorem res_slice {o : Oper} {t : TypeId} {n : Nat} {x : Operand} {lo hi mx : Option Operand} {lo' hi' mx' : Option Opd} {x' : Opd} (ho : o.op = .slice t x lo hi mx)
    (ht : (P.underlying t = some .string ∧ mx = none ∧ n = 0) ∨ ∃ e, P.underlying t = some (.slice e) ∧ sizeOf? P e = some n ∧ n ≠ 0) (hx : cOpd x = some x') (hlo : cOpt lo = some lo') (hhi : cOpt hi = some hi') (hmx : cOpt mx = some mx')
    (hs : SimSt w ι st a) (h : awOp P st true K (.slice n x' lo' hi' mx')) : OpRes w ι st a K ((execOp a.eval o).run P w) := by
  have fin : ∀ (c : C) (l : Int) (h m : Option Int), (x'.ev st.sl).val = .c c → (x'.ev st.sl).ok true → ((lo = none ∧ l = 0) ∨ ∃ y k, lo = some y ∧ a.eval y = .int k l) → ((hi = none ∧ h = none) ∨ ∃ y k z, hi = some y ∧ h = some z ∧ a.eval y = .int k z) →
      ((mx = none ∧ m = none) ∨ ∃ y k z, mx = some y ∧ m = some z ∧ a.eval y = .int k z) → sliceA true (fun x => K x st) n l h m c → OpRes w ι st a K ((execOp a.eval o).run P w) := fun c l h m e1 e2 e3 e4 e5 e6 => by
    have hxv := val_ra hs hx e2
    rw [e1] at hxv
    obtain ⟨k1, k2⟩ := sliceA_kind e6
    refine sliceA_run (x' := x') (lo' := lo') (hi' := hi') (mx' := mx') ho ?_ hxv.c_inv hs (fun s hc => ?_) (fun rows hr => ?_) e3 e4 e5 e6
    · rcases ht with ⟨h1, h2, _⟩ | ⟨e, h1, h2, _⟩
      · exact .inl ⟨h1, h2⟩
      · exact .inr ⟨e, h1, h2⟩
    · rcases ht with ⟨h1, _⟩ | ⟨e, _, _, h3⟩
      · exact h1
      · exact absurd (k1 s hc) h3
    · rcases ht with ⟨_, _, h3⟩ | ⟨e, h1, h2, _⟩
      · exact absurd h3 (k2 rows hr)
      · exact ⟨e, h1, h2⟩
  have loI : ∀ l, optOk true st.sl lo' → optInt st.sl 0 lo' = some l → (lo = none ∧ l = 0) ∨ ∃ y k, lo = some y ∧ a.eval y = .int k l := fun l e1 e2 => by
    rcases optInt_ra hs hlo e1 e2 with ⟨h1, _, h2⟩ | ⟨y, k, h1, h2, _⟩
    · exact .inl ⟨h1, h2⟩
    · exact .inr ⟨y, k, h1, h2⟩
  simp only [awOp, QCallK, RowK, ByteK, B2SK, OptK, StoreK] at h
  have optN : ∀ {o : Option Operand} {o' : Option Opd}, cOpt o = some o' → o'.map (optInt st.sl 0 ∘ some) = none → o = none := fun {o o'} h1 h2 => by
    cases o' with
    | none => cases o with
      | none => rfl
      | some x => simp [cOpt] at h1
    | some x => simp at h2
  have optS : ∀ {o : Option Operand} {o' : Option Opd} {z : Int}, cOpt o = some o' → optOk true st.sl o' → o'.map (optInt st.sl 0 ∘ some) = some (some z) → ∃ y k, o = some y ∧ a.eval y = .int k z := fun {o o' z} h1 h2 h3 => by
    cases o' with
    | none => simp at h3
    | some x =>
      simp only [Option.map_some, Function.comp_apply, Option.some.injEq] at h3
      rcases optInt_ra hs h1 h2 h3 with ⟨_, h4, _⟩ | ⟨y, k, h4, h5, _⟩
      · cases h4
      · exact ⟨y, k, h4, h5⟩
  split at h
  · rename_i c l e1 e2 e3 e4
    exact fin c l none none e1 h.1 (loI l h.2.1 e2) (.inl ⟨optN hhi e3, rfl⟩) (.inl ⟨optN hmx e4, rfl⟩) h.2.2
  · rename_i c l z e1 e2 e3 e4
    obtain ⟨y, k, h5, h6⟩ := optS hhi h.2.2.1 e3
    exact fin c l (some z) none e1 h.1 (loI l h.2.1 e2) (.inr ⟨y, k, z, h5, rfl, h6⟩) (.inl ⟨optN hmx e4, rfl⟩) h.2.2.2
  · rename_i c l z z2 e1 e2 e3 e4
    obtain ⟨y, k, h5, h6⟩ := optS hhi h.2.2.1 e3
    obtain ⟨y2, k2, h7, h8⟩ := optS hmx h.2.2.2.1 e4
    exact fin c l (some z) (some z2) e1 h.1 (loI l h.2.1 e2) (.inr ⟨y, k, z, h5, rfl, h6⟩) (.inr ⟨y2, k2, z2, h7, rfl, h8⟩) h.2.2.2.2
  · exact h.elim

/-! lengths -/
theorem run_call_builtin {o : Oper} {c : Call} {b : Builtin} (ho : o.op = .call c) (hc : c.callee = .builtin b) :
    (execOp a.eval o).run P w = (builtin b c.argTypes o.type (c.args.map fun | .const _ => true | _ => false) (c.args.map a.eval)).run P w := by
  simp [execOp, ho, resolve, hc, invoke]
  rfl

theorem res_len {o : Oper} {t : TypeId} {k : Nat} {x : Operand} {x' : Opd} {c : Call} (ho : o.op = .call c) (hc1 : c.callee = .builtin .len) (hc2 : c.args.toList = [x]) (hc3 : c.argTypes.toList = [t])
    (ht : (P.underlying t = some .string ∧ k = 0) ∨ (∃ e, P.underlying t = some (.slice e) ∧ k = 1) ∨ ∃ q e, P.underlying t = some (.map q e) ∧ k = 2) (hx : cOpd x = some x')
    (hs : SimSt w ι st a) (h : awOp P st true K (.len k x')) : OpRes w ι st a K ((execOp a.eval o).run P w) := by
  have ea : c.args = #[x] := by rw [← Array.toArray_toList (xs := c.args), hc2]
  have et : c.argTypes = #[t] := by rw [← Array.toArray_toList (xs := c.argTypes), hc3]
  simp only [awOp, QCallK, RowK, ByteK, B2SK, OptK, StoreK] at h
  split at h
  · rename_i n hn
    obtain ⟨h1, h2, h3⟩ := h
    have h2 := h2 trivial
    have hxv := val_ra hs hx h1
    refine .pure hs (v := .int .i64 n) ?_ h3 (.mkInt h2)
    rw [run_call_builtin ho hc1, ea, et]
    have str : ∀ u, a.eval x = .string u → k = 0 → n = u.size → (builtin .len #[t] o.type (#[x].map fun | .const _ => true | _ => false) (#[x].map a.eval)).run P w = .ok (.value (.int .i64 n)) w := fun u e1 e2 e3 => by
      rcases ht with ⟨h4, _⟩ | ⟨e, _, h5⟩ | ⟨q, e, _, h5⟩
      · simp [builtin, Builtin.len_, e1, run_underlying h4, goInt, e3]
      · omega
      · omega
    have sli : ∀ ad m cap, a.eval x = .slice ad m cap → k = 1 → n = m → (builtin .len #[t] o.type (#[x].map fun | .const _ => true | _ => false) (#[x].map a.eval)).run P w = .ok (.value (.int .i64 n)) w := fun ad m cap e1 e2 e3 => by
      rcases ht with ⟨_, h5⟩ | ⟨e, h4, _⟩ | ⟨q, e, _, h5⟩
      · omega
      · simp [builtin, Builtin.len_, e1, run_underlying h4, goInt, e3]
      · omega
    generalize hxe : (x'.ev st.sl).val = xa at *
    cases xa with
    | c cx =>
      have hc := hxv.c_inv
      have rowsCase : ∀ rows, cx.rows? = some rows → k = 1 → n = rows.length → (builtin .len #[t] o.type (#[x].map fun | .const _ => true | _ => false) (#[x].map a.eval)).run P w = .ok (.value (.int .i64 n)) w := fun rows hr hk hn => by
        obtain ⟨ad, cap, hv⟩ := (hc.rows hr).sl_inv
        exact sli ad _ cap hv hk hn
      cases cx with
      | d dx =>
        cases dx with
        | str s =>
          simp only [lenA] at hn
          split at hn
          · cases hn
            obtain ⟨u, e1, e2, e3⟩ := hxv.str_inv
            exact str u e1 ‹_› (by rw [← e2]; rfl)
          · cases hn
        | sl rows =>
          simp only [lenA] at hn
          split at hn
          · simp [C.rows?] at hn; exact rowsCase rows rfl ‹_› hn.symm
          · cases hn
        | _ => simp [lenA, C.rows?] at hn
      | own r p rows =>
        simp only [lenA] at hn
        split at hn
        · simp [C.rows?] at hn; exact rowsCase rows rfl ‹_› hn.symm
        · cases hn
      | full rows =>
        simp only [lenA] at hn
        split at hn
        · simp [C.rows?] at hn; exact rowsCase rows rfl ‹_› hn.symm
        · cases hn
      | fsl r m s =>
        simp only [lenA] at hn
        split at hn
        · cases hn
          generalize hg : a.eval x = v at hc
          cases hc with
          | fsl hk _ => exact sli _ _ _ hg ‹_› rfl
        · cases hn
      | map r =>
        simp only [lenA] at hn
        split at hn
        · rename_i hk
          split at hn
          · rename_i m hgo
            cases hn
            generalize hg : a.eval x = v at hc
            cases hc with
            | map hkb =>
              obtain ⟨hh, _⟩ := getOb_heap hgo (by simp)
              obtain ⟨es, clock, h6, h7, _⟩ := hs.sim.obj _ _ _ hh hkb
              rcases ht with ⟨_, h5⟩ | ⟨e, _, h5⟩ | ⟨q, e, h4, _⟩
              · omega
              · omega
              · simp [builtin, Builtin.len_, hg, run_underlying h4, goInt, getObj, Sem.run, h6, h7]
          · cases hn
        · cases hn
      | _ => simp [lenA, C.rows?] at hn
    | _ => simp [lenA] at hn
  · cases h.2.1

/-! function values -/
theorem capsOf_spec : ∀ {as : List A} {cs : List (Ref × Nat)} {vs : List Value} {n : Nat}, capsOf as = some cs → vs.length = as.length → (∀ (i : Nat) x v, as[i]? = some x → vs[i]? = some v → RA w ι n x v) →
    vs.length = cs.length ∧ ∀ (i : Nat) (r : Ref) (o : Nat), cs[i]? = some (r, o) → ∃ b : Nat, ι[idx n r]? = some (.blk b) ∧ vs[i]? = some (.pointer (some ⟨b, o, none⟩))
  | [], cs, vs, n, h, hl, _ => by simp [capsOf] at h; subst h; exact ⟨by simpa using hl, fun i r o hi => by simp at hi⟩
  | x :: l, cs, vs, n, h, hl, hr => by
    cases x with
    | c cx =>
      cases cx with
      | ptr r o =>
        simp only [capsOf, Option.map_eq_some_iff] at h
        obtain ⟨cs', h1, rfl⟩ := h
        cases vs with
        | nil => simp at hl
        | cons v vs =>
          obtain ⟨h2, h3⟩ := capsOf_spec h1 (by simpa using hl) (fun i x u h4 h5 => hr (i + 1) x u (by simpa using h4) (by simpa using h5))
          refine ⟨by simp [h2], fun i r' o' hi => ?_⟩
          cases i with
          | zero =>
            simp at hi
            obtain ⟨rfl, rfl⟩ := hi
            have := (hr 0 _ v rfl rfl).c_inv
            cases this with
            | ptr hk => exact ⟨_, hk, rfl⟩
          | succ i => simpa using h3 i r' o' (by simpa using hi)
      | _ => simp [capsOf] at h
    | _ => simp [capsOf] at h

theorem res_mkFunc {o : Oper} {f : FuncId} {first caps : Array Operand} {caps' : List Opd} (ho : o.op = .makeFunc (.func f) first caps) (hf : first.toList.isEmpty = true) (hc : cOpds caps.toList = some caps') (hs : SimSt w ι st a)
    (h : awOp P st true K (.mkFunc f caps')) : OpRes w ι st a K ((execOp a.eval o).run P w) := by
  simp only [awOp, QCallK, RowK, ByteK, B2SK, OptK, StoreK] at h
  split at h
  · rename_i cs hcs
    have hra := cOpds_ra hs hc h.1
    obtain ⟨h1, h2⟩ := capsOf_spec (vs := caps.toList.map a.eval) hcs (by rw [evs_len, cOpds_len hc]; simp) hra
    have e : first = #[] := by
      have : first.toList = [] := by simpa using hf
      exact Array.toList_eq_nil_iff.1 this
    refine .pure hs (v := .func (.func f) #[] (caps.toList.map a.eval).toArray) ?_ h.2 (.c (.fn h1 h2))
    simp [execOp, ho, Instr.makeFunc, e]
    apply Array.ext'
    simp
  · exact h.elim

end ops
end Go.AM
