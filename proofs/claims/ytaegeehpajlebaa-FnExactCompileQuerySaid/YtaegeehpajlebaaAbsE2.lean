/-
  The abstract machine: memory operations.
  Conditions: none.
-/
import Derived.Test.YtaegeehpajlebaaAbsE
namespace Go.AM
set_option linter.unusedVariables false
set_option linter.unusedSimpArgs false
section ops
variable {P : Program} {w : World} {ι : List K} {st : St} {a : Act} {K : A → St → Prop}

theorem run_zeroValue {t : TypeId} {i : TypeInfo} {v : Value} (hi : P.info? t = some i) (hz : i.zero = some v) : (zeroValue t).run P w = .ok v w := by
  simp [zeroValue, typeInfo, hi, hz]
theorem run_sizeOf' {t : TypeId} {n : Nat} (h : sizeOf? P t = some n) : (sizeOf t).run P w = .ok n w := by
  unfold sizeOf? at h
  cases hi : P.info? t with
  | none => simp [hi] at h
  | some i => simp [hi] at h; simp [sizeOf, typeInfo, hi, h]

theorem zeroCs_spec {t : TypeId} {cs : List C} (h : zeroCs P t = some cs) : ∃ i v, P.info? t = some i ∧ i.zero = some v ∧ constCs v.cells.toList = some cs := by
  unfold zeroCs at h
  split at h
  · rename_i i hi
    split at h
    · rename_i v hv; exact ⟨i, v, hi, hv, h⟩
    · cases h
  · cases h

/-! a new object of cells -/
theorem newCells {vs : Array Value} {cs : List C} {el : TypeId} (hs : SimSt w ι st a) (hc : RCs w ι st.ext.length cs vs.toList) :
    SimSt (w.alloc (.cells vs el)) (ι ++ [.blk w.heap.size]) (newOb st (.cells cs)) a ∧ Ext w ι (w.alloc (.cells vs el)) (ι ++ [.blk w.heap.size]) ∧
    RA (w.alloc (.cells vs el)) (ι ++ [.blk w.heap.size]) st.ext.length (.c (.ptr (.l st.loc.length) 0)) (.pointer (some ⟨w.heap.size, 0, none⟩)) := by
  have hx0 := Ext.alloc w ι (.cells vs el)
  have hx := hx0.push (k := .blk w.heap.size) (fun b hb => by cases hb; exact Nat.le_refl _)
  refine ⟨hs.push hx0 (fun b hb => heap_alloc_lt w _ hb) (fun b hb => by cases hb; simp) ⟨vs, el, heap_alloc_new w _, hc.mono hx⟩, hx, .c (.ptr (hs.newIdx _))⟩

theorem res_alloc {o : Oper} {t : TypeId} {z : List C} (ho : o.op = .alloc t) (hz : zeroCs P t = some z) (hs : SimSt w ι st a) (h : awOp P st true K (.alloc z)) :
    OpRes w ι st a K ((execOp a.eval o).run P w) := by
  obtain ⟨i, v, h1, h2, h3⟩ := zeroCs_spec hz
  obtain ⟨h4, h5, h6⟩ := newCells (el := t) hs (constCs_ra h3)
  refine ⟨_, _, _, _, _, .inl ?_, h, h4, h6, h5, rfl⟩
  simp [execOp, ho, Instr.alloc, run_zeroValue h1 h2, newVar, newRow]

theorem res_box {o : Oper} {t : TypeId} {x : Operand} {x' : Opd} (ho : o.op = .box t x) (hx : cOpd x = some x') (hs : SimSt w ι st a) (h : awOp P st true K (.box x')) :
    OpRes w ι st a K ((execOp a.eval o).run P w) := by
  simp only [awOp, QCallK, RowK, ByteK, B2SK, OptK, StoreK] at h
  split at h
  · rename_i cs hc
    obtain ⟨h4, h5, h6⟩ := newCells (el := t) hs ((val_ra hs hx h.1).cells_inv hc)
    refine ⟨_, _, _, _, _, .inl ?_, h.2, h4, h6, h5, rfl⟩
    simp [execOp, ho, Instr.box, newVar, newRow]
  · exact h.elim

/-! loads -/
theorem aggOf_some {t : TypeId} {n : Nat} (h : aggOf P t = some (some n)) (a : Addr) (ys : List Value) (hl : ys.length = n) (hc : ∀ (j : Nat) v, ys[j]? = some v → w.cell? (a.add j) = some v) :
    (loadVar t a).run P w = .ok (.agg ys.toArray) w := by
  unfold aggOf at h
  have hload := run_loadCells_list (P := P) w a ys hc
  split at h
  · rename_i i fs h1 h2
    cases h
    simp [loadVar, isAgg, run_underlying h2, sizeOf, typeInfo, h1, ← hl, hload]
  · rename_i i k e h1 h2
    cases h
    simp [loadVar, isAgg, run_underlying h2, sizeOf, typeInfo, h1, ← hl, hload]
  · cases h
  · cases h
theorem aggOf_none {t : TypeId} (h : aggOf P t = some none) (a : Addr) {y : Value} (hc : w.cell? a = some y) : (loadVar t a).run P w = .ok y w := by
  unfold aggOf at h
  split at h
  · cases h
  · cases h
  · rename_i i d h1 h2 hn1 hn2
    simp only [loadVar, isAgg, Sem.run_bind, run_underlying hn2, Result.andThen_ok]
    cases d <;> first | (simp [run_load, hc]; done) | (exact absurd rfl (h1 _ _ rfl)) | (exact absurd rfl (h2 _ _ _ rfl)) | skip
    all_goals simp_all
  · cases h

theorem part_agg {t : TypeId} {n : Nat} (h : aggOf P t = some (some n)) (cs : Array Value) (off : Nat) : (part t cs off).run P w = .ok (.agg (cs.extract off (off + n))) w := by
  unfold aggOf at h
  split at h
  · rename_i i fs h1 h2
    cases h
    simp [part, isAgg, run_underlying h2, sizeOf, typeInfo, h1]
  · rename_i i k e h1 h2
    cases h
    simp [part, isAgg, run_underlying h2, sizeOf, typeInfo, h1]
  · cases h
  · cases h
theorem part_one {t : TypeId} (h : aggOf P t = some none) (cs : Array Value) (off : Nat) {y : Value} (hc : cs[off]? = some y) : (part t cs off).run P w = .ok y w := by
  unfold aggOf at h
  split at h
  · cases h
  · cases h
  · rename_i i d h1 h2 hn1 hn2
    simp only [part, isAgg, Sem.run_bind, run_underlying hn2, Result.andThen_ok]
    cases d <;> first | (simp [hc]; done) | (exact absurd rfl (h1 _ _ rfl)) | (exact absurd rfl (h2 _ _ _ rfl)) | skip
    all_goals simp_all
  · cases h

/-- cells that are told can be loaded -/
theorem load_cut {t : TypeId} {n : Option Nat} {m : Nat} (ht : aggOf P t = some n) {cs : List C} {b o off : Nat} {x : A}
    (hc : ∀ (j : Nat) c, cs[j]? = some c → ∃ y, w.cell? ⟨b, o + j, none⟩ = some y ∧ RC w ι m c y) (hcut : cut cs off n = some x) :
    ∃ y, (loadVar t ⟨b, o + off, none⟩).run P w = .ok y w ∧ RA w ι m x y := by
  cases n with
  | none =>
    simp only [cut, Option.map_eq_some_iff] at hcut
    obtain ⟨c, h1, rfl⟩ := hcut
    obtain ⟨y, h2, h3⟩ := hc off c h1
    exact ⟨y, aggOf_none ht _ h2, .c h3⟩
  | some n =>
    simp only [cut] at hcut
    split at hcut
    · rename_i hle
      cases hcut
      let ys : List Value := (List.range n).map fun j => (w.cell? ⟨b, o + off + j, none⟩).getD undef
      have hg : ∀ j, j < n → ∃ c, cs[off + j]? = some c := fun j hj => ⟨cs[off + j], List.getElem?_eq_getElem (by omega)⟩
      refine ⟨.agg ys.toArray, aggOf_some ht _ ys (by simp [ys]) (fun j v hj => ?_), .agg ⟨by simp [ys]; omega, fun j c v h1 h2 => ?_⟩⟩
      · simp only [ys, List.getElem?_map, Option.map_eq_some_iff] at hj
        obtain ⟨j', h1, rfl⟩ := hj
        have hj' : j < n := by have := (List.getElem?_eq_some_iff.1 h1).1; simpa using this
        rw [List.getElem?_range hj'] at h1
        cases h1
        obtain ⟨c, h2⟩ := hg j hj'
        obtain ⟨y, h3, _⟩ := hc _ c h2
        rw [addr_add]
        rw [← Nat.add_assoc] at h3
        rw [h3]; rfl
      · have hj' : j < n := by
          have := (List.getElem?_eq_some_iff.1 h2).1
          simpa [ys] using this
        simp only [List.getElem?_take, hj', ↓reduceIte, List.getElem?_drop] at h1
        obtain ⟨y, h3, h4⟩ := hc _ c h1
        simp only [ys, List.getElem?_map, List.getElem?_range hj', Option.map_some] at h2
        rw [← Nat.add_assoc] at h3
        rw [h3] at h2
        cases h2
        exact h4
    · cases hcut

theorem load_ra {t : TypeId} {n : Option Nat} (ht : aggOf P t = some n) (hs : SimSt w ι st a) {c : C} {v : Value} (hc : RC w ι st.ext.length c v) {x : A} (hl : loadC st n c = some x) :
    ∃ ad y, v = .pointer (some ad) ∧ (loadVar t ad).run P w = .ok y w ∧ RA w ι st.ext.length x y := by
  cases hc with
  | @ptr r off b h1 =>
    simp only [loadC] at hl
    split at hl
    · rename_i cs hg
      obtain ⟨h2, _⟩ := getOb_heap hg (by simp)
      obtain ⟨vs, el, h3, h4⟩ := hs.sim.obj _ _ _ h2 h1
      have hcell : ∀ (j : Nat) c, cs[j]? = some c → ∃ y, w.cell? ⟨b, 0 + j, none⟩ = some y ∧ RC w ι st.ext.length c y := fun j c hj => by
        have hlt : j < vs.size := by have := (List.getElem?_eq_some_iff.1 hj).1; rw [← h4.1] at this; simpa using this
        refine ⟨vs[j], by simp [World.cell?, h3, hlt], h4.2 j c _ hj (by simp [hlt])⟩
      obtain ⟨y, h5, h6⟩ := load_cut ht hcell hl
      rw [Nat.zero_add] at h5
      exact ⟨_, y, rfl, h5, h6⟩
    · cases hl
  | @el row off b o h1 =>
    simp only [loadC] at hl
    have hcell : ∀ (j : Nat) c, (row.map C.d)[j]? = some c → ∃ y, w.cell? ⟨b, o + j, none⟩ = some y ∧ RC w ι st.ext.length c y := fun j c hj => by
      simp only [List.getElem?_map, Option.map_eq_some_iff] at hj
      obtain ⟨d, h2, rfl⟩ := hj
      obtain ⟨y, h3, _, h4⟩ := h1 j d h2
      exact ⟨y, h3, .d h4⟩
    obtain ⟨y, h5, h6⟩ := load_cut ht hcell hl
    exact ⟨_, y, rfl, h5, h6⟩
  | @rel r i off b sz len h1 =>
    simp only [loadC] at hl
    split at hl
    · rename_i rs hg
      split at hl
      · rename_i row hrow
        obtain ⟨h2, _⟩ := getOb_heap hg (by simp)
        obtain ⟨vs, el, h3, h4, h5, h6⟩ := hs.sim.obj _ _ _ h2 h1
        obtain ⟨h7, h8⟩ := h6 i row hrow
        have hcell : ∀ (j : Nat) c, (row.map C.d)[j]? = some c → ∃ y, w.cell? ⟨b, i * sz + j, none⟩ = some y ∧ RC w ι st.ext.length c y := fun j c hj => by
          simp only [List.getElem?_map, Option.map_eq_some_iff] at hj
          obtain ⟨d, h9, rfl⟩ := hj
          obtain ⟨y, h10, h11⟩ := h8 j d h9
          exact ⟨y, by simp [World.cell?, h3, h10], .d h11⟩
        obtain ⟨y, h5, h6⟩ := load_cut ht hcell hl
        exact ⟨_, y, rfl, h5, h6⟩
      · cases hl
    · cases hl
  | _ => simp [loadC] at hl

theorem res_load {o : Oper} {t : TypeId} {n : Option Nat} {x : Operand} {x' : Opd} (ho : o.op = .load t x) (ht : aggOf P t = some n) (hx : cOpd x = some x') (hs : SimSt w ι st a) (h : awOp P st true K (.load n x')) :
    OpRes w ι st a K ((execOp a.eval o).run P w) := by
  simp only [awOp, QCallK, RowK, ByteK, B2SK, OptK, StoreK] at h
  split at h
  · rename_i c hc
    obtain ⟨h1, h2⟩ := h
    split at h2
    · rename_i y hy
      have hv := val_ra hs hx h1
      rw [hc] at hv
      obtain ⟨ad, z, h3, h4, h5⟩ := load_ra ht hs hv.c_inv hy
      refine .pure hs (v := z) ?_ h2 h5
      simp [execOp, ho, Instr.loadAt, h3, Instr.sureAddr, h4]
    · exact h2.elim
  · exact h.elim

/-! stores -/
theorem splice_get (cs : List C) (off : Nat) (new : List C) (h : off + new.length ≤ cs.length) (j : Nat) :
    (splice cs off new)[j]? = if j < off then cs[j]? else if j < off + new.length then new[j - off]? else cs[j]? := by
  simp only [splice, List.getElem?_append, List.length_take, List.length_drop, List.getElem?_take, List.getElem?_drop]
  have : min off cs.length = off := by omega
  rw [this]
  by_cases h1 : j < off
  · simp [h1]
  · by_cases h2 : j < off + new.length
    · have : j - off < new.length := by omega
      simp [h1, h2, this]
    · have : ¬ j - off < new.length := by omega
      simp only [h1, h2, this, ↓reduceIte]
      congr 1
      omega
theorem spliceD_get (cs : List D) (off : Nat) (new : List D) (h : off + new.length ≤ cs.length) (j : Nat) :
    (spliceD cs off new)[j]? = if j < off then cs[j]? else if j < off + new.length then new[j - off]? else cs[j]? := by
  simp only [spliceD, List.getElem?_append, List.length_take, List.length_drop, List.getElem?_take, List.getElem?_drop]
  have : min off cs.length = off := by omega
  rw [this]
  by_cases h1 : j < off
  · simp [h1]
  · by_cases h2 : j < off + new.length
    · have : j - off < new.length := by omega
      simp [h1, h2, this]
    · have : ¬ j - off < new.length := by omega
      simp only [h1, h2, this, ↓reduceIte]
      congr 1
      omega
theorem splice_len (cs : List C) (off : Nat) (new : List C) (h : off + new.length ≤ cs.length) : (splice cs off new).length = cs.length := by
  simp [splice]; omega
theorem spliceD_len (cs : List D) (off : Nat) (new : List D) (h : off + new.length ≤ cs.length) : (spliceD cs off new).length = cs.length := by
  simp [spliceD]; omega
/-- the same on values -/
theorem spliceV_get (cs : List Value) (off : Nat) (new : List Value) (h : off + new.length ≤ cs.length) (j : Nat) :
    (cs.take off ++ new ++ cs.drop (off + new.length))[j]? = if j < off then cs[j]? else if j < off + new.length then new[j - off]? else cs[j]? := by
  simp only [List.append_assoc, List.getElem?_append, List.length_take, List.length_drop, List.getElem?_take, List.getElem?_drop]
  have : min off cs.length = off := by omega
  rw [this]
  by_cases h1 : j < off
  · simp [h1]
  · by_cases h2 : j < off + new.length
    · have : j - off < new.length := by omega
      simp [h1, h2, this]
    · have : ¬ j - off < new.length := by omega
      simp only [h1, h2, this, ↓reduceIte]
      congr 1
      omega

theorem toDs_spec : ∀ {cs : List C} {ds : List D}, toDs cs = some ds → ds.length = cs.length ∧ ∀ (n : Nat) w ι (i : Nat) c d v, cs[i]? = some c → ds[i]? = some d → RC w ι n c v → RD w (Safe w ι) d v
  | [], ds, h => by simp [toDs] at h; subst h; exact ⟨rfl, fun n w ι i c d v h => by simp at h⟩
  | c :: l, ds, h => by
    simp only [toDs] at h
    split at h
    · rename_i d r h1 h2
      cases h
      obtain ⟨h3, h4⟩ := toDs_spec h2
      refine ⟨by simp [h3], fun n w ι i c' d' v hc hd hr => ?_⟩
      cases i with
      | zero =>
        simp at hc hd
        subst hc; subst hd
        cases hr with
        | d h5 => simp [C.toD] at h1; subst h1; exact h5
        | own h5 _ => simp [C.toD] at h1; subst h1; exact h5
        | full h5 => simp [C.toD] at h1; subst h1; exact h5
        | _ => simp [C.toD] at h1
      | succ i => simp at hc hd; exact h4 n w ι i c' d' v hc hd hr
    · cases h

theorem res_store {o : Oper} {t : TypeId} {n : Nat} {x y : Operand} {x' y' : Opd} (ho : o.op = .store t x y) (ht : sizeOf? P t = some n) (hx : cOpd x = some x') (hy : cOpd y = some y') (hs : SimSt w ι st a)
    (h : awOp P st true K (.store n x' y')) : OpRes w ι st a K ((execOp a.eval o).run P w) := by
  simp only [awOp, QCallK, RowK, ByteK, B2SK, OptK, StoreK] at h
  split at h
  · rename_i c cs hc hcs
    obtain ⟨h1, h2, h3, h4⟩ := h
    split at h4
    · rename_i st' hst
      obtain ⟨hf, h4⟩ := h4
      have hv := val_ra hs hx h1
      rw [hc] at hv
      have hv := hv.c_inv
      have hcv := (val_ra hs hy h2).cells_inv hcs
      have hone := hcv.oneCell
      generalize hpv : a.eval x = pv at hv
      have hrun : ∀ b off w', (storeCells ⟨b, off, none⟩ (a.eval y).cells.toList 0).run P w = .ok () w' → pv = .pointer (some ⟨b, off, none⟩) → (execOp a.eval o).run P w = .ok .skip w' := fun b off w' hr hp => by
        have hsz : (a.eval y).cells.size = n := by have := hcv.1; simp at this; omega
        simp [execOp, ho, Instr.storeAt, hpv, hp, Instr.sureAddr, storeVar, run_sizeOf' ht, hsz, hr]
      cases hv with
      | @ptr r off b hk =>
        simp only [storeC] at hst
        split at hst
        · rename_i cs0 hg
          split at hst
          · rename_i hle
            cases hst
            obtain ⟨hh, hr⟩ := getOb_heap hg (by simp)
            obtain ⟨vs, el, h5, h6⟩ := hs.sim.obj _ _ _ hh hk
            have hlen : vs.size = cs0.length := by have := h6.1; simpa using this
            have hl2 : (a.eval y).cells.toList.length = cs.length := hcv.1
            have hrun' := run_storeCells_at P b off el (a.eval y).cells.toList 0 vs w h5 (by omega) hone
            simp only [Nat.add_zero] at hrun'
            obtain ⟨X, hX⟩ : ∃ X, X = (vs.toList.take off ++ (a.eval y).cells.toList ++ vs.toList.drop (off + (a.eval y).cells.toList.length)).toArray := ⟨_, rfl⟩
            rw [← hX] at hrun'
            have hl3 : (a.eval y).cells.size = cs.length := by simpa using hl2
            have hXs : X.toList.length = vs.size := by rw [hX]; simp; omega
            have hXg : ∀ j, X.toList[j]? = if j < off then vs.toList[j]? else if j < off + cs.length then (a.eval y).cells.toList[j - off]? else vs.toList[j]? := fun j => by
              rw [hX]
              show (vs.toList.take off ++ (a.eval y).cells.toList ++ vs.toList.drop (off + (a.eval y).cells.toList.length))[j]? = _
              rw [spliceV_get _ _ _ (by simp at hl2 ⊢; omega), hl2]
            obtain ⟨hs', hx'⟩ := hs.setBlock (w' := w.setRow b X) hk (.inl rfl) hr rfl rfl rfl (by simp) (fun c hc => setRow_other w b c _ hc) (o := .cells (splice cs0 off cs))
              (fun hx' => ⟨_, el, setRow_heap w b vs _ el (0, 0) h5, by
                refine ⟨by rw [splice_len _ _ _ hle, hXs]; omega, fun i c v h7 h8 => ?_⟩
                rw [splice_get _ _ _ hle] at h7
                rw [hXg] at h8
                refine RC.mono hx' ?_
                by_cases e1 : i < off
                · simp only [e1, ↓reduceIte] at h7 h8; exact h6.2 i c v h7 h8
                · by_cases e2 : i < off + cs.length
                  · simp only [e1, e2, ↓reduceIte] at h7 h8; exact hcv.2 _ c v h7 h8
                  · simp only [e1, e2, ↓reduceIte] at h7 h8; exact h6.2 i c v h7 h8⟩) hf
            refine ⟨undef, _, .u, _, ι, .inr ⟨hrun b off _ hrun' rfl, rfl⟩, h4, hs', .u, hx', ?_⟩
            cases r <;> simp [setOb]
          · cases hst
        · cases hst
      | @rel r i off b sz len hk =>
        simp only [storeC] at hst
        split at hst
        · rename_i rs hg
          split at hst
          · rename_i row ds hrow hds
            split at hst
            · rename_i hle
              cases hst
              obtain ⟨hh, hr⟩ := getOb_heap hg (by simp)
              obtain ⟨vs, el, h5, h6, h6', h7⟩ := hs.sim.obj _ _ _ hh hk
              obtain ⟨h8, h9⟩ := h7 i row hrow
              obtain ⟨hdl, hdr⟩ := toDs_spec hds
              have hl2 : (a.eval y).cells.toList.length = cs.length := hcv.1
              have hi : i < rs.length := (List.getElem?_eq_some_iff.1 hrow).1
              have hmul : i * sz + sz ≤ rs.length * sz := by
                have : (i + 1) * sz ≤ rs.length * sz := Nat.mul_le_mul_right sz hi
                simpa [Nat.add_mul] using this
              have hrun' := run_storeCells_at P b (i * sz + off) el (a.eval y).cells.toList 0 vs w h5 (by omega) hone
              simp only [Nat.add_zero] at hrun'
              obtain ⟨X, hX⟩ : ∃ X, X = (vs.toList.take (i * sz + off) ++ (a.eval y).cells.toList ++ vs.toList.drop (i * sz + off + (a.eval y).cells.toList.length)).toArray := ⟨_, rfl⟩
              rw [← hX] at hrun'
              have hl3 : (a.eval y).cells.size = cs.length := by simpa using hl2
              have hXs : X.size = vs.size := by rw [hX]; simp; omega
              have hget : ∀ j, X[j]? = if j < i * sz + off then vs[j]? else if j < i * sz + off + cs.length then (a.eval y).cells.toList[j - (i * sz + off)]? else vs[j]? := fun j => by
                rw [hX, List.getElem?_toArray, spliceV_get _ _ _ (by simp; omega), hl2]
                simp
              obtain ⟨hs', hx'⟩ := hs.setBlock (w' := w.setRow b X) hk (.inr ⟨sz, len, rfl⟩) hr rfl rfl rfl (by simp) (fun c hc => setRow_other w b c _ hc) (o := .rows (rs.set i (spliceD row off ds)))
                (fun hx' => ⟨_, el, setRow_heap w b vs _ el (0, 0) h5, by rw [hXs]; simpa using h6, by simpa using h6', fun i' r' hr' => by
                  simp only [List.getElem?_set] at hr'
                  by_cases e : i = i'
                  · subst e
                    simp only [↓reduceIte, hi] at hr'
                    cases hr'
                    refine ⟨by rw [spliceD_len _ _ _ hle]; exact h8, fun j x hj => ?_⟩
                    rw [spliceD_get _ _ _ hle] at hj
                    have hjl : j < row.length := by
                      by_cases e1 : j < off
                      · omega
                      · by_cases e2 : j < off + ds.length
                        · omega
                        · simp only [e1, e2, ↓reduceIte] at hj; exact (List.getElem?_eq_some_iff.1 hj).1
                    rw [hget]
                    by_cases e1 : j < off
                    · simp only [e1, ↓reduceIte] at hj
                      obtain ⟨y, p, q⟩ := h9 j x hj
                      refine ⟨y, ?_, q.mono hx'.safe⟩
                      rw [if_pos (by omega)]; exact p
                    · by_cases e2 : j < off + ds.length
                      · simp only [e1, e2, ↓reduceIte] at hj
                        have hj2 : j - off < cs.length := by omega
                        have hj3 : j - off < (a.eval y).cells.toList.length := by omega
                        have hv := hdr st.ext.length w ι (j - off) cs[j - off] x (a.eval y).cells.toList[j - off] (List.getElem?_eq_getElem hj2) hj
                          (hcv.2 _ _ _ (List.getElem?_eq_getElem hj2) (List.getElem?_eq_getElem hj3))
                        refine ⟨_, ?_, hv.mono hx'.safe⟩
                        rw [if_neg (by omega), if_pos (by omega), show i * sz + j - (i * sz + off) = j - off by omega]
                        exact List.getElem?_eq_getElem hj3
                      · simp only [e1, e2, ↓reduceIte] at hj
                        obtain ⟨y, p, q⟩ := h9 j x hj
                        refine ⟨y, ?_, q.mono hx'.safe⟩
                        rw [if_neg (by omega), if_neg (by omega)]; exact p
                  · simp only [e, ↓reduceIte] at hr'
                    obtain ⟨p1, p2⟩ := h7 i' r' hr'
                    refine ⟨p1, fun j x hj => ?_⟩
                    obtain ⟨y, p, q⟩ := p2 j x hj
                    refine ⟨y, ?_, q.mono hx'.safe⟩
                    have hjs : j < sz := by rw [← p1]; exact (List.getElem?_eq_some_iff.1 hj).1
                    rw [hget]
                    rcases Nat.lt_or_gt_of_ne e with h10 | h10
                    · have : (i + 1) * sz ≤ i' * sz := Nat.mul_le_mul_right sz h10
                      rw [Nat.add_mul] at this
                      rw [if_neg (by omega), if_neg (by omega)]; exact p
                    · have : (i' + 1) * sz ≤ i * sz := Nat.mul_le_mul_right sz h10
                      rw [Nat.add_mul] at this
                      rw [if_pos (by omega)]; exact p⟩) hf
              refine ⟨undef, _, .u, _, ι, .inr ⟨hrun b (i * sz + off) _ hrun' rfl, rfl⟩, h4, hs', .u, hx', ?_⟩
              cases r <;> simp [setOb]
            · cases hst
          · cases hst
        · cases hst
      | _ => simp [storeC] at hst
    · exact h4.elim
  · exact h.elim

end ops
end Go.AM
