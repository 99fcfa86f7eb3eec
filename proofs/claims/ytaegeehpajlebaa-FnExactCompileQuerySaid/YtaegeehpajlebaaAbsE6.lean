/-
  The abstract machine: literals, and slices that are made.
  Conditions: none.
-/
import Derived.Test.YtaegeehpajlebaaAbsE5
namespace Go.AM
set_option linter.unusedVariables false
set_option linter.unusedSimpArgs false

theorem fold_get (xs : List Value) (off : Nat) : ∀ (k : Nat) (cells : Array Value) (j : Nat),
    ((xs.zipIdx k).foldl (fun cs p => cs.setIfInBounds (off + p.2) p.1) cells)[j]? = if off + k ≤ j ∧ j < off + k + xs.length ∧ j < cells.size then xs[j - (off + k)]? else cells[j]? := by
  induction xs with
  | nil => intro k cells j; simp; intro h1 h2; omega
  | cons x xs ih =>
    intro k cells j
    simp only [List.zipIdx_cons, List.foldl_cons, ih, Array.size_setIfInBounds, List.length_cons, Array.getElem?_setIfInBounds]
    by_cases h1 : off + (k + 1) ≤ j ∧ j < off + (k + 1) + xs.length ∧ j < cells.size
    · rw [if_pos h1, if_pos (by omega)]
      have : j - (off + k) = (j - (off + (k + 1))) + 1 := by omega
      rw [this]; simp
    · rw [if_neg h1]
      by_cases h2 : off + k = j
      · subst h2
        simp only [↓reduceIte]
        by_cases h3 : off + k < cells.size
        · simp [h3]
        · simp [h3]
      · simp only [h2, ↓reduceIte]
        rw [if_neg (by omega)]

theorem fold_toList (v : Array Value) (off : Nat) (cells : Array Value) (h : off + v.size ≤ cells.size) :
    (v.zipIdx.foldl (fun cs (p : Value × Nat) => cs.setIfInBounds (off + p.2) p.1) cells).toList = cells.toList.take off ++ v.toList ++ cells.toList.drop (off + v.toList.length) := by
  apply List.ext_getElem?
  intro j
  rw [← Array.foldl_toList, Array.toList_zipIdx, Array.getElem?_toList, fold_get v.toList off 0 cells j, spliceV_get _ _ _ (by simpa using h)]
  simp only [Array.length_toList, Nat.add_zero, Array.getElem?_toList]
  by_cases h1 : j < off
  · rw [if_neg (by omega), if_pos h1]
  · by_cases h2 : j < off + v.size
    · rw [if_pos (by omega), if_neg h1, if_pos h2]
    · rw [if_neg (by omega), if_neg h1, if_neg h2]

section ops
variable {P : Program} {w : World} {ι : List K} {st : St} {a : Act} {K : A → St → Prop}

theorem places_run {fs : List Field} {pl : List (Nat × Nat)} (h : placesOf P fs = some pl) : (fs.mapM fun f => do pure (f.offset, ← sizeOf f.type) : Sem (List (Nat × Nat))).run P w = .ok pl w := by
  induction fs generalizing pl with
  | nil => simp [placesOf] at h; subst h; simp
  | cons f fs ih =>
    simp only [placesOf] at h
    split at h
    · rename_i n r h1 h2
      cases h
      simp only [List.mapM_cons, Sem.run_bind, run_sizeOf' h1, Result.andThen_ok, Sem.run_pure, ih h2]
    · cases h

/-- a row of told cells, one part laid over it -/
theorem splice_RCs {n : Nat} {cs x : List C} {vs us : List Value} {off : Nat} (hc : RCs w ι n cs vs) (hx : RCs w ι n x us) (hle : off + x.length ≤ cs.length) :
    RCs w ι n (splice cs off x) (vs.take off ++ us ++ vs.drop (off + us.length)) := by
  have hl : us.length = x.length := hx.1
  have hl2 : vs.length = cs.length := hc.1
  refine ⟨by rw [splice_len _ _ _ hle]; simp; omega, fun i c v h1 h2 => ?_⟩
  rw [splice_get _ _ _ hle] at h1
  rw [spliceV_get _ _ _ (by omega), hl] at h2
  by_cases e1 : i < off
  · simp only [e1, ↓reduceIte] at h1 h2; exact hc.2 i c v h1 h2
  · by_cases e2 : i < off + x.length
    · simp only [e1, e2, ↓reduceIte] at h1 h2; exact hx.2 _ c v h1 h2
    · simp only [e1, e2, ↓reduceIte] at h1 h2; exact hc.2 i c v h1 h2

theorem fill_spec (hs : SimSt w ι st a) (pl : Nat → Option (Nat × Nat)) : ∀ {ps : List (Nat × Operand)} {ps' : List (Nat × Nat × Opd)} {cs cs' : List C} {vs : Array Value}, cParts pl ps = some ps' → partsOk true st.sl ps' → RCs w ι st.ext.length cs vs.toList →
    fillC cs (partsA st.sl ps') = some cs' → ∃ us : Array Value, Instr.fill pl vs (ps.map fun p => (p.1, a.eval p.2)) = some us ∧ RCs w ι st.ext.length cs' us.toList
  | [], ps', cs, cs', vs, h, _, hr, hf => by
    simp [cParts] at h
    subst h
    simp [partsA, fillC] at hf
    subst hf
    exact ⟨vs, rfl, hr⟩
  | (i, x) :: ps, ps', cs, cs', vs, h, hok, hr, hf => by
    simp only [cParts] at h
    split at h
    · rename_i off n y r h1 h2 h3
      cases h
      simp only [partsOk] at hok
      simp only [partsA, fillC] at hf
      split at hf
      · rename_i x' hx'
        split at hf
        · rename_i hle
          have hv := (val_ra hs h2 hok.1).cells_inv hx'
          have hsz : (a.eval x).cells.size = n := by have := hv.1; simp at this; omega
          have hcl : vs.size = cs.length := by have := hr.1; simpa using this
          have hstep : RCs w ι st.ext.length (splice cs off x') ((a.eval x).cells.zipIdx.foldl (fun cs (p : Value × Nat) => cs.setIfInBounds (off + p.2) p.1) vs).toList := by
            rw [fold_toList _ _ _ (by omega)]
            exact splice_RCs hr hv (by omega)
          obtain ⟨us, h4, h5⟩ := fill_spec hs pl h3 hok.2 hstep hf
          refine ⟨us, ?_, h5⟩
          simp only [List.map_cons, Instr.fill, h1]
          rw [if_neg (by simp; omega)]
          exact h4
        · cases hf
      · cases hf
    · cases h

theorem res_build {o : Oper} {t : TypeId} {ps : Array (Nat × Operand)} {z : List C} {pl : Nat → Option (Nat × Nat)} {ps' : List (Nat × Nat × Opd)} (ho : o.op = .build t ps) (hz : zeroCs P t = some z)
    (ht : (∃ fs pls, P.underlying t = some (.struct fs) ∧ placesOf P fs.toList = some pls ∧ pl = (fun (i : Nat) => pls[i]?)) ∨ (∃ k e n, P.underlying t = some (.array k e) ∧ sizeOf? P e = some n ∧ pl = fun i => some (i * n, n)))
    (hp : cParts pl ps.toList = some ps') (hs : SimSt w ι st a) (h : awOp P st true K (.build z ps')) : OpRes w ι st a K ((execOp a.eval o).run P w) := by
  obtain ⟨i, v, h1, h2, h3⟩ := zeroCs_spec hz
  simp only [awOp] at h
  obtain ⟨h4, h5⟩ := h
  obtain ⟨cs, hcs, h5⟩ := optK_map h5
  · obtain ⟨us, h6, h7⟩ := fill_spec hs pl hp h4 (constCs_ra h3) hcs
    refine .pure hs (v := .agg us) ?_ h5 (by simpa using RA.agg h7)
    have hmap : (ps.map fun (i, x) => (i, a.eval x)).toList = ps.toList.map fun p => (p.1, a.eval p.2) := by simp
    rcases ht with ⟨fs, pls, h8, h9, rfl⟩ | ⟨k, e, n, h8, h9, rfl⟩
    · have hpl : (fs.mapM fun f => do pure (f.offset, ← sizeOf f.type) : Sem (Array (Nat × Nat))).run P w = .ok pls.toArray w := by
        rw [Array.mapM_eq_mapM_toList, Sem.run_map, places_run h9]
        rfl
      have hfe : (fun (i : Nat) => pls.toArray[i]?) = (fun (i : Nat) => pls[i]?) := by funext i; simp
      simp only [execOp, ho, Instr.build, Sem.run_bind, run_zeroValue h1 h2, run_underlying h8, Result.andThen_ok, hpl, hmap, hfe, h6, Sem.run_pure]
    · simp only [execOp, ho, Instr.build, Sem.run_bind, run_zeroValue h1 h2, run_underlying h8, Result.andThen_ok, run_sizeOf' h9, hmap, h6, Sem.run_pure]

/-- cells in rows -/
def RowsRel (w : World) (S : Nat → Nat → Prop) (vs : Array Value) (rows : List (List D)) (n : Nat) : Prop :=
  vs.size = rows.length * n ∧ ∀ (i : Nat) (r : List D), rows[i]? = some r → r.length = n ∧ ∀ (j : Nat) (x : D), r[j]? = some x → ∃ y, vs[i * n + j]? = some y ∧ RD w S x y

theorem RowsRel.set {S : Nat → Nat → Prop} {vs : Array Value} {rows : List (List D)} {n i : Nat} {x : List D} {us : Array Value} (h : RowsRel w S vs rows n) (hi : i < rows.length) (hx : x.length = n) (hu : us.size = n)
    (hr : ∀ (j : Nat) d v, x[j]? = some d → us[j]? = some v → RD w S d v) : RowsRel w S (us.zipIdx.foldl (fun cs (p : Value × Nat) => cs.setIfInBounds (i * n + p.2) p.1) vs) (rows.set i x) n := by
  have hmul : i * n + n ≤ rows.length * n := by
    have : (i + 1) * n ≤ rows.length * n := Nat.mul_le_mul_right n hi
    simpa [Nat.add_mul] using this
  have hle : i * n + us.size ≤ vs.size := by rw [h.1, hu]; exact hmul
  have hl := fold_toList us (i * n) vs hle
  generalize us.zipIdx.foldl (fun cs (p : Value × Nat) => cs.setIfInBounds (i * n + p.2) p.1) vs = X at hl
  have hXs : X.size = vs.size := by
    have := congrArg List.length hl
    simp at this; omega
  have hX : ∀ j, X[j]? = if j < i * n then vs[j]? else if j < i * n + n then us[j - i * n]? else vs[j]? := fun j => by
    have : X.toList[j]? = _ := congrArg (·[j]?) hl
    rw [spliceV_get _ _ _ (by simpa using hle)] at this
    simpa [hu] using this
  refine ⟨by rw [hXs, h.1]; simp, fun i' r hr' => ?_⟩
  simp only [List.getElem?_set] at hr'
  by_cases e : i = i'
  · subst e
    simp only [↓reduceIte, hi] at hr'
    cases hr'
    refine ⟨hx, fun j d hj => ?_⟩
    have hjn : j < n := by rw [← hx]; exact (List.getElem?_eq_some_iff.1 hj).1
    rw [hX, if_neg (by omega), if_pos (by omega), show i * n + j - i * n = j by omega]
    exact ⟨us[j], by simp [hu, hjn], hr j d _ hj (by simp [hu, hjn])⟩
  · simp only [e, ↓reduceIte] at hr'
    obtain ⟨p1, p2⟩ := h.2 i' r hr'
    refine ⟨p1, fun j d hj => ?_⟩
    have hjn : j < n := by rw [← p1]; exact (List.getElem?_eq_some_iff.1 hj).1
    obtain ⟨y, p, q⟩ := p2 j d hj
    refine ⟨y, ?_, q⟩
    rw [hX]
    rcases Nat.lt_or_gt_of_ne e with h10 | h10
    · have : (i + 1) * n ≤ i' * n := Nat.mul_le_mul_right n h10
      rw [Nat.add_mul] at this
      rw [if_neg (by omega), if_neg (by omega)]; exact p
    · have : (i' + 1) * n ≤ i * n := Nat.mul_le_mul_right n h10
      rw [Nat.add_mul] at this
      rw [if_pos (by omega)]; exact p

/-- zero cells, row by row -/
theorem RowsRel.zero {S : Nat → Nat → Prop} {z : List D} {zv : Array Value} {n len : Nat} (hz : z.length = n) (hn : 0 < n) (hv : zv.size = n) (hr : ∀ (j : Nat) d v, z[j]? = some d → zv[j]? = some v → RD w S d v) :
    RowsRel w S ((Array.range (len * n)).map (zv[· % zv.size]!)) (List.replicate len z) n := by
  refine ⟨by simp, fun i r hi => ?_⟩
  have hil : i < len := by have := (List.getElem?_eq_some_iff.1 hi).1; simpa using this
  have : r = z := by simp [List.getElem?_replicate, hil] at hi; exact hi.symm
  subst this
  refine ⟨hz, fun j d hj => ?_⟩
  have hjn : j < n := by rw [← hz]; exact (List.getElem?_eq_some_iff.1 hj).1
  have hlt : i * n + j < len * n := by
    have : (i + 1) * n ≤ len * n := Nat.mul_le_mul_right n hil
    rw [Nat.add_mul] at this; omega
  refine ⟨zv[j]'(by omega), ?_, hr j d _ hj (by simp [hv, hjn])⟩
  have hmod : (i * n + j) % n = j := by rw [Nat.add_comm, Nat.add_mul_mod_self_right]; exact Nat.mod_eq_of_lt hjn
  simp [hlt, hv, hmod, hjn]

theorem fillRows_spec (hs : SimSt w ι st a) {n : Nat} : ∀ {ps : List (Nat × Operand)} {ps' : List (Nat × Opd)} {rows rows' : List (List D)} {vs : Array Value}, cParts2 ps = some ps' → parts2Ok true st.sl ps' → RowsRel w (Safe w ι) vs rows n →
    fillRows rows n (parts2A st.sl ps') = some rows' → ∃ us : Array Value, Instr.fill (fun i => some (i * n, n)) vs (ps.map fun p => (p.1, a.eval p.2)) = some us ∧ RowsRel w (Safe w ι) us rows' n ∧ rows'.length = rows.length
  | [], ps', rows, rows', vs, h, _, hr, hf => by
    simp [cParts2] at h
    subst h
    simp [parts2A, fillRows] at hf
    subst hf
    exact ⟨vs, rfl, hr, rfl⟩
  | (i, x) :: ps, ps', rows, rows', vs, h, hok, hr, hf => by
    simp only [cParts2] at h
    split at h
    · rename_i y r h2 h3
      cases h
      simp only [parts2Ok] at hok
      simp only [parts2A, fillRows] at hf
      split at hf
      · rename_i x' hx'
        split at hf
        · rename_i hle
          obtain ⟨hle, hi⟩ := hle
          simp only [Option.bind_eq_some_iff] at hx'
          obtain ⟨cs, hcs, hds⟩ := hx'
          have hv := (val_ra hs h2 hok.1).cells_inv hcs
          obtain ⟨d1, d2⟩ := toDs_spec hds
          have hsz : (a.eval x).cells.size = n := by have := hv.1; simp at this; omega
          have hstep := hr.set hi hle hsz (fun j d v hj hjv => by
            have hjc : j < cs.length := by rw [← d1]; exact (List.getElem?_eq_some_iff.1 hj).1
            exact d2 st.ext.length w ι j cs[j] d v (List.getElem?_eq_getElem hjc) hj (hv.2 j _ v (List.getElem?_eq_getElem hjc) (by simpa using hjv)))
          obtain ⟨us, h4, h5, h6⟩ := fillRows_spec hs h3 hok.2 hstep hf
          refine ⟨us, ?_, h5, by simpa using h6⟩
          have hmul : i * n + n ≤ rows.length * n := by
            have : (i + 1) * n ≤ rows.length * n := Nat.mul_le_mul_right n hi
            simpa [Nat.add_mul] using this
          simp only [List.map_cons, Instr.fill]
          rw [if_neg (by have := hr.1; simp; omega)]
          exact h4
        · cases hf
      · cases hf
    · cases h

/-- a new row that no object says anything of -/
theorem newRows {rows : List (List D)} {vs : Array Value} {n cap : Nat} {el : TypeId} {w' : World} (hs : SimSt w ι st a) (hw : w'.heap = w.heap) (hd : w'.os = w.os ∧ w'.tape = w.tape ∧ w'.output = w.output)
    (hr : ∀ (i : Nat) (r : List D), rows[i]? = some r → r.length = n ∧ ∀ (j : Nat) (x : D), r[j]? = some x → ∃ y, vs[i * n + j]? = some y ∧ RD w (Safe w ι) x y) (hm : rows.length ≤ maxRows) (hc : rows.length ≤ cap) :
    SimSt (w'.alloc (.cells vs el)) ι st a ∧ Ext w ι (w'.alloc (.cells vs el)) ι ∧ RD (w'.alloc (.cells vs el)) (Safe (w'.alloc (.cells vs el)) ι) (.sl rows) (.slice (some ⟨w.heap.size, 0, none⟩) rows.length cap) := by
  have hb : ∀ b, b < w.heap.size → (w'.alloc (.cells vs el)).heap[b]? = w.heap[b]? := fun b hb => by rw [heap_alloc_lt _ _ (by rw [hw]; exact hb), hw]
  have hx : Ext w ι (w'.alloc (.cells vs el)) ι := .of_blocks hd.1 hd.2.1 hd.2.2 (by simp [hw]) hb
  refine ⟨hs.of_blocks hx hb, hx, RD.sl_iff.2 (.inr ⟨w.heap.size, 0, n, rfl, rfl, hc, hm, fun i r hi => ?_⟩)⟩
  obtain ⟨h1, h2⟩ := hr i r hi
  refine ⟨h1, fun j x hj => ?_⟩
  obtain ⟨y, p, q⟩ := h2 j x hj
  refine ⟨y, ?_, ⟨by simp [hw], fun k hk ho => by have := hs.sim.low k _ hk (AM.K.at_of_owns ho); omega⟩, q.mono hx.safe⟩
  have := heap_alloc_new w' (.cells vs el)
  rw [hw] at this
  simp [World.cell?, this, p]

theorem zeroDs_spec {e : TypeId} {z : List D} (h : (zeroCs P e).bind toDs = some z) : ∃ i v, P.info? e = some i ∧ i.zero = some v ∧ z.length = v.cells.size ∧ ∀ (w : World) (ι : List AM.K) (j : Nat) d u, z[j]? = some d → v.cells[j]? = some u → RD w (Safe w ι) d u := by
  simp only [Option.bind_eq_some_iff] at h
  obtain ⟨cs, h1, h2⟩ := h
  obtain ⟨i, v, h3, h4, h5⟩ := zeroCs_spec h1
  obtain ⟨d1, d2⟩ := toDs_spec h2
  have hl : v.cells.size = cs.length := by
    have := (constCs_ra (w := default) (ι := []) (n := 0) h5).1
    simpa using this
  refine ⟨i, v, h3, h4, by omega, fun w ι j d u hj hu => ?_⟩
  have hjc : j < cs.length := by rw [← d1]; exact (List.getElem?_eq_some_iff.1 hj).1
  exact d2 0 w ι j cs[j] d u (List.getElem?_eq_getElem hjc) hj ((constCs_ra h5).2 j _ u (List.getElem?_eq_getElem hjc) (by simpa using hu))

theorem res_buildSlice {o : Oper} {t e : TypeId} {len n : Nat} {ps : Array (Nat × Operand)} {z : List D} {ps' : List (Nat × Opd)} (ho : o.op = .buildSlice t len ps) (h1 : P.underlying t = some (.slice e)) (h2 : sizeOf? P e = some n) (h3 : (zeroCs P e).bind toDs = some z)
    (h4 : len * n ≤ 2 ^ 24 ∧ z.length = n ∧ 0 < n ∧ len ≤ maxRows) (hp : cParts2 ps.toList = some ps') (hs : SimSt w ι st a) (h : awOp P st true K (.buildSlice n len z ps')) : OpRes w ι st a K ((execOp a.eval o).run P w) := by
  obtain ⟨i, v, h5, h6, h7, h8⟩ := zeroDs_spec h3
  simp only [awOp] at h
  obtain ⟨hok, h⟩ := h
  obtain ⟨rows, hrows, h⟩ := optK_map h
  · skip
    obtain ⟨zv, hzv⟩ : ∃ zv : Array Value, zv = if len * n = 0 then #[] else v.cells := ⟨_, rfl⟩
    have hrel : RowsRel w (Safe w ι) ((Array.range (len * n)).map (zv[· % zv.size]!)) (List.replicate len z) n := by
      by_cases h0 : len * n = 0
      · have : len = 0 := by rcases Nat.mul_eq_zero.1 h0 with h | h <;> omega
        subst this
        exact ⟨by simp, fun i r hi => by simp at hi⟩
      · rw [if_neg h0] at hzv
        subst hzv
        exact .zero h4.2.1 h4.2.2.1 (by omega) (fun j d u hj hu => h8 w ι j d u hj hu)
    obtain ⟨us, h9, h10, h11⟩ := fillRows_spec hs hp hok hrel hrows
    have hlen : rows.length = len := by rw [h11]; simp
    obtain ⟨k1, k2, k3⟩ := newRows (w' := w) (el := e) (cap := len) hs rfl ⟨rfl, rfl, rfl⟩ h10.2 (by omega) (by omega)
    rw [hlen] at k3
    refine ⟨_, _, _, st, ι, .inl ?_, h, k1, .c (.full k3), k2, rfl⟩
    have hmap : (ps.map fun (i, x) => (i, a.eval x)).toList = ps.toList.map fun p => (p.1, a.eval p.2) := by simp
    have hno : ¬ (len * n > 2 ^ 24) := by omega
    by_cases h0 : len * n = 0
    · rw [if_pos h0] at hzv
      subst hzv
      simp only [execOp, ho, Instr.buildSlice, Sem.run_bind, run_underlying h1, Result.andThen_ok, run_sizeOf' h2, hno, ↓reduceIte, h0, Sem.run_pure, hmap, show ¬ ((0 : Nat) > 2 ^ 24) by omega]
      rw [h0] at h9
      simp only [h9, newRow, Sem.run_bind, run_newObj, Result.andThen_ok, Sem.run_pure]
      rfl
    · rw [if_neg h0] at hzv
      subst hzv
      simp only [execOp, ho, Instr.buildSlice, Sem.run_bind, run_underlying h1, Result.andThen_ok, run_sizeOf' h2, hno, ↓reduceIte, h0, run_zeroValue h5 h6, Sem.run_pure, hmap, h9, newRow, run_newObj]
      rfl

end ops
end Go.AM
