/-
  The abstract machine: make and append.
  Conditions: none.
-/
import Derived.Test.YtaegeehpajlebaaAbsE6
import Derived.Laws.MakeOwn
import Derived.Deep.AppendSrc
import Derived.Deep.Upon
import Derived.Deep.DeepAppendWide
namespace Go.AM
set_option linter.unusedVariables false
set_option linter.unusedSimpArgs false
section ops
variable {P : Program} {w : World} {ι : List K} {st : St} {a : Act} {K : A → St → Prop}

theorem res_mkSlice {o : Oper} {t e : TypeId} {i : Nat} {inf : TypeInfo} {z : List D} (ho : o.op = .makeSlice t (.tmp i) (.tmp i)) (h1 : P.underlying t = some (.slice e)) (h2 : P.info? e = some inf) (h3 : (zeroCs P e).bind toDs = some z)
    (h4 : inf.bytes ≤ 4096 ∧ z.length = inf.size ∧ 0 < inf.size) (hs : SimSt w ι st a) (h : awOp P st true K (.mkSlice z (.t i))) : OpRes w ι st a K ((execOp a.eval o).run P w) := by
  obtain ⟨inf', v, h5, h6, h7, h8⟩ := zeroDs_spec h3
  rw [h2] at h5
  cases h5
  simp only [awOp, QCallK, RowK, ByteK, B2SK, OptK, StoreK] at h
  split at h
  · rename_i k n hn
    obtain ⟨hok, h9, h10, h11⟩ := h
    have hv := val_ra hs (o := .tmp i) (y := .t i) rfl hok
    rw [hn] at hv
    have hev := hv.int_inv.1
    unfold maxApp at h10
    obtain ⟨m, rfl⟩ := Int.eq_ofNat_of_zero_le h9
    have hm : m ≤ 2 ^ 32 := by omega
    simp only [Int.ofNat_eq_natCast, Int.toNat_natCast] at h11 hev
    have hb : (inf.bytes : Int) * (m : Int) ≤ 281474976710656 := by
      have : inf.bytes * m ≤ 4096 * 2 ^ 32 := Nat.mul_le_mul h4.1 hm
      have h' : (inf.bytes : Int) * (m : Int) = ((inf.bytes * m : Nat) : Int) := by simp
      rw [h']; omega
    have hmk := run_make (P := P) w t e inf v h1 h2 h6 k k (m : Int) (m : Int) (by omega) (Int.le_refl _) hb (by omega)
    simp only [Int.toNat_natCast] at hmk
    have hrel : ∀ (w' : World) ι', RowsRel w' (Safe w' ι') (madeCells v.cells (m * inf.size)) (List.replicate m z) inf.size := fun w' ι' =>
      .zero h4.2.1 h4.2.2 (by omega) (fun j d u hj hu => h8 w' ι' j d u hj hu)
    generalize hcells : madeCells v.cells (m * inf.size) = cells at hrel hmk
    have hrun : (execOp a.eval o).run P w = .ok (.value (.slice (some ⟨w.heap.size, 0, none⟩) m m)) (w.alloc (.cells cells e)) := by
      simp only [execOp, ho, hev, Sem.run_bind, hmk, Result.andThen_ok, Sem.run_pure]
    have hx0 := Ext.alloc w ι (.cells cells e)
    have hk : ∀ b, (AM.K.rows w.heap.size inf.size m).at b → w.heap.size ≤ b ∧ b < (w.alloc (.cells cells e)).heap.size := fun b hb => by cases hb; simp
    have hx := hx0.push (k := .rows w.heap.size inf.size m) (fun b hb => (hk b hb).1)
    have hr := hrel (w.alloc (.cells cells e)) (ι ++ [.rows w.heap.size inf.size m])
    refine ⟨_, _, _, _, ι ++ [.rows w.heap.size inf.size m], .inl hrun, h11, hs.push (k := .rows w.heap.size inf.size m) (o := .rows (List.replicate m z)) hx0 (fun b hb => heap_alloc_lt w _ hb) hk ⟨cells, e, heap_alloc_new w _, Nat.le_of_eq hr.1.symm, ⟨by simp [maxRows]; omega, by simp⟩, hr.2⟩, .c (.fsl (by rw [h4.2.1]; exact hs.newIdx _) (Nat.le_refl _)), hx, rfl⟩
  · exact h.elim

/-! append -/

theorem allLen_nil (sz : Nat) : allLen sz [] := fun r h => by cases h

/-- the cells of a told slice -/
theorem cells_of_rows {rows : List (List D)} {ad : Option Addr} {cap sz : Nat} (h : RD w (Safe w ι) (.sl rows) (.slice ad rows.length cap)) (hall : allLen sz rows) (hsz : 0 < sz) :
    ∃ ys : List Value, ys.length = rows.length * sz ∧ (∀ u ∈ ys, u.oneCell' = true) ∧ (∀ b, ad = some b → ∀ (j : Nat) u, ys[j]? = some u → w.cell? (b.add j) = some u) ∧ (ad = none → ys = []) ∧
      ∀ (i : Nat) (r : List D), rows[i]? = some r → r.length = sz ∧ ∀ (j : Nat) (x : D), r[j]? = some x → ∃ y, ys[i * sz + j]? = some y ∧ RD w (Safe w ι) x y := by
  rw [RD.sl_iff] at h
  rcases h with ⟨rfl, _, _⟩ | ⟨b, off, sz', rfl, _, h3, h4, h5⟩
  · exact ⟨[], by simp, (fun u hu => by cases hu), (fun b hb j u hj => by simp at hj), fun _ => rfl, (fun i r hi => by simp at hi)⟩
  · by_cases hne : rows = []
    · subst hne
      exact ⟨[], by simp, (fun u hu => by cases hu), (fun b hb j u hj => by simp at hj), (fun h => by cases h), (fun i r hi => by simp at hi)⟩
    · obtain ⟨r0, rest, hr0⟩ := List.exists_cons_of_ne_nil hne
      have hs' : sz' = sz := by
        have h1 := (h5 0 r0 (by rw [hr0]; rfl)).1
        have h2 := hall r0 (by rw [hr0]; simp)
        omega
      subst hs'
      let ys : List Value := (List.range (rows.length * sz')).map fun k => (w.cell? ⟨b, off + k, none⟩).getD undef
      have hcell : ∀ k, k < rows.length * sz' → ∃ y x, w.cell? ⟨b, off + k, none⟩ = some y ∧ RD w (Safe w ι) x y := fun k hk => by
        have hi : k / sz' < rows.length := Nat.div_lt_of_lt_mul (by rw [Nat.mul_comm]; exact hk)
        have hj : k % sz' < sz' := Nat.mod_lt _ hsz
        obtain ⟨h6, h7⟩ := h5 (k / sz') rows[k / sz'] (List.getElem?_eq_getElem hi)
        obtain ⟨y, p, _, q⟩ := h7 (k % sz') (rows[k / sz'])[k % sz'] (List.getElem?_eq_getElem (by omega))
        refine ⟨y, _, ?_, q⟩
        rw [← p]
        congr 2
        have := Nat.div_add_mod k sz'
        rw [Nat.mul_comm] at this
        omega
      have hget : ∀ k, k < rows.length * sz' → ∃ y, ys[k]? = some y ∧ w.cell? ⟨b, off + k, none⟩ = some y := fun k hk => by
        obtain ⟨y, x, p, _⟩ := hcell k hk
        exact ⟨y, by simp [ys, hk, p], p⟩
      refine ⟨ys, by simp [ys], fun u hu => ?_, fun b' hb' j u hj => ?_, (fun h => by cases h), fun i r hi => ?_⟩
      · obtain ⟨k, hk, rfl⟩ := List.mem_map.1 hu
        obtain ⟨y, x, p, q⟩ := hcell k (by simpa using hk)
        rw [p]; exact q.oneCell
      · cases hb'
        have hk : j < rows.length * sz' := by have := (List.getElem?_eq_some_iff.1 hj).1; simpa [ys] using this
        obtain ⟨y, p, q⟩ := hget j hk
        rw [p] at hj
        cases hj
        rw [addr_add]; exact q
      · obtain ⟨h6, h7⟩ := h5 i r hi
        refine ⟨h6, fun j x hj => ?_⟩
        obtain ⟨y, p, _, q⟩ := h7 j x hj
        have hil : i < rows.length := (List.getElem?_eq_some_iff.1 hi).1
        have hjl : j < sz' := by rw [← h6]; exact (List.getElem?_eq_some_iff.1 hj).1
        have hlt : i * sz' + j < rows.length * sz' := by
          have : (i + 1) * sz' ≤ rows.length * sz' := Nat.mul_le_mul_right sz' hil
          rw [Nat.add_mul] at this; omega
        obtain ⟨y', p', q'⟩ := hget _ hlt
        rw [Nat.add_assoc] at p
        rw [p] at q'
        cases q'
        exact ⟨y, p', q⟩

theorem inR_byte (b : UInt8) : inR .u8 (b.toNat : Int) := by
  have := b.toNat_lt
  unfold inR
  simp [IntKind.min, IntKind.max, IntKind.signed, IntKind.bits]
  omega

/-- what is appended -/
theorem src_of {x : C} {xs : List (List D)} {v : Value} {u : TypeId} {sz : Nat} {str : Bool} (hx : RC w ι st.ext.length x v) (hsrc : srcRows str x = some xs) (hall : allLen sz xs) (hsz : 0 < sz)
    (hu : (∃ e', P.underlying u = some (.slice e') ∧ str = false) ∨ (P.underlying u = some .string ∧ sz = 1 ∧ str = true)) :
    ∃ ys : List Value, Src P sz u v xs.length ys w ∧ ∀ (i : Nat) (r : List D), xs[i]? = some r → r.length = sz ∧ ∀ (j : Nat) (x : D), r[j]? = some x → ∃ y, ys[i * sz + j]? = some y ∧ RD w (Safe w ι) x y := by
  rcases hu with ⟨e', hu, rfl⟩ | ⟨hu, rfl, rfl⟩
  · have hr : x.rows? = some xs := hsrc
    have hrd := hx.rows hr
    obtain ⟨ad, cap, rfl⟩ := hrd.sl_inv
    obtain ⟨ys, h1, h2, h3, h4, h5⟩ := cells_of_rows hrd hall hsz
    refine ⟨ys, ?_, h5⟩
    cases ad with
    | none =>
      have := h4 rfl
      subst this
      have hl : xs.length = 0 := by
        have : xs.length * sz = 0 := by simpa using h1.symm
        rcases Nat.mul_eq_zero.1 this with h | h <;> omega
      rw [hl]
      exact Src.ofNil w hu cap
    | some ad => exact Src.ofSlice w hu ad _ cap ys h1 (h3 ad rfl) h2
  · have hxs : ∃ s, x = .d (.str s) := by
      unfold srcRows at hsrc
      split at hsrc
      · exact ⟨_, rfl⟩
      · rename_i heq; exact absurd heq (by simp)
      · cases hsrc
    obtain ⟨s, rfl⟩ := hxs
    generalize hv : v = v' at hx
    cases hx with
    | d hd =>
    obtain ⟨t, rfl, rfl, _⟩ := hd.str_eq
    simp only [srcRows, Option.some.injEq] at hsrc
    subst hsrc
    have hl : (bytesRows t.data.toList).length = t.size := by simp [bytesRows]
    refine ⟨byteCells t, by rw [hl]; exact Src.ofString w hu t, fun i r hi => ?_⟩
    simp only [bytesRows, List.getElem?_map, Option.map_eq_some_iff] at hi
    obtain ⟨b, hb, rfl⟩ := hi
    refine ⟨rfl, fun j x hj => ?_⟩
    cases j with
    | zero =>
      simp at hj
      subst hj
      exact ⟨.int .u8 b.toNat, by simp [byteCells]; exact ⟨b, by simpa using hb, rfl⟩, .int _ _ (inR_byte b)⟩
    | succ j => simp at hj

/-- rows behind one another, in one new row of cells -/
theorem rows_append {rows xs : List (List D)} {ys zs rest : List Value} {sz : Nat} (hyl : ys.length = rows.length * sz)
    (hy : ∀ (i : Nat) (r : List D), rows[i]? = some r → r.length = sz ∧ ∀ (j : Nat) (x : D), r[j]? = some x → ∃ y, ys[i * sz + j]? = some y ∧ RD w (Safe w ι) x y)
    (hzl : zs.length = xs.length * sz)
    (hz : ∀ (i : Nat) (r : List D), xs[i]? = some r → r.length = sz ∧ ∀ (j : Nat) (x : D), r[j]? = some x → ∃ y, zs[i * sz + j]? = some y ∧ RD w (Safe w ι) x y) :
    ∀ (i : Nat) (r : List D), (rows ++ xs)[i]? = some r → r.length = sz ∧ ∀ (j : Nat) (x : D), r[j]? = some x → ∃ y, (ys ++ zs ++ rest)[i * sz + j]? = some y ∧ RD w (Safe w ι) x y := by
  intro i r hi
  rcases Nat.lt_or_ge i rows.length with hlt | hge
  · rw [List.getElem?_append_left hlt] at hi
    obtain ⟨h1, h2⟩ := hy i r hi
    refine ⟨h1, fun j x hj => ?_⟩
    obtain ⟨y, p, q⟩ := h2 j x hj
    exact ⟨y, by rw [List.append_assoc, List.getElem?_append_left (List.getElem?_eq_some_iff.1 p).1]; exact p, q⟩
  · rw [List.getElem?_append_right hge] at hi
    obtain ⟨h1, h2⟩ := hz _ r hi
    refine ⟨h1, fun j x hj => ?_⟩
    obtain ⟨y, p, q⟩ := h2 j x hj
    have e : i * sz = rows.length * sz + (i - rows.length) * sz := by rw [← Nat.add_mul]; congr 1; omega
    refine ⟨y, ?_, q⟩
    rw [List.append_assoc, List.getElem?_append_right (by omega), show i * sz + j - ys.length = (i - rows.length) * sz + j by omega, List.getElem?_append_left (List.getElem?_eq_some_iff.1 p).1]
    exact p

theorem Obs_fits_set {n m : Nat} : ∀ {H : Heap} {i : Nat} {o : Ob}, Obs.fits n m H → o.fits n m → Obs.fits n m (H.set i o)
  | [], i, o, h, _ => by simpa using h
  | x :: l, 0, o, h, ho => ⟨ho, h.2⟩
  | x :: l, i + 1, o, h, ho => ⟨h.1, Obs_fits_set h.2 ho⟩

/-- an owned slice's new row -/
theorem grown_RD {w' : World} {ι' : List AM.K} {rows xs : List (List D)} {ys zs rest : List Value} {sz cap : Nat} {e : TypeId} (hx : Ext w ι w' ι') (hb : w'.heap[w.heap.size]? = some (.cells (ys ++ zs ++ rest).toArray e (0, 0)))
    (hyl : ys.length = rows.length * sz) (hy : ∀ (i : Nat) (r : List D), rows[i]? = some r → r.length = sz ∧ ∀ (j : Nat) (x : D), r[j]? = some x → ∃ y, ys[i * sz + j]? = some y ∧ RD w (Safe w ι) x y)
    (hzl : zs.length = xs.length * sz) (hz : ∀ (i : Nat) (r : List D), xs[i]? = some r → r.length = sz ∧ ∀ (j : Nat) (x : D), r[j]? = some x → ∃ y, zs[i * sz + j]? = some y ∧ RD w (Safe w ι) x y)
    (hcap : rows.length + xs.length ≤ cap) (hm : rows.length + xs.length ≤ maxRows) (hown : ∀ k ∈ ι', ∀ o, k.owns w.heap.size o → (rows.length + xs.length) * sz ≤ o) :
    RD w' (Safe w' ι') (.sl (rows ++ xs)) (.slice (some ⟨w.heap.size, 0, none⟩) (rows.length + xs.length) cap) := by
  have hl : (rows ++ xs).length = rows.length + xs.length := by simp
  rw [← hl, RD.sl_iff]
  refine .inr ⟨w.heap.size, 0, sz, rfl, rfl, by omega, by omega, fun i r hi => ?_⟩
  obtain ⟨h1, h2⟩ := rows_append (rest := rest) hyl hy hzl hz i r hi
  refine ⟨h1, fun j x hj => ?_⟩
  obtain ⟨y, p, q⟩ := h2 j x hj
  have hil : i < rows.length + xs.length := by rw [← hl]; exact (List.getElem?_eq_some_iff.1 hi).1
  have hjl : j < sz := by rw [← h1]; exact (List.getElem?_eq_some_iff.1 hj).1
  have hlt : i * sz + j < (rows.length + xs.length) * sz := by
    have : (i + 1) * sz ≤ (rows.length + xs.length) * sz := Nat.mul_le_mul_right sz hil
    rw [Nat.add_mul] at this; omega
  refine ⟨y, ?_, ⟨(Array.getElem?_eq_some_iff.1 hb).1, fun k hk ho => ?_⟩, q.mono hx.safe⟩
  · simp only [World.cell?, hb, Option.isSome_none, Bool.false_eq_true, ↓reduceIte, Nat.zero_add]
    simpa using p
  · have := hown k hk _ ho; omega

/-- a growing slice's new row, as the model makes it -/
theorem append_grows {t u ty e : TypeId} {i : TypeInfo} {z x : Value} {sz : Nat} {rows xs : List (List D)} {ad : Option Addr} {cap : Nat} {zs : List Value} (ht : P.underlying t = some (.slice e)) (hi : P.info? e = some i) (hz : i.zero = some z)
    (hzs : z.cells.size = i.size) (hsz : i.size = sz) (h0 : 0 < sz) (hby : i.bytes ≤ 4096) (hrd : RD w (Safe w ι) (.sl rows) (.slice ad rows.length cap)) (hall : allLen sz rows) (hsrc : Src P sz u x xs.length zs w)
    (hg : cap < rows.length + xs.length) (hm : rows.length + xs.length ≤ maxApp) :
    ∃ (ys rest : List Value) (gc : Nat), (Builtin.append_ #[t, u] ty #[.slice ad rows.length cap, x]).run P w =
        .ok (.slice (some ⟨w.heap.size, 0, none⟩) (rows.length + xs.length) gc) (w.drew.alloc (.cells (ys ++ zs ++ rest).toArray e)) ∧
      ys.length = rows.length * sz ∧ (∀ (i : Nat) (r : List D), rows[i]? = some r → r.length = sz ∧ ∀ (j : Nat) (x : D), r[j]? = some x → ∃ y, ys[i * sz + j]? = some y ∧ RD w (Safe w ι) x y) ∧
      rows.length + xs.length ≤ gc ∧ (ys ++ zs ++ rest).length = gc * sz := by
  subst hsz
  obtain ⟨ys, h1, h2, h3, h4, h5⟩ := cells_of_rows hrd hall h0
  have hold : (Builtin.firstCells i.size rows.length (.slice ad rows.length cap)).run P w.drew = .ok ys.toArray w.drew := by
    cases ad with
    | none => rw [h4 rfl]; exact run_firstCells_none w.drew i.size rows.length rows.length cap
    | some b => exact run_firstCells_some w.drew i.size rows.length b rows.length cap ys h1 (fun j u hj => by simpa using h3 b rfl j u hj)
  unfold maxApp at hm
  have hfit : Builtin.nextslicecap (rows.length + xs.length) cap * i.bytes ≤ 281474976710656 := by
    have h6 := nextslicecap_le_wide hg
    have h7 : Builtin.nextslicecap (rows.length + xs.length) cap * i.bytes ≤ (2 * 2 ^ 32) * 4096 := Nat.mul_le_mul (by omega) hby
    omega
  have hrun := run_append_grow_src (P := P) w t u ty e i z ht hi hz ad rows.length cap ys hold x xs.length zs hsrc hg (by omega) hfit
  have hge := grownCap_ge w (rows.length + xs.length) cap e
  generalize grownCap w (rows.length + xs.length) cap e = gc at hrun hge
  refine ⟨ys, (Builtin.zeroCells z.cells (gc - (rows.length + xs.length))).toList, gc, ?_, h1, h5, hge, ?_⟩
  · rw [hrun]
    congr 3
    apply Array.ext'
    simp
  · have hzc : (Builtin.zeroCells z.cells (gc - (rows.length + xs.length))).size = (gc - (rows.length + xs.length)) * i.size := by simp [Builtin.zeroCells, hzs]
    simp only [List.length_append, Array.length_toList, hzc, h1, hsrc.newsLen]
    rw [← Nat.add_mul, ← Nat.add_mul]
    congr 1
    omega

theorem res_append {o : Oper} {t u e : TypeId} {i : TypeInfo} {z : Value} {str : Bool} {sz : Nat} {s x : Operand} {s' x' : Opd} {c : Call} (ho : o.op = .call c) (hc1 : c.callee = .builtin .append) (hc2 : c.args.toList = [s, x]) (hc3 : c.argTypes.toList = [t, u])
    (ht : P.underlying t = some (.slice e)) (hi : P.info? e = some i) (hz : i.zero = some z) (hzs : z.cells.size = i.size) (hsz : i.size = sz) (h0 : 0 < sz) (hby : i.bytes ≤ 4096)
    (hu : (∃ e', P.underlying u = some (.slice e') ∧ str = false) ∨ (P.underlying u = some .string ∧ sz = 1 ∧ str = true)) (hs1 : cOpd s = some s') (hx1 : cOpd x = some x')
    (hs : SimSt w ι st a) (h : awOp P st true K (.append str sz s' x')) : OpRes w ι st a K ((execOp a.eval o).run P w) := by
  have ea : c.args = #[s, x] := by rw [← Array.toArray_toList (xs := c.args), hc2]
  have et : c.argTypes = #[t, u] := by rw [← Array.toArray_toList (xs := c.argTypes), hc3]
  simp only [awOp, QCallK, RowK, ByteK, B2SK, OptK, StoreK] at h
  split at h
  · rename_i sc xc hse hxe
    obtain ⟨k1, k2, h⟩ := h
    have hsv0 := val_ra hs hs1 k1
    have hxv0 := val_ra hs hx1 k2
    rw [hse] at hsv0
    rw [hxe] at hxv0
    have hsv := hsv0.c_inv
    have hxv := hxv0.c_inv
    clear hsv0 hxv0
    unfold appendA at h
    split at h
    · exact h.elim
    · rename_i xs hxs
      obtain ⟨hallx, h⟩ := h
      obtain ⟨zs, hsrc, hzr⟩ := src_of hxv hxs hallx h0 hu
      have fin : ∀ r w', (Builtin.append_ #[t, u] o.type #[a.eval s, a.eval x]).run P w = .ok r w' → (execOp a.eval o).run P w = .ok (.value r) w' := fun r w' hr => by
        rw [run_call_builtin ho hc1, ea, et]
        simp only [builtin, List.map_toArray, List.map_cons, List.map_nil, Sem.run_bind, hr, Result.andThen_ok, Sem.run_pure]
      split at h
      · -- an owned slice
        rename_i r pos rows
        split at h
        · rename_i p sz' hg
          obtain ⟨rfl, rfl, hall, hm, hK⟩ := h
          obtain ⟨hh, hre⟩ := getOb_heap hg (by simp)
          generalize hvs : a.eval s = sv at hsv fin
          cases hsv with
          | own hrd hk =>
          obtain ⟨q, pq, hk1, hk2, hk3⟩ := hk
          have hro := hs.sim.obj _ _ _ hh hk1
          have hpq : p = q := by cases pq <;> first | exact hro | exact hro.1.1
          subst hpq
          have hcur := hk3 rfl
          obtain ⟨ad, cap, rfl⟩ := hrd.sl_inv
          obtain ⟨e1, e2, e3⟩ := setOb_heap st r (.grow (p + xs.length) sz') hre
          have eob : ∀ m : Nat, obAt st.ext.length r (.grow m sz') = Ob.grow m sz' := fun m => by cases r <;> rfl
          rw [eob] at e1
          have hfit : Obs.fits (setOb st r (.grow (p + xs.length) sz')).ext.length 0 (setOb st r (.grow (p + xs.length) sz')).ext := by
            rw [e2]
            cases r with
            | e b => exact Obs_fits_set hs.fit trivial
            | l b => exact hs.fit
          have close : ∀ (w' : World) (q' : Option (Nat × Nat × Nat × Nat)) (rv : Value), (Builtin.append_ #[t, u] o.type #[.slice ad rows.length cap, a.eval x]).run P w = .ok rv w' →
              Ext w ι w' (ι.set (idx st.ext.length r) (.grow (p + xs.length) q')) → Sim w' (ι.set (idx st.ext.length r) (.grow (p + xs.length) q')) st.ext.length ((st.ext ++ st.loc).set (idx st.ext.length r) (.grow (p + xs.length) sz')) →
              RD w' (Safe w' (ι.set (idx st.ext.length r) (.grow (p + xs.length) q'))) (.sl (rows ++ xs)) rv → Cur (p + xs.length) (rows ++ xs) rv q' → OpRes w ι st a K ((execOp a.eval o).run P w) := fun w' q' rv hr hx hsim hrd' hcur' => by
            refine ⟨rv, w', _, _, _, .inl (fin rv w' hr), hK, ⟨by rw [e1, e2]; exact hsim, by rw [e3]; exact hs.size, ?_, hfit, hs.defers⟩, ?_, hx, e2⟩
            · rw [e2, e3]
              exact fun i x v h1 h2 => (hs.slots i x v h1 h2).mono hx
            · exact .c (.own hrd' ⟨_, q', by simp [(List.getElem?_eq_some_iff.1 hk1).1], Nat.le_refl _, fun _ => hcur'⟩)
          by_cases hn : xs.length = 0
          · have hxn : xs = [] := List.length_eq_zero_iff.1 hn
            subst hxn
            have hlc : rows.length ≤ cap := by
              have := hrd
              rw [RD.sl_iff] at this
              rcases this with ⟨e1, _, _⟩ | ⟨_, _, _, _, _, h6, _⟩
              · rw [e1]; simp
              · exact h6
            have hnw : zs = [] := by have := hsrc.newsLen; simpa using this
            subst hnw
            have hr := run_append_nothing (P := P) w t u o.type e i ht hi ad rows.length cap hlc (a.eval x) (by rw [hsz]; exact hsrc)
            have hset : ι.set (idx st.ext.length r) (.grow (p + ([] : List (List D)).length) pq) = ι := by
              apply List.ext_getElem?
              intro j
              simp only [List.getElem?_set, List.length_nil, Nat.add_zero]
              split
              · rename_i e; subst e
                rw [hk1]; simp [(List.getElem?_eq_some_iff.1 hk1).1]
              · rfl
            have hset2 : (st.ext ++ st.loc).set (idx st.ext.length r) (.grow (p + ([] : List (List D)).length) sz') = st.ext ++ st.loc := by
              apply List.ext_getElem?
              intro j
              simp only [List.getElem?_set, List.length_nil, Nat.add_zero]
              split
              · rename_i e; subst e
                have := (List.getElem?_eq_some_iff.1 hh).1
                rw [hh]; simp at this ⊢; omega
              · rfl
            refine close w pq _ hr ?_ ?_ ?_ ?_
            · rw [hset]; exact .refl _ _
            · rw [hset, hset2]; exact hs.sim
            · rw [hset]; simpa using hrd
            · simpa using hcur
          · rcases Nat.lt_or_ge cap (rows.length + xs.length) with hgrow | hroom
            · obtain ⟨ys, rest, gc, hr, hyl, hyr, hge, hlen⟩ := append_grows (P := P) (ty := o.type) ht hi hz hzs hsz h0 hby hrd hall hsrc hgrow hm
              have hx : Ext w ι (w.drew.alloc (.cells (ys ++ zs ++ rest).toArray e)) (ι.set (idx st.ext.length r) (.grow (p + xs.length) (some (w.heap.size, (rows.length + xs.length) * sz', gc * sz', sz')))) :=
                grow_ext hs.sim hk1 (.inl (by omega)) rfl rfl rfl (by simp) (fun c o hc => cell_of_heap (heap_alloc_lt w.drew _ hc.1) o) (fun c o hc ho => by have := ho.1; omega)
                  (fun c hc hn => ⟨heap_alloc_lt w.drew _ hc, fun hat => by have : c = w.heap.size := hat; omega⟩)
              refine close _ _ _ hr hx ?_ ?_ ?_
              · refine grow_sim hs.sim hk1 hx (fun c hc _ => heap_alloc_lt w.drew _ hc) (fun c hat => ?_) ⟨⟨rfl, rfl⟩, _, e, heap_alloc_new w.drew _, by simp at hlen ⊢; omega⟩
                have : c = w.heap.size := hat
                subst this
                exact ⟨.inr (Nat.le_refl _), by simp⟩
              · refine grown_RD hx (heap_alloc_new w.drew _) hyl hyr hsrc.newsLen hzr hge (by unfold maxApp at hm; unfold maxRows; omega) fun k hk o ho => ?_
                obtain ⟨j, hj⟩ := List.mem_iff_getElem?.1 hk
                simp only [List.getElem?_set] at hj
                split at hj
                · split at hj
                  · cases hj; exact ho.2.1
                  · cases hj
                · have := hs.sim.low k _ (List.mem_of_getElem? hj) (AM.K.at_of_owns ho); omega
              · have hal : ∀ r ∈ rows ++ xs, r.length = sz' := fun r hr => by rcases List.mem_append.1 hr with h | h; exact hall r h; exact hallx r h
                refine ⟨fun _ => ⟨sz', by simp, hal⟩, by have := hcur.2.1; simp; omega, fun _ => .inr ⟨w.heap.size, gc, gc, sz', by simp, by simp, by simp; omega, Nat.le_refl _, hal⟩⟩
            · -- there is room
              have hlt : rows.length < cap := by omega
              cases ad with
              | none =>
                rw [RD.sl_iff] at hrd
                rcases hrd with ⟨_, _, h6⟩ | ⟨_, _, _, h6, _⟩
                · omega
                · cases h6
              | some ad =>
              obtain ⟨szc, hp, _⟩ := hcur.1 hlt
              subst hp
              obtain ⟨⟨_, hszc⟩, vs, el, hblk, hlim⟩ := hro
              subst hszc
              have hspot : ad.spot = none := by
                rw [RD.sl_iff] at hrd
                rcases hrd with ⟨_, _, h⟩ | ⟨b, off, _, h, _⟩
                · omega
                · cases h; rfl
              obtain ⟨b, off, sp⟩ := ad
              simp only at hspot hblk hlim
              subst hspot
              change ι[idx st.ext.length r]? = some (.grow p (some (b, off + rows.length * szc, off + cap * szc, szc))) at hk1
              have hone := hsrc.one
              have hzl := hsrc.newsLen
              have hend : (rows.length + xs.length) * szc ≤ cap * szc := Nat.mul_le_mul_right _ hroom
              rw [Nat.add_mul] at hend
              have hst := run_storeCells_at P b (off + rows.length * szc) el zs 0 vs w hblk (by omega) hone
              simp only [Nat.add_zero] at hst
              obtain ⟨X, hX⟩ : ∃ X, X = (vs.toList.take (off + rows.length * szc) ++ zs ++ vs.toList.drop (off + rows.length * szc + zs.length)).toArray := ⟨_, rfl⟩
              rw [← hX] at hst
              have hXs : X.size = vs.size := by rw [hX]; simp; omega
              have hXg : ∀ j, X[j]? = if j < off + rows.length * szc then vs[j]? else if j < off + rows.length * szc + zs.length then zs[j - (off + rows.length * szc)]? else vs[j]? := fun j => by
                rw [hX, List.getElem?_toArray, spliceV_get _ _ _ (by simp; omega)]
                simp
              have hr : (Builtin.append_ #[t, u] o.type #[.slice (some ⟨b, off, none⟩) rows.length cap, a.eval x]).run P w = .ok (.slice (some ⟨b, off, none⟩) (rows.length + xs.length) cap) (w.setRow b X) := by
                rcases hsrc.kind with ⟨e', hk⟩ | hk <;> simp [Builtin.append_, run_underlying ht, run_underlying hk, sizeOf, typeInfo, hi, hsz, hsrc.len, hroom, hsrc.cells, addr_add, hst]
              have hcellX : ∀ o, (w.setRow b X).cell? ⟨b, o, none⟩ = X[o]? := fun o => cell_setRow_same w b o vs X el (0, 0) hblk
              have hcell0 : ∀ o, w.cell? ⟨b, o, none⟩ = vs[o]? := fun o => by simp [World.cell?, hblk]
              have hx : Ext w ι (w.setRow b X) (ι.set (idx st.ext.length r) (.grow (p + xs.length) (some (b, off + (rows.length + xs.length) * szc, off + cap * szc, szc)))) := by
                refine grow_ext hs.sim hk1 (.inl (by omega)) rfl rfl rfl (by simp) (fun c o hc => ?_) (fun c o hc ho => ?_) (fun c hc hn => ⟨setRow_other w b c X hn, hn⟩)
                · by_cases hcb : c = b
                  · subst hcb
                    rw [hcellX, hcell0, hXg]
                    have hno := hc.2 _ (List.mem_of_getElem? hk1)
                    by_cases h1 : o < off + rows.length * szc
                    · rw [if_pos h1]
                    · rw [if_neg h1, if_neg]
                      intro h2
                      exact hno ⟨rfl, by omega, by omega⟩
                  · exact cell_of_heap (setRow_other w b c X hcb) o
                · obtain ⟨h1, h2, h3⟩ := ho
                  rw [Nat.add_mul] at h2
                  exact ⟨h1, by omega, h3⟩
              have hsim : Sim (w.setRow b X) (ι.set (idx st.ext.length r) (.grow (p + xs.length) (some (b, off + (rows.length + xs.length) * szc, off + cap * szc, szc)))) st.ext.length ((st.ext ++ st.loc).set (idx st.ext.length r) (.grow (p + xs.length) szc)) := by
                refine grow_sim hs.sim hk1 hx (fun c hc hn => setRow_other w b c X hn) (fun c hat => ?_) ⟨⟨rfl, rfl⟩, X, el, setRow_heap w b vs X el (0, 0) hblk, by omega⟩
                have : c = b := hat
                subst this
                exact ⟨.inl rfl, by rw [setRow_size]; exact (Array.getElem?_eq_some_iff.1 hblk).1⟩
              have hsafe : ∀ o, o < off + (rows.length + xs.length) * szc → Safe (w.setRow b X) (ι.set (idx st.ext.length r) (.grow (p + xs.length) (some (b, off + (rows.length + xs.length) * szc, off + cap * szc, szc)))) b o := fun o ho => by
                refine ⟨by rw [setRow_size]; exact (Array.getElem?_eq_some_iff.1 hblk).1, fun k hk hown => ?_⟩
                obtain ⟨j, hj⟩ := List.mem_iff_getElem?.1 hk
                simp only [List.getElem?_set] at hj
                split at hj
                · split at hj
                  · cases hj; have := hown.2.1; omega
                  · cases hj
                · rename_i hne
                  exact hne (hs.sim.apart _ _ _ k b hk1 hj rfl (AM.K.at_of_owns hown))
              refine close _ _ _ hr hx hsim ?_ ?_
              · have hl : (rows ++ xs).length = rows.length + xs.length := by simp
                rw [RD.sl_iff] at hrd ⊢
                have hrows : ∀ (i : Nat) (r : List D), rows[i]? = some r → r.length = szc ∧ RowAt w (Safe w ι) r b (off + i * szc) := fun i r hi => by
                  rcases hrd with ⟨rfl, _⟩ | ⟨b', off', sz', h6, _, _, _, h7⟩
                  · simp at hi
                  · cases h6
                    obtain ⟨h8, h9⟩ := h7 i r hi
                    have : sz' = szc := by rw [← h8, hall r (List.mem_of_getElem? hi)]
                    subst this
                    exact ⟨h8, h9⟩
                refine .inr ⟨b, off, szc, rfl, hl.symm, by omega, by unfold maxApp at hm; unfold maxRows; omega, fun i r hi => ?_⟩
                rcases Nat.lt_or_ge i rows.length with h6 | h6
                · rw [List.getElem?_append_left h6] at hi
                  obtain ⟨h7, h8⟩ := hrows i r hi
                  exact ⟨h7, h8.mono hx.safe⟩
                · rw [List.getElem?_append_right h6] at hi
                  obtain ⟨h7, h8⟩ := hzr _ r hi
                  refine ⟨h7, fun j x hj => ?_⟩
                  obtain ⟨y, hy, hyr⟩ := h8 j x hj
                  have hil : i - rows.length < xs.length := (List.getElem?_eq_some_iff.1 hi).1
                  have hjl : j < szc := by rw [← h7]; exact (List.getElem?_eq_some_iff.1 hj).1
                  have e4 : i * szc = rows.length * szc + (i - rows.length) * szc := by rw [← Nat.add_mul]; congr 1; omega
                  have e5 : (i - rows.length + 1) * szc ≤ xs.length * szc := Nat.mul_le_mul_right _ hil
                  rw [Nat.add_mul] at e5
                  refine ⟨y, ?_, hsafe _ (by rw [Nat.add_mul]; omega), hyr.mono hx.safe⟩
                  rw [hcellX, hXg, if_neg (by omega), if_pos (by omega), show off + i * szc + j - (off + rows.length * szc) = (i - rows.length) * szc + j by omega]
                  exact hy
              · have hal : ∀ r ∈ rows ++ xs, r.length = szc := fun r hr => by rcases List.mem_append.1 hr with h | h; exact hall r h; exact hallx r h
                refine ⟨fun _ => ⟨szc, rfl, hal⟩, by have := hcur.2.1; simp; omega, fun hlp => ?_⟩
                have hlp : rows.length = p := by simp at hlp; omega
                rcases hcur.2.2 hlp with ⟨_, h⟩ | ⟨b', cap', capx, sz', e1, e2, e3, e3', e5⟩
                · cases h
                simp only [Value.slice.injEq, Option.some.injEq, Addr.mk.injEq] at e2
                obtain ⟨⟨rfl, rfl, _⟩, _, rfl⟩ := e2
                exact .inr ⟨b, cap, cap, szc, by simp, by simp, by simp; omega, Nat.le_refl _, hal⟩
        · exact h.elim
      · -- a slice without room
        rename_i rows
        obtain ⟨hall, hm, hK⟩ := h
        generalize hvs : a.eval s = sv at hsv fin
        cases hsv with
        | @full _ ad len hrd =>
        have hlen : len = rows.length := by obtain ⟨_, _, h⟩ := hrd.sl_inv; cases h; rfl
        subst hlen
        by_cases hn : xs.length = 0
        · have hxn : xs = [] := List.length_eq_zero_iff.1 hn
          subst hxn
          have hnw : zs = [] := by have := hsrc.newsLen; simpa using this
          subst hnw
          have hr := run_append_nothing (P := P) w t u o.type e i ht hi ad rows.length rows.length (Nat.le_refl _) (a.eval x) (by rw [hsz]; exact hsrc)
          have hp := hs.push (k := .grow (posF rows []) none) (o := .grow (posF rows []) sz) (.refl w ι) (fun _ _ => rfl) (fun b hb => by cases hb) (by exact rfl)
          have hx := (Ext.refl w ι).push (k := .grow (posF rows []) none) (fun b hb => by cases hb)
          refine ⟨_, w, _, _, _, .inl (fin _ w hr), hK, hp, .c (.own (by simpa using hrd.mono hx.safe) ⟨_, _, hs.newIdx _, by simp, fun _ => ?_⟩), hx, rfl⟩
          have hpos : rows.length ≤ posF rows [] ∧ (rows ≠ [] → rows.length ≠ posF rows []) := by cases rows <;> simp [posF]
          refine ⟨?_, by simpa using hpos.1, fun e => .inl ⟨Classical.byContradiction fun h => absurd (by simpa using e) (hpos.2 (by simpa using h)), rfl⟩⟩
          cases ad with
          | none => trivial
          | some ad => intro h; simp at h
        · rw [posF_ne rows xs (fun e => hn (by rw [e]; rfl))] at hK
          obtain ⟨ys, rest, gc, hr, hyl, hyr, hge, hlen⟩ := append_grows (P := P) (ty := o.type) ht hi hz hzs hsz h0 hby hrd hall hsrc (by omega) hm
          have hx0 : Ext w ι (w.drew.alloc (.cells (ys ++ zs ++ rest).toArray e)) ι := .of_blocks rfl rfl rfl (by simp) (fun b hb => heap_alloc_lt w.drew _ hb)
          have hk : ∀ b, (AM.K.grow (rows.length + xs.length) (some (w.heap.size, (rows.length + xs.length) * sz, gc * sz, sz))).at b → w.heap.size ≤ b ∧ b < (w.drew.alloc (.cells (ys ++ zs ++ rest).toArray e)).heap.size := fun b hb => by
            have : b = w.heap.size := hb
            subst this; simp
          have hx := hx0.push (k := .grow (rows.length + xs.length) (some (w.heap.size, (rows.length + xs.length) * sz, gc * sz, sz))) (fun b hb => (hk b hb).1)
          have hp := hs.push (k := .grow (rows.length + xs.length) (some (w.heap.size, (rows.length + xs.length) * sz, gc * sz, sz))) (o := .grow (rows.length + xs.length) sz) hx0 (fun b hb => heap_alloc_lt w.drew _ hb) hk
            ⟨⟨rfl, rfl⟩, _, e, heap_alloc_new w.drew _, by simp at hlen ⊢; omega⟩
          refine ⟨_, _, _, _, _, .inl (fin _ _ hr), hK, hp, .c (.own ?_ ⟨_, _, hs.newIdx _, Nat.le_refl _, fun _ => ?_⟩), hx, rfl⟩
          · refine grown_RD hx (heap_alloc_new w.drew _) hyl hyr hsrc.newsLen hzr hge (by unfold maxApp at hm; unfold maxRows; omega) fun k hk o ho => ?_
            rcases List.mem_append.1 hk with h1 | h1
            · have := hs.sim.low k _ h1 (AM.K.at_of_owns ho); omega
            · rw [List.mem_singleton.1 h1] at ho; exact ho.2.1
          · have hal : ∀ r ∈ rows ++ xs, r.length = sz := fun r hr => by rcases List.mem_append.1 hr with h | h; exact hall r h; exact hallx r h
            exact ⟨fun _ => ⟨sz, by simp, hal⟩, by simp, fun _ => .inr ⟨w.heap.size, gc, gc, sz, by simp, by simp, by simp; omega, Nat.le_refl _, hal⟩⟩
      · exact h.elim
  · exact h.elim

theorem res_appendF {o : Oper} {t u e : TypeId} {i : TypeInfo} {z : Value} {sz : Nat} {s x : Operand} {s' x' : Opd} {c : Call} (ho : o.op = .call c) (hc1 : c.callee = .builtin .append) (hc2 : c.args.toList = [s, x]) (hc3 : c.argTypes.toList = [t, u])
    (ht : P.underlying t = some (.slice e)) (hi : P.info? e = some i) (hz : i.zero = some z) (hzs : z.cells.size = i.size) (hsz : i.size = sz) (h0 : 0 < sz) (hby : i.bytes ≤ 4096)
    (hu : ∃ e', P.underlying u = some (.slice e')) (hs1 : cOpd s = some s') (hx1 : cOpd x = some x')
    (hs : SimSt w ι st a) (h : awOp P st true K (.appendF sz s' x')) : OpRes w ι st a K ((execOp a.eval o).run P w) := by
  have ea : c.args = #[s, x] := by rw [← Array.toArray_toList (xs := c.args), hc2]
  have et : c.argTypes = #[t, u] := by rw [← Array.toArray_toList (xs := c.argTypes), hc3]
  simp only [awOp, QCallK, RowK, ByteK, B2SK, OptK, StoreK] at h
  split at h
  · rename_i xc hse hxe
    split at h
    · rename_i xs hxs
      obtain ⟨k1, k2, hallx, hm, hK1, hK2⟩ := h
      have hsv0 := val_ra hs hs1 k1
      have hxv0 := val_ra hs hx1 k2
      rw [hse] at hsv0
      rw [hxe] at hxv0
      have hsv := hsv0.c_inv
      have hxv := hxv0.c_inv
      clear hsv0 hxv0
      obtain ⟨e', hu⟩ := hu
      obtain ⟨zs, hsrc, hzr⟩ := src_of (str := false) hxv hxs hallx h0 (.inl ⟨e', hu, rfl⟩)
      have fin : ∀ r w', (Builtin.append_ #[t, u] o.type #[a.eval s, a.eval x]).run P w = .ok r w' → (execOp a.eval o).run P w = .ok (.value r) w' := fun r w' hr => by
        rw [run_call_builtin ho hc1, ea, et]
        simp only [builtin, List.map_toArray, List.map_cons, List.map_nil, Sem.run_bind, hr, Result.andThen_ok, Sem.run_pure]
      generalize hvs : a.eval s = sv at hsv fin
      cases hsv with
      | @full _ ad len hrd =>
      have hlen : len = ([] : List (List D)).length := by obtain ⟨_, _, h⟩ := hrd.sl_inv; cases h; rfl
      subst hlen
      by_cases hn : xs.length = 0
      · have hxn : xs = [] := List.length_eq_zero_iff.1 hn
        subst hxn
        have hnw : zs = [] := by have := hsrc.newsLen; simpa using this
        subst hnw
        have hr := run_append_nothing (P := P) w t u o.type e i ht hi ad 0 0 (Nat.le_refl _) (a.eval x) (by rw [hsz]; exact hsrc)
        exact ⟨_, w, _, _, _, .inl (fin _ w hr), hK1 rfl, hs, .c (.full hrd), .refl _ _, rfl⟩
      · obtain ⟨ys, rest, gc, hr, hyl, hyr, hge, hlen⟩ := append_grows (P := P) (ty := o.type) ht hi hz hzs hsz h0 hby hrd (allLen_nil sz) hsrc (by simp; omega) (by simpa using hm)
        have hys : ys = [] := by simpa using hyl
        subst hys
        simp only [List.length_nil, Nat.zero_add, List.nil_append] at hr hge hlen
        have hx0 : Ext w ι (w.drew.alloc (.cells (zs ++ rest).toArray e)) ι := .of_blocks rfl rfl rfl (by simp) (fun b hb => heap_alloc_lt w.drew _ hb)
        have hk : ∀ b, (AM.K.rows w.heap.size sz xs.length).at b → w.heap.size ≤ b ∧ b < (w.drew.alloc (.cells (zs ++ rest).toArray e)).heap.size := fun b hb => by
          have : b = w.heap.size := hb
          subst this; simp
        have hx := hx0.push (k := .rows w.heap.size sz xs.length) (fun b hb => (hk b hb).1)
        have hsl : xs.length * sz ≤ (zs ++ rest).length := by rw [hlen]; exact Nat.mul_le_mul_right _ hge
        have hp := hs.push (k := .rows w.heap.size sz xs.length) (o := .rows xs) hx0 (fun b hb => heap_alloc_lt w.drew _ hb) hk
          ⟨_, e, heap_alloc_new w.drew _, by simpa using hsl, ⟨by unfold maxApp at hm; unfold maxRows; omega, rfl⟩, fun i r hir => by
            obtain ⟨h1, h2⟩ := hzr i r hir
            refine ⟨h1, fun j x hj => ?_⟩
            obtain ⟨y, p, q⟩ := h2 j x hj
            refine ⟨y, ?_, q.mono hx.safe⟩
            have hlt := (List.getElem?_eq_some_iff.1 p).1
            simp only [List.getElem?_toArray]
            rw [List.getElem?_append_left hlt]
            exact p⟩
        exact ⟨_, _, _, _, _, .inl (fin _ _ hr), hK2 (fun e => hn (by rw [e]; rfl)), hp, .c (.fsl (hs.newIdx _) hge), hx, rfl⟩
    · exact h.elim
  · exact h.elim

end ops
end Go.AM
