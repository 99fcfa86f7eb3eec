/-
  The abstract machine: maps whose keys are integers.
  Conditions: none.
-/
import Derived.Test.YtaegeehpajlebaaAbsE7
import Derived.WideMake
import Derived.MapKept
namespace Go.AM
set_option linter.unusedVariables false
set_option linter.unusedSimpArgs false
/-- the place of a key -/
def mapIdx : List (Int × List D) → Int → Option Nat
  | [], _ => none
  | (k, _) :: l, x => if k = x then some 0 else (mapIdx l x).map (· + 1)

theorem mapRow_idx : ∀ (m : List (Int × List D)) (x : Int), mapRow m x = (mapIdx m x).bind fun i => (m[i]?).map (·.2)
  | [], x => rfl
  | (k, r) :: l, x => by
    simp only [mapRow, mapIdx]
    split
    · rfl
    · rw [mapRow_idx l x]
      cases mapIdx l x <;> rfl
theorem mapPut_idx : ∀ (m : List (Int × List D)) (x : Int) (r : List D), mapPut m x r = match mapIdx m x with
    | some i => m.set i (x, r)
    | none => m ++ [(x, r)]
  | [], x, r => rfl
  | (k, q) :: l, x, r => by
    simp only [mapPut, mapIdx]
    split
    · rename_i h
      subst h
      rfl
    · rw [mapPut_idx l x r]
      cases mapIdx l x <;> rfl
theorem mapIdx_some : ∀ {m : List (Int × List D)} {x : Int} {i : Nat}, mapIdx m x = some i → ∃ r, m[i]? = some (x, r)
  | [], x, i, h => by cases h
  | (k, r) :: l, x, i, h => by
    simp only [mapIdx] at h
    split at h
    · rename_i e
      cases h; subst e
      exact ⟨r, rfl⟩
    · simp only [Option.map_eq_some_iff] at h
      obtain ⟨j, h1, rfl⟩ := h
      obtain ⟨q, h2⟩ := mapIdx_some h1
      exact ⟨q, by simpa using h2⟩
theorem mapIdx_none : ∀ {m : List (Int × List D)} {x : Int}, mapIdx m x = none → x ∉ m.map (·.1)
  | [], x, _, hx => by cases hx
  | (k, r) :: l, x, h, hx => by
    simp only [mapIdx] at h
    split at h
    · cases h
    · rename_i e
      simp only [Option.map_eq_none_iff] at h
      rcases List.mem_cons.1 hx with h1 | h1
      · exact e h1.symm
      · exact mapIdx_none h h1

theorem findNow_map : ∀ {es : List MapEntry} {m : List (Int × List D)}, es.length = m.length → (∀ (i : Nat) k row e, m[i]? = some (k, row) → es[i]? = some e → e.key = .int .i64 k) → ∀ (x : Int) (base : Nat),
    Instr.findNow (.int .i64) (.int .i64 x) es base = some (match mapIdx m x with | some i => (es[i]?).map fun e => (base + i, e.val) | none => none)
  | [], [], _, _, x, base => rfl
  | [], _ :: _, h, _, _, _ => by simp at h
  | _ :: _, [], h, _, _, _ => by simp at h
  | e :: es, (k, r) :: m, hl, hk, x, base => by
    have h0 := hk 0 k r e rfl rfl
    simp only [Instr.findNow, h0, Instr.sameNow, mapIdx, if_true]
    by_cases hx : k = x
    · subst hx
      simp
    · have hb : (x == k) = false := by simpa using fun h => hx h.symm
      rw [hb]
      simp only [hx, if_false]
      rw [findNow_map (by simpa using hl) (fun i k' row e' h1 h2 => hk (i + 1) k' row e' (by simpa using h1) (by simpa using h2)) x (base + 1)]
      cases mapIdx m x with
      | none => rfl
      | some i => simp; congr 1; funext e; congr 1; omega

section ops
variable {P : Program} {w : World} {ι : List K} {st : St} {a : Act} {K : A → St → Prop}

theorem run_findKey_map {kt : TypeId} {es : Array MapEntry} {m : List (Int × List D)} (hk : P.underlying kt = some (.int .i64)) (hl : es.size = m.length) (hm : ∀ (i : Nat) k row e, m[i]? = some (k, row) → es[i]? = some e → e.key = .int .i64 k) (x : Int) :
    (Instr.findKey kt (.int .i64 x) es.toList).run P w = .ok (match mapIdx m x with | some i => (es[i]?).map fun e => (i, e.val) | none => none) w := by
  have h := findNow_map (es := es.toList) (m := m) (by simpa using hl) (fun i k row e h1 h2 => hm i k row e h1 (by simpa using h2)) x 0
  simp only [Nat.zero_add, Array.getElem?_toList] at h
  simp only [Instr.findKey, Sem.run_bind, run_underlying hk, Result.andThen_ok, h, Sem.run_pure]

theorem run_checkKey_int {kt : TypeId} {b : Bool} (hk : P.underlying kt = some (.int .i64)) (x : Int) : (Instr.checkKey b 10000 kt (.int .i64 x)).run P w = .ok () w := by
  have h : ∀ n : Nat, (Instr.checkKey b (n + 1) kt (.int .i64 x)).run P w = .ok () w := fun n => by
    simp only [Instr.checkKey, Sem.run_bind, run_underlying hk, Result.andThen_ok, Sem.run_pure]
  exact h 9999

theorem res_mkMap {o : Oper} {t : TypeId} (ho : o.op = .makeMap t none) (hs : SimSt w ι st a) (h : awOp P st true K .mkMap) : OpRes w ι st a K ((execOp a.eval o).run P w) := by
  simp only [awOp] at h
  have hrun : (execOp a.eval o).run P w = .ok (.value (.map (some w.heap.size))) (w.alloc (.map #[] 0)) := by
    simp only [execOp, ho, Sem.run_bind, Option.map_none, run_makeMap_plain, Result.andThen_ok, Sem.run_pure]
  have hx0 := Ext.alloc w ι (.map #[] 0)
  have hk : ∀ b, (AM.K.blk w.heap.size).at b → w.heap.size ≤ b ∧ b < (w.alloc (.map #[] 0)).heap.size := fun b hb => by cases hb; simp
  have hx := hx0.push (k := .blk w.heap.size) (fun b hb => (hk b hb).1)
  refine ⟨_, _, _, _, ι ++ [.blk w.heap.size], .inl hrun, h, hs.push (k := .blk w.heap.size) (o := .map []) hx0 (fun b hb => heap_alloc_lt w _ hb) hk ⟨#[], 0, heap_alloc_new w _, rfl, List.nodup_nil, fun i k row e hi => by simp at hi⟩, .c (.map (hs.newIdx _)), hx, rfl⟩

/-- a row as a value -/
theorem mapVal_ra {n : Option Nat} {row : List D} {v : Value} (hn : row.length = n.getD 1) (hn1 : n ≠ some 1)
    (h : (∃ x v', row = [x] ∧ v = v' ∧ RD w (Safe w ι) x v') ∨ (∃ vs : Array Value, v = .agg vs ∧ (vs.size = row.length ∧ row.length ≠ 1) ∧ ∀ (j : Nat) x y, row[j]? = some x → vs[j]? = some y → RD w (Safe w ι) x y)) (N : Nat) :
    RA w ι N (mapOne n row) v := by
  rcases h with ⟨x, v', rfl, rfl, h⟩ | ⟨vs, rfl, h1, h2⟩
  · cases n with
    | none => exact .c (.d h)
    | some k => simp at hn; subst hn; exact absurd rfl hn1
  · cases n with
    | none => simp at hn; exact absurd hn h1.2
    | some k =>
      obtain ⟨vs⟩ := vs
      refine .agg (vs := vs) ⟨by simpa using h1.1, fun i c u hc hu => ?_⟩
      simp only [List.getElem?_map, Option.map_eq_some_iff] at hc
      obtain ⟨x, hx, rfl⟩ := hc
      exact .d (h2 i x u hx (by simpa using hu))

theorem mapVal_tup {n : Option Nat} {ok b : Bool} {row : List D} {v : Value} {N : Nat} (h : RA w ι N (mapOne n row) v) :
    RA w ι N (mapVal n ok row b) (if ok then .tuple #[v, .bool b] else v) := by
  unfold mapVal
  cases ok with
  | false => exact h
  | true =>
    refine .tup (vs := [v, .bool b]) rfl fun i x u hx hu => ?_
    match i with
    | 0 => obtain rfl := Option.some.inj hx; obtain rfl := Option.some.inj hu; exact h
    | 1 => obtain rfl := Option.some.inj hx; obtain rfl := Option.some.inj hu; exact .c (.d (.bool b))
    | i + 2 => simp at hx

theorem cMapElem_spec {e : TypeId} {n : Option Nat} {z : List D} (h : cMapElem P e = some (n, z)) : n ≠ some 1 ∧ z.length = n.getD 1 ∧ ∃ i v, P.info? e = some i ∧ i.zero = some v ∧ ∀ (w : World) (ι : List AM.K),
    ((∃ x v', z = [x] ∧ v = v' ∧ RD w (Safe w ι) x v') ∨ (∃ vs : Array Value, v = .agg vs ∧ (vs.size = z.length ∧ z.length ≠ 1) ∧ ∀ (j : Nat) x y, z[j]? = some x → vs[j]? = some y → RD w (Safe w ι) x y)) := by
  unfold cMapElem at h
  split at h
  · rename_i i hi
    split at h
    · rename_i vs z' h1 h2
      split at h
      · cases h
      · rename_i h3
        cases h
        obtain ⟨i', v, h4, h5, h6, h7⟩ := zeroDs_spec h2
        rw [hi] at h4; cases h4
        rw [h1] at h5; cases h5
        simp only [Value.cells] at h6 h7
        exact ⟨by simpa using h3, by simpa using h6, i, .agg vs, hi, h1, fun w ι => .inr ⟨vs, rfl, ⟨h6.symm, by omega⟩, h7 w ι⟩⟩
    · rename_i v z' h1 h0 h2
      cases h
      obtain ⟨i', v', h4, h5, h6, h7⟩ := zeroDs_spec h2
      rw [hi] at h4; cases h4
      have hna := h0
      rw [hna] at h5; cases h5
      have hc : v.cells = #[v] := by
        cases v <;> first | rfl | exact absurd rfl (h1 _)
      rw [hc] at h6 h7
      obtain ⟨x, rfl⟩ := List.length_eq_one_iff.1 (show z.length = 1 by simpa using h6)
      exact ⟨by simp, by simp, i, v, hi, hna, fun w ι => .inl ⟨x, v, rfl, rfl, h7 w ι 0 x v rfl rfl⟩⟩
    · cases h
  · cases h

theorem res_mapGet {o : Oper} {t kt e : TypeId} {n : Option Nat} {z : List D} {ok : Bool} {x k : Operand} {x' k' : Opd} (ho : o.op = .lookup t x k ok) (h1 : P.underlying t = some (.map kt e)) (h2 : P.underlying kt = some (.int .i64)) (h3 : cMapElem P e = some (n, z))
    (hx : cOpd x = some x') (hk : cOpd k = some k') (hs : SimSt w ι st a) (h : awOp P st true K (.mapGet n z ok x' k')) : OpRes w ι st a K ((execOp a.eval o).run P w) := by
  obtain ⟨hn1, hz, inf, zv, hi, hzv, hzr⟩ := cMapElem_spec h3
  simp only [awOp] at h
  split at h
  · rename_i r kk hxe hke
    obtain ⟨ok1, ok2, h⟩ := h
    have hv := val_ra hs hx ok1
    rw [hxe] at hv
    have hv := hv.c_inv
    have hw := val_ra hs hk ok2
    rw [hke] at hw
    have hkev := hw.int_inv.1
    split at h
    · rename_i m hg
      cases hpv : a.eval x with
      | map q =>
        rw [hpv] at hv
        cases hv with
        | @map r b hkb =>
          obtain ⟨hh, _⟩ := getOb_heap hg (by simp)
          obtain ⟨es, clock, hb, hsz, hnd, hent⟩ := hs.sim.obj _ _ _ hh hkb
          have hkeys : ∀ (i : Nat) k row e, m[i]? = some (k, row) → es[i]? = some e → e.key = .int .i64 k := fun i k row e a b => (hent i k row e a b).1
          have hfind := run_findKey_map (P := P) (w := w) h2 hsz hkeys kk
          cases hidx : mapIdx m kk with
          | none =>
            rw [hidx] at hfind
            have hr : (execOp a.eval o).run P w = .ok (.value (if ok then .tuple #[zv, .bool false] else zv)) w := by
              simp only [execOp, ho, hpv, hkev, Instr.lookup, Sem.run_bind, run_underlying h1, Result.andThen_ok, run_getObj_map _ _ _ _ hb, Sem.run_pure, run_checkKey_int h2, hfind, run_zeroValue hi hzv]
            rw [show mapRow m kk = none by rw [mapRow_idx, hidx]; rfl] at h
            exact .pure hs hr h (mapVal_tup (mapVal_ra hz hn1 (hzr w ι) _))
          | some i =>
            rw [hidx] at hfind
            obtain ⟨row, hrow⟩ := mapIdx_some hidx
            have hil : i < es.size := by rw [hsz]; exact (List.getElem?_eq_some_iff.1 hrow).1
            have hes : es[i]? = some es[i] := Array.getElem?_eq_getElem hil
            have hr : (execOp a.eval o).run P w = .ok (.value (if ok then .tuple #[es[i].val, .bool true] else es[i].val)) w := by
              simp only [execOp, ho, hpv, hkev, Instr.lookup, Sem.run_bind, run_underlying h1, Result.andThen_ok, run_getObj_map _ _ _ _ hb, Sem.run_pure, run_checkKey_int h2, hfind, hes, Option.map_some]
            rw [show mapRow m kk = some row by rw [mapRow_idx, hidx]; simp [hrow]] at h
            obtain ⟨h5, h6⟩ := h
            exact .pure hs hr h6 (mapVal_tup (mapVal_ra h5 hn1 (hent i kk row _ hrow hes).2.2 _))
      | _ => rw [hpv] at hv; cases hv
    · exact h.elim
  · exact h.elim

theorem mapCells_ra {x : A} {v : Value} {ds : List D} {n : Nat} (h : mapCells x = some ds) (hr : RA w ι n x v) (hv : ∀ cs, x ≠ .agg cs → True) :
    (∃ y v', ds = [y] ∧ v = v' ∧ RD w (Safe w ι) y v') ∨ (∃ vs : Array Value, v = .agg vs ∧ (vs.size = ds.length ∧ ds.length ≠ 1) ∧ ∀ (j : Nat) x y, ds[j]? = some x → vs[j]? = some y → RD w (Safe w ι) x y) := by
  cases x with
  | c c =>
    simp only [mapCells, Option.map_eq_some_iff] at h
    obtain ⟨d, hd, rfl⟩ := h
    have h2 : toDs [c] = some [d] := by simp [toDs, hd]
    exact .inl ⟨d, v, rfl, rfl, (toDs_spec h2).2 n w ι 0 c d v rfl rfl hr.c_inv⟩
  | agg cs =>
    simp only [mapCells] at h
    split at h
    · cases h
    · rename_i hne
      obtain ⟨vs, rfl, hvs⟩ := hr.agg_inv
      obtain ⟨h1, h2⟩ := toDs_spec h
      refine .inr ⟨vs.toArray, rfl, ⟨by have := hvs.1; simp; omega, by omega⟩, fun j x y hx hy => ?_⟩
      have hj : j < cs.length := by rw [← h1]; exact (List.getElem?_eq_some_iff.1 hx).1
      exact h2 n w ι j cs[j] x y (List.getElem?_eq_getElem hj) hx (hvs.2 j _ y (List.getElem?_eq_getElem hj) (by simpa using hy))
  | _ => simp [mapCells] at h

theorem mapPut_nodup : ∀ {m : List (Int × List D)} {x : Int} {r : List D}, (m.map (·.1)).Nodup → ((mapPut m x r).map (·.1)).Nodup
  | [], x, r, _ => by simp [mapPut]
  | (k, q) :: l, x, r, h => by
    simp only [List.map_cons, List.nodup_cons] at h
    simp only [mapPut]
    split
    · simpa using h
    · rename_i hne
      simp only [List.map_cons, List.nodup_cons]
      refine ⟨fun hm => ?_, mapPut_nodup h.2⟩
      have hmem : ∀ (l : List (Int × List D)), k ∈ (mapPut l x r).map (·.1) → k ∈ l.map (·.1) := by
        intro l
        induction l with
        | nil => intro hk; simp [mapPut] at hk; exact absurd hk hne
        | cons a l ih =>
          obtain ⟨k', q'⟩ := a
          simp only [mapPut]
          split
          · exact fun hk => by simpa using hk
          · intro hk
            rcases List.mem_cons.1 hk with h1 | h1
            · simp only at h1; subst h1; simp
            · exact List.mem_cons_of_mem _ (ih h1)
      exact h.1 (hmem l hm)

theorem sameBits_int (k : IntKind) (x : Int) : Instr.sameBits 10000 (.int k x) (.int k x) = true := by
  have h : ∀ n : Nat, Instr.sameBits n (.int k x) (.int k x) = true := fun n => by cases n <;> simp [Instr.sameBits]
  exact h 10000

theorem res_mapSet {o : Oper} {t kt e : TypeId} {x k v : Operand} {x' k' v' : Opd} (ho : o.op = .mapUpdate t x k v) (h1 : P.underlying t = some (.map kt e)) (h2 : P.underlying kt = some (.int .i64))
    (hx : cOpd x = some x') (hk : cOpd k = some k') (hv' : cOpd v = some v') (hs : SimSt w ι st a) (h : awOp P st true K (.mapSet x' k' v')) : OpRes w ι st a K ((execOp a.eval o).run P w) := by
  simp only [awOp] at h
  split at h
  · rename_i r kk hxe hke
    obtain ⟨ok1, ok2, ok3, h⟩ := h
    have hv := val_ra hs hx ok1
    rw [hxe] at hv
    have hv := hv.c_inv
    have hw := val_ra hs hk ok2
    rw [hke] at hw
    have hkev := hw.int_inv.1
    split at h
    · rename_i m ds hg hds
      obtain ⟨hf, h⟩ := h
      have hval := mapCells_ra hds (val_ra hs hv' ok3) (fun _ _ => trivial)
      generalize hvv : a.eval v = vv at hval
      cases hpv : a.eval x with
      | map q =>
        rw [hpv] at hv
        cases hv with
        | @map r b hkb =>
          obtain ⟨hh, hre⟩ := getOb_heap hg (by simp)
          obtain ⟨es, clock, hb, hsz, hnd, hent⟩ := hs.sim.obj _ _ _ hh hkb
          have hkeys : ∀ (i : Nat) k row e, m[i]? = some (k, row) → es[i]? = some e → e.key = .int .i64 k := fun i k row e a b => (hent i k row e a b).1
          have hfind := run_findKey_map (P := P) (w := w) h2 hsz hkeys kk
          have hkr : inR .i64 kk := hw.int_inv.2
          have hlow : b < w.heap.size := hs.sim.low _ b (List.mem_of_getElem? hkb) rfl
          have hput : ∀ (o' : Obj) (c : Nat), c ≠ b → ({ w with heap := w.heap.setIfInBounds b o' } : World).heap[c]? = w.heap[c]? := fun o' c hc => by
            simp [Array.getElem?_setIfInBounds, Ne.symm hc]
          have hgot : ∀ (o' : Obj), ({ w with heap := w.heap.setIfInBounds b o' } : World).heap[b]? = some o' := fun o' => by
            simp [Array.getElem?_setIfInBounds, hlow]
          have hpl : ∀ q, (mapPut m kk ds) = q → True := fun _ _ => trivial
          cases hidx : mapIdx m kk with
          | none =>
            rw [hidx] at hfind
            have hr : (execOp a.eval o).run P w = .ok .skip { w with heap := w.heap.setIfInBounds b (.map (es.push { key := .int .i64 kk, val := vv, born := clock }) (clock + 1)) } := by
              simp only [execOp, ho, hpv, hkev, hvv, Instr.mapUpdate, Sem.run_bind, run_underlying h1, Result.andThen_ok, run_getObj_map _ _ _ _ hb, run_checkKey_int h2, hfind, MapKept.run_setObj_map _ hb, Sem.run_pure]
            have hpe : mapPut m kk ds = m ++ [(kk, ds)] := by rw [mapPut_idx, hidx]
            have hput' := hpe
            obtain ⟨hs', hx'⟩ := hs.setBlock (w' := { w with heap := w.heap.setIfInBounds b (.map (es.push { key := .int .i64 kk, val := vv, born := clock }) (clock + 1)) }) hkb (.inl rfl) hre rfl rfl rfl (by simp) (hput _) (o := .map (mapPut m kk ds))
              (fun hx' => ⟨_, _, hgot _, by rw [hpe]; simp [hsz], mapPut_nodup hnd, fun i k row e hi he => by
                rw [hpe] at hi
                rcases Nat.lt_or_ge i m.length with hil | hil
                · rw [List.getElem?_append_left hil] at hi
                  rw [Array.getElem?_push, if_neg (by omega)] at he
                  obtain ⟨a1, a2, a3⟩ := hent i k row e hi he
                  refine ⟨a1, by omega, ?_⟩
                  rcases a3 with ⟨x, v, p, q, r⟩ | ⟨vs, p, q, r⟩
                  · exact .inl ⟨x, v, p, q, r.mono hx'.safe⟩
                  · exact .inr ⟨vs, p, q, fun j x y a b => (r j x y a b).mono hx'.safe⟩
                · rw [List.getElem?_append_right hil] at hi
                  have hi0 : i = m.length := by
                    have := (List.getElem?_eq_some_iff.1 hi).1
                    simp at this; omega
                  subst hi0
                  simp at hi
                  obtain ⟨rfl, rfl⟩ := hi
                  rw [Array.getElem?_push, if_pos (by omega)] at he
                  cases he
                  refine ⟨rfl, by simp, ?_⟩
                  rcases hval with ⟨x, v, p, q, r⟩ | ⟨vs, p, q, r⟩
                  · exact .inl ⟨x, v, p, q, r.mono hx'.safe⟩
                  · exact .inr ⟨vs, p, q, fun j x y a b => (r j x y a b).mono hx'.safe⟩⟩) hf
            refine ⟨undef, _, .u, _, ι, .inr ⟨hr, rfl⟩, h, hs', .u, hx', ?_⟩
            cases r <;> simp [setOb]
          | some i0 =>
            rw [hidx] at hfind
            obtain ⟨row0, hrow0⟩ := mapIdx_some hidx
            have hil0 : i0 < es.size := by rw [hsz]; exact (List.getElem?_eq_some_iff.1 hrow0).1
            have hes : es[i0]? = some es[i0] := Array.getElem?_eq_getElem hil0
            have hk0 := hkeys i0 kk row0 _ hrow0 hes
            have hstay : (Instr.keyThatStays (.int .i64 kk) (.int .i64 kk)).run P w = .ok (.int .i64 kk) w := by
              simp only [Instr.keyThatStays, sameBits_int, if_true, Sem.run_pure]
            have hr : (execOp a.eval o).run P w = .ok .skip { w with heap := w.heap.setIfInBounds b (.map (es.modify i0 fun e => { e with key := .int .i64 kk, val := vv }) clock) } := by
              simp only [execOp, ho, hpv, hkev, hvv, Instr.mapUpdate, Sem.run_bind, run_underlying h1, Result.andThen_ok, run_getObj_map _ _ _ _ hb, run_checkKey_int h2, hfind, hes, Option.map_some, Option.getD_some, hk0, hstay, MapKept.run_setObj_map _ hb, Sem.run_pure]
            have hpe : mapPut m kk ds = m.set i0 (kk, ds) := by rw [mapPut_idx, hidx]
            obtain ⟨hs', hx'⟩ := hs.setBlock (w' := { w with heap := w.heap.setIfInBounds b (.map (es.modify i0 fun e => { e with key := .int .i64 kk, val := vv }) clock) }) hkb (.inl rfl) hre rfl rfl rfl (by simp) (hput _) (o := .map (mapPut m kk ds))
              (fun hx' => ⟨_, _, hgot _, by rw [hpe]; simp [hsz], mapPut_nodup hnd, fun i k row e hi he => by
                rw [hpe, List.getElem?_set] at hi
                rw [Array.getElem?_modify] at he
                by_cases hi0 : i0 = i
                · subst hi0
                  rw [if_pos rfl, if_pos (by rw [← hsz]; exact hil0)] at hi
                  rw [if_pos rfl, hes] at he
                  cases hi
                  simp only [Option.map_some, Option.some.injEq] at he
                  subst he
                  refine ⟨rfl, (hent i0 _ _ _ hrow0 hes).2.1, ?_⟩
                  rcases hval with ⟨x, v, p, q, r⟩ | ⟨vs, p, q, r⟩
                  · exact .inl ⟨x, v, p, q, r.mono hx'.safe⟩
                  · exact .inr ⟨vs, p, q, fun j x y a b => (r j x y a b).mono hx'.safe⟩
                · rw [if_neg hi0] at hi he
                  obtain ⟨a1, a2, a3⟩ := hent i k row e hi he
                  refine ⟨a1, a2, ?_⟩
                  rcases a3 with ⟨x, v, p, q, r⟩ | ⟨vs, p, q, r⟩
                  · exact .inl ⟨x, v, p, q, r.mono hx'.safe⟩
                  · exact .inr ⟨vs, p, q, fun j x y a b => (r j x y a b).mono hx'.safe⟩⟩) hf
            refine ⟨undef, _, .u, _, ι, .inr ⟨hr, rfl⟩, h, hs', .u, hx', ?_⟩
            cases r <;> simp [setOb]
      | _ => rw [hpv] at hv; cases hv
    · exact h.elim
  · exact h.elim
end ops
end Go.AM
