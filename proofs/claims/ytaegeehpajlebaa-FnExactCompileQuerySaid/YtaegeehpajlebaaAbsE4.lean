/-
  The abstract machine: further plain operations.
  Conditions: none.
-/
import Derived.Test.YtaegeehpajlebaaAbsE3
import Derived.Laws.BytesString
namespace Go.AM
set_option linter.unusedVariables false
set_option linter.unusedSimpArgs false
section ops
variable {P : Program} {w : World} {ι : List K} {st : St} {a : Act} {K : A → St → Prop}

theorem res_nilCheck {o : Oper} {x : Operand} {x' : Opd} (ho : o.op = .nilCheck x) (hx : cOpd x = some x') (hs : SimSt w ι st a) (h : awOp P st true K (.nilCheck x')) : OpRes w ι st a K ((execOp a.eval o).run P w) := by
  simp only [awOp, QCallK, RowK, ByteK, B2SK, OptK, StoreK] at h
  split at h <;> (try exact h.elim)
  all_goals
    rename_i h1
    have hxv := val_ra hs hx h.1
    rw [h1] at hxv
    refine .pure hs (v := a.eval x) ?_ h.2 hxv
    have := hxv.c_inv
    generalize hg : a.eval x = v at this
    cases this
    all_goals simp [execOp, ho, hg]

theorem res_un {o : Oper} {op : UnOp} {t : TypeId} {x : Operand} {x' : Opd} (ho : o.op = .unOp op t x) (hx : cOpd x = some x') (hs : SimSt w ι st a) (h : awOp P st true K (.un op x')) : OpRes w ι st a K ((execOp a.eval o).run P w) := by
  unfold awOp at h
  obtain ⟨h1, h2, h3⟩ := h
  have h2 := h2 rfl
  have hxv := val_ra hs hx h1
  generalize hxe : (x'.ev st.sl).val = xa at *
  cases xa with
  | c cx =>
    cases cx with
    | d dx =>
      have hxv := hxv.c_inv
      cases hxv with
      | d hxv =>
      cases dx with
      | bool b =>
        cases op with
        | not => exact .pure hs (v := .bool (!b)) (by simp [execOp, ho, hxv.bool_eq, Op.unary]) h3 (.mkBool _)
        | _ => exact (show False from h2).elim
      | int k n =>
        obtain ⟨e, r⟩ := hxv.int_eq
        cases op with
        | neg => 
          have h2' : inR k (0 - n) := h2
          exact .pure hs (v := .int k (0 - n)) (by simp only [execOp, ho, e, Op.unary, Op.intArith, wrap_inR h2', Sem.run_bind, Sem.run_pure, Result.andThen_ok]) h3 (.mkInt h2')
        | _ => exact (show False from h2).elim
      | _ => exact (show False from h2).elim
    | _ => exact (show False from h2).elim
  | _ => exact (show False from h2).elim

theorem res_cvInt {o : Oper} {src dst : TypeId} {k q : IntKind} {x : Operand} {x' : Opd} (ho : o.op = .convert src dst x) (h1 : P.underlying src = some (.int q)) (h2 : P.underlying dst = some (.int k)) (hx : cOpd x = some x') (hs : SimSt w ι st a)
    (h : awOp P st true K (.cvInt k x')) : OpRes w ι st a K ((execOp a.eval o).run P w) := by
  simp only [awOp, QCallK, RowK, ByteK, B2SK, OptK, StoreK] at h
  split at h
  · rename_i k0 n hn
    have hxv := val_ra hs hx h.1
    rw [hn] at hxv
    refine .pure hs (v := .int k (k.wrap n)) ?_ h.2 (.mkInt (inR_wrap _ _))
    simp [execOp, ho, hxv.int_inv.1, convert, run_underlying h1, run_underlying h2, Conv.intToInt]
  · exact h.elim

theorem res_cvStr {o : Oper} {src dst : TypeId} {x : Operand} {x' : Opd} (ho : o.op = .convert src dst x) (h1 : P.underlying src = some .string) (h2 : P.underlying dst = some .string) (hx : cOpd x = some x') (hs : SimSt w ι st a)
    (h : awOp P st true K (.cvStr x')) : OpRes w ι st a K ((execOp a.eval o).run P w) := by
  simp only [awOp, QCallK, RowK, ByteK, B2SK, OptK, StoreK] at h
  split at h
  · rename_i s hn
    have hxv := val_ra hs hx h.1
    rw [hn] at hxv
    obtain ⟨t, e, e2, e3⟩ := hxv.str_inv
    refine .pure hs (v := .string t) ?_ h.2 (.mkStr e2 e3)
    simp [execOp, ho, e, convert, run_underlying h1, run_underlying h2]
  · exact h.elim

/-- a told slice, cell by cell -/
theorem RC.rows {n : Nat} {c : C} {rows : List (List D)} {v : Value} (h : RC w ι n c v) (hr : c.rows? = some rows) : RD w (Safe w ι) (.sl rows) v := by
  cases h with
  | @d x v h => cases x <;> simp [C.rows?] at hr; subst hr; exact h
  | own h _ => simp [C.rows?] at hr; subst hr; exact h
  | full h => simp [C.rows?] at hr; subst hr; exact h
  | _ => simp [C.rows?] at hr

theorem RD.sl_inv {S : Nat → Nat → Prop} {rows : List (List D)} {v : Value} (h : RD w S (.sl rows) v) : ∃ ad cap, v = .slice ad rows.length cap := by
  cases h with
  | nil a => exact ⟨a, 0, rfl⟩
  | sl => exact ⟨_, _, rfl⟩

theorem bytes_fold (s : List UInt8) (acc : ByteArray) : (s.map fun b => (b.toNat : Int)).foldl (fun r n => r.push (UInt8.ofNat n.toNat)) acc = ⟨acc.data ++ s.toArray⟩ := by
  induction s generalizing acc with
  | nil => simp
  | cons b s ih =>
    simp only [List.map_cons, List.foldl_cons]
    rw [ih]
    congr 1
    simp [ByteArray.push]

theorem res_cvB2S {o : Oper} {src dst e : TypeId} {x : Operand} {x' : Opd} (ho : o.op = .convert src dst x) (h1 : P.underlying src = some (.slice e)) (h2 : P.underlying dst = some .string) (h0 : P.underlying e = some (.int .u8)) (hx : cOpd x = some x') (hs : SimSt w ι st a)
    (h : awOp P st true K (.cvB2S x')) : OpRes w ι st a K ((execOp a.eval o).run P w) := by
  simp only [awOp, QCallK, RowK, ByteK, B2SK, OptK, StoreK] at h
  split at h
  · rename_i c hc
    split at h
    · rename_i rows hr
      obtain ⟨h3, s, h4, h5⟩ := h
      have h4 := h4 trivial
      have hxv := val_ra hs hx h3
      rw [hc] at hxv
      have hrd := hxv.c_inv.rows hr
      obtain ⟨ad, cap, hv⟩ := hrd.sl_inv
      rw [hv] at hrd
      have hlen : rows.length = s.length := by rw [h4]; simp [bytesRows]
      have hfin : ∀ r, (Conv.bytesToString (a.eval x)).run P w = .ok (.string ⟨s.toArray⟩) w → r = (execOp a.eval o).run P w → OpRes w ι st a K r := fun r hr hr2 => by
        subst hr2
        refine .pure hs (v := .string ⟨s.toArray⟩) ?_ h5 (.mkStr (by simp) ?_)
        · rw [hv] at hr
          simp [execOp, ho, hv, convert, run_underlying h1, run_underlying h2, run_underlying h0, hr]
        · rw [RD.sl_iff] at hrd
          rcases hrd with ⟨e1, _⟩ | ⟨b, off, sz, e1, e2, e3, e4, e5⟩
          · rw [e1] at hlen; simp at hlen; simp [← hlen]
          · unfold maxRows at e4; unfold maxStr; omega
      refine hfin _ ?_ rfl
      rw [RD.sl_iff] at hrd
      rcases hrd with ⟨e1, e3, e4⟩ | ⟨b, off, sz, e1, e2, e3, e4, e5⟩
      · rw [e1] at hlen
        simp at hlen
        have : s = [] := List.length_eq_zero_iff.1 hlen.symm
        subst this
        rw [hv, e1]
        cases ad with
        | none => simp [Conv.bytesToString]; rfl
        | some ad => simp [Conv.bytesToString, loadCells, loadCellsFrom]; rfl
      · have hcell : ∀ (j : Nat) v, (s.map fun b => Value.int .u8 b.toNat)[j]? = some v → w.cell? (Addr.add ⟨b, off, none⟩ j) = some v := fun j v hj => by
          simp only [List.getElem?_map, Option.map_eq_some_iff] at hj
          obtain ⟨u, hu, rfl⟩ := hj
          have hrow : rows[j]? = some [.int .u8 u.toNat] := by rw [h4]; simp [bytesRows, hu]
          obtain ⟨hsz, hat⟩ := e5 j _ hrow
          simp at hsz
          obtain ⟨y, p, _, q⟩ := hat 0 _ rfl
          have := q.int_eq.1
          subst this
          rw [addr_add]
          rw [← hsz] at p
          simpa using p
        have hl := run_loadCells_list (P := P) w ⟨b, off, none⟩ _ hcell
        simp only [List.length_map] at hl
        rw [hv, e1, hlen]
        have hb := run_bytesToString (P := P) w ⟨b, off, none⟩ s.length cap (s.map fun b => (b.toNat : Int)) (by rw [hl]; simp)
        rw [hb, bytes_fold]
        simp
    · exact h.elim
  · exact h.elim


theorem res_cvS2B {o : Oper} {src dst e : TypeId} {x : Operand} {x' : Opd} (ho : o.op = .convert src dst x) (h1 : P.underlying src = some .string) (h2 : P.underlying dst = some (.slice e)) (h0 : P.underlying e = some (.int .u8)) (hx : cOpd x = some x') (hs : SimSt w ι st a)
    (h : awOp P st true K (.cvS2B x')) : OpRes w ι st a K ((execOp a.eval o).run P w) := by
  simp only [awOp, QCallK, RowK, ByteK, B2SK, OptK, StoreK] at h
  split at h
  · rename_i s hn
    obtain ⟨h3, h4, h5⟩ := h
    have hxv := val_ra hs hx h3
    rw [hn] at hxv
    obtain ⟨t, e1, e2, e3⟩ := hxv.str_inv
    obtain ⟨cap, hcap⟩ : ∃ cap, cap = (Question.appendCap t.size 0 e).cut (w.tape w.drawn (.appendCap t.size 0 e)) := ⟨_, rfl⟩
    have hcap' : t.size ≤ cap := by rw [hcap]; simp only [Question.cut]; omega
    obtain ⟨cs, hcs⟩ : ∃ cs : Array Value, cs = (t.data.map fun b => Value.int .u8 b.toNat) ++ Array.replicate (cap - t.size) (.int .u8 0) := ⟨_, rfl⟩
    have hsz : cs.size = cap := by rw [hcs]; simp; change t.size + (cap - t.size) = cap; omega
    let w1 : World := { w with drawn := w.drawn + 1 }
    let w2 := w1.alloc (.cells cs e)
    let w3 := w2.freeze ⟨w.heap.size, cap, none⟩ 1
    have hrun : (execOp a.eval o).run P w = .ok (.value (.slice (some ⟨w.heap.size, 0, none⟩) t.size cap)) w3 := by
      have hf : (Question.appendCap t.size 0 e).forced = false := rfl
      have hsh : w2.shape? w.heap.size = some (e, cap) := by
        show (match (w1.alloc (.cells cs e)).heap[w1.heap.size]? with | some (.cells c elem _) => some (elem, c.size) | _ => none) = _
        rw [heap_alloc_new]
        simp [hsz]
      simp only [execOp, ho, e1, convert, Sem.run_bind, run_underlying h1, run_underlying h2, run_underlying h0, Result.andThen_ok, Conv.stringToBytes, run_choose, hf, Bool.false_eq_true, ↓reduceIte, ← hcap, newRow, run_newObj, ← hcs,
        markStringish, run_shape, Sem.run_pure]
      have hsh' : World.shape? { w1 with heap := w1.heap.push (.cells cs e) } w1.heap.size = some (e, cap) := hsh
      simp only [w1] at hsh'
      simp only [hsh', run_freeze, Result.andThen_ok, Sem.run_pure]
      rfl
    have hb : ∀ c, c < w.heap.size → w3.heap[c]? = w.heap[c]? := fun c hc => by
      have : w2.heap[c]? = w.heap[c]? := heap_alloc_lt w1 _ hc
      rw [← this]
      simp only [w3, World.freeze, Nat.one_ne_zero, ↓reduceIte, Array.getElem?_modify]
      rw [if_neg (by omega)]
    have hsize : w3.heap.size = w.heap.size + 1 := by simp [w3, World.freeze, w2, w1, World.alloc]
    have hx3 : Ext w ι w3 ι := .of_blocks (by simp [w3, World.freeze, w2, w1, World.alloc]) (by simp [w3, World.freeze, w2, w1, World.alloc]) (by simp [w3, World.freeze, w2, w1, World.alloc]) (by omega) hb
    have hcell : ∀ j, w3.cell? ⟨w.heap.size, j, none⟩ = cs[j]? := fun j => by
      simp only [w3, World.freeze, Nat.one_ne_zero, ↓reduceIte, World.cell?, Array.getElem?_modify]
      have : w2.heap[w.heap.size]? = some (.cells cs e) := heap_alloc_new w1 _
      simp [this]
    have hsafe : ∀ j, Safe w3 ι w.heap.size j := fun j => ⟨by omega, fun k hk ho => by have := hs.sim.low k _ hk (AM.K.at_of_owns ho); omega⟩
    refine ⟨_, w3, _, st, ι, .inl hrun, h5, hs.of_blocks hx3 hb, .c (.d ?_), hx3, rfl⟩
    have hlen : (bytesRows s).length = t.size := by simp [bytesRows, ← e2]
    rw [← hlen, RD.sl_iff]
    refine .inr ⟨w.heap.size, 0, 1, rfl, rfl, by rw [hlen]; exact hcap', by rw [hlen]; rw [← e2] at h4; exact h4, fun i r hi => ?_⟩
    simp only [bytesRows, List.getElem?_map, Option.map_eq_some_iff] at hi
    obtain ⟨b, hb', rfl⟩ := hi
    refine ⟨rfl, fun j x hj => ?_⟩
    cases j with
    | zero =>
      simp at hj
      subst hj
      refine ⟨.int .u8 b.toNat, ?_, hsafe _, .int _ _ ?_⟩
      · rw [hcell, hcs]
        rw [← e2] at hb'
        have hlt : i < t.data.size := by have := (List.getElem?_eq_some_iff.1 hb').1; simpa using this
        have hbv : t.data[i] = b := (Array.getElem?_eq_some_iff.1 (show t.data[i]? = some b by simpa using hb')).2
        have hlt' : i < t.size := hlt
        simp [Array.getElem?_append, hlt', hlt, hbv]
      · have := b.toNat_lt
        unfold inR
        simp [IntKind.min, IntKind.max, IntKind.signed, IntKind.bits]
        omega
    | succ j => simp at hj
  · exact h.elim

theorem res_extract {o : Oper} {i : Nat} {x : Operand} {x' : Opd} (ho : o.op = .extract x i) (hx : cOpd x = some x') (hs : SimSt w ι st a) (h : awOp P st true K (.extract i x')) : OpRes w ι st a K ((execOp a.eval o).run P w) := by
  simp only [awOp, QCallK, RowK, ByteK, B2SK, OptK, StoreK] at h
  split at h
  · rename_i vs hv
    obtain ⟨hok, h⟩ := h
    split at h
    · rename_i y hy
      have hxv := val_ra hs hx hok
      rw [hv] at hxv
      generalize hg : a.eval x = v at hxv
      cases hxv with
      | @tup _ us h1 h2 =>
        have hlt : i < us.length := by rw [h1]; exact (List.getElem?_eq_some_iff.1 hy).1
        refine .pure hs (v := us[i]) ?_ h (h2 i y _ hy (List.getElem?_eq_getElem hlt))
        simp [execOp, ho, hg, Instr.extract, hlt]
    · exact h.elim
  · exact h.elim

theorem res_fieldAddr {o : Oper} {t : TypeId} {f n : Nat} {fs : Array Field} {fd : Field} {x : Operand} {x' : Opd} (ho : o.op = .fieldAddr t x f) (h1 : P.underlying t = some (.struct fs)) (h2 : fs[f]? = some fd) (h3 : sizeOf? P fd.type = some n) (h4 : n ≠ 0)
    (hx : cOpd x = some x') (hs : SimSt w ι st a) (h : awOp P st true K (.fieldAddr fd.offset x')) : OpRes w ι st a K ((execOp a.eval o).run P w) := by
  simp only [awOp, QCallK, RowK, ByteK, B2SK, OptK, StoreK] at h
  split at h
  · rename_i y hy
    have hxv := val_ra hs hx h.1
    have hrun : ∀ b off, a.eval x = .pointer (some ⟨b, off, none⟩) → (execOp a.eval o).run P w = .ok (.value (.pointer (some ⟨b, off + fd.offset, none⟩))) w := fun b off e => by
      simp [execOp, ho, e, Instr.fieldAt, run_underlying h1, h2, Instr.sureAddr, fieldPlace, run_sizeOf' h3, h4, addr_add]
    generalize hxe : (x'.ev st.sl).val = xa at *
    cases xa with
    | c cx =>
      have hc := hxv.c_inv
      generalize hg : a.eval x = v at hc
      cases hc with
      | ptr hk =>
        simp only [fieldAddrA] at hy
        cases hy
        exact .pure hs (hrun _ _ hg) h.2 (.c (.ptr hk))
      | el hk =>
        simp only [fieldAddrA] at hy
        cases hy
        exact .pure hs (hrun _ _ hg) h.2 (by rw [Nat.add_assoc]; exact .c (.el hk))
      | rel hk =>
        simp only [fieldAddrA] at hy
        cases hy
        exact .pure hs (hrun _ _ hg) h.2 (by rw [Nat.add_assoc]; exact .c (.rel hk))
      | _ => simp [fieldAddrA] at hy
    | _ => simp [fieldAddrA] at hy
  · exact h.elim

theorem cut_ra {n : Option Nat} {m off : Nat} {t : TypeId} {cs : List C} {vs : List Value} {x : A} (ht : aggOf P t = some n) (hr : RCs w ι m cs vs) (h : cut cs off n = some x) :
    ∃ y, (part t vs.toArray off).run P w = .ok y w ∧ RA w ι m x y := by
  cases n with
  | none =>
    simp only [cut, Option.map_eq_some_iff] at h
    obtain ⟨c, h1, rfl⟩ := h
    have hlt : off < vs.length := by rw [hr.1]; exact (List.getElem?_eq_some_iff.1 h1).1
    exact ⟨vs[off], part_one ht _ _ (by simp [hlt]), .c (hr.2 off c _ h1 (List.getElem?_eq_getElem hlt))⟩
  | some n =>
    simp only [cut] at h
    split at h
    · rename_i hle
      cases h
      refine ⟨_, part_agg ht _ _, ?_⟩
      have e : vs.toArray.extract off (off + n) = ((vs.drop off).take n).toArray := by
        simp [List.extract_toArray]
      rw [e]
      refine .agg ⟨by simp [hr.1], fun i c v h1 h2 => ?_⟩
      simp only [List.getElem?_take, List.getElem?_drop] at h1 h2
      split at h1
      · rename_i hi
        simp only [hi, ↓reduceIte] at h2
        exact hr.2 _ c v h1 h2
      · cases h1
    · cases h

theorem res_field {o : Oper} {t : TypeId} {f : Nat} {n : Option Nat} {fs : Array Field} {fd : Field} {x : Operand} {x' : Opd} (ho : o.op = .field t x f) (h1 : P.underlying t = some (.struct fs)) (h2 : fs[f]? = some fd) (h3 : aggOf P fd.type = some n)
    (hx : cOpd x = some x') (hs : SimSt w ι st a) (h : awOp P st true K (.field fd.offset n x')) : OpRes w ι st a K ((execOp a.eval o).run P w) := by
  simp only [awOp, QCallK, RowK, ByteK, B2SK, OptK, StoreK] at h
  split at h
  · rename_i cs hc
    obtain ⟨h4, h5⟩ := h
    split at h5
    · rename_i y hy
      have hxv := val_ra hs hx h4
      rw [hc] at hxv
      obtain ⟨vs, e, r⟩ := hxv.agg_inv
      obtain ⟨z, h6, h7⟩ := cut_ra (P := P) h3 r hy
      refine .pure hs (v := z) ?_ h5 h7
      simp [execOp, ho, e, Instr.field, run_underlying h1, h2, asAgg, h6]
    · exact h5.elim
  · exact h.elim

end ops
end Go.AM
