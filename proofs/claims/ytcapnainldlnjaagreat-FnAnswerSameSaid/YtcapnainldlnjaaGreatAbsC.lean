/-
  The abstract machine: how its readings stand when memory is laid, written, and drawn from.
  Conditions: none.
-/
import Derived.Test.YtcapnainldlnjaaGreatAbsB
namespace Go.AM
set_option linter.unusedVariables false
set_option linter.unusedSimpArgs false

theorem Safe.lt {w : World} {ι : List K} {b o : Nat} (h : Safe w ι b o) : b < w.heap.size := h.1

theorem heap_alloc_lt (w : World) (o : Obj) {k : Nat} (h : k < w.heap.size) : (w.alloc o).heap[k]? = w.heap[k]? := by
  show (w.heap.push o)[k]? = _
  rw [Array.getElem?_push, if_neg (by omega)]
theorem heap_alloc_new (w : World) (o : Obj) : (w.alloc o).heap[w.heap.size]? = some o := by
  show (w.heap.push o)[w.heap.size]? = _
  simp

theorem cell_of_heap {w w' : World} {b : Nat} (h : w'.heap[b]? = w.heap[b]?) (o : Nat) : w'.cell? ⟨b, o, none⟩ = w.cell? ⟨b, o, none⟩ := by
  simp [World.cell?, h]
/-- a world in which blocks have been laid behind the others, of which no object says anything -/
theorem Ext.of_blocks {w w' : World} {ι : List K} (hos : w'.os = w.os) (ht : w'.tape = w.tape) (ho : w'.output = w.output) (hs : w.heap.size ≤ w'.heap.size)
    (hb : ∀ b, b < w.heap.size → w'.heap[b]? = w.heap[b]?) : Ext w ι w' ι where
  os := hos
  tape := ht
  output := ho
  size := hs
  safe := fun b o h => ⟨⟨Nat.lt_of_lt_of_le h.1 hs, h.2⟩, cell_of_heap (hb b h.1) o⟩
  block := fun b h hk => ⟨hb b h, hk⟩
  ev := fun i k h => ⟨k, h, k.ev_refl⟩

theorem RO.of_blocks {w w' : World} {ι ι' : List K} {n : Nat} {o : Ob} {k : K} (h : RO w ι n o k) (hx : Ext w ι w' ι') (hb : ∀ b, k.at b → w'.heap[b]? = w.heap[b]?) : RO w' ι' n o k := by
  match o, k, h with
  | .cells cs, .blk b, ⟨vs, el, h1, h2⟩ => exact ⟨vs, el, (hb b rfl).trans h1, h2.mono hx⟩
  | .rows rs, .rows b sz _, ⟨vs, el, h1, h2, h3, h4⟩ =>
    exact ⟨vs, el, (hb b rfl).trans h1, h2, h3, fun i r hi => ⟨(h4 i r hi).1, fun j x hj => let ⟨y, p, q⟩ := (h4 i r hi).2 j x hj; ⟨y, p, q.mono hx.safe⟩⟩⟩
  | .grow p _, .grow q none, h => exact h
  | .grow p _, .grow q (some (b, E, lim, sz)), ⟨h1, vs, el, h2, h3⟩ => exact ⟨h1, vs, el, (hb b rfl).trans h2, h3⟩
  | .map m, .blk b, ⟨es, clock, h1, h2, h3, h4⟩ =>
    refine ⟨es, clock, (hb b rfl).trans h1, h2, h3, fun i k row e hi he => ?_⟩
    obtain ⟨a1, a2, a3⟩ := h4 i k row e hi he
    refine ⟨a1, a2, ?_⟩
    rcases a3 with ⟨x, v, p, q, r⟩ | ⟨vs, p, q, r⟩
    · exact .inl ⟨x, v, p, q, r.mono hx.safe⟩
    · exact .inr ⟨vs, p, q, fun j x y a b => (r j x y a b).mono hx.safe⟩
  | .tree v d, .tree B, ⟨B₀, h1, h2⟩ => exact ⟨B₀, h1, h2.mono fun b h => hb b (h1 b h)⟩
  | .tab g o, .grow q (some (b, _, lim, _)), ⟨⟨h0, h1⟩, h2⟩ => exact ⟨⟨h0, h1⟩, (hb g h0.symm).trans h2⟩
  | .dead, _, _ => trivial

theorem Sim.of_blocks {w w' : World} {ι : List K} {n : Nat} {H : Heap} (h : Sim w ι n H) (hx : Ext w ι w' ι) (hb : ∀ b, b < w.heap.size → w'.heap[b]? = w.heap[b]?) : Sim w' ι n H where
  len := h.len
  obj := fun i o k ho hk => (h.obj i o k ho hk).of_blocks hx fun b hat => hb b (h.low k b (List.mem_of_getElem? hk) hat)
  apart := h.apart
  low := fun k b hk hat => Nat.lt_of_lt_of_le (h.low k b hk hat) hx.size

theorem SimSt.of_blocks {w w' : World} {ι : List K} {st : St} {a : Act} (h : SimSt w ι st a) (hx : Ext w ι w' ι) (hb : ∀ b, b < w.heap.size → w'.heap[b]? = w.heap[b]?) : SimSt w' ι st a where
  sim := h.sim.of_blocks hx hb
  size := h.size
  slots := fun i x v h1 h2 => (h.slots i x v h1 h2).mono hx
  fit := h.fit
  defers := h.defers

theorem Ext.alloc (w : World) (ι : List K) (o : Obj) : Ext w ι (w.alloc o) ι :=
  .of_blocks rfl rfl rfl (by simp) (fun b hb => heap_alloc_lt w o hb)
theorem SimSt.alloc {w : World} {ι : List K} {st : St} {a : Act} (h : SimSt w ι st a) (o : Obj) : SimSt (w.alloc o) ι st a :=
  h.of_blocks (Ext.alloc w ι o) (fun b hb => heap_alloc_lt w o hb)
theorem Ext.drewN (w : World) (ι : List K) (d : Nat) : Ext w ι { w with drawn := d } ι :=
  .of_blocks rfl rfl rfl (Nat.le_refl _) (fun _ _ => rfl)
theorem SimSt.drewN {w : World} {ι : List K} {st : St} {a : Act} (h : SimSt w ι st a) (d : Nat) : SimSt { w with drawn := d } ι st a :=
  h.of_blocks (Ext.drewN w ι d) (fun _ _ => rfl)

/-- a new object, in a block that lies behind all others (or in none) -/
theorem Ext.push {w w' : World} {ι : List K} {k : K} (hx : Ext w ι w' ι) (hk : ∀ b, k.at b → w.heap.size ≤ b) : Ext w ι w' (ι ++ [k]) where
  os := hx.os
  tape := hx.tape
  output := hx.output
  size := hx.size
  safe := fun b o h => by
    have ⟨p, q⟩ := hx.safe b o h
    refine ⟨⟨p.1, fun k' hk' ho => ?_⟩, q⟩
    rcases List.mem_append.1 hk' with h1 | h1
    · exact p.2 k' h1 ho
    · rw [List.mem_singleton.1 h1] at ho
      have := hk b (K.at_of_owns ho)
      have := h.1
      omega
  block := fun b h hn => by
    have ⟨p, q⟩ := hx.block b h hn
    refine ⟨p, fun k' hk' ho => ?_⟩
    rcases List.mem_append.1 hk' with h1 | h1
    · exact q k' h1 ho
    · rw [List.mem_singleton.1 h1] at ho
      have := hk b ho
      omega
  ev := fun i k' h => ⟨k', by rw [List.getElem?_append_left (List.getElem?_eq_some_iff.1 h).1]; exact h, k'.ev_refl⟩

theorem Sim.push {w w' : World} {ι : List K} {n : Nat} {H : Heap} {k : K} {o : Ob} (h : Sim w ι n H) (hx : Ext w ι w' ι) (hb : ∀ b, b < w.heap.size → w'.heap[b]? = w.heap[b]?)
    (hk : ∀ b, k.at b → w.heap.size ≤ b ∧ b < w'.heap.size) (ho : RO w' (ι ++ [k]) n o k) : Sim w' (ι ++ [k]) n (H ++ [o]) where
  len := by simp [h.len]
  obj := fun i o' k' h1 h2 => by
    have hx' : Ext w ι w' (ι ++ [k]) := hx.push fun b hat => (hk b hat).1
    rcases Nat.lt_or_ge i H.length with hi | hi
    · rw [List.getElem?_append_left hi] at h1
      rw [List.getElem?_append_left (by rw [h.len]; exact hi)] at h2
      exact (h.obj i o' k' h1 h2).of_blocks hx' fun b hat => hb b (h.low k' b (List.mem_of_getElem? h2) hat)
    · rw [List.getElem?_append_right hi] at h1
      rw [List.getElem?_append_right (by rw [h.len]; exact hi), h.len] at h2
      rcases Nat.eq_zero_or_pos (i - H.length) with e | e
      · rw [e] at h1 h2
        simp at h1 h2
        rw [← h1, ← h2]; exact ho
      · rw [List.getElem?_eq_none (by simp; omega)] at h1
        cases h1
  apart := fun i j k1 k2 b h1 h2 o1 o2 => by
    have low1 : ∀ (i : Nat) k1, ι[i]? = some k1 → k1.at b → b < w.heap.size := fun i k1 h1 o1 => h.low k1 b (List.mem_of_getElem? h1) o1
    have case : ∀ (i : Nat) k1, (ι ++ [k])[i]? = some k1 → (i < ι.length ∧ ι[i]? = some k1) ∨ (i = ι.length ∧ k1 = k) := fun i k1 h1 => by
      rcases Nat.lt_or_ge i ι.length with hi | hi
      · rw [List.getElem?_append_left hi] at h1; exact .inl ⟨hi, h1⟩
      · rw [List.getElem?_append_right hi] at h1
        rcases Nat.eq_zero_or_pos (i - ι.length) with e | e
        · rw [e] at h1; simp at h1; exact .inr ⟨by omega, h1.symm⟩
        · rw [List.getElem?_eq_none (by simp; omega)] at h1; cases h1
    rcases case i k1 h1 with ⟨a1, b1⟩ | ⟨a1, b1⟩ <;> rcases case j k2 h2 with ⟨a2, b2⟩ | ⟨a2, b2⟩
    · exact h.apart i j k1 k2 b b1 b2 o1 o2
    · subst b2; have := low1 i k1 b1 o1; have := (hk b o2).1; omega
    · subst b1; have := low1 j k2 b2 o2; have := (hk b o1).1; omega
    · omega
  low := fun k' b hk' hat => by
    rcases List.mem_append.1 hk' with h1 | h1
    · exact Nat.lt_of_lt_of_le (h.low k' b h1 hat) hx.size
    · rw [List.mem_singleton.1 h1] at hat; exact (hk b hat).2

theorem SimSt.push {w w' : World} {ι : List K} {st : St} {a : Act} {k : K} {o : Ob} (h : SimSt w ι st a) (hx : Ext w ι w' ι) (hb : ∀ b, b < w.heap.size → w'.heap[b]? = w.heap[b]?)
    (hk : ∀ b, k.at b → w.heap.size ≤ b ∧ b < w'.heap.size) (ho : RO w' (ι ++ [k]) st.ext.length o k) : SimSt w' (ι ++ [k]) (A_ st o) a where
  sim := by
    have := h.sim.push hx hb hk ho
    simpa [A_] using this
  size := h.size
  slots := fun i x v h1 h2 => (h.slots i x v h1 h2).mono (hx.push fun b hat => (hk b hat).1)
  fit := h.fit
  defers := h.defers

/-- the place of the newest object -/
theorem SimSt.newIdx {w : World} {ι : List K} {st : St} {a : Act} (h : SimSt w ι st a) (k : K) : (ι ++ [k])[idx st.ext.length (.l st.loc.length)]? = some k := by
  have := h.sim.len
  simp only [List.length_append] at this
  simp [idx, ← this]

/-! ### operands and slots -/

theorem SimSt.eval {w : World} {ι : List K} {st : St} {a : Act} (h : SimSt w ι st a) (t : Nat) : RA w ι st.ext.length (st.sl.getD t .u) (a.eval (.tmp t)) := by
  rcases Nat.lt_or_ge t st.sl.length with ht | ht
  · have hs : t < a.tmps.size := by rw [h.size]; exact ht
    refine h.slots t _ _ (by simp [List.getD, ht]) ?_
    simp [Act.eval, hs]
  · simp only [List.getD, List.getElem?_eq_none ht, Option.getD_none]; exact .u

theorem SimSt.put {w : World} {ι : List K} {st : St} {a : Act} (h : SimSt w ι st a) (dst : Option Nat) {x : A} {v : Value} (hx : RA w ι st.ext.length x v) :
    SimSt w ι ⟨d_ st.sl dst x, st.ext, st.loc⟩ (a.put dst v) := by
  cases dst with
  | none => exact h
  | some d =>
    refine ⟨h.sim, by simp [Act.put, d_, h.size], fun i y u h1 h2 => ?_, h.fit, h.defers⟩
    simp only [d_, List.getElem?_set] at h1
    simp only [Act.put, Array.getElem?_setIfInBounds] at h2
    by_cases e : d = i
    · subst e
      simp only [↓reduceIte] at h1 h2
      split at h1
      · split at h2
        · cases h1; cases h2; exact hx
        · cases h2
      · cases h1
    · simp only [e, ↓reduceIte] at h1 h2
      exact h.slots i y u h1 h2

theorem SimSt.setU {w : World} {ι : List K} {sl : List A} {ext loc : Heap} {a : Act} (h : SimSt w ι ⟨sl, ext, loc⟩ a) (i : Nat) : SimSt w ι ⟨sl.set i .u, ext, loc⟩ a := by
  refine ⟨h.sim, by simp [h.size], fun j y u h1 h2 => ?_, h.fit, h.defers⟩
  simp only [List.getElem?_set] at h1
  by_cases e : i = j
  · subst e
    simp only [↓reduceIte] at h1
    split at h1
    · cases h1; exact .u
    · cases h1
  · simp only [e, ↓reduceIte] at h1
    exact h.slots j y u h1 h2

theorem SimSt.kills {w : World} {ι : List K} {ext loc : Heap} {a : Act} : ∀ (l : List Nat) (sl : List A), SimSt w ι ⟨sl, ext, loc⟩ a → SimSt w ι ⟨AM.o_ sl l, ext, loc⟩ a
  | [], _, h => h
  | i :: l, sl, h => SimSt.kills l _ (h.setU i)

/-- one slot is told anew -/
theorem SimSt.tell {w : World} {ι : List K} {sl : List A} {ext loc : Heap} {a : Act} (h : SimSt w ι ⟨sl, ext, loc⟩ a) (i : Nat) (x : A)
    (hx : ∀ y v, sl[i]? = some y → a.tmps[i]? = some v → RA w ι ext.length y v → RA w ι ext.length x v) : SimSt w ι ⟨sl.set i x, ext, loc⟩ a := by
  refine ⟨h.sim, by simp [h.size], fun j y u h1 h2 => ?_, h.fit, h.defers⟩
  simp only [List.getElem?_set] at h1
  by_cases e : i = j
  · subst e
    simp only [↓reduceIte] at h1
    split at h1
    · cases h1
      rename_i hi
      have hi : i < sl.length := hi
      have hg : sl[i]? = some sl[i] := List.getElem?_eq_getElem hi
      exact hx _ u hg h2 (h.slots i _ u hg h2)
    · cases h1
  · simp only [e, ↓reduceIte] at h1
    exact h.slots j y u h1 h2

theorem RA.val {w : World} {ι : List K} {n : Nat} {x : A} {v : Value} (h : RA w ι n x v) (hok : x.ok true) : RA w ι n x.val v := by
  cases h with
  | gd h1 _ => exact h1 (hok rfl)
  | u => exact .u
  | c h1 => exact .c h1
  | agg h1 => exact .agg h1
  | tup h1 h2 => exact .tup h1 h2

end Go.AM
