/-
  The abstract machine: an object is written; an owned slice grows.
  Conditions: none.
-/
import Derived.Test.YtcapnainldlnjaaGreatAbsC
namespace Go.AM
set_option linter.unusedVariables false
set_option linter.unusedSimpArgs false

theorem idx_re (m n : Nat) (r : Ref) : idx m (r.re n) = idx n r := by cases r <;> rfl

theorem RC_re {w : World} {ι : List K} {m n : Nat} {c : C} {v : Value} : RC w ι m (c.re n) v ↔ RC w ι n c v := by
  constructor
  · intro h
    cases c with
    | d x => cases h with | d h => exact .d h
    | ptr r o => cases h with | ptr h => rw [idx_re] at h; exact .ptr h
    | el row o => cases h with | el h => exact .el h
    | own r p rows => cases h with | own h1 h2 => rw [idx_re] at h2; exact .own h1 h2
    | full rows => cases h with | full h => exact .full h
    | fsl r l s => cases h with | fsl h h' => rw [idx_re] at h; exact .fsl h h'
    | psl r lo m s => cases h with | psl h h1 h2 h3 => rw [idx_re] at h; exact .psl h h1 h2 h3
    | csl r m s => cases h with | csl h h1 h2 h3 => rw [idx_re] at h; exact .csl h h1 h2 h3
    | rel r i o => cases h with | rel h => rw [idx_re] at h; exact .rel h
    | map r => cases h with | map h => rw [idx_re] at h; exact .map h
    | fn f caps =>
      cases h with
      | fn h1 h2 =>
        refine .fn (by simpa using h1) fun i r o hi => ?_
        obtain ⟨b, h3, h4⟩ := h2 i (r.re n) o (by simp [hi])
        rw [idx_re] at h3
        exact ⟨b, h3, h4⟩
    | u => cases h with | u h => exact .u h
  · intro h
    cases h with
    | d h => exact .d h
    | ptr h => exact .ptr (by rw [idx_re]; exact h)
    | el h => exact .el h
    | own h1 h2 => exact .own h1 (by rw [idx_re]; exact h2)
    | full h => exact .full h
    | fsl h h' => exact .fsl (by rw [idx_re]; exact h) h'
    | psl h h1 h2 h3 => exact .psl (by rw [idx_re]; exact h) h1 h2 h3
    | csl h h1 h2 h3 => exact .csl (by rw [idx_re]; exact h) h1 h2 h3
    | rel h => exact .rel (by rw [idx_re]; exact h)
    | map h => exact .map (by rw [idx_re]; exact h)
    | fn h1 h2 =>
      refine .fn (by simpa using h1) fun i r o hi => ?_
      simp only [List.getElem?_map, Option.map_eq_some_iff] at hi
      obtain ⟨⟨r', o'⟩, h3, h4⟩ := hi
      cases h4
      rw [idx_re]
      exact h2 i r' _ h3
    | u h => exact .u h

theorem RCs_re {w : World} {ι : List K} {m n : Nat} {cs : List C} {vs : List Value} : RCs w ι m (cs.map (C.re n)) vs ↔ RCs w ι n cs vs := by
  constructor
  · rintro ⟨h1, h2⟩
    refine ⟨by simpa using h1, fun i c v hc hv => RC_re.1 (h2 i (c.re n) v (by simp [hc]) hv)⟩
  · rintro ⟨h1, h2⟩
    refine ⟨by simpa using h1, fun i c v hc hv => ?_⟩
    simp only [List.getElem?_map, Option.map_eq_some_iff] at hc
    obtain ⟨c', h3, rfl⟩ := hc
    exact RC_re.2 (h2 i c' v h3 hv)

theorem res_map (n : Nat) (as : List A) : A.res n as = as.map (A.re n) := by
  induction as with
  | nil => rfl
  | cons a l ih => simp only [A.res, ih, List.map_cons]

theorem RA_re_of {w : World} {ι : List K} {m n : Nat} {a : A} {v : Value} (h : RA w ι n a v) : RA w ι m (a.re n) v := by
  induction h with
  | u => exact .u
  | c h1 => exact .c (RC_re.2 h1)
  | agg h1 => exact .agg (RCs_re.2 h1)
  | tup h1 h2 ih =>
    simp only [A.re, res_map]
    refine .tup (by simpa using h1) fun i x y hx hy => ?_
    simp only [List.getElem?_map, Option.map_eq_some_iff] at hx
    obtain ⟨x', h3, rfl⟩ := hx
    exact ih i x' y h3 hy
  | gd h1 h2 ih => exact .gd ih h2

theorem RA_of_re {w : World} {ι : List K} {m n : Nat} {a' : A} {v : Value} (h : RA w ι m a' v) : ∀ a, a' = A.re n a → RA w ι n a v := by
  induction h with
  | u => intro a e; cases a <;> simp [A.re] at e; exact .u
  | c h1 => intro a e; cases a <;> simp [A.re] at e; subst e; exact .c (RC_re.1 h1)
  | agg h1 => intro a e; cases a <;> simp [A.re] at e; subst e; exact .agg (RCs_re.1 h1)
  | tup h1 h2 ih =>
    intro a e
    cases a <;> simp [A.re] at e
    rename_i l
    subst e
    rw [res_map] at h1 h2 ih
    refine .tup (by simpa using h1) fun i x y hx hy => ih i (x.re n) y (by simp [hx]) hy x rfl
  | gd h1 h2 ih =>
    intro a e
    cases a <;> simp [A.re] at e
    obtain ⟨rfl, rfl⟩ := e
    exact .gd (fun g => ih g _ rfl) h2

theorem RO_re {w : World} {ι : List K} {m n : Nat} {o : Ob} {k : K} : RO w ι m (o.re n) k ↔ RO w ι n o k := by
  match o, k with
  | .cells cs, .blk b =>
    constructor
    · rintro ⟨vs, el, h1, h2⟩; exact ⟨vs, el, h1, RCs_re.1 h2⟩
    · rintro ⟨vs, el, h1, h2⟩; exact ⟨vs, el, h1, RCs_re.2 h2⟩
  | .cells cs, .x => exact Iff.rfl
  | .cells cs, .rows _ _ _ => exact Iff.rfl
  | .cells cs, .grow _ _ => exact Iff.rfl
  | .cells cs, .tree _ => exact Iff.rfl
  | .tree v d, k => cases k <;> exact Iff.rfl
  | .rows rs, k => cases k <;> exact Iff.rfl
  | .grow p s, k => cases k with | grow q o => cases o <;> exact Iff.rfl | _ => exact Iff.rfl
  | .map p, k => cases k <;> exact Iff.rfl
  | .tab g o, k => cases k with | grow q o => cases o <;> exact Iff.rfl | _ => exact Iff.rfl
  | .dead, k => cases k <;> exact Iff.rfl

theorem getOb_heap {st : St} {r : Ref} {o : Ob} (h : z_ st r = o) (hd : o ≠ .dead) : (st.ext ++ st.loc)[idx st.ext.length r]? = some o ∧ (∀ b, r = .e b → b < st.ext.length) := by
  cases r with
  | e b =>
    simp only [z_, List.getD] at h
    rcases Nat.lt_or_ge b st.ext.length with hb | hb
    · refine ⟨?_, fun b' e => by cases e; exact hb⟩
      simp only [idx]
      rw [List.getElem?_append_left hb]
      simp [hb] at h ⊢
      exact h
    · rw [List.getElem?_eq_none hb] at h; exact absurd h.symm hd
  | l i =>
    simp only [z_, List.getD] at h
    refine ⟨?_, fun b' e => by cases e⟩
    rcases Nat.lt_or_ge i st.loc.length with hb | hb
    · simp only [idx]
      rw [List.getElem?_append_right (Nat.le_add_right _ _)]
      simp [hb] at h ⊢
      exact h
    · rw [List.getElem?_eq_none hb] at h; exact absurd h.symm hd

theorem setOb_heap (st : St) (r : Ref) (o : Ob) (hr : ∀ b, r = .e b → b < st.ext.length) :
    (B_ st r o).ext ++ (B_ st r o).loc = (st.ext ++ st.loc).set (idx st.ext.length r) (obAt st.ext.length r o) ∧
    (B_ st r o).ext.length = st.ext.length ∧ (B_ st r o).sl = st.sl := by
  cases r with
  | e b =>
    refine ⟨?_, by simp [B_], rfl⟩
    simp only [B_, idx, obAt]
    rw [List.set_append_left _ _ (hr b rfl)]
  | l i =>
    refine ⟨?_, rfl, rfl⟩
    simp only [B_, idx, obAt]
    rw [List.set_append_right _ _ (Nat.le_add_right _ _)]
    simp

/-- an object whose block is all its own is written -/
theorem Ext.setBlock {w w' : World} {ι : List K} {n : Nat} {H : Heap} (h : Sim w ι n H) {i : Nat} {k : K} {b : Nat} (hk : ι[i]? = some k) (hb : k = .blk b ∨ ∃ sz len, k = .rows b sz len)
    (hos : w'.os = w.os) (ht : w'.tape = w.tape) (ho : w'.output = w.output) (hs : w'.heap.size = w.heap.size) (hh : ∀ c, c ≠ b → w'.heap[c]? = w.heap[c]?) : Ext w ι w' ι where
  os := hos
  tape := ht
  output := ho
  size := by omega
  safe := fun c o hc => by
    have hne : c ≠ b := by
      rintro rfl
      refine hc.2 k (List.mem_of_getElem? hk) ?_
      rcases hb with rfl | ⟨sz, len, rfl⟩ <;> rfl
    exact ⟨⟨by have := hc.1; omega, hc.2⟩, cell_of_heap (hh c hne) o⟩
  block := fun c hc hn => by
    have hne : c ≠ b := by
      rintro rfl
      refine hn k (List.mem_of_getElem? hk) ?_
      rcases hb with rfl | ⟨sz, len, rfl⟩ <;> rfl
    exact ⟨hh c hne, hn⟩
  ev := fun j k' hj => ⟨k', hj, k'.ev_refl⟩

theorem Sim.setBlock {w w' : World} {ι : List K} {n : Nat} {H : Heap} (h : Sim w ι n H) {i : Nat} {k : K} {b : Nat} (hk : ι[i]? = some k) (hb : k = .blk b ∨ ∃ sz len, k = .rows b sz len)
    (hx : Ext w ι w' ι) (hs : w'.heap.size = w.heap.size) (hh : ∀ c, c ≠ b → w'.heap[c]? = w.heap[c]?) {o : Ob} (ho : RO w' ι n o k) : Sim w' ι n (H.set i o) where
  len := by simp [h.len]
  obj := fun j o' k' h1 h2 => by
    simp only [List.getElem?_set] at h1
    by_cases e : i = j
    · subst e
      simp only [↓reduceIte] at h1
      split at h1
      · cases h1; rw [hk] at h2; cases h2; exact ho
      · cases h1
    · simp only [e, ↓reduceIte] at h1
      refine (h.obj j o' k' h1 h2).of_blocks hx fun c hat => hh c ?_
      rintro rfl
      have : k.at c := by rcases hb with rfl | ⟨sz, len, rfl⟩ <;> rfl
      exact e (h.apart i j k k' c hk h2 this hat)
  apart := h.apart
  low := fun k' c hk' hat => by have := h.low k' c hk' hat; omega

theorem SimSt.setBlock {w w' : World} {ι : List K} {st : St} {a : Act} (h : SimSt w ι st a) {r : Ref} {k : K} {b : Nat} (hk : ι[idx st.ext.length r]? = some k) (hb : k = .blk b ∨ ∃ sz len, k = .rows b sz len)
    (hr : ∀ b, r = .e b → b < st.ext.length)
    (hos : w'.os = w.os) (ht : w'.tape = w.tape) (hout : w'.output = w.output) (hs : w'.heap.size = w.heap.size) (hh : ∀ c, c ≠ b → w'.heap[c]? = w.heap[c]?) {o : Ob}
    (ho : Ext w ι w' ι → RO w' ι st.ext.length o k) (hf : Obs.fits (B_ st r o).ext.length 0 (B_ st r o).ext) : SimSt w' ι (B_ st r o) a ∧ Ext w ι w' ι := by
  have hx := Ext.setBlock h.sim hk hb hos ht hout hs hh
  obtain ⟨e1, e2, e3⟩ := setOb_heap st r o hr
  refine ⟨⟨?_, by rw [e3]; exact h.size, ?_, hf, h.defers⟩, hx⟩
  · rw [e1, e2]
    refine h.sim.setBlock hk hb hx hs hh ?_
    cases r with
    | e b => exact RO_re.2 (ho hx)
    | l i => exact ho hx
  · rw [e2, e3]
    exact fun i x v h1 h2 => (h.slots i x v h1 h2).mono hx

/-- an owned slice's end moves on -/
theorem grow_ext {w w' : World} {ι : List K} {n : Nat} {H : Heap} (h : Sim w ι n H) {i : Nat} {p p' : Nat} {q q' : Option (Nat × Nat × Nat × Nat)} (hk : ι[i]? = some (.grow p q)) (hp : p < p' ∨ (p = p' ∧ q = q'))
    (hos : w'.os = w.os) (ht : w'.tape = w.tape) (ho : w'.output = w.output) (hs : w.heap.size ≤ w'.heap.size)
    (hcell : ∀ c o, Safe w ι c o → w'.cell? ⟨c, o, none⟩ = w.cell? ⟨c, o, none⟩)
    (howns : ∀ c o, c < w.heap.size → (K.grow p' q').owns c o → (K.grow p q).owns c o)
    (hblk : ∀ c, c < w.heap.size → ¬ (K.grow p q).at c → w'.heap[c]? = w.heap[c]? ∧ ¬ (K.grow p' q').at c) : Ext w ι w' (ι.set i (.grow p' q')) where
  os := hos
  tape := ht
  output := ho
  size := hs
  safe := fun c o hc => by
    refine ⟨⟨Nat.lt_of_lt_of_le hc.1 hs, fun k hk' ho => ?_⟩, hcell c o hc⟩
    obtain ⟨j, hj⟩ := List.mem_iff_getElem?.1 hk'
    simp only [List.getElem?_set] at hj
    by_cases e : i = j
    · subst e
      simp only [↓reduceIte] at hj
      split at hj
      · cases hj
        exact hc.2 _ (List.mem_of_getElem? hk) (howns c o hc.1 ho)
      · cases hj
    · simp only [e, ↓reduceIte] at hj
      exact hc.2 k (List.mem_of_getElem? hj) ho
  block := fun c hc hn => by
    have ⟨a1, a2⟩ := hblk c hc (hn _ (List.mem_of_getElem? hk))
    refine ⟨a1, fun k hk' hat => ?_⟩
    obtain ⟨j, hj⟩ := List.mem_iff_getElem?.1 hk'
    simp only [List.getElem?_set] at hj
    by_cases e : i = j
    · subst e
      simp only [↓reduceIte] at hj
      split at hj
      · cases hj; exact a2 hat
      · cases hj
    · simp only [e, ↓reduceIte] at hj
      exact hn k (List.mem_of_getElem? hj) hat
  ev := fun j k hj => by
    by_cases e : i = j
    · subst e
      rw [hk] at hj
      cases hj
      refine ⟨.grow p' q', by simp [(List.getElem?_eq_some_iff.1 hk).1], ⟨p', q', rfl, by omega, fun e => ?_⟩⟩
      rcases hp with hp | ⟨_, hp⟩
      · omega
      · exact hp
    · exact ⟨k, by simp [e, hj], k.ev_refl⟩

theorem grow_sim {w w' : World} {ι : List K} {n : Nat} {H : Heap} (h : Sim w ι n H) {i : Nat} {p p' sz : Nat} {q q' : Option (Nat × Nat × Nat × Nat)} (hk : ι[i]? = some (.grow p q))
    (hx : Ext w ι w' (ι.set i (.grow p' q')))
    (hblk : ∀ c, c < w.heap.size → ¬ (K.grow p q).at c → w'.heap[c]? = w.heap[c]?)
    (hnew : ∀ c, (K.grow p' q').at c → ((K.grow p q).at c ∨ w.heap.size ≤ c) ∧ c < w'.heap.size)
    (ho : RO w' (ι.set i (.grow p' q')) n (.grow p' sz) (.grow p' q')) : Sim w' (ι.set i (.grow p' q')) n (H.set i (.grow p' sz)) where
  len := by simp [h.len]
  obj := fun j o' k' h1 h2 => by
    simp only [List.getElem?_set] at h1 h2
    by_cases e : i = j
    · subst e
      simp only [↓reduceIte] at h1 h2
      split at h1
      · split at h2
        · cases h1; cases h2; exact ho
        · cases h2
      · cases h1
    · simp only [e, ↓reduceIte] at h1 h2
      refine (h.obj j o' k' h1 h2).of_blocks hx fun c hat => hblk c (h.low k' c (List.mem_of_getElem? h2) hat) fun hat' => e (h.apart i j _ k' c hk h2 hat' hat)
  apart := fun a b k1 k2 c h1 h2 o1 o2 => by
    simp only [List.getElem?_set] at h1 h2
    by_cases e1 : i = a <;> by_cases e2 : i = b
    · omega
    · subst e1
      simp only [↓reduceIte, e2] at h1 h2
      split at h1
      · cases h1
        rcases (hnew c o1).1 with h3 | h3
        · exact h.apart i b _ k2 c hk h2 h3 o2
        · have := h.low k2 c (List.mem_of_getElem? h2) o2; omega
      · cases h1
    · subst e2
      simp only [↓reduceIte, e1] at h1 h2
      split at h2
      · cases h2
        rcases (hnew c o2).1 with h3 | h3
        · exact h.apart a i k1 _ c h1 hk o1 h3
        · have := h.low k1 c (List.mem_of_getElem? h1) o1; omega
      · cases h2
    · simp only [↓reduceIte, e1, e2] at h1 h2
      exact h.apart a b k1 k2 c h1 h2 o1 o2
  low := fun k c hk' hat => by
    obtain ⟨j, hj⟩ := List.mem_iff_getElem?.1 hk'
    simp only [List.getElem?_set] at hj
    by_cases e : i = j
    · subst e
      simp only [↓reduceIte] at hj
      split at hj
      · cases hj; exact (hnew c hat).2
      · cases hj
    · simp only [e, ↓reduceIte] at hj
      exact Nat.lt_of_lt_of_le (h.low k c (List.mem_of_getElem? hj) hat) hx.size

end Go.AM
