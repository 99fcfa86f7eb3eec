/-
  Own objects are dropped or put in another order; functions that hand out objects of their own.
  Conditions: none.
-/
import Derived.Test.YtdjbahilmcokeaaDoorAbsI
namespace Go.AM
set_option linter.unusedVariables false
set_option linter.unusedSimpArgs false

def Ref.ren (ks : List Nat) : Ref → Ref
  | .e b => .e b
  | .l j => .l (ks.getD j 0)
def C.ren (ks : List Nat) : C → C
  | .ptr r off => .ptr (r.ren ks) off
  | .own r pos rows => .own (r.ren ks) pos rows
  | .fsl r len sz => .fsl (r.ren ks) len sz
  | .rel r i off => .rel (r.ren ks) i off
  | .map r => .map (r.ren ks)
  | .fn f caps => .fn f (caps.map fun x => (x.1.ren ks, x.2))
  | c => c
mutual
def A.ren (ks : List Nat) : A → A
  | .u => .u
  | .c x => .c (x.ren ks)
  | .agg cs => .agg (cs.map (C.ren ks))
  | .tup vs => .tup (A.rens ks vs)
  | .gd g x => .gd g (x.ren ks)
def A.rens (ks : List Nat) : List A → List A
  | [] => []
  | a :: l => a.ren ks :: A.rens ks l
end
def Ob.ren (ks : List Nat) : Ob → Ob
  | .cells cs => .cells (cs.map (C.ren ks))
  | o => o

/-- references lie where they belong: strictly -/
def Ref.lo (n m : Nat) : Ref → Prop
  | .e b => b < n
  | .l i => i < m
def C.lo (n m : Nat) : C → Prop
  | .ptr r _ => r.lo n m
  | .own r _ _ => r.lo n m
  | .fsl r _ _ => r.lo n m
  | .rel r _ _ => r.lo n m
  | .map r => r.lo n m
  | .fn _ caps => ∀ x ∈ caps, x.1.lo n m
  | _ => True
def Cs.lo (n m : Nat) : List C → Prop
  | [] => True
  | c :: l => c.lo n m ∧ Cs.lo n m l
mutual
def A.lo (n m : Nat) : A → Prop
  | .u => True
  | .c x => x.lo n m
  | .agg cs => Cs.lo n m cs
  | .tup vs => As.lo n m vs
  | .gd g x => x.lo n m
def As.lo (n m : Nat) : List A → Prop
  | [] => True
  | a :: l => a.lo n m ∧ As.lo n m l
end
def Ob.lo (n m : Nat) : Ob → Prop
  | .cells cs => Cs.lo n m cs
  | _ => True
def Obs.lo (n m : Nat) : List Ob → Prop
  | [] => True
  | o :: l => o.lo n m ∧ Obs.lo n m l

theorem rens_map (ks : List Nat) (as : List A) : A.rens ks as = as.map (A.ren ks) := by
  induction as with
  | nil => rfl
  | cons a l ih => simp only [A.rens, ih, List.map_cons]

section
variable {w : World} {ι ι' : List K} {n q : Nat} {ks : List Nat}

theorem Cs_lo_get {m : Nat} : ∀ {cs : List C} {i : Nat} {c : C}, Cs.lo n m cs → cs[i]? = some c → c.lo n m
  | c' :: l, 0, c, h, hi => by simp at hi; subst hi; exact h.1
  | c' :: l, i + 1, c, h, hi => Cs_lo_get h.2 (by simpa using hi)
theorem Obs_lo_get {m : Nat} : ∀ {H : Heap} {i : Nat} {o : Ob}, Obs.lo n m H → H[i]? = some o → o.lo n m
  | x :: l, 0, o, h, hi => by simp at hi; subst hi; exact h.1
  | x :: l, i + 1, o, h, hi => Obs_lo_get h.2 (by simpa using hi)

theorem RC_ren (hs : ∀ b o, Safe w ι b o → Safe w ι' b o ∧ w.cell? ⟨b, o, none⟩ = w.cell? ⟨b, o, none⟩) (hi : ∀ (r : Ref) k, r.lo n q → ι[idx n (r.ren ks)]? = some k → ι'[idx n r]? = some k)
    {c : C} {v : Value} (hf : c.lo n q) (h : RC w ι n (c.ren ks) v) : RC w ι' n c v := by
  cases c with
  | d x => cases h with | d h => exact .d (h.mono hs)
  | ptr r o => cases h with | ptr h => exact .ptr (hi _ _ hf h)
  | el row o => cases h with | el h => exact .el (h.mono hs)
  | own r p rows => cases h with | own h1 h2 => obtain ⟨a, b, h3, h4⟩ := h2; exact .own (h1.mono hs) ⟨a, b, hi _ _ hf h3, h4⟩
  | full rows => cases h with | full h => exact .full (h.mono hs)
  | fsl r l s => cases h with | fsl h h' => exact .fsl (hi _ _ hf h) h'
  | rel r i o => cases h with | rel h => exact .rel (hi _ _ hf h)
  | map r => cases h with | map h => exact .map (hi _ _ hf h)
  | fn f caps =>
    cases h with
    | fn h1 h2 =>
      refine .fn (by simpa using h1) fun i r o hio => ?_
      obtain ⟨b, h3, h4⟩ := h2 i (r.ren ks) o (by simp [hio])
      exact ⟨b, hi _ _ (hf (r, o) (List.mem_of_getElem? hio)) h3, h4⟩
  | u => cases h with | u h => exact .u h

theorem As_lo_get {m : Nat} : ∀ {l : List A} {i : Nat} {a : A}, As.lo n m l → l[i]? = some a → a.lo n m
  | x :: l, 0, a, h, hi => by simp at hi; subst hi; exact h.1
  | x :: l, i + 1, a, h, hi => As_lo_get h.2 (by simpa using hi)

theorem RA_ren (hs : ∀ b o, Safe w ι b o → Safe w ι' b o ∧ w.cell? ⟨b, o, none⟩ = w.cell? ⟨b, o, none⟩) (hi : ∀ (r : Ref) k, r.lo n q → ι[idx n (r.ren ks)]? = some k → ι'[idx n r]? = some k)
    {a' : A} {v : Value} (h : RA w ι n a' v) : ∀ a : A, a' = a.ren ks → a.lo n q → RA w ι' n a v := by
  induction h with
  | u => intro a e _; cases a <;> simp [A.ren] at e; exact .u
  | c h1 => intro a e hf; cases a <;> simp [A.ren] at e; subst e; exact .c (RC_ren hs hi hf h1)
  | agg h1 =>
    intro a e hf
    cases a <;> simp [A.ren] at e
    subst e
    refine .agg ⟨by simpa using h1.1, fun i c v hc hv => ?_⟩
    exact RC_ren hs hi (Cs_lo_get hf hc) (h1.2 i (c.ren ks) v (by simp [hc]) hv)
  | tup h1 h2 ih =>
    intro a e hf
    cases a <;> simp [A.ren] at e
    rename_i l
    subst e
    rw [rens_map] at h1 h2 ih
    refine .tup (by simpa using h1) fun i x y hx hy => ih i (x.ren ks) y (by simp [hx]) hy x rfl (As_lo_get hf hx)
  | gd h1 h2 ih =>
    intro a e hf
    cases a <;> simp [A.ren] at e
    obtain ⟨rfl, rfl⟩ := e
    exact .gd (fun g => ih g _ rfl hf) h2

theorem RO_ren (hs : ∀ b o, Safe w ι b o → Safe w ι' b o ∧ w.cell? ⟨b, o, none⟩ = w.cell? ⟨b, o, none⟩) (hi : ∀ (r : Ref) k, r.lo n q → ι[idx n (r.ren ks)]? = some k → ι'[idx n r]? = some k)
    {o : Ob} {k : K} (hf : o.lo n q) (h : RO w ι n (o.ren ks) k) : RO w ι' n o k := by
  match o, k, h with
  | .cells cs, .blk b, ⟨vs, el, h1, h2⟩ => exact ⟨vs, el, h1, by simpa using h2.1, fun i c v hc hv => RC_ren hs hi (Cs_lo_get hf hc) (h2.2 i (c.ren ks) v (by simp [hc]) hv)⟩
  | .rows rs, .rows b sz _, ⟨vs, el, h1, h2, h3, h4⟩ => exact ⟨vs, el, h1, h2, h3, fun i r hi => ⟨(h4 i r hi).1, fun j x hj => let ⟨y, p, q⟩ := (h4 i r hi).2 j x hj; ⟨y, p, q.mono hs⟩⟩⟩
  | .grow p s, .grow q none, h => exact h
  | .grow p s, .grow q (some _), h => exact h
  | .map m, .blk b, ⟨es, clock, h1, h2, h3, h4⟩ =>
    refine ⟨es, clock, h1, h2, h3, fun i k row e hi he => ?_⟩
    obtain ⟨a1, a2, a3⟩ := h4 i k row e hi he
    refine ⟨a1, a2, ?_⟩
    rcases a3 with ⟨x, v, p, q, r⟩ | ⟨vs, p, q, r⟩
    · exact .inl ⟨x, v, p, q, r.mono hs⟩
    · exact .inr ⟨vs, p, q, fun j x y a b => (r j x y a b).mono hs⟩
  | .tree v d, .tree B, h => exact h
  | .tab g o, .grow q (some _), h => exact h
  | .dead, k, _ => cases k <;> trivial

theorem ren_id {c : C} (hf : c.fits n 0) : c.ren ks = c := by
  have hr : ∀ r : Ref, r.fits n 0 → r.ren ks = r := fun r h => by
    cases r with
    | e b => rfl
    | l i => exact absurd h (Nat.not_lt_zero i)
  cases c with
  | ptr r o => simp only [C.ren, hr _ hf]
  | own r p rows => simp only [C.ren, hr _ hf]
  | fsl r l s => simp only [C.ren, hr _ hf]
  | rel r i o => simp only [C.ren, hr _ hf]
  | map r => simp only [C.ren, hr _ hf]
  | fn f caps =>
    simp only [C.ren, C.fn.injEq, true_and]
    conv => rhs; rw [← List.map_id caps]
    exact List.map_congr_left fun x hx => by simp [hr x.1 (hf x hx)]
  | _ => rfl

theorem lo_of_fits {m : Nat} {c : C} (hf : c.fits n 0) : c.lo n m := by
  have hr : ∀ r : Ref, r.fits n 0 → r.lo n m := fun r h => by
    cases r with
    | e b => exact h
    | l i => exact absurd h (Nat.not_lt_zero i)
  cases c with
  | ptr r o => exact hr _ hf
  | own r p rows => exact hr _ hf
  | fsl r l s => exact hr _ hf
  | rel r i o => exact hr _ hf
  | map r => exact hr _ hf
  | fn f caps => exact fun x hx => hr _ (hf x hx)
  | _ => trivial

theorem Ob_ren_id {o : Ob} (hf : o.fits n 0) : o.ren ks = o := by
  cases o with
  | cells cs =>
    simp only [Ob.ren, Ob.cells.injEq]
    conv => rhs; rw [← List.map_id cs]
    refine List.map_congr_left fun c hc => ?_
    obtain ⟨i, hi⟩ := List.mem_iff_getElem?.1 hc
    simpa using ren_id (ks := ks) (Cs_fits_get hf hi)
  | _ => rfl

theorem Cs_lo_of {m : Nat} : ∀ {cs : List C}, (∀ c ∈ cs, c.lo n m) → Cs.lo n m cs
  | [], _ => trivial
  | c :: l, h => ⟨h c (by simp), Cs_lo_of fun x hx => h x (by simp [hx])⟩

theorem Ob_lo_of_fits {m : Nat} {o : Ob} (hf : o.fits n 0) : o.lo n m := by
  cases o with
  | cells cs =>
    refine Cs_lo_of fun c hc => ?_
    obtain ⟨i, hi⟩ := List.mem_iff_getElem?.1 hc
    exact lo_of_fits (Cs_fits_get hf hi)
  | _ => trivial
end

/-- slots told by less -/
def SlR (ks : List Nat) : List A → List A → Prop
  | [], [] => True
  | a :: l, b :: r => A.le a (b.ren ks) ∧ SlR ks l r
  | _, _ => False

theorem SlR_get {ks : List Nat} : ∀ {l r : List A}, SlR ks l r → l.length = r.length ∧ ∀ (i : Nat) b, r[i]? = some b → ∃ a, l[i]? = some a ∧ A.le a (b.ren ks)
  | [], [], _ => ⟨rfl, fun i b h => by simp at h⟩
  | a :: l, b :: r, ⟨h1, h2⟩ => by
    obtain ⟨h3, h4⟩ := SlR_get h2
    refine ⟨by simp [h3], fun i c hc => ?_⟩
    match i with
    | 0 => simp at hc; subst hc; exact ⟨a, rfl, h1⟩
    | i + 1 => exact h4 i c (by simpa using hc)

/-- own objects are dropped or put in another order: ks tells where each object that is kept stood -/
theorem St.le_keep {sl sl' : List A} {ext loc loc' : Heap} (ks : List Nat) (hn : ks.Nodup) (hk : ∀ k ∈ ks, k < loc.length) (hl : loc'.length = ks.length) (hsl : SlR ks sl sl') (hfit : As.lo ext.length ks.length sl')
    (hob : ∀ (j : Nat) o, loc'[j]? = some o → ∃ o', loc[ks.getD j 0]? = some o' ∧ Ob.le o' (o.ren ks)) (hobf : Obs.lo ext.length ks.length loc') : St.le ⟨sl, ext, loc⟩ ⟨sl', ext, loc'⟩ := by
  obtain ⟨h1, h2⟩ := SlR_get hsl
  refine ⟨rfl, fun w ι a hs => ?_⟩
  have hlen : ι.length = ext.length + loc.length := by simpa using hs.sim.len
  let ι' : List K := ι.take ext.length ++ ks.map fun k => ι.getD (ext.length + k) .x
  have hι'l : ι'.length = ext.length + ks.length := by simp [ι', hlen]
  have hget : ∀ (j : Nat), j < ks.length → ι'[ext.length + j]? = ι[ext.length + ks.getD j 0]? := fun j hj => by
    have hj' : ks.getD j 0 < loc.length := hk _ (by rw [List.getD, List.getElem?_eq_getElem hj]; simp)
    simp only [ι']
    rw [List.getElem?_append_right (by simp [hlen])]
    simp only [List.length_take, hlen]
    rw [show ext.length + j - min ext.length (ext.length + loc.length) = j by omega, List.getElem?_map, List.getElem?_eq_getElem hj]
    simp only [List.getD, List.getElem?_eq_getElem hj, Option.getD_some, Option.map_some] at hj' ⊢
    rw [List.getElem?_eq_getElem (by omega)]
    rfl
  have hgete : ∀ (b : Nat), b < ext.length → ι'[b]? = ι[b]? := fun b hb => by
    simp only [ι']
    rw [List.getElem?_append_left (by simp [hlen]; omega), List.getElem?_take, if_pos hb]
  have hmem : ∀ k ∈ ι', k ∈ ι ∨ k = .x := fun k hk' => by
    simp only [ι', List.mem_append, List.mem_map] at hk'
    rcases hk' with h | ⟨j, hj, rfl⟩
    · exact .inl (List.mem_of_mem_take h)
    · have : ext.length + j < ι.length := by rw [hlen]; have := hk j hj; omega
      rw [List.getD, List.getElem?_eq_getElem this]
      exact .inl (List.getElem_mem this)
  have hsafe : ∀ b o, Safe w ι b o → Safe w ι' b o ∧ w.cell? ⟨b, o, none⟩ = w.cell? ⟨b, o, none⟩ := fun b o h => ⟨⟨h.1, fun k hk' => by
    rcases hmem k hk' with h' | rfl
    · exact h.2 k h'
    · exact fun h => h.elim⟩, rfl⟩
  have hi : ∀ (r : Ref) k, r.lo ext.length ks.length → ι[idx ext.length (r.ren ks)]? = some k → ι'[idx ext.length r]? = some k := fun r k hf h => by
    cases r with
    | e b =>
      simp only [idx, Ref.ren, Ref.lo] at h hf ⊢
      rw [hgete b hf]; exact h
    | l j =>
      simp only [idx, Ref.ren, Ref.lo] at h hf ⊢
      rw [hget j hf]; exact h
  have hold : ∀ (i : Nat) o, (ext ++ loc')[i]? = some o → ∃ i' o', (ext ++ loc)[i']? = some o' ∧ Ob.le o' (o.ren ks) ∧ o.lo ext.length ks.length ∧ ι'[i]? = ι[i']? ∧ i < ext.length + ks.length ∧ i' = (if i < ext.length then i else ext.length + ks.getD (i - ext.length) 0) := fun i o ho => by
    rcases Nat.lt_or_ge i ext.length with hlt | hge
    · rw [List.getElem?_append_left hlt] at ho
      have hfo := Obs_fits_get hs.fit ho
      exact ⟨i, o, by rw [List.getElem?_append_left hlt]; exact ho, by rw [Ob_ren_id hfo]; exact .refl o, Ob_lo_of_fits hfo, hgete i hlt, by omega, by rw [if_pos hlt]⟩
    · rw [List.getElem?_append_right hge] at ho
      have hjl : i - ext.length < ks.length := by rw [← hl]; exact (List.getElem?_eq_some_iff.1 ho).1
      obtain ⟨o', h3, h4⟩ := hob _ o ho
      have h5 := hget _ hjl
      rw [show ext.length + (i - ext.length) = i by omega] at h5
      refine ⟨_, o', ?_, h4, Obs_lo_get hobf ho, h5, by omega, by rw [if_neg (by omega)]⟩
      rw [List.getElem?_append_right (by omega), show ext.length + ks.getD (i - ext.length) 0 - ext.length = ks.getD (i - ext.length) 0 by omega]
      exact h3
  have hinj : ∀ i j, i < ext.length + ks.length → j < ext.length + ks.length → (if i < ext.length then i else ext.length + ks.getD (i - ext.length) 0) = (if j < ext.length then j else ext.length + ks.getD (j - ext.length) 0) → i = j := fun i j hi hj h => by
    split at h <;> split at h
    · exact h
    · omega
    · omega
    · have h6 : ks.getD (i - ext.length) 0 = ks.getD (j - ext.length) 0 := by omega
      simp only [List.getD, List.getElem?_eq_getElem (show i - ext.length < ks.length by omega), List.getElem?_eq_getElem (show j - ext.length < ks.length by omega), Option.getD_some] at h6
      have := (List.getElem_inj hn).1 h6
      omega
  have hback : ∀ (i : Nat) k, ι'[i]? = some k → ∃ i', ι[i']? = some k ∧ i < ext.length + ks.length ∧ i' = (if i < ext.length then i else ext.length + ks.getD (i - ext.length) 0) := fun i k hik => by
    have hil : i < ext.length + ks.length := by rw [← hι'l]; exact (List.getElem?_eq_some_iff.1 hik).1
    rcases Nat.lt_or_ge i ext.length with hlt | hge
    · exact ⟨i, by rw [← hgete i hlt]; exact hik, hil, by rw [if_pos hlt]⟩
    · have h5 := hget (i - ext.length) (by omega)
      rw [show ext.length + (i - ext.length) = i by omega] at h5
      exact ⟨_, by rw [← h5]; exact hik, hil, by rw [if_neg (by omega)]⟩
  refine ⟨ι', ⟨⟨?_, ?_, ?_, ?_⟩, ?_, ?_, hs.fit, hs.defers⟩, ?_⟩
  · rw [hι'l]; simp [hl]
  · intro i o k ho hik
    obtain ⟨i', o', h3, h4, h5, h6, _, _⟩ := hold i o ho
    rw [h6] at hik
    have h7 := hs.sim.obj i' o' k h3 hik
    refine RO_ren hsafe hi h5 ?_
    generalize o.ren ks = o2 at h4 ⊢
    cases h4 with
    | refl => exact h7
    | dead => unfold RO; split <;> trivial
  · intro i j k k' b hik hjk hb hb'
    obtain ⟨i', h3, h4, h5⟩ := hback i k hik
    obtain ⟨j', h6, h7, h8⟩ := hback j k' hjk
    have := hs.sim.apart i' j' k k' b h3 h6 hb hb'
    exact hinj i j h4 h7 (by rw [← h5, ← h8]; exact this)
  · intro k b hk' hb
    rcases hmem k hk' with h' | rfl
    · exact hs.sim.low k b h' hb
    · exact hb.elim
  · rw [hs.size]; exact h1
  · intro i x v hix hiv
    obtain ⟨y, h3, h4⟩ := h2 i x hix
    exact RA_ren hsafe hi (A.le_RA h4 (hs.slots i y v h3 hiv)) x rfl (As_lo_get hfit hix)
  · intro w₀ ι₀ hl₀ hx
    refine ⟨hx.os, hx.tape, hx.output, hx.size, fun b o hso => ?_, fun b hb hk' => ?_, fun i k hik => ?_⟩
    · obtain ⟨p, q⟩ := hx.safe b o hso
      exact ⟨(hsafe b o p).1, q⟩
    · obtain ⟨p, q⟩ := hx.block b hb hk'
      refine ⟨p, fun k hk2 => ?_⟩
      rcases hmem k hk2 with h' | rfl
      · exact q k h'
      · exact fun h => h.elim
    · obtain ⟨k', p, q⟩ := hx.ev i k hik
      have hlt : i < ext.length := by have := (List.getElem?_eq_some_iff.1 hik).1; simp only at hl₀; omega
      exact ⟨k', by rw [hgete i hlt]; exact p, q⟩

theorem A.le_ren_refl {ks : List Nat} {a b : A} (h : a = b.ren ks) : A.le a (b.ren ks) := by rw [h]; exact .refl _

theorem Ref.ren_range {n k : Nat} {r : Ref} (h : r.lo n k) : r.ren (List.range k) = r := by
  cases r with
  | e b => rfl
  | l i => simp only [Ref.lo] at h; simp [Ref.ren, List.getD, List.getElem?_range h]
theorem C.ren_range {n k : Nat} {c : C} (h : c.lo n k) : c.ren (List.range k) = c := by
  cases c with
  | ptr r o => simp only [C.ren, Ref.ren_range h]
  | own r p rows => simp only [C.ren, Ref.ren_range h]
  | fsl r l s => simp only [C.ren, Ref.ren_range h]
  | rel r i o => simp only [C.ren, Ref.ren_range h]
  | map r => simp only [C.ren, Ref.ren_range h]
  | fn f caps =>
    simp only [C.ren, C.fn.injEq, true_and]
    conv => rhs; rw [← List.map_id caps]
    exact List.map_congr_left fun x hx => by simp [Ref.ren_range (h x hx)]
  | _ => rfl
theorem Cs.ren_range {n k : Nat} : ∀ {cs : List C}, Cs.lo n k cs → cs.map (C.ren (List.range k)) = cs
  | [], _ => rfl
  | c :: l, h => by simp only [List.map_cons, C.ren_range h.1, Cs.ren_range h.2]
mutual
theorem A.ren_range {n k : Nat} : ∀ {a : A}, a.lo n k → a.ren (List.range k) = a
  | .u, _ => rfl
  | .c x, h => by simp only [A.ren, C.ren_range (c := x) h]
  | .agg cs, h => by simp only [A.ren, Cs.ren_range (cs := cs) h]
  | .tup vs, h => by simp only [A.ren, As.ren_range (l := vs) h]
  | .gd g x, h => by simp only [A.ren, A.ren_range (a := x) h]
theorem As.ren_range {n k : Nat} : ∀ {l : List A}, As.lo n k l → A.rens (List.range k) l = l
  | [], _ => rfl
  | a :: l, h => by simp only [A.rens, A.ren_range (a := a) h.1, As.ren_range (l := l) h.2]
end
theorem Ob.ren_range {n k : Nat} {o : Ob} (h : o.lo n k) : o.ren (List.range k) = o := by
  cases o with
  | cells cs => simp only [Ob.ren, Cs.ren_range (cs := cs) h]
  | _ => rfl

theorem SlR_of {n k : Nat} : ∀ {sl sl' : List A}, Sl.le sl sl' → As.lo n k sl' → SlR (List.range k) sl sl'
  | [], [], _, _ => trivial
  | a :: l, b :: r, h, hlo => ⟨by rw [A.ren_range hlo.1]; exact h.1, SlR_of h.2 hlo.2⟩

/-- the objects behind the first ones are dropped -/
theorem St.le_cut {sl sl' : List A} {ext loc loc' : Heap} (x : Heap) (h : Sl.le sl sl') (hlo : As.lo ext.length loc'.length sl') (hloc : loc = loc' ++ x) (hob : Obs.lo ext.length loc'.length loc') : St.le ⟨sl, ext, loc⟩ ⟨sl', ext, loc'⟩ := by
  subst hloc
  refine St.le_keep (List.range loc'.length) List.nodup_range (fun k hk => by simp at hk ⊢; omega) (by simp) (SlR_of h hlo) (by simpa using hlo) (fun j o ho => ?_) (by simpa using hob)
  have hj : j < loc'.length := (List.getElem?_eq_some_iff.1 ho).1
  refine ⟨o, ?_, by rw [Ob.ren_range (Obs_lo_get hob ho)]; exact .refl o⟩
  simp only [List.getD, List.getElem?_range hj, Option.getD_some]
  rw [List.getElem?_append_left hj]; exact ho

theorem A.le_refl_iff {a : A} : A.le a a ↔ True := iff_true_intro (.refl a)
theorem A.le_int {k : IntKind} {a b : Int} (h : a = b) : A.le (.c (.d (.int k a))) (.c (.d (.int k b))) := by rw [h]; exact .refl _
theorem A.le_u_iff {a : A} : A.le a .u ↔ True := iff_true_intro (.u a)

theorem fits_reset {n m : Nat} : ∀ {H : Heap} {i : Nat} {a b : Ob}, Obs.fits n m (H.set i a) → b.fits n m → Obs.fits n m (H.set i b)
  | [], _, _, _, _, _ => trivial
  | o :: l, 0, a, b, h, hb => ⟨hb, h.2⟩
  | o :: l, i + 1, a, b, h, hb => ⟨h.1, fits_reset (H := l) (i := i) (a := a) h.2 hb⟩
theorem fits_append {n m : Nat} : ∀ {H H' : Heap}, Obs.fits n m H → Obs.fits n m H' → Obs.fits n m (H ++ H')
  | [], _, _, h => h
  | o :: l, _, h, h' => ⟨h.1, fits_append (H := l) h.2 h'⟩

theorem allLen_nil_iff {n : Nat} : allLen n [] ↔ True := iff_true_intro fun r h => by cases h
theorem allLen_cons_iff {n : Nat} {r : List D} {l : List (List D)} : allLen n (r :: l) ↔ r.length = n ∧ allLen n l := by simp [allLen]
theorem allLen_append_iff {n : Nat} {l l' : List (List D)} : allLen n (l ++ l') ↔ allLen n l ∧ allLen n l' := by
  simp only [allLen, List.mem_append]
  exact ⟨fun h => ⟨fun r hr => h r (.inl hr), fun r hr => h r (.inr hr)⟩, fun ⟨h1, h2⟩ r hr => hr.elim (h1 r) (h2 r)⟩
theorem allLen_map {α : Type} {n : Nat} {f : α → List D} {l : List α} (h : ∀ x, (f x).length = n) : allLen n (l.map f) := fun r hr => by
  obtain ⟨x, _, rfl⟩ := List.mem_map.1 hr
  exact h x

theorem row_off {rows : List (List D)} {i : Int} {sz : Nat} {K : A → St → Prop} {st : St} (row : List D) (hk : K (.c (.el row 0)) st) : RowK false rows i sz K st :=
  ⟨fun h => (by cases h), row, fun h => (by cases h), hk⟩

/-- a nil slice is taken as an owned one with nothing in it -/
theorem St.le_token {sl : List A} {ext loc : Heap} (i sz : Nat) (h : sl[i]? = some (.c (.full []))) : St.le ⟨sl, ext, loc⟩ ⟨sl.set i (.c (.own (.l loc.length) 0 [])), ext, loc ++ [.grow 0 sz]⟩ := by
  refine ⟨rfl, fun w ι a hs => ⟨ι ++ [.grow 0 none], ?_, fun w₀ ι₀ _ hx => hx.trans ((Ext.refl w ι).push (k := .grow 0 none) (fun b hb => hb.elim))⟩⟩
  have hx : Ext w ι w (ι ++ [.grow 0 none]) := (Ext.refl w ι).push (fun b hb => hb.elim)
  have h1 := hs.push (k := .grow 0 none) (o := .grow 0 sz) (Ext.refl w ι) (fun _ _ => rfl) (fun b hb => hb.elim) rfl
  refine ⟨h1.sim, by rw [hs.size]; simp, fun j x v hj hv => ?_, h1.fit, h1.defers⟩
  simp only [List.getElem?_set] at hj
  split at hj
  · rename_i hij
    subst hij
    split at hj
    · cases hj
      have := hs.slots i _ v h hv
      cases this with
      | c hc =>
        cases hc with
        | @full _ ad len hd =>
          have hlen : len = 0 := by
            rcases RD.sl_iff.1 hd with ⟨_, h, _⟩ | ⟨_, _, _, _, h, _⟩
            · exact h
            · simpa using h
          subst hlen
          refine .c (.own (.nil _) ⟨0, none, hs.newIdx _, Nat.le_refl _, fun _ => by cases ad <;> simp [Cur]⟩)
    · cases hj
  · exact (hs.slots j x v hj hv).mono hx

/-- a loop is entered with less -/
theorem loop_enter {P : Program} {F : Ex → St → Prop} {fs : List Fr} {c : Cd} {st st' : St} (h : St.le st st') (h' : aw P (.loop c) (kq P F fs) st') : aw P (.loop c) (kq P F fs) st := by
  obtain ⟨I, m, s, h1, h2, h3⟩ := h'
  exact ⟨I, m, s, St.le_trans h h1, h2, h3⟩

/-- a loop that is entered with less -/
theorem loop_le {P : Program} {F : Ex → St → Prop} {fs : List Fr} {c : Cd} {st : St} {sl : List A} {σ : Type} (upd : σ → List (Nat × A)) (E L : σ → Heap) (Inv : σ → Prop) (μ : σ → Nat) (x₀ : σ)
    (h0 : St.le st ⟨setAll sl (upd x₀), E x₀, L x₀⟩) (hi : Inv x₀)
    (hstep : ∀ x, Inv x → aw P c (kq P F (.loop (LI (fun x => ⟨setAll sl (upd x), E x, L x⟩) Inv μ) (μ x) :: fs)) ⟨setAll sl (upd x), E x, L x⟩) : aw P (.loop c) (kq P F fs) st :=
  ⟨LI (fun x => ⟨setAll sl (upd x), E x, L x⟩) Inv μ, μ x₀, _, h0, ⟨x₀, rfl, hi, rfl⟩, fun s m ⟨x, h1, h2, h3⟩ => by subst h1; subst h3; exact hstep x h2⟩

/-! ### functions that hand out own objects -/

def resRawOne (st : St) : Rv → Option A
  | .tmp t => some (st.sl.getD t .u).val
  | .cell t n => match (st.sl.getD t .u).val with
    | .c p => loadC st n p
    | _ => none
def resRaws (st : St) : List Rv → Option (List A)
  | [] => some []
  | r :: l => match resRawOne st r, resRaws st l with
    | some a, some as => some (a :: as)
    | _, _ => none
def resRaw (st : St) (rs : List Rv) : Option A :=
  match resRaws st rs with
  | some [a] => some a
  | some as => some (.tup as)
  | none => none

/-- the end of a function: the own objects that are left are handed out -/
def FinK (rs : List Rv) (Q : A → Heap → Prop) : Ex → St → Prop
  | .exit _, _ => False
  | _, st => ∃ st', St.le st st' ∧ resOks st' rs ∧ ∃ r, resRaw st' rs = some r ∧ Q (r.re st'.ext.length) (st'.ext ++ st'.loc.map (Ob.re st'.ext.length))

theorem finK_ret {rs : List Rv} {Q : A → Heap → Prop} {st : St} (r : A) (hok : resOks st rs) (hr : resRaw st rs = some r) (hq : Q (r.re st.ext.length) (st.ext ++ st.loc.map (Ob.re st.ext.length))) : FinK rs Q .ret st :=
  ⟨st, St.le_refl _, hok, r, hr, hq⟩

theorem resRawOne_ra {P : Program} {w : World} {ι : List K} {st : St} {a : Act} (hs : SimSt w ι st a) {rv : ResultVar} {r : Rv} {x : A} (hc : cRv P rv = some r) (hok : resOk st r) (hr : resRawOne st r = some x) :
    ∃ v, (oneRv a.tmps rv).run P w = .ok v w ∧ RA w ι st.ext.length x v := by
  cases rv with
  | tmp t =>
    simp only [cRv, Option.some.injEq] at hc
    subst hc
    simp only [resRawOne, Option.some.injEq] at hr
    subst hr
    exact ⟨_, rfl, (hs.eval t).val hok⟩
  | cell b t =>
    simp only [cRv, Option.map_eq_some_iff] at hc
    obtain ⟨n, h1, rfl⟩ := hc
    simp only [resRawOne] at hr
    split at hr
    · rename_i p hp
      have hv := (hs.eval b).val hok
      rw [hp] at hv
      obtain ⟨ad, z, h3, h4, h5⟩ := load_ra (P := P) h1 hs hv.c_inv hr
      have h3' : a.tmps.getD b undef = .pointer (some ad) := h3
      exact ⟨z, by simp [oneRv, h3', asAddr, h4], h5⟩
    · cases hr

theorem resRaws_ra {P : Program} {w : World} {ι : List K} {st : St} {a : Act} (hs : SimSt w ι st a) : ∀ {l : List ResultVar} {rs : List Rv} {xs : List A}, cRvs P l = some rs → resOks st rs → resRaws st rs = some xs →
    ∃ vs : List Value, (l.mapM (oneRv a.tmps)).run P w = .ok vs w ∧ vs.length = xs.length ∧
      ∀ (i : Nat) x v, xs[i]? = some x → vs[i]? = some v → RA w ι st.ext.length x v
  | [], rs, xs, hc, _, hr => by
    simp [cRvs] at hc
    subst hc
    simp [resRaws] at hr
    subst hr
    exact ⟨[], by simp, rfl, fun i x v h => by simp at h⟩
  | rv :: l, rs, xs, hc, hok, hr => by
    simp only [cRvs] at hc
    split at hc
    · rename_i r rs' h1 h2
      cases hc
      simp only [resOks] at hok
      simp only [resRaws] at hr
      split at hr
      · rename_i x xs' h3 h4
        cases hr
        obtain ⟨v, h5, h6⟩ := resRawOne_ra (P := P) hs h1 hok.1 h3
        obtain ⟨vs, h7, h8, h9⟩ := resRaws_ra hs h2 hok.2 h4
        refine ⟨v :: vs, ?_, by simp [h8], fun i y u hy hu => ?_⟩
        · simp only [List.mapM_cons, Sem.run_bind, h5, Result.andThen_ok, h7, Sem.run_pure]
        · cases i with
          | zero => simp at hy hu; subst hy; subst hu; exact h6
          | succ i => simp at hy hu; exact h9 i y u hy hu
      · cases hr
    · cases hc

/-- what is shown of the machine holds of the call: a function that hands out own objects -/
theorem acallsK {P : Program} {f : FuncId} {fn : Func} {d : Cd} {rs : List Rv} {n : Nat} {args : List A} {H : Heap} {Q : A → Heap → Prop} {toks : List FuncId} {kl : List (Nat × List Nat × List Nat)}
    (hf : P.funcs[f]? = some fn) (hname : nameOk fn = true) (hc : cFunc P toks kl fn = some (d, rs, n))
    (h : Obs.fits H.length 0 H → aw P d (kq P (FinK rs Q) []) ⟨args ++ List.replicate (n - args.length) .u, H, []⟩) : ACalls P f args H Q := by
  unfold cFunc at hc
  split at hc
  · rename_i c hb
    split at hc
    · rename_i d' rs' h1 h2
      cases hc
      refine acalls_of_run toks kl hf hb (by simpa [nameOk] using hname) h1 (FQ := FinK rs Q) (fun i st h => h.elim) (fun e w ι w' ι' st a' he hq hs hx hn hsim => ?_) h
      have hq' : ∃ st', St.le st st' ∧ resOks st' rs ∧ ∃ r, resRaw st' rs = some r ∧ Q (r.re st'.ext.length) (st'.ext ++ st'.loc.map (Ob.re st'.ext.length)) := by
        rcases he with rfl | rfl
        · exact hq
        · exact hq
      obtain ⟨st', hle, hok, r, hr, hQ⟩ := hq'
      obtain ⟨ι2, hs2, hx2⟩ := hle.2 w' ι' a' hs
      have hx3 := hx2 w ι (by rw [hsim.len, hn]; exact Nat.le_refl _) hx
      refine ⟨hs2.defers, ?_⟩
      have hmap : ∀ vs : List Value, (fn.results.toList.mapM (oneRv a'.tmps)).run P w' = .ok vs w' →
          (results fn a'.tmps).run P w' = .ok (if h : vs.toArray.size = 1 then vs.toArray[0] else .tuple vs.toArray) w' := fun vs hvs => by
        rw [results_eq, Sem.run_bind, Array.mapM_eq_mapM_toList, Sem.run_map, hvs]
        rfl
      have hsim2 := hs2.sim.out hs2.fit (st'.ext ++ st'.loc.map (Ob.re st'.ext.length)).length
      have hlen : H.length ≤ (st'.ext ++ st'.loc.map (Ob.re st'.ext.length)).length := by
        have := hle.1
        simp; omega
      unfold resRaw at hr
      split at hr
      · rename_i x hx1
        cases hr
        obtain ⟨vs, h3, h4, h5⟩ := resRaws_ra (P := P) hs2 h2 hok hx1
        obtain ⟨v, rfl⟩ := List.length_eq_one_iff.1 h4
        exact ⟨v, by simpa using hmap _ h3, _, _, ι2, v, rfl, hQ, hsim2, RA_re_of (h5 0 r v rfl rfl), hx3, hlen⟩
      · rename_i xs hne hx1
        cases hr
        obtain ⟨vs, h3, h4, h5⟩ := resRaws_ra (P := P) hs2 h2 hok hx1
        have hn1 : ¬ vs.toArray.size = 1 := by
          intro e
          simp [h4] at e
          obtain ⟨y, rfl⟩ := List.length_eq_one_iff.1 e
          exact hne y rfl
        exact ⟨.tuple vs.toArray, by rw [hmap _ h3, dif_neg hn1], _, _, ι2, _, rfl, hQ, hsim2, RA_re_of (.tup h4 h5), hx3, hlen⟩
      · cases hr
    · cases hc
  · cases hc

end Go.AM
