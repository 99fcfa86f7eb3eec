/-
  The abstract machine: several parts of it in one text.
  Conditions: none.
-/
import Derived.Test.YtcapnainldlnjaaGreatAbsI
import Derived.Test.YtcapnainldlnjaaGreatAbsH
import Derived.Lib.LaidTab
import Derived.Sort.Grow
import Derived.Deep.Draws
/-
  Own objects are dropped or put in another order; functions that hand out objects of their own.
  Conditions: none.
-/
namespace Go.AM
set_option linter.unusedVariables false
set_option linter.unusedSimpArgs false

def Ref.ren (ks : List Nat) : Ref → Ref
  | .e b => .e b
  | .l j => .l (ks.getD j 0)
def C.ren (ks : List Nat) : C → C
  | .ptr r off => .ptr (r.ren ks) off
  | .own r pos rows => .own (r.ren ks) pos rows
  | .fsl r len sz => .fsl (r.ren ks) len sz
  | .psl r lo m sz => .psl (r.ren ks) lo m sz
  | .csl r m sz => .csl (r.ren ks) m sz
  | .rel r i off => .rel (r.ren ks) i off
  | .map r => .map (r.ren ks)
  | .fn f caps => .fn f (caps.map fun x => (x.1.ren ks, x.2))
  | c => c
mutual
def A.ren (ks : List Nat) : A → A
  | .u => .u
  | .c x => .c (x.ren ks)
  | .agg cs => .agg (cs.map (C.ren ks))
  | .tup vs => .tup (A.rens ks vs)
  | .gd g x => .gd g (x.ren ks)
def A.rens (ks : List Nat) : List A → List A
  | [] => []
  | a :: l => a.ren ks :: A.rens ks l
end
def Ob.ren (ks : List Nat) : Ob → Ob
  | .cells cs => .cells (cs.map (C.ren ks))
  | o => o

/-- references lie where they belong: strictly -/
def Ref.lo (n m : Nat) : Ref → Prop
  | .e b => b < n
  | .l i => i < m
def C.lo (n m : Nat) : C → Prop
  | .ptr r _ => r.lo n m
  | .own r _ _ => r.lo n m
  | .fsl r _ _ => r.lo n m
  | .psl r _ _ _ => r.lo n m
  | .csl r _ _ => r.lo n m
  | .rel r _ _ => r.lo n m
  | .map r => r.lo n m
  | .fn _ caps => ∀ x ∈ caps, x.1.lo n m
  | _ => True
def Cs.lo (n m : Nat) : List C → Prop
  | [] => True
  | c :: l => c.lo n m ∧ Cs.lo n m l
mutual
def A.lo (n m : Nat) : A → Prop
  | .u => True
  | .c x => x.lo n m
  | .agg cs => Cs.lo n m cs
  | .tup vs => As.lo n m vs
  | .gd g x => x.lo n m
def As.lo (n m : Nat) : List A → Prop
  | [] => True
  | a :: l => a.lo n m ∧ As.lo n m l
end
def Ob.lo (n m : Nat) : Ob → Prop
  | .cells cs => Cs.lo n m cs
  | _ => True
def Obs.lo (n m : Nat) : List Ob → Prop
  | [] => True
  | o :: l => o.lo n m ∧ Obs.lo n m l

theorem rens_map (ks : List Nat) (as : List A) : A.rens ks as = as.map (A.ren ks) := by
  induction as with
  | nil => rfl
  | cons a l ih => simp only [A.rens, ih, List.map_cons]

section
variable {w : World} {ι ι' : List K} {n q : Nat} {ks : List Nat}

theorem Cs_lo_get {m : Nat} : ∀ {cs : List C} {i : Nat} {c : C}, Cs.lo n m cs → cs[i]? = some c → c.lo n m
  | c' :: l, 0, c, h, hi => by simp at hi; subst hi; exact h.1
  | c' :: l, i + 1, c, h, hi => Cs_lo_get h.2 (by simpa using hi)
theorem Obs_lo_get {m : Nat} : ∀ {H : Heap} {i : Nat} {o : Ob}, Obs.lo n m H → H[i]? = some o → o.lo n m
  | x :: l, 0, o, h, hi => by simp at hi; subst hi; exact h.1
  | x :: l, i + 1, o, h, hi => Obs_lo_get h.2 (by simpa using hi)

theorem RC_ren (hs : ∀ b o, Safe w ι b o → Safe w ι' b o ∧ w.cell? ⟨b, o, none⟩ = w.cell? ⟨b, o, none⟩) (hi : ∀ (r : Ref) k, r.lo n q → ι[idx n (r.ren ks)]? = some k → ι'[idx n r]? = some k)
    {c : C} {v : Value} (hf : c.lo n q) (h : RC w ι n (c.ren ks) v) : RC w ι' n c v := by
  cases c with
  | d x => cases h with | d h => exact .d (h.mono hs)
  | ptr r o => cases h with | ptr h => exact .ptr (hi _ _ hf h)
  | el row o => cases h with | el h => exact .el (h.mono hs)
  | own r p rows => cases h with | own h1 h2 => obtain ⟨a, b, h3, h4⟩ := h2; exact .own (h1.mono hs) ⟨a, b, hi _ _ hf h3, h4⟩
  | full rows => cases h with | full h => exact .full (h.mono hs)
  | fsl r l s => cases h with | fsl h h' => exact .fsl (hi _ _ hf h) h'
  | psl r l m s => cases h with | psl h h1 h2 h3 => exact .psl (hi _ _ hf h) h1 h2 h3
  | csl r m s => cases h with | csl h h1 h2 h3 => exact .csl (hi _ _ hf h) h1 h2 h3
  | rel r i o => cases h with | rel h => exact .rel (hi _ _ hf h)
  | map r => cases h with | map h => exact .map (hi _ _ hf h)
  | fn f caps =>
    cases h with
    | fn h1 h2 =>
      refine .fn (by simpa using h1) fun i r o hio => ?_
      obtain ⟨b, h3, h4⟩ := h2 i (r.ren ks) o (by simp [hio])
      exact ⟨b, hi _ _ (hf (r, o) (List.mem_of_getElem? hio)) h3, h4⟩
  | u => cases h with | u h => exact .u h

theorem As_lo_get {m : Nat} : ∀ {l : List A} {i : Nat} {a : A}, As.lo n m l → l[i]? = some a → a.lo n m
  | x :: l, 0, a, h, hi => by simp at hi; subst hi; exact h.1
  | x :: l, i + 1, a, h, hi => As_lo_get h.2 (by simpa using hi)

theorem RA_ren (hs : ∀ b o, Safe w ι b o → Safe w ι' b o ∧ w.cell? ⟨b, o, none⟩ = w.cell? ⟨b, o, none⟩) (hi : ∀ (r : Ref) k, r.lo n q → ι[idx n (r.ren ks)]? = some k → ι'[idx n r]? = some k)
    {a' : A} {v : Value} (h : RA w ι n a' v) : ∀ a : A, a' = a.ren ks → a.lo n q → RA w ι' n a v := by
  induction h with
  | u => intro a e _; cases a <;> simp [A.ren] at e; exact .u
  | c h1 => intro a e hf; cases a <;> simp [A.ren] at e; subst e; exact .c (RC_ren hs hi hf h1)
  | agg h1 =>
    intro a e hf
    cases a <;> simp [A.ren] at e
    subst e
    refine .agg ⟨by simpa using h1.1, fun i c v hc hv => ?_⟩
    exact RC_ren hs hi (Cs_lo_get hf hc) (h1.2 i (c.ren ks) v (by simp [hc]) hv)
  | tup h1 h2 ih =>
    intro a e hf
    cases a <;> simp [A.ren] at e
    rename_i l
    subst e
    rw [rens_map] at h1 h2 ih
    refine .tup (by simpa using h1) fun i x y hx hy => ih i (x.ren ks) y (by simp [hx]) hy x rfl (As_lo_get hf hx)
  | gd h1 h2 ih =>
    intro a e hf
    cases a <;> simp [A.ren] at e
    obtain ⟨rfl, rfl⟩ := e
    exact .gd (fun g => ih g _ rfl hf) h2

theorem RO_ren (hs : ∀ b o, Safe w ι b o → Safe w ι' b o ∧ w.cell? ⟨b, o, none⟩ = w.cell? ⟨b, o, none⟩) (hi : ∀ (r : Ref) k, r.lo n q → ι[idx n (r.ren ks)]? = some k → ι'[idx n r]? = some k)
    {o : Ob} {k : K} (hf : o.lo n q) (h : RO w ι n (o.ren ks) k) : RO w ι' n o k := by
  match o, k, h with
  | .cells cs, .blk b, ⟨vs, el, h1, h2⟩ => exact ⟨vs, el, h1, by simpa using h2.1, fun i c v hc hv => RC_ren hs hi (Cs_lo_get hf hc) (h2.2 i (c.ren ks) v (by simp [hc]) hv)⟩
  | .rows rs, .rows b sz _, ⟨vs, el, h1, h2, h3, h4⟩ => exact ⟨vs, el, h1, h2, h3, fun i r hi => ⟨(h4 i r hi).1, fun j x hj => let ⟨y, p, q⟩ := (h4 i r hi).2 j x hj; ⟨y, p, q.mono hs⟩⟩⟩
  | .grow p s, .grow q none, h => exact h
  | .grow p s, .grow q (some _), h => exact h
  | .map m, .blk b, ⟨es, clock, h1, h2, h3, h4⟩ =>
    refine ⟨es, clock, h1, h2, h3, fun i k row e hi he => ?_⟩
    obtain ⟨a1, a2, a3⟩ := h4 i k row e hi he
    refine ⟨a1, a2, ?_⟩
    rcases a3 with ⟨x, v, p, q, r⟩ | ⟨vs, p, q, r⟩
    · exact .inl ⟨x, v, p, q, r.mono hs⟩
    · exact .inr ⟨vs, p, q, fun j x y a b => (r j x y a b).mono hs⟩
  | .tree v d, .tree B, h => exact h
  | .tab g o, .grow q (some _), h => exact h
  | .dead, k, _ => cases k <;> trivial

theorem ren_id {c : C} (hf : c.fits n 0) : c.ren ks = c := by
  have hr : ∀ r : Ref, r.fits n 0 → r.ren ks = r := fun r h => by
    cases r with
    | e b => rfl
    | l i => exact absurd h (Nat.not_lt_zero i)
  cases c with
  | ptr r o => simp only [C.ren, hr _ hf]
  | own r p rows => simp only [C.ren, hr _ hf]
  | fsl r l s => simp only [C.ren, hr _ hf]
  | psl r l m s => simp only [C.ren, hr _ hf]
  | csl r m s => simp only [C.ren, hr _ hf]
  | rel r i o => simp only [C.ren, hr _ hf]
  | map r => simp only [C.ren, hr _ hf]
  | fn f caps =>
    simp only [C.ren, C.fn.injEq, true_and]
    conv => rhs; rw [← List.map_id caps]
    exact List.map_congr_left fun x hx => by simp [hr x.1 (hf x hx)]
  | _ => rfl

theorem lo_of_fits {m : Nat} {c : C} (hf : c.fits n 0) : c.lo n m := by
  have hr : ∀ r : Ref, r.fits n 0 → r.lo n m := fun r h => by
    cases r with
    | e b => exact h
    | l i => exact absurd h (Nat.not_lt_zero i)
  cases c with
  | ptr r o => exact hr _ hf
  | own r p rows => exact hr _ hf
  | fsl r l s => exact hr _ hf
  | psl r l m s => exact hr _ hf
  | csl r m s => exact hr _ hf
  | rel r i o => exact hr _ hf
  | map r => exact hr _ hf
  | fn f caps => exact fun x hx => hr _ (hf x hx)
  | _ => trivial

theorem Ob_ren_id {o : Ob} (hf : o.fits n 0) : o.ren ks = o := by
  cases o with
  | cells cs =>
    simp only [Ob.ren, Ob.cells.injEq]
    conv => rhs; rw [← List.map_id cs]
    refine List.map_congr_left fun c hc => ?_
    obtain ⟨i, hi⟩ := List.mem_iff_getElem?.1 hc
    simpa using ren_id (ks := ks) (Cs_fits_get hf hi)
  | _ => rfl

theorem Cs_lo_of {m : Nat} : ∀ {cs : List C}, (∀ c ∈ cs, c.lo n m) → Cs.lo n m cs
  | [], _ => trivial
  | c :: l, h => ⟨h c (by simp), Cs_lo_of fun x hx => h x (by simp [hx])⟩

theorem Ob_lo_of_fits {m : Nat} {o : Ob} (hf : o.fits n 0) : o.lo n m := by
  cases o with
  | cells cs =>
    refine Cs_lo_of fun c hc => ?_
    obtain ⟨i, hi⟩ := List.mem_iff_getElem?.1 hc
    exact lo_of_fits (Cs_fits_get hf hi)
  | _ => trivial
end

/-- slots told by less -/
def SlR (ks : List Nat) : List A → List A → Prop
  | [], [] => True
  | a :: l, b :: r => A.le a (b.ren ks) ∧ SlR ks l r
  | _, _ => False

theorem SlR_get {ks : List Nat} : ∀ {l r : List A}, SlR ks l r → l.length = r.length ∧ ∀ (i : Nat) b, r[i]? = some b → ∃ a, l[i]? = some a ∧ A.le a (b.ren ks)
  | [], [], _ => ⟨rfl, fun i b h => by simp at h⟩
  | a :: l, b :: r, ⟨h1, h2⟩ => by
    obtain ⟨h3, h4⟩ := SlR_get h2
    refine ⟨by simp [h3], fun i c hc => ?_⟩
    match i with
    | 0 => simp at hc; subst hc; exact ⟨a, rfl, h1⟩
    | i + 1 => exact h4 i c (by simpa using hc)

/-- own objects are dropped or put in another order: ks tells where each object that is kept stood -/
theorem St.le_keep {sl sl' : List A} {ext loc loc' : Heap} (ks : List Nat) (hn : ks.Nodup) (hk : ∀ k ∈ ks, k < loc.length) (hl : loc'.length = ks.length) (hsl : SlR ks sl sl') (hfit : As.lo ext.length ks.length sl')
    (hob : ∀ (j : Nat) o, loc'[j]? = some o → ∃ o', loc[ks.getD j 0]? = some o' ∧ Ob.le o' (o.ren ks)) (hobf : Obs.lo ext.length ks.length loc') : St.le ⟨sl, ext, loc⟩ ⟨sl', ext, loc'⟩ := by
  obtain ⟨h1, h2⟩ := SlR_get hsl
  refine ⟨rfl, fun w ι a hs => ?_⟩
  have hlen : ι.length = ext.length + loc.length := by simpa using hs.sim.len
  let ι' : List K := ι.take ext.length ++ ks.map fun k => ι.getD (ext.length + k) .x
  have hι'l : ι'.length = ext.length + ks.length := by simp [ι', hlen]
  have hget : ∀ (j : Nat), j < ks.length → ι'[ext.length + j]? = ι[ext.length + ks.getD j 0]? := fun j hj => by
    have hj' : ks.getD j 0 < loc.length := hk _ (by rw [List.getD, List.getElem?_eq_getElem hj]; simp)
    simp only [ι']
    rw [List.getElem?_append_right (by simp [hlen])]
    simp only [List.length_take, hlen]
    rw [show ext.length + j - min ext.length (ext.length + loc.length) = j by omega, List.getElem?_map, List.getElem?_eq_getElem hj]
    simp only [List.getD, List.getElem?_eq_getElem hj, Option.getD_some, Option.map_some] at hj' ⊢
    rw [List.getElem?_eq_getElem (by omega)]
    rfl
  have hgete : ∀ (b : Nat), b < ext.length → ι'[b]? = ι[b]? := fun b hb => by
    simp only [ι']
    rw [List.getElem?_append_left (by simp [hlen]; omega), List.getElem?_take, if_pos hb]
  have hmem : ∀ k ∈ ι', k ∈ ι ∨ k = .x := fun k hk' => by
    simp only [ι', List.mem_append, List.mem_map] at hk'
    rcases hk' with h | ⟨j, hj, rfl⟩
    · exact .inl (List.mem_of_mem_take h)
    · have : ext.length + j < ι.length := by rw [hlen]; have := hk j hj; omega
      rw [List.getD, List.getElem?_eq_getElem this]
      exact .inl (List.getElem_mem this)
  have hsafe : ∀ b o, Safe w ι b o → Safe w ι' b o ∧ w.cell? ⟨b, o, none⟩ = w.cell? ⟨b, o, none⟩ := fun b o h => ⟨⟨h.1, fun k hk' => by
    rcases hmem k hk' with h' | rfl
    · exact h.2 k h'
    · exact fun h => h.elim⟩, rfl⟩
  have hi : ∀ (r : Ref) k, r.lo ext.length ks.length → ι[idx ext.length (r.ren ks)]? = some k → ι'[idx ext.length r]? = some k := fun r k hf h => by
    cases r with
    | e b =>
      simp only [idx, Ref.ren, Ref.lo] at h hf ⊢
      rw [hgete b hf]; exact h
    | l j =>
      simp only [idx, Ref.ren, Ref.lo] at h hf ⊢
      rw [hget j hf]; exact h
  have hold : ∀ (i : Nat) o, (ext ++ loc')[i]? = some o → ∃ i' o', (ext ++ loc)[i']? = some o' ∧ Ob.le o' (o.ren ks) ∧ o.lo ext.length ks.length ∧ ι'[i]? = ι[i']? ∧ i < ext.length + ks.length ∧ i' = (if i < ext.length then i else ext.length + ks.getD (i - ext.length) 0) := fun i o ho => by
    rcases Nat.lt_or_ge i ext.length with hlt | hge
    · rw [List.getElem?_append_left hlt] at ho
      have hfo := Obs_fits_get hs.fit ho
      exact ⟨i, o, by rw [List.getElem?_append_left hlt]; exact ho, by rw [Ob_ren_id hfo]; exact .refl o, Ob_lo_of_fits hfo, hgete i hlt, by omega, by rw [if_pos hlt]⟩
    · rw [List.getElem?_append_right hge] at ho
      have hjl : i - ext.length < ks.length := by rw [← hl]; exact (List.getElem?_eq_some_iff.1 ho).1
      obtain ⟨o', h3, h4⟩ := hob _ o ho
      have h5 := hget _ hjl
      rw [show ext.length + (i - ext.length) = i by omega] at h5
      refine ⟨_, o', ?_, h4, Obs_lo_get hobf ho, h5, by omega, by rw [if_neg (by omega)]⟩
      rw [List.getElem?_append_right (by omega), show ext.length + ks.getD (i - ext.length) 0 - ext.length = ks.getD (i - ext.length) 0 by omega]
      exact h3
  have hinj : ∀ i j, i < ext.length + ks.length → j < ext.length + ks.length → (if i < ext.length then i else ext.length + ks.getD (i - ext.length) 0) = (if j < ext.length then j else ext.length + ks.getD (j - ext.length) 0) → i = j := fun i j hi hj h => by
    split at h <;> split at h
    · exact h
    · omega
    · omega
    · have h6 : ks.getD (i - ext.length) 0 = ks.getD (j - ext.length) 0 := by omega
      simp only [List.getD, List.getElem?_eq_getElem (show i - ext.length < ks.length by omega), List.getElem?_eq_getElem (show j - ext.length < ks.length by omega), Option.getD_some] at h6
      have := (List.getElem_inj hn).1 h6
      omega
  have hback : ∀ (i : Nat) k, ι'[i]? = some k → ∃ i', ι[i']? = some k ∧ i < ext.length + ks.length ∧ i' = (if i < ext.length then i else ext.length + ks.getD (i - ext.length) 0) := fun i k hik => by
    have hil : i < ext.length + ks.length := by rw [← hι'l]; exact (List.getElem?_eq_some_iff.1 hik).1
    rcases Nat.lt_or_ge i ext.length with hlt | hge
    · exact ⟨i, by rw [← hgete i hlt]; exact hik, hil, by rw [if_pos hlt]⟩
    · have h5 := hget (i - ext.length) (by omega)
      rw [show ext.length + (i - ext.length) = i by omega] at h5
      exact ⟨_, by rw [← h5]; exact hik, hil, by rw [if_neg (by omega)]⟩
  refine ⟨ι', ⟨⟨?_, ?_, ?_, ?_⟩, ?_, ?_, hs.fit, hs.defers⟩, ?_⟩
  · rw [hι'l]; simp [hl]
  · intro i o k ho hik
    obtain ⟨i', o', h3, h4, h5, h6, _, _⟩ := hold i o ho
    rw [h6] at hik
    have h7 := hs.sim.obj i' o' k h3 hik
    refine RO_ren hsafe hi h5 ?_
    generalize o.ren ks = o2 at h4 ⊢
    exact Ob.le_RO h4 h7
  · intro i j k k' b hik hjk hb hb'
    obtain ⟨i', h3, h4, h5⟩ := hback i k hik
    obtain ⟨j', h6, h7, h8⟩ := hback j k' hjk
    have := hs.sim.apart i' j' k k' b h3 h6 hb hb'
    exact hinj i j h4 h7 (by rw [← h5, ← h8]; exact this)
  · intro k b hk' hb
    rcases hmem k hk' with h' | rfl
    · exact hs.sim.low k b h' hb
    · exact hb.elim
  · rw [hs.size]; exact h1
  · intro i x v hix hiv
    obtain ⟨y, h3, h4⟩ := h2 i x hix
    exact RA_ren hsafe hi (A.le_RA h4 (hs.slots i y v h3 hiv)) x rfl (As_lo_get hfit hix)
  · intro w₀ ι₀ hl₀ hx
    refine ⟨hx.os, hx.tape, hx.output, hx.size, fun b o hso => ?_, fun b hb hk' => ?_, fun i k hik => ?_⟩
    · obtain ⟨p, q⟩ := hx.safe b o hso
      exact ⟨(hsafe b o p).1, q⟩
    · obtain ⟨p, q⟩ := hx.block b hb hk'
      refine ⟨p, fun k hk2 => ?_⟩
      rcases hmem k hk2 with h' | rfl
      · exact q k h'
      · exact fun h => h.elim
    · obtain ⟨k', p, q⟩ := hx.ev i k hik
      have hlt : i < ext.length := by have := (List.getElem?_eq_some_iff.1 hik).1; simp only at hl₀; omega
      exact ⟨k', by rw [hgete i hlt]; exact p, q⟩

theorem Ref.ren_range {n k : Nat} {r : Ref} (h : r.lo n k) : r.ren (List.range k) = r := by
  cases r with
  | e b => rfl
  | l i => simp only [Ref.lo] at h; simp [Ref.ren, List.getD, List.getElem?_range h]
theorem C.ren_range {n k : Nat} {c : C} (h : c.lo n k) : c.ren (List.range k) = c := by
  cases c with
  | ptr r o => simp only [C.ren, Ref.ren_range h]
  | own r p rows => simp only [C.ren, Ref.ren_range h]
  | fsl r l s => simp only [C.ren, Ref.ren_range h]
  | psl r l m s => simp only [C.ren, Ref.ren_range h]
  | csl r m s => simp only [C.ren, Ref.ren_range h]
  | rel r i o => simp only [C.ren, Ref.ren_range h]
  | map r => simp only [C.ren, Ref.ren_range h]
  | fn f caps =>
    simp only [C.ren, C.fn.injEq, true_and]
    conv => rhs; rw [← List.map_id caps]
    exact List.map_congr_left fun x hx => by simp [Ref.ren_range (h x hx)]
  | _ => rfl
theorem Cs.ren_range {n k : Nat} : ∀ {cs : List C}, Cs.lo n k cs → cs.map (C.ren (List.range k)) = cs
  | [], _ => rfl
  | c :: l, h => by simp only [List.map_cons, C.ren_range h.1, Cs.ren_range h.2]
mutual
theorem A.ren_range {n k : Nat} : ∀ {a : A}, a.lo n k → a.ren (List.range k) = a
  | .u, _ => rfl
  | .c x, h => by simp only [A.ren, C.ren_range (c := x) h]
  | .agg cs, h => by simp only [A.ren, Cs.ren_range (cs := cs) h]
  | .tup vs, h => by simp only [A.ren, As.ren_range (l := vs) h]
  | .gd g x, h => by simp only [A.ren, A.ren_range (a := x) h]
theorem As.ren_range {n k : Nat} : ∀ {l : List A}, As.lo n k l → A.rens (List.range k) l = l
  | [], _ => rfl
  | a :: l, h => by simp only [A.rens, A.ren_range (a := a) h.1, As.ren_range (l := l) h.2]
end
theorem Ob.ren_range {n k : Nat} {o : Ob} (h : o.lo n k) : o.ren (List.range k) = o := by
  cases o with
  | cells cs => simp only [Ob.ren, Cs.ren_range (cs := cs) h]
  | _ => rfl

theorem SlR_of {n k : Nat} : ∀ {sl sl' : List A}, Sl.le sl sl' → As.lo n k sl' → SlR (List.range k) sl sl'
  | [], [], _, _ => trivial
  | a :: l, b :: r, h, hlo => ⟨by rw [A.ren_range hlo.1]; exact h.1, SlR_of h.2 hlo.2⟩

/-- the objects behind the first ones are dropped -/
theorem St.le_cut {sl sl' : List A} {ext loc loc' : Heap} (x : Heap) (h : Sl.le sl sl') (hlo : As.lo ext.length loc'.length sl') (hloc : loc = loc' ++ x) (hob : Obs.lo ext.length loc'.length loc') : St.le ⟨sl, ext, loc⟩ ⟨sl', ext, loc'⟩ := by
  subst hloc
  refine St.le_keep (List.range loc'.length) List.nodup_range (fun k hk => by simp at hk ⊢; omega) (by simp) (SlR_of h hlo) (by simpa using hlo) (fun j o ho => ?_) (by simpa using hob)
  have hj : j < loc'.length := (List.getElem?_eq_some_iff.1 ho).1
  refine ⟨o, ?_, by rw [Ob.ren_range (Obs_lo_get hob ho)]; exact .refl o⟩
  simp only [List.getD, List.getElem?_range hj, Option.getD_some]
  rw [List.getElem?_append_left hj]; exact ho

theorem A.le_refl_iff {a : A} : A.le a a ↔ True := iff_true_intro (.refl a)
theorem A.le_u_iff {a : A} : A.le a .u ↔ True := iff_true_intro (.u a)

theorem fits_reset {n m : Nat} : ∀ {H : Heap} {i : Nat} {a b : Ob}, Obs.fits n m (H.set i a) → b.fits n m → Obs.fits n m (H.set i b)
  | [], _, _, _, _, _ => trivial
  | o :: l, 0, a, b, h, hb => ⟨hb, h.2⟩
  | o :: l, i + 1, a, b, h, hb => ⟨h.1, fits_reset (H := l) (i := i) (a := a) h.2 hb⟩
theorem fits_append {n m : Nat} : ∀ {H H' : Heap}, Obs.fits n m H → Obs.fits n m H' → Obs.fits n m (H ++ H')
  | [], _, _, h => h
  | o :: l, _, h, h' => ⟨h.1, fits_append (H := l) h.2 h'⟩

theorem allLen_nil_iff {n : Nat} : allLen n [] ↔ True := iff_true_intro fun r h => by cases h
theorem allLen_cons_iff {n : Nat} {r : List D} {l : List (List D)} : allLen n (r :: l) ↔ r.length = n ∧ allLen n l := by simp [allLen]
theorem allLen_append_iff {n : Nat} {l l' : List (List D)} : allLen n (l ++ l') ↔ allLen n l ∧ allLen n l' := by
  simp only [allLen, List.mem_append]
  exact ⟨fun h => ⟨fun r hr => h r (.inl hr), fun r hr => h r (.inr hr)⟩, fun ⟨h1, h2⟩ r hr => hr.elim (h1 r) (h2 r)⟩
theorem allLen_map {α : Type} {n : Nat} {f : α → List D} {l : List α} (h : ∀ x, (f x).length = n) : allLen n (l.map f) := fun r hr => by
  obtain ⟨x, _, rfl⟩ := List.mem_map.1 hr
  exact h x

theorem row_off {rows : List (List D)} {i : Int} {sz : Nat} {K : A → St → Prop} {st : St} (row : List D) (hk : K (.c (.el row 0)) st) : RowK false rows i sz K st :=
  ⟨fun h => (by cases h), row, fun h => (by cases h), hk⟩

/-- a nil slice is taken as an owned one with nothing in it -/
theorem St.le_token {sl : List A} {ext loc : Heap} (i sz : Nat) (h : sl[i]? = some (.c (.full []))) : St.le ⟨sl, ext, loc⟩ ⟨sl.set i (.c (.own (.l loc.length) 0 [])), ext, loc ++ [.grow 0 sz]⟩ := by
  refine ⟨rfl, fun w ι a hs => ⟨ι ++ [.grow 0 none], ?_, fun w₀ ι₀ _ hx => hx.trans ((Ext.refl w ι).push (k := .grow 0 none) (fun b hb => hb.elim))⟩⟩
  have hx : Ext w ι w (ι ++ [.grow 0 none]) := (Ext.refl w ι).push (fun b hb => hb.elim)
  have h1 := hs.push (k := .grow 0 none) (o := .grow 0 sz) (Ext.refl w ι) (fun _ _ => rfl) (fun b hb => hb.elim) rfl
  refine ⟨h1.sim, by rw [hs.size]; simp, fun j x v hj hv => ?_, h1.fit, h1.defers⟩
  simp only [List.getElem?_set] at hj
  split at hj
  · rename_i hij
    subst hij
    split at hj
    · cases hj
      have := hs.slots i _ v h hv
      cases this with
      | c hc =>
        cases hc with
        | @full _ ad len hd =>
          have hlen : len = 0 := by
            rcases RD.sl_iff.1 hd with ⟨_, h, _⟩ | ⟨_, _, _, _, h, _⟩
            · exact h
            · simpa using h
          subst hlen
          refine .c (.own (.nil _) ⟨0, none, hs.newIdx _, Nat.le_refl _, fun _ => by cases ad <;> simp [Cur]⟩)
    · cases hj
  · exact (hs.slots j x v hj hv).mono hx

/-- a loop is entered with less -/
theorem loop_enter {P : Program} {F : Ex → St → Prop} {fs : List Fr} {c : Cd} {st st' : St} (h : St.le st st') (h' : aw P (.loop c) (kq P F fs) st') : aw P (.loop c) (kq P F fs) st := by
  obtain ⟨I, m, s, h1, h2, h3⟩ := h'
  exact ⟨I, m, s, St.le_trans h h1, h2, h3⟩

/-- a loop that is entered with less -/
theorem loop_le {P : Program} {F : Ex → St → Prop} {fs : List Fr} {c : Cd} {st : St} {sl : List A} {σ : Type} (upd : σ → List (Nat × A)) (E L : σ → Heap) (Inv : σ → Prop) (μ : σ → Nat) (x₀ : σ)
    (h0 : St.le st ⟨setAll sl (upd x₀), E x₀, L x₀⟩) (hi : Inv x₀)
    (hstep : ∀ x, Inv x → aw P c (kq P F (.loop (LI (fun x => ⟨setAll sl (upd x), E x, L x⟩) Inv μ) (μ x) :: fs)) ⟨setAll sl (upd x), E x, L x⟩) : aw P (.loop c) (kq P F fs) st :=
  ⟨LI (fun x => ⟨setAll sl (upd x), E x, L x⟩) Inv μ, μ x₀, _, h0, ⟨x₀, rfl, hi, rfl⟩, fun s m ⟨x, h1, h2, h3⟩ => by subst h1; subst h3; exact hstep x h2⟩

/-! ### functions that hand out own objects -/

def resRawOne (st : St) : Rv → Option A
  | .tmp t => some (st.sl.getD t .u).val
  | .cell t n => match (st.sl.getD t .u).val with
    | .c p => y_ st n p
    | _ => none
def resRaws (st : St) : List Rv → Option (List A)
  | [] => some []
  | r :: l => match resRawOne st r, resRaws st l with
    | some a, some as => some (a :: as)
    | _, _ => none
def resRaw (st : St) (rs : List Rv) : Option A :=
  match resRaws st rs with
  | some [a] => some a
  | some as => some (.tup as)
  | none => none

/-- the end of a function: the own objects that are left are handed out -/
def FinK (rs : List Rv) (Q : A → Heap → Prop) : Ex → St → Prop
  | .exit _, _ => False
  | _, st => ∃ st', St.le st st' ∧ r_ st' rs ∧ ∃ r, resRaw st' rs = some r ∧ Q (r.re st'.ext.length) (st'.ext ++ st'.loc.map (Ob.re st'.ext.length))

theorem finK_ret {rs : List Rv} {Q : A → Heap → Prop} {st : St} (r : A) (hok : r_ st rs) (hr : resRaw st rs = some r) (hq : Q (r.re st.ext.length) (st.ext ++ st.loc.map (Ob.re st.ext.length))) : FinK rs Q .ret st :=
  ⟨st, St.le_refl _, hok, r, hr, hq⟩

theorem resRawOne_ra {P : Program} {w : World} {ι : List K} {st : St} {a : Act} (hs : SimSt w ι st a) {rv : ResultVar} {r : Rv} {x : A} (hc : cRv P rv = some r) (hok : s_ st r) (hr : resRawOne st r = some x) :
    ∃ v, (oneRv a.tmps rv).run P w = .ok v w ∧ RA w ι st.ext.length x v := by
  cases rv with
  | tmp t =>
    simp only [cRv, Option.some.injEq] at hc
    subst hc
    simp only [resRawOne, Option.some.injEq] at hr
    subst hr
    exact ⟨_, rfl, (hs.eval t).val hok⟩
  | cell b t =>
    simp only [cRv, Option.map_eq_some_iff] at hc
    obtain ⟨n, h1, rfl⟩ := hc
    simp only [resRawOne] at hr
    split at hr
    · rename_i p hp
      have hv := (hs.eval b).val hok
      rw [hp] at hv
      obtain ⟨ad, z, h3, h4, h5⟩ := load_ra (P := P) h1 hs hv.c_inv hr
      have h3' : a.tmps.getD b undef = .pointer (some ad) := h3
      exact ⟨z, by simp [oneRv, h3', asAddr, h4], h5⟩
    · cases hr

theorem resRaws_ra {P : Program} {w : World} {ι : List K} {st : St} {a : Act} (hs : SimSt w ι st a) : ∀ {l : List ResultVar} {rs : List Rv} {xs : List A}, cRvs P l = some rs → r_ st rs → resRaws st rs = some xs →
    ∃ vs : List Value, (l.mapM (oneRv a.tmps)).run P w = .ok vs w ∧ vs.length = xs.length ∧
      ∀ (i : Nat) x v, xs[i]? = some x → vs[i]? = some v → RA w ι st.ext.length x v
  | [], rs, xs, hc, _, hr => by
    simp [cRvs] at hc
    subst hc
    simp [resRaws] at hr
    subst hr
    exact ⟨[], by simp, rfl, fun i x v h => by simp at h⟩
  | rv :: l, rs, xs, hc, hok, hr => by
    simp only [cRvs] at hc
    split at hc
    · rename_i r rs' h1 h2
      cases hc
      simp only [r_] at hok
      simp only [resRaws] at hr
      split at hr
      · rename_i x xs' h3 h4
        cases hr
        obtain ⟨v, h5, h6⟩ := resRawOne_ra (P := P) hs h1 hok.1 h3
        obtain ⟨vs, h7, h8, h9⟩ := resRaws_ra hs h2 hok.2 h4
        refine ⟨v :: vs, ?_, by simp [h8], fun i y u hy hu => ?_⟩
        · simp only [List.mapM_cons, Sem.run_bind, h5, Result.andThen_ok, h7, Sem.run_pure]
        · cases i with
          | zero => simp at hy hu; subst hy; subst hu; exact h6
          | succ i => simp at hy hu; exact h9 i y u hy hu
      · cases hr
    · cases hc

/-- what is shown of the machine holds of the call: a function that hands out own objects -/
theorem acallsK {P : Program} {f : FuncId} {fn : Func} {d : Cd} {rs : List Rv} {n : Nat} {args : List A} {H : Heap} {Q : A → Heap → Prop} {toks : List FuncId} {kl : List (Nat × List Nat × List Nat)}
    (hf : P.funcs[f]? = some fn) (hname : nameOk fn = true) (hc : cFunc P toks kl fn = some (d, rs, n))
    (h : Obs.fits H.length 0 H → aw P d (kq P (FinK rs Q) []) ⟨args ++ List.replicate (n - args.length) .u, H, []⟩) : ACalls P f args H Q := by
  unfold cFunc at hc
  split at hc
  · rename_i c hb
    split at hc
    · rename_i d' rs' h1 h2
      cases hc
      refine acalls_of_run toks kl hf hb (by simpa [nameOk] using hname) h1 (FQ := FinK rs Q) (fun i st h => h.elim) (fun e w ι w' ι' st a' he hq hs hx hn hsim => ?_) h
      have hq' : ∃ st', St.le st st' ∧ r_ st' rs ∧ ∃ r, resRaw st' rs = some r ∧ Q (r.re st'.ext.length) (st'.ext ++ st'.loc.map (Ob.re st'.ext.length)) := by
        rcases he with rfl | rfl
        · exact hq
        · exact hq
      obtain ⟨st', hle, hok, r, hr, hQ⟩ := hq'
      obtain ⟨ι2, hs2, hx2⟩ := hle.2 w' ι' a' hs
      have hx3 := hx2 w ι (by rw [hsim.len, hn]; exact Nat.le_refl _) hx
      refine ⟨hs2.defers, ?_⟩
      have hmap : ∀ vs : List Value, (fn.results.toList.mapM (oneRv a'.tmps)).run P w' = .ok vs w' →
          (results fn a'.tmps).run P w' = .ok (if h : vs.toArray.size = 1 then vs.toArray[0] else .tuple vs.toArray) w' := fun vs hvs => by
        rw [results_eq, Sem.run_bind, Array.mapM_eq_mapM_toList, Sem.run_map, hvs]
        rfl
      have hsim2 := hs2.sim.out hs2.fit (st'.ext ++ st'.loc.map (Ob.re st'.ext.length)).length
      have hlen : H.length ≤ (st'.ext ++ st'.loc.map (Ob.re st'.ext.length)).length := by
        have := hle.1
        simp; omega
      unfold resRaw at hr
      split at hr
      · rename_i x hx1
        cases hr
        obtain ⟨vs, h3, h4, h5⟩ := resRaws_ra (P := P) hs2 h2 hok hx1
        obtain ⟨v, rfl⟩ := List.length_eq_one_iff.1 h4
        exact ⟨v, by simpa using hmap _ h3, _, _, ι2, v, rfl, hQ, hsim2, RA_re_of (h5 0 r v rfl rfl), hx3, hlen⟩
      · rename_i xs hne hx1
        cases hr
        obtain ⟨vs, h3, h4, h5⟩ := resRaws_ra (P := P) hs2 h2 hok hx1
        have hn1 : ¬ vs.toArray.size = 1 := by
          intro e
          simp [h4] at e
          obtain ⟨y, rfl⟩ := List.length_eq_one_iff.1 e
          exact hne y rfl
        exact ⟨.tuple vs.toArray, by rw [hmap _ h3, dif_neg hn1], _, _, ι2, _, rfl, hQ, hsim2, RA_re_of (.tup h4 h5), hx3, hlen⟩
      · cases hr
    · cases hc
  · cases hc

end Go.AM

/-
  Slots of long lists are looked up and set eight at a time; data cells in rows.
  Conditions: none.
-/
namespace Go.AM
set_option linter.unusedVariables false
set_option linter.unusedSimpArgs false

section
variable {P : Program} {F : Ex → St → Prop} {fs : List Fr} {st : St}
theorem b_ {kill dst op rest g w} : awOps P (kq P F fs .normal) kill (⟨dst, op, some (g, w)⟩ :: rest) st =
    match f_ w (Opd.ev st.sl (.t g)) with
      | none => False
      | some G =>
        if op.total then c_ P st G (nx P F ⟨dst, some G, rest, kill, fs⟩) op
        else
          (G = true → c_ P ⟨st.sl.set g (p_ w (Opd.ev st.sl (.t g))), st.ext, st.loc⟩ true (nx P F ⟨dst, none, rest, kill, fs⟩) op) ∧
          (G = false → nx P F ⟨dst, none, rest, kill, fs⟩ .u ⟨st.sl.set g (p_ (!w) (Opd.ev st.sl (.t g))), st.ext, st.loc⟩) := rfl
end

theorem pure_d : C.pure ∘ C.d = C.d := rfl
theorem re_d {n : Nat} : C.re n ∘ C.d = C.d := rfl
theorem thaw_d {st : St} : C.thaw st ∘ C.d = C.d := rfl
theorem toDs_map {row : List D} : O_ (row.map C.d) = some row := by
  induction row with
  | nil => rfl
  | cons x l ih => simp [O_, C.toD, ih]
theorem fits_map {n m : Nat} {row : List D} : Cs.fits n m (row.map C.d) ↔ True := by
  induction row with
  | nil => exact Iff.rfl
  | cons x l ih => simp [Cs.fits, C.fits, ih]
theorem callArgs_ptrs {n : Nat} {caps : List (Nat × Nat)} : w_ false n (ptrsOf (caps.map fun x => (Ref.e x.1, x.2))) = caps.map fun x => A.c (.ptr (.e x.1) x.2) := by
  induction caps with
  | nil => rfl
  | cons x l ih =>
    simp only [ptrsOf, List.map_cons, List.map_map] at ih ⊢
    simp only [w_, ih]
    rfl
theorem byte_off {s : List UInt8} {i : Int} {K : A → St → Prop} {st : St} (b : UInt8) (hk : K (.c (.d (.int .u8 b.toNat))) st) : ByteK false s i K st := ⟨b, fun h => (by cases h), hk⟩

/-- references lie where they belong whenever a function is called -/
theorem acalls_fits {P : Program} {f : FuncId} {fn : Func} {args : List A} {H : Heap} {Q : A → Heap → Prop} (hf : P.funcs[f]? = some fn) (hb : fn.body.isSome = true) (hname : nameOk fn = true) (h : Obs.fits H.length 0 H → ACalls P f args H Q) : ACalls P f args H Q :=
  ⟨⟨fn, hf, hb, by simpa [nameOk] using hname⟩, fun w ι cargs hsim => (h (sim_fits hsim)).2 w ι cargs hsim⟩

theorem Ref.fits_mono {n n' m : Nat} (h : n ≤ n') {r : Ref} (hr : r.fits n m) : r.fits n' m := by
  cases r with
  | e b => simp only [Ref.fits] at hr ⊢; omega
  | l i => exact hr
theorem C.fits_mono {n n' m : Nat} (h : n ≤ n') {c : C} (hc : c.fits n m) : c.fits n' m := by
  cases c with
  | ptr r o => exact Ref.fits_mono h hc
  | own r p rows => exact Ref.fits_mono h hc
  | fsl r l s => exact Ref.fits_mono h hc
  | psl r l m s => exact Ref.fits_mono h hc
  | csl r m s => exact Ref.fits_mono h hc
  | rel r i o => exact Ref.fits_mono h hc
  | map r => exact Ref.fits_mono h hc
  | fn f caps => exact fun x hx => Ref.fits_mono h (hc x hx)
  | _ => trivial
theorem Cs.fits_mono {n n' m : Nat} (h : n ≤ n') : ∀ {cs : List C}, Cs.fits n m cs → Cs.fits n' m cs
  | [], _ => trivial
  | c :: l, hc => ⟨C.fits_mono h hc.1, Cs.fits_mono h hc.2⟩
theorem fits_mono {n n' m : Nat} (h : n ≤ n') : ∀ {H : Heap}, Obs.fits n m H → Obs.fits n' m H
  | [], _ => trivial
  | o :: l, ho => ⟨(by
      cases o with
      | cells cs => exact Cs.fits_mono h ho.1
      | _ => trivial), fits_mono h ho.2⟩

/-- the first of a list that a step takes, the steps' states handed on -/
def anyS {α σ : Type} (step : σ → α → Bool × σ) : List α → σ → Bool × σ
  | [], s => (false, s)
  | t :: l, s => if (step s t).1 = true then (true, (step s t).2) else anyS step l (step s t).2
theorem anyS_const {α : Type} (p : α → Bool) : ∀ (l : List α), anyS (fun (_ : Unit) t => (p t, ())) l () = (l.any p, ())
  | [] => rfl
  | t :: l => by
    simp only [anyS, List.any_cons]
    cases h : p t with
    | true => simp
    | false => simp [anyS_const p l]

/-- a state is told by less in front of a region -/
theorem weak_le {P : Program} {F : Ex → St → Prop} {fs : List Fr} {c : Cd} {st st' : St} (h : St.le st st') (h' : aw P c (kq P F fs) st') : aw P (.weak c) (kq P F fs) st :=
  ⟨fun s => s = st', fun w ι a hs => let ⟨ι', h1, h2⟩ := h.2 w ι a hs; ⟨st', rfl, h.1, ι', h1, h2⟩, fun s hs => by rw [hs]; exact h'⟩
/-- the last own object, a row of cells, is let go: its slice is told by what it holds -/
theorem St.le_thaw {sl : List A} {ext loc : Heap} (i : Nat) {rs : List (List D)} {len sz : Nat} (h : sl[i]? = some (.c (.fsl (.l loc.length) len sz))) (hlo : As.lo ext.length loc.length (sl.set i .u)) (hob : Obs.lo ext.length loc.length loc) :
    St.le ⟨sl, ext, loc ++ [.rows rs]⟩ ⟨sl.set i (.c (.d (.sl rs))), ext, loc⟩ := by
  refine ⟨rfl, fun w ι a hs => ⟨ι.take (ext.length + loc.length), ?_, fun w₀ ι₀ hl₀ hx => ?_⟩⟩
  · have hlen : ι.length = ext.length + loc.length + 1 := by have := hs.sim.len; simp at this; omega
    have hsafe : ∀ b o, Safe w ι b o → Safe w (ι.take (ext.length + loc.length)) b o ∧ w.cell? ⟨b, o, none⟩ = w.cell? ⟨b, o, none⟩ := fun b o h => ⟨⟨h.1, fun k hk => h.2 k (List.mem_of_mem_take hk)⟩, rfl⟩
    have hi : ∀ (r : Ref) k, r.lo ext.length loc.length → ι[idx ext.length (r.ren (List.range loc.length))]? = some k → (ι.take (ext.length + loc.length))[idx ext.length r]? = some k := fun r k hr hk => by
      rw [Ref.ren_range hr] at hk
      have : idx ext.length r < ext.length + loc.length := by cases r <;> simp only [idx, Ref.lo] at hr ⊢ <;> omega
      rw [List.getElem?_take, if_pos this]; exact hk
    refine ⟨⟨?_, ?_, ?_, ?_⟩, ?_, ?_, hs.fit, hs.defers⟩
    · simp [hlen]
    · intro j o k hj hk
      have hjl : j < ext.length + loc.length := by have := (List.getElem?_eq_some_iff.1 hj).1; simpa using this
      rw [List.getElem?_take, if_pos hjl] at hk
      have h1 := hs.sim.obj j o k (by show (ext ++ (loc ++ [Ob.rows rs]))[j]? = some o; rw [← List.append_assoc, List.getElem?_append_left (by simpa using hjl)]; exact hj) hk
      have ho : o.lo ext.length loc.length := by
        rcases Nat.lt_or_ge j ext.length with h2 | h2
        · rw [List.getElem?_append_left h2] at hj; exact Ob_lo_of_fits (Obs_fits_get hs.fit hj)
        · rw [List.getElem?_append_right h2] at hj; exact Obs_lo_get hob hj
      exact RO_ren hsafe hi ho (by rw [Ob.ren_range ho]; exact h1)
    · intro x y k k' b h1 h2 h3 h4
      rw [List.getElem?_take] at h1 h2
      split at h1
      · split at h2
        · exact hs.sim.apart x y k k' b h1 h2 h3 h4
        · cases h2
      · cases h1
    · exact fun k b hk hb => hs.sim.low k b (List.mem_of_mem_take hk) hb
    · rw [hs.size]; simp
    · intro j x v hj hv
      by_cases hji : i = j
      · subst hji
        have hil := (List.getElem?_eq_some_iff.1 h).1
        simp only [List.getElem?_set, ↓reduceIte, hil] at hj
        cases hj
        have hr := hs.slots i _ v h hv
        cases hr with
        | c hc =>
          cases hc with
          | @fsl _ _ b _ cap hk hcap =>
            obtain ⟨vs, el, h3, h4, ⟨h5, h5'⟩, h6⟩ := hs.sim.obj _ (.rows rs) _ (by simp [idx]) hk
            subst h5'
            refine .c (.d (RD.sl_iff.2 (.inr ⟨b, 0, sz, rfl, rfl, hcap, h5, fun i r hi => ⟨(h6 i r hi).1, fun j x hj => ?_⟩⟩)))
            obtain ⟨y, p, q⟩ := (h6 i r hi).2 j x hj
            refine ⟨y, by simp [World.cell?, h3, p], ⟨(Array.getElem?_eq_some_iff.1 h3).1, fun k hk' ho => ?_⟩, q.mono hsafe⟩
            obtain ⟨i', hi'⟩ := List.mem_iff_getElem?.1 hk'
            have hlt : i' < ext.length + loc.length := by
              have := (List.getElem?_eq_some_iff.1 hi').1
              simp at this; omega
            rw [List.getElem?_take, if_pos hlt] at hi'
            have := hs.sim.apart _ _ _ k b hk hi' rfl (K.at_of_owns ho)
            simp [idx] at this
            omega
      · simp only [List.getElem?_set, hji, ↓reduceIte] at hj
        have hxlo : x.lo ext.length loc.length := As_lo_get (i := j) hlo (by simp only [List.getElem?_set, hji, ↓reduceIte]; exact hj)
        refine RA_ren hsafe hi (hs.slots j x v hj hv) x ?_ hxlo
        rw [A.ren_range hxlo]
  · refine ⟨hx.os, hx.tape, hx.output, hx.size, fun b o hso => ?_, fun b hb hk' => ?_, fun i k hik => ?_⟩
    · obtain ⟨p, q⟩ := hx.safe b o hso
      exact ⟨⟨p.1, fun k hk => p.2 k (List.mem_of_mem_take hk)⟩, q⟩
    · obtain ⟨p, q⟩ := hx.block b hb hk'
      exact ⟨p, fun k hk2 => q k (List.mem_of_mem_take hk2)⟩
    · obtain ⟨k', p, q⟩ := hx.ev i k hik
      have hlt : i < ext.length := by have := (List.getElem?_eq_some_iff.1 hik).1; simp only at hl₀; omega
      exact ⟨k', by rw [List.getElem?_take, if_pos (by omega)]; exact p, q⟩

/-- a nil slice in an own object is taken as an owned one with nothing in it -/
theorem St.le_tokenC {sl : List A} {ext loc : Heap} (j i sz : Nat) {cs : List C} (hj : loc[j]? = some (.cells cs)) (h : cs[i]? = some (.full [])) :
    St.le ⟨sl, ext, loc⟩ ⟨sl, ext, loc.set j (.cells (cs.set i (.own (.l loc.length) 0 []))) ++ [.grow 0 sz]⟩ := by
  refine ⟨rfl, fun w ι a hs => ⟨ι ++ [.grow 0 none], ?_, fun w₀ ι₀ _ hx => hx.trans ((Ext.refl w ι).push (k := .grow 0 none) (fun b hb => hb.elim))⟩⟩
  have hx : Ext w ι w (ι ++ [.grow 0 none]) := (Ext.refl w ι).push (fun b hb => hb.elim)
  have h1 := hs.push (k := .grow 0 none) (o := .grow 0 sz) (Ext.refl w ι) (fun _ _ => rfl) (fun b hb => hb.elim) rfl
  have hjl := (List.getElem?_eq_some_iff.1 hj).1
  refine ⟨⟨?_, fun x o k ho hk => ?_, h1.sim.apart, h1.sim.low⟩, h1.size, h1.slots, h1.fit, h1.defers⟩
  · have := h1.sim.len; simpa [A_] using this
  · have h2 := h1.sim.obj x
    change (ext ++ (loc.set j (.cells (cs.set i (.own (.l loc.length) 0 []))) ++ [Ob.grow 0 sz]))[x]? = some o at ho
    by_cases hxj : x = ext.length + j
    · subst hxj
      have ho' : o = .cells (cs.set i (.own (.l loc.length) 0 [])) := by
        rw [List.getElem?_append_right (by omega), Nat.add_sub_cancel_left, List.getElem?_append_left (by simpa using hjl), List.getElem?_set_self hjl] at ho
        exact (Option.some.inj ho).symm
      subst ho'
      have h3 := h2 (.cells cs) k (by
        show (ext ++ (loc ++ [Ob.grow 0 sz]))[ext.length + j]? = _
        rw [List.getElem?_append_right (by omega), Nat.add_sub_cancel_left, List.getElem?_append_left hjl]; exact hj) hk
      cases k with
      | blk b =>
        obtain ⟨vs, el, h4, h5, h6⟩ := h3
        refine ⟨vs, el, h4, by simpa using h5, fun y c v hc hv => ?_⟩
        simp only [List.getElem?_set] at hc
        split at hc
        · rename_i hiy
          subst hiy
          split at hc
          · cases hc
            have h7 := h6 i _ v h hv
            cases h7 with
            | @full _ ad len hd =>
              have hlen : len = 0 := by
                rcases RD.sl_iff.1 hd with ⟨_, h, _⟩ | ⟨_, _, _, _, h, _⟩
                · exact h
                · simpa using h
              subst hlen
              exact .own (.nil _) ⟨0, none, hs.newIdx _, Nat.le_refl _, fun _ => by cases ad <;> simp [Cur]⟩
          · cases hc
        · exact h6 y c v hc hv
      | _ => exact h3.elim
    · refine h2 o k ?_ hk
      show (ext ++ (loc ++ [Ob.grow 0 sz]))[x]? = some o
      rcases Nat.lt_or_ge x ext.length with hlt | hge
      · rw [List.getElem?_append_left hlt] at ho ⊢; exact ho
      · rw [List.getElem?_append_right hge] at ho ⊢
        rcases Nat.lt_or_ge (x - ext.length) loc.length with h8 | h8
        · rw [List.getElem?_append_left (by simpa using h8), List.getElem?_set_ne (by omega)] at ho
          rw [List.getElem?_append_left h8]; exact ho
        · rw [List.getElem?_append_right (by simpa using h8)] at ho
          rw [List.getElem?_append_right h8]; simpa using ho

end Go.AM

/-
  Trees of slices that own their arrays: how they are read, put together and taken apart.
  Conditions: none.
-/
namespace Go.AM
set_option linter.unusedVariables false
set_option linter.unusedSimpArgs false

theorem flatten_get {rows : List (List D)} {sz : Nat} (h : ∀ r ∈ rows, r.length = sz) {i j : Nat} {r : List D} {x : D} (hi : rows[i]? = some r) (hj : r[j]? = some x) : rows.flatten[i * sz + j]? = some x := by
  induction rows generalizing i with
  | nil => simp at hi
  | cons a l ih =>
    have ha : a.length = sz := h a (by simp)
    cases i with
    | zero =>
      simp at hi; subst hi
      rw [List.flatten_cons, Nat.zero_mul, Nat.zero_add, List.getElem?_append_left (List.getElem?_eq_some_iff.1 hj).1]; exact hj
    | succ i =>
      rw [List.flatten_cons, List.getElem?_append_right (by rw [ha, Nat.succ_mul]; omega)]
      have := ih (fun r hr => h r (by simp [hr])) (i := i) (by simpa using hi)
      rw [← this]
      congr 1
      rw [ha, Nat.succ_mul]; omega

theorem flatten_len {rows : List (List D)} {sz : Nat} (h : ∀ r ∈ rows, r.length = sz) : rows.flatten.length = rows.length * sz := by
  induction rows with
  | nil => simp
  | cons a l ih =>
    rw [List.flatten_cons, List.length_append, ih (fun r hr => h r (by simp [hr])), h a (by simp), List.length_cons, Nat.succ_mul]; omega

theorem RD.of_leaf {w w' : World} {S S' : Nat → Nat → Prop} {x : D} {v : Value} (hx : x.leaf = true) (h : RD w S x v) : RD w' S' x v := by
  cases h with
  | bool b => exact .bool b
  | int k n h => exact .int k n h
  | str s h => exact .str s h
  | v _ h => exact .v _ h
  | nil a => exact .nil a
  | sl rows b off cap sz vs h1 h2 h3 h4 h5 =>
    cases rows with
    | nil => exact .sl [] b off cap sz vs h1 h2 (fun i r h => by simp at h) (fun i r j x h => by simp at h) (fun i r j x h => by simp at h)
    | cons a l => simp [D.leaf] at hx

/-- a tree is read as data -/
theorem RT.rd {w : World} {S : Nat → Nat → Prop} {x : D} {v : Value} {B : Nat → Prop} (h : RT w x v B) (hS : ∀ b o, B b → S b o) : RD w S x v := by
  induction h with
  | leaf h1 h2 => exact h2.of_leaf h1
  | sl rows b cap sz vs el vf Bs h1 h2 h3 h4 h5 h6 h7 h8 h9 h10 ih =>
    refine .sl rows b 0 cap sz vf h2 h3 (fun i r hi => h4 r (List.mem_of_getElem? hi)) (fun i r j x hi hj => ⟨?_, hS _ _ (.inl rfl)⟩) (fun i r j x hi hj => ?_)
    · have := h7 _ x (flatten_get h4 hi hj)
      simp [World.cell?, h5, this]
    · have := flatten_get h4 hi hj
      exact ih _ x this fun c o hc => hS c o (.inr ⟨_, hc⟩)

theorem RT.oneCell {w : World} {x : D} {v : Value} {B : Nat → Prop} (h : RT w x v B) : v.oneCell' = true := by
  cases h with
  | leaf h1 h2 => exact h2.oneCell
  | sl => rfl

theorem RT.len {w : World} {rows : List (List D)} {v : Value} {B : Nat → Prop} (h : RT w (.sl rows) v B) : ∃ a cap, v = .slice a rows.length cap ∧ rows.length ≤ cap := by
  cases h with
  | leaf h1 h2 =>
    cases h2 with
    | nil a => exact ⟨a, 0, rfl, Nat.le_refl _⟩
    | sl _ b off cap sz vs h1 => exact ⟨_, cap, rfl, h1⟩
  | sl _ b cap sz vs el vf Bs h1 h2 => exact ⟨_, cap, rfl, h2⟩

end Go.AM

/-
  Functions that hand out trees of their own; calls in front of which other objects are set aside.
  Conditions: none.
-/
namespace Go.AM
set_option linter.unusedVariables false
set_option linter.unusedSimpArgs false

/-- a tree that lies in the blocks of these objects -/
def Piece (w : World) (ι : List K) (I : List Nat) (x : List (List D)) (v : Value) : Prop :=
  ∃ B : Nat → Prop, RT w (.sl x) v B ∧ ∀ b, B b → ∃ (i : Nat) (k : K), i ∈ I ∧ ι[i]? = some k ∧ k.at b

section
variable {w : World} {ι : List K} {n : Nat} {loc : Heap}

theorem RO.tree_inv {v : Value} {d : List (List D)} {k : K} (h : RO w ι n (.tree v d) k) : ∃ B B₀ : Nat → Prop, k = .tree B ∧ (∀ b, B₀ b → B b) ∧ RT w (.sl d) v B₀ := by
  cases k with
  | tree B => obtain ⟨B₀, h1, h2⟩ := h; exact ⟨B, B₀, rfl, h1, h2⟩
  | grow q p => cases p <;> exact h.elim
  | _ => exact h.elim

inductive Pieces (w : World) (ι : List K) : List Nat → Heap → Prop
  | nil : Pieces w ι [] []
  | cons {I I' : List Nat} {v : Value} {d : List (List D)} {H : Heap} : Piece w ι I d v → Pieces w ι I' H → Pieces w ι (I ++ I') (.tree v d :: H)

theorem Pieces.one {I : List Nat} {v : Value} {d : List (List D)} (h : Piece w ι I d v) : Pieces w ι I [.tree v d] := by
  have := Pieces.cons h .nil
  simpa using this
theorem Pieces.app {I I' : List Nat} {H H' : Heap} (h : Pieces w ι I H) (h' : Pieces w ι I' H') : Pieces w ι (I ++ I') (H ++ H') := by
  induction h with
  | nil => exact h'
  | cons a b ih => rw [List.append_assoc]; exact .cons a ih

/-- objects for the trees -/
theorem Pieces.sim (hs : Sim w ι n loc) {I : List Nat} {H : Heap} (h : Pieces w ι I H) (hnd : I.Nodup) :
    ∃ ι' : List K, ι'.length = H.length ∧ (∀ (i : Nat) o k, H[i]? = some o → ι'[i]? = some k → ∀ ι₁ n₁, RO w ι₁ n₁ o k) ∧ (∀ (i j : Nat) k k' b, ι'[i]? = some k → ι'[j]? = some k' → k.at b → k'.at b → i = j) ∧
      ∀ (i : Nat) k b, ι'[i]? = some k → k.at b → ∃ (j : Nat) (k' : K), j ∈ I ∧ ι[j]? = some k' ∧ k'.at b := by
  induction h with
  | nil => exact ⟨[], rfl, fun i o k h => by simp at h, fun i j k k' b h => by simp at h, fun i k b h => by simp at h⟩
  | @cons I I' v d H h h' ih =>
    obtain ⟨n1, n2, n3⟩ := List.nodup_append.1 hnd
    obtain ⟨ι', h1, h2, h3, h4⟩ := ih n2
    obtain ⟨B, h5, h6⟩ := h
    have hap : ∀ (j : Nat) k b, ι'[j]? = some k → B b → k.at b → False := fun j k b hj hb hk => by
      obtain ⟨j1, k1, a1, a2, a3⟩ := h6 b hb
      obtain ⟨j2, k2, b1, b2, b3⟩ := h4 j k b hj hk
      have := hs.apart _ _ _ _ b a2 b2 a3 b3
      subst this
      exact n3 j1 a1 j1 b1 rfl
    refine ⟨.tree B :: ι', by simp [h1], fun i o k hi hk ι₁ n₁ => ?_, fun i j k k' b hi hj hk hk' => ?_, fun i k b hi hk => ?_⟩
    · cases i with
      | zero => simp at hi hk; subst hi; subst hk; exact ⟨B, fun b hb => hb, h5⟩
      | succ i => exact h2 i o k (by simpa using hi) (by simpa using hk) ι₁ n₁
    · cases i with
      | zero =>
        simp at hi; subst hi
        cases j with
        | zero => rfl
        | succ j => exact (hap j k' b (by simpa using hj) hk hk').elim
      | succ i =>
        cases j with
        | zero => simp at hj; subst hj; exact (hap i k b (by simpa using hi) hk' hk).elim
        | succ j => rw [h3 i j k k' b (by simpa using hi) (by simpa using hj) hk hk']
    · cases i with
      | zero =>
        simp at hi; subst hi
        obtain ⟨j, k', a1, a2, a3⟩ := h6 b hk
        exact ⟨j, k', by simp [a1], a2, a3⟩
      | succ i =>
        obtain ⟨j, k', a1, a2, a3⟩ := h4 i k b (by simpa using hi) hk
        exact ⟨j, k', by simp [a1], a2, a3⟩

end

end Go.AM

/-
  Functions that hand out trees; calls in front of which other objects are set aside; functions that write into a tree.
  Conditions: none.
-/
namespace Go.AM
set_option linter.unusedVariables false
set_option linter.unusedSimpArgs false

/-! ### what looks at no object -/

def Ob.isTree : Ob → Prop
  | .tree _ _ => True
  | _ => False

/-! ### objects are set aside -/

inductive FzC (H : Heap) (J : List Nat) : C → C → Prop
  | d {x : D} : FzC H J (.d x) (.d x)
  | tree {i : Nat} {kv : Value} {d : List (List D)} : H[i]? = some (.tree kv d) → i ∉ J → FzC H J (.d (.v kv)) (.d (.sl d))
  | u {c : C} : FzC H J c .u
inductive FzCs (H : Heap) (J : List Nat) : List C → List C → Prop
  | nil : FzCs H J [] []
  | cons {c c' : C} {l l' : List C} : FzC H J c c' → FzCs H J l l' → FzCs H J (c :: l) (c' :: l')
inductive FzA (H : Heap) (J : List Nat) : A → A → Prop
  | c {c c' : C} : FzC H J c c' → FzA H J (.c c) (.c c')
  | agg {cs cs' : List C} : FzCs H J cs cs' → FzA H J (.agg cs) (.agg cs')
  | u {a : A} : FzA H J a .u
inductive FzL (H : Heap) (J : List Nat) : List A → List A → Prop
  | nil : FzL H J [] []
  | cons {a a' : A} {l l' : List A} : FzA H J a a' → FzL H J l l' → FzL H J (a :: l) (a' :: l')

section
variable {w : World} {ι ι₀ : List K} {n n₀ : Nat} {H : Heap} {J : List Nat}

end

theorem RO.of_tree {w : World} {ι ι' : List K} {n n' : Nat} {o : Ob} {k : K} (ht : o.isTree) (h : RO w ι n o k) : RO w ι' n' o k := by
  cases o with
  | tree v d =>
    obtain ⟨B, B₀, rfl, h1, h2⟩ := h.tree_inv
    exact ⟨B₀, h1, h2⟩
  | _ => exact ht.elim

/-! ### a tree is opened -/

end Go.AM

/-
  Calls of functions that hand out, write into, or read trees, in the machine.
  Conditions: none.
-/
namespace Go.AM
set_option linter.unusedVariables false
set_option linter.unusedSimpArgs false

def Ob.isTreeB : Ob → Bool
  | .tree _ _ => true
  | _ => false
theorem Ob.isTree_of {o : Ob} (h : o.isTreeB = true) : o.isTree := by cases o <;> first | trivial | cases h

theorem FzC.mono {H H' : Heap} {J : List Nat} (h : ∀ (i : Nat) kv d, H[i]? = some (.tree kv d) → H'[i]? = some (.tree kv d)) {c c' : C} (hz : FzC H J c c') : FzC H' J c c' := by
  cases hz with
  | d => exact .d
  | tree h1 h2 => exact .tree (h _ _ _ h1) h2
  | u => exact .u
theorem FzCs.mono {H H' : Heap} {J : List Nat} (h : ∀ (i : Nat) kv d, H[i]? = some (.tree kv d) → H'[i]? = some (.tree kv d)) : ∀ {c c' : List C}, FzCs H J c c' → FzCs H' J c c'
  | _, _, .nil => .nil
  | _, _, .cons h1 h2 => .cons (h1.mono h) (h2.mono h)
theorem FzA.mono {H H' : Heap} {J : List Nat} (h : ∀ (i : Nat) kv d, H[i]? = some (.tree kv d) → H'[i]? = some (.tree kv d)) {c c' : A} (hz : FzA H J c c') : FzA H' J c c' := by
  cases hz with
  | c h1 => exact .c (h1.mono h)
  | agg h1 => exact .agg (h1.mono h)
  | u => exact .u
theorem FzL.mono {H H' : Heap} {J : List Nat} (h : ∀ (i : Nat) kv d, H[i]? = some (.tree kv d) → H'[i]? = some (.tree kv d)) : ∀ {c c' : List A}, FzL H J c c' → FzL H' J c c'
  | _, _, .nil => .nil
  | _, _, .cons h1 h2 => .cons (h1.mono h) (h2.mono h)
/-! ### trees without trees below -/

/-! ### trees that are not looked at -/

end Go.AM

/-
  Functions that write into an array below which there is no memory.
  Conditions: none.
-/
namespace Go.AM
set_option linter.unusedVariables false
set_option linter.unusedSimpArgs false

end Go.AM

/-
  Laws whose code reads a table of the library: the table's block is told among the objects and owns nothing.
  Conditions: none.
-/
namespace Go.AM
open Go.ChangeShapes Go.WideShapes Go.ChangeAt Go.RowKit
set_option linter.unusedVariables false
set_option linter.unusedSimpArgs false

/-- the way in which a table's block is told -/
abbrev K.tab (g : Nat) : K := .grow 0 (some (g, 0, 0, 0))

theorem K.tab_owns {g b o : Nat} : ¬ (K.tab g).owns b o := by
  rintro ⟨_, _, h⟩
  omega

theorem safe_tab {w : World} {g b o : Nat} : Safe w [] b o → Safe w [K.tab g] b o := fun h =>
  ⟨h.1, fun k hk => by rw [List.mem_singleton.1 hk]; exact K.tab_owns⟩

theorem RC.tab {w : World} {g n m : Nat} {c : C} {v : Value} (h : RC w [] n c v) : RC w [K.tab g] m c v := by
  cases h with
  | d h => exact .d (h.mono fun b o hs => ⟨safe_tab hs, rfl⟩)
  | el h => exact .el (h.mono fun b o hs => ⟨safe_tab hs, rfl⟩)
  | full h => exact .full (h.mono fun b o hs => ⟨safe_tab hs, rfl⟩)
  | u h => exact .u h
  | ptr h => simp at h
  | own h1 h2 => obtain ⟨q, p, h3, _⟩ := h2; simp at h3
  | fsl h => simp at h
  | psl h => simp at h
  | csl h => simp at h
  | rel h => simp at h
  | map h => simp at h
  | fn h1 h2 => exact .fn h1 fun i r o h => by obtain ⟨b, h3, _⟩ := h2 i r o h; simp at h3

theorem RCs.tab {w : World} {g n m : Nat} {cs : List C} {vs : List Value} (h : RCs w [] n cs vs) : RCs w [K.tab g] m cs vs :=
  ⟨h.1, fun i c v h1 h2 => (h.2 i c v h1 h2).tab⟩

theorem RA.tab {w : World} {g n m : Nat} {a : A} {v : Value} (h : RA w [] n a v) : RA w [K.tab g] m a v := by
  induction h with
  | u => exact .u
  | c h => exact .c h.tab
  | agg h => exact .agg h.tab
  | tup h1 h2 ih => exact .tup h1 ih
  | gd h1 h2 ih => exact .gd ih h2

section
variable {P : Program} {H : Type} {enc : TypeId × Value → H}

end
end Go.AM

/-
  Functions that are handed nil, where an owned slice with nothing in it serves.
  Conditions: none.
-/
namespace Go.AM
set_option linter.unusedVariables false
set_option linter.unusedSimpArgs false
variable {w : World} {ι : List K}

theorem idx_low {n : Nat} {r : Ref} {k : K} (hl : ι.length ≤ n) (h : ι[idx n r]? = some k) : ∃ b, r = .e b := by
  cases r with
  | e b => exact ⟨b, rfl⟩
  | l i =>
    have := (List.getElem?_eq_some_iff.1 h).1
    simp only [idx] at this
    omega

theorem RC.up {n m : Nat} {c : C} {v : Value} (hl : ι.length ≤ n) (h : RC w ι n c v) : RC w ι m c v := by
  cases h with
  | d h => exact .d h
  | ptr h => obtain ⟨b, rfl⟩ := idx_low hl h; exact .ptr h
  | el h => exact .el h
  | own h1 h2 =>
    obtain ⟨q, p, h3, h4⟩ := h2
    obtain ⟨b, rfl⟩ := idx_low hl h3
    exact .own h1 ⟨q, p, h3, h4⟩
  | full h => exact .full h
  | fsl h h2 => obtain ⟨b, rfl⟩ := idx_low hl h; exact .fsl h h2
  | psl h h1 h2 h3 => obtain ⟨b, rfl⟩ := idx_low hl h; exact .psl h h1 h2 h3
  | csl h h1 h2 h3 => obtain ⟨b, rfl⟩ := idx_low hl h; exact .csl h h1 h2 h3
  | rel h => obtain ⟨b, rfl⟩ := idx_low hl h; exact .rel h
  | map h => obtain ⟨b, rfl⟩ := idx_low hl h; exact .map h
  | fn h1 h2 =>
    refine .fn h1 fun i r o h => ?_
    obtain ⟨b, h3, h4⟩ := h2 i r o h
    obtain ⟨c, rfl⟩ := idx_low hl h3
    exact ⟨b, h3, h4⟩
  | u h => exact .u h

theorem RCs.up {n m : Nat} {cs : List C} {vs : List Value} (hl : ι.length ≤ n) (h : RCs w ι n cs vs) : RCs w ι m cs vs :=
  ⟨h.1, fun i c v h1 h2 => (h.2 i c v h1 h2).up hl⟩

theorem RA.up {n m : Nat} {a : A} {v : Value} (hl : ι.length ≤ n) (h : RA w ι n a v) : RA w ι m a v := by
  induction h with
  | u => exact .u
  | c h => exact .c (h.up hl)
  | agg h => exact .agg (h.up hl)
  | tup h1 h2 ih => exact .tup h1 ih
  | gd h1 h2 ih => exact .gd ih h2

theorem RO.up {n m : Nat} {o : Ob} {k : K} (hl : ι.length ≤ n) (h : RO w ι n o k) : RO w ι m o k := by
  match o, k, h with
  | .cells cs, .blk b, ⟨vs, el, h1, h2⟩ => exact ⟨vs, el, h1, h2.up hl⟩
  | .rows rs, .rows b sz _, h => exact h
  | .grow p s, .grow q none, h => exact h
  | .grow p s, .grow q (some _), h => exact h
  | .map m, .blk b, h => exact h
  | .tree v d, .tree B, h => exact h
  | .tab g o, .grow q (some _), h => exact h
  | .dead, k, _ => cases k <;> trivial

theorem Sim.up {n m : Nat} {H : Heap} (hl : H.length ≤ n) (h : Sim w ι n H) : Sim w ι m H where
  len := h.len
  obj := fun i o k h1 h2 => (h.obj i o k h1 h2).up (by rw [h.len]; exact hl)
  apart := h.apart
  low := h.low

end Go.AM

/-
  The machine's equations under short names.
  Conditions: none.
-/
namespace Go.AM
theorem ew : (∀ {s : List A} {x : A}, Opd.ev s (.k x) = x) ∧
  (∀ {x0 : A} {l : List A}, Opd.ev (x0 :: l) (.t 0) = x0) ∧
  (∀ {x0 x1 : A} {l : List A}, Opd.ev (x0 :: x1 :: l) (.t 1) = x1) ∧
  (∀ {x0 x1 x2 : A} {l : List A}, Opd.ev (x0 :: x1 :: x2 :: l) (.t 2) = x2) ∧
  (∀ {x0 x1 x2 x3 : A} {l : List A}, Opd.ev (x0 :: x1 :: x2 :: x3 :: l) (.t 3) = x3) ∧
  (∀ {x0 x1 x2 x3 x4 : A} {l : List A}, Opd.ev (x0 :: x1 :: x2 :: x3 :: x4 :: l) (.t 4) = x4) ∧
  (∀ {x0 x1 x2 x3 x4 x5 : A} {l : List A}, Opd.ev (x0 :: x1 :: x2 :: x3 :: x4 :: x5 :: l) (.t 5) = x5) ∧
  (∀ {x0 x1 x2 x3 x4 x5 x6 : A} {l : List A}, Opd.ev (x0 :: x1 :: x2 :: x3 :: x4 :: x5 :: x6 :: l) (.t 6) = x6) ∧
  (∀ {x0 x1 x2 x3 x4 x5 x6 x7 : A} {l : List A}, Opd.ev (x0 :: x1 :: x2 :: x3 :: x4 :: x5 :: x6 :: x7 :: l) (.t 7) = x7) ∧
  (∀ {x0 x1 x2 x3 x4 x5 x6 x7 : A} {l : List A} {n : Nat}, Opd.ev (x0 :: x1 :: x2 :: x3 :: x4 :: x5 :: x6 :: x7 :: l) (.t (n + 8)) = Opd.ev l (.t n)) := ⟨rfl, rfl, rfl, rfl, rfl, rfl, rfl, rfl, rfl, rfl⟩
theorem sw : (∀ {α : Type} {x0 y : α} {l : List α}, (x0 :: l).set 0 y = y :: l) ∧
  (∀ {α : Type} {x0 x1 y : α} {l : List α}, (x0 :: x1 :: l).set 1 y = x0 :: y :: l) ∧
  (∀ {α : Type} {x0 x1 x2 y : α} {l : List α}, (x0 :: x1 :: x2 :: l).set 2 y = x0 :: x1 :: y :: l) ∧
  (∀ {α : Type} {x0 x1 x2 x3 y : α} {l : List α}, (x0 :: x1 :: x2 :: x3 :: l).set 3 y = x0 :: x1 :: x2 :: y :: l) ∧
  (∀ {α : Type} {x0 x1 x2 x3 x4 y : α} {l : List α}, (x0 :: x1 :: x2 :: x3 :: x4 :: l).set 4 y = x0 :: x1 :: x2 :: x3 :: y :: l) ∧
  (∀ {α : Type} {x0 x1 x2 x3 x4 x5 y : α} {l : List α}, (x0 :: x1 :: x2 :: x3 :: x4 :: x5 :: l).set 5 y = x0 :: x1 :: x2 :: x3 :: x4 :: y :: l) ∧
  (∀ {α : Type} {x0 x1 x2 x3 x4 x5 x6 y : α} {l : List α}, (x0 :: x1 :: x2 :: x3 :: x4 :: x5 :: x6 :: l).set 6 y = x0 :: x1 :: x2 :: x3 :: x4 :: x5 :: y :: l) ∧
  (∀ {α : Type} {x0 x1 x2 x3 x4 x5 x6 x7 y : α} {l : List α}, (x0 :: x1 :: x2 :: x3 :: x4 :: x5 :: x6 :: x7 :: l).set 7 y = x0 :: x1 :: x2 :: x3 :: x4 :: x5 :: x6 :: y :: l) ∧
  (∀ {α : Type} {x0 x1 x2 x3 x4 x5 x6 x7 y : α} {l : List α} {n : Nat}, (x0 :: x1 :: x2 :: x3 :: x4 :: x5 :: x6 :: x7 :: l).set (n + 8) y = x0 :: x1 :: x2 :: x3 :: x4 :: x5 :: x6 :: x7 :: l.set n y) := ⟨rfl, rfl, rfl, rfl, rfl, rfl, rfl, rfl, rfl⟩
theorem kw : (∀ {P : Program} {F : Ex → St → Prop} {fs : List Fr} {st : St}, aw P .skip (kq P F fs) st = kq P F fs .normal st) ∧
  (∀ {P : Program} {F : Ex → St → Prop} {fs : List Fr} {st : St} {ops kill}, aw P (.region ops kill) (kq P F fs) st = awOps P (kq P F fs .normal) kill ops st) ∧
  (∀ {P : Program} {F : Ex → St → Prop} {fs : List Fr} {st : St} {a b}, aw P (.seq a b) (kq P F fs) st = aw P a (kq P F (.seq b :: fs)) st) ∧
  (∀ {P : Program} {F : Ex → St → Prop} {fs : List Fr} {st : St} {id c}, aw P (.block id c) (kq P F fs) st = aw P c (kq P F (.block id :: fs)) st) ∧
  (∀ {P : Program} {F : Ex → St → Prop} {fs : List Fr} {st : St} {id}, aw P (.exit id) (kq P F fs) st = kq P F fs (.exit id) st) ∧
  (∀ {P : Program} {F : Ex → St → Prop} {fs : List Fr} {st : St}, aw P .ret (kq P F fs) st = kq P F fs .ret st) ∧
  (∀ {P : Program} {F : Ex → St → Prop} {st : St} {e}, kq P F [] e st = F e st) ∧
  (∀ {P : Program} {F : Ex → St → Prop} {fs : List Fr} {st : St} {b}, kq P F (.seq b :: fs) .normal st = aw P b (kq P F fs) st) ∧
  (∀ {P : Program} {F : Ex → St → Prop} {fs : List Fr} {st : St} {b}, kq P F (.seq b :: fs) .ret st = kq P F fs .ret st) ∧
  (∀ {P : Program} {F : Ex → St → Prop} {fs : List Fr} {st : St} {b i}, kq P F (.seq b :: fs) (.exit i) st = kq P F fs (.exit i) st) ∧
  (∀ {P : Program} {F : Ex → St → Prop} {fs : List Fr} {st : St} {i}, kq P F (.block i :: fs) .normal st = kq P F fs .normal st) ∧
  (∀ {P : Program} {F : Ex → St → Prop} {fs : List Fr} {st : St} {i}, kq P F (.block i :: fs) .ret st = kq P F fs .ret st) ∧
  (∀ {P : Program} {F : Ex → St → Prop} {fs : List Fr} {st : St} {i j}, kq P F (.block i :: fs) (.exit j) st = if j = i then kq P F fs .normal st else kq P F fs (.exit j) st) ∧
  (∀ {P : Program} {F : Ex → St → Prop} {fs : List Fr} {st : St} {I m}, kq P F (.loop I m :: fs) .normal st = LB I m st) ∧
  (∀ {P : Program} {F : Ex → St → Prop} {fs : List Fr} {st : St} {I m}, kq P F (.loop I m :: fs) .ret st = kq P F fs .ret st) ∧
  (∀ {P : Program} {F : Ex → St → Prop} {fs : List Fr} {st : St} {I m i}, kq P F (.loop I m :: fs) (.exit i) st = kq P F fs (.exit i) st) := ⟨rfl, rfl, rfl, rfl, rfl, rfl, rfl, rfl, rfl, rfl, rfl, rfl, rfl, rfl, rfl, rfl⟩
theorem tw : (∀ {P : Program} {F : Ex → St → Prop} {fs : List Fr} {st : St} {kill}, awOps P (kq P F fs .normal) kill [] st = kq P F fs .normal ⟨o_ st.sl kill, st.ext, st.loc⟩) ∧
  (∀ {P : Program} {F : Ex → St → Prop} {fs : List Fr} {st : St} {kill dst op rest}, awOps P (kq P F fs .normal) kill (⟨dst, op, none⟩ :: rest) st = c_ P st true (nx P F ⟨dst, none, rest, kill, fs⟩) op) ∧
  (∀ {P : Program} {F : Ex → St → Prop} {st : St} {k a}, nx P F k a st = awOps P (kq P F k.fs .normal) k.kill k.rest ⟨d_ st.sl k.dst (e_ k.gd a), st.ext, st.loc⟩) ∧
  (∀ {v : A} {K : A → St → Prop} {st : St}, OptK (some v) K st = K v st) ∧
  (∀ {K : A → St → Prop} {st' : St}, StoreK (some st') K = (Obs.fits st'.ext.length 0 st'.ext ∧ K .u st')) ∧
  (∀ {n : Nat}, allLen n [] ↔ True) ∧
  (∀ {n : Nat} {r : List D} {l : List (List D)}, allLen n (r :: l) ↔ r.length = n ∧ allLen n l) ∧
  (∀ {n : Nat} {l l' : List (List D)}, allLen n (l ++ l') ↔ allLen n l ∧ allLen n l') ∧
  (∀ {α β : Type} {a : α} {f : α → β}, Option.map f (some a) = some (f a)) :=
  ⟨rfl, rfl, rfl, rfl, rfl, allLen_nil_iff, allLen_cons_iff, allLen_append_iff, rfl⟩
end Go.AM

/-
  The array of a tree that a call hands out is taken as an own row of cells.
  Conditions: none.
-/
namespace Go.AM
set_option linter.unusedVariables false
set_option linter.unusedSimpArgs false
section
variable {w : World} {ι ι' : List K}

/-- the array of a tree, and the trees below it -/
theorem RT.open {v : Value} {rows : List (List D)} {sz : Nat} {B : Nat → Prop} (h : RT w (.sl rows) v B) (hne : rows ≠ []) (hsz : ∀ r ∈ rows, r.length = sz) :
    ∃ b cap vs el, v = .slice (some ⟨b, 0, none⟩) rows.length cap ∧ B b ∧ rows.length ≤ cap ∧ rows.length ≤ maxRows ∧ w.heap[b]? = some (.cells vs el (0, 0)) ∧ rows.length * sz ≤ vs.size ∧
      ∀ (i : Nat) (r : List D), rows[i]? = some r → r.length = sz ∧ ∀ (j : Nat) (x : D), r[j]? = some x → ∃ y, vs[i * sz + j]? = some y ∧ ∃ B', RT w x y B' ∧ ∀ c, B' c → B c ∧ c ≠ b := by
  generalize hx : D.sl rows = x at h
  cases h with
  | leaf h1 h2 =>
    subst hx
    cases rows with
    | nil => exact absurd rfl hne
    | cons r l => simp [D.leaf] at h1
  | sl rows' b cap sz' vs el vf Bs h1 h2 h3 h4 h5 h6 h7 h8 h9 h10 =>
    cases hx
    refine ⟨b, cap, vs, el, rfl, .inl rfl, h2, h3, h5, by rw [← flatten_len hsz]; exact h6, fun i r hi => ⟨hsz r (List.mem_of_getElem? hi), fun j x hj => ?_⟩⟩
    have hf := flatten_get hsz hi hj
    exact ⟨_, h7 _ x hf, Bs (i * sz + j), h8 _ x hf, fun c hc => ⟨.inr ⟨_, hc⟩, fun e => h9 _ (by rw [← e]; exact hc)⟩⟩

end
end Go.AM

/-
  Laws whose code reads several variables of the library: each one's block is told among the objects and owns nothing.
  Conditions: none.
-/
namespace Go.AM
open Go.ChangeShapes Go.WideShapes Go.ChangeAt Go.RowKit
set_option linter.unusedVariables false
set_option linter.unusedSimpArgs false

section
variable {P : Program} {H : Type} {enc : TypeId × Value → H}

end
end Go.AM

/-
  An own object of data is let go: its pointer reads as one at a row of data.
  Conditions: none.
-/
namespace Go.AM
open Go.ChangeShapes Go.WideShapes Go.ChangeAt Go.RowKit
set_option linter.unusedVariables false
set_option linter.unusedSimpArgs false

/-- the last own object, cells of data, is let go: its pointer is told as one at a row of data -/
theorem St.le_el {sl : List A} {ext loc : Heap} (i : Nat) {row : List D} (h : sl[i]? = some (.c (.ptr (.l loc.length) 0))) (hlo : As.lo ext.length loc.length (sl.set i .u)) (hob : Obs.lo ext.length loc.length loc) :
    St.le ⟨sl, ext, loc ++ [.cells (row.map .d)]⟩ ⟨sl.set i (.c (.el row 0)), ext, loc⟩ := by
  refine ⟨rfl, fun w ι a hs => ⟨ι.take (ext.length + loc.length), ?_, fun w₀ ι₀ hl₀ hx => ?_⟩⟩
  · have hlen : ι.length = ext.length + loc.length + 1 := by have := hs.sim.len; simp at this; omega
    have hsafe : ∀ b o, Safe w ι b o → Safe w (ι.take (ext.length + loc.length)) b o ∧ w.cell? ⟨b, o, none⟩ = w.cell? ⟨b, o, none⟩ := fun b o h => ⟨⟨h.1, fun k hk => h.2 k (List.mem_of_mem_take hk)⟩, rfl⟩
    have hi : ∀ (r : Ref) k, r.lo ext.length loc.length → ι[idx ext.length (r.ren (List.range loc.length))]? = some k → (ι.take (ext.length + loc.length))[idx ext.length r]? = some k := fun r k hr hk => by
      rw [Ref.ren_range hr] at hk
      have : idx ext.length r < ext.length + loc.length := by cases r <;> simp only [idx, Ref.lo] at hr ⊢ <;> omega
      rw [List.getElem?_take, if_pos this]; exact hk
    refine ⟨⟨?_, ?_, ?_, ?_⟩, ?_, ?_, hs.fit, hs.defers⟩
    · simp [hlen]
    · intro j o k hj hk
      have hjl : j < ext.length + loc.length := by have := (List.getElem?_eq_some_iff.1 hj).1; simpa using this
      rw [List.getElem?_take, if_pos hjl] at hk
      have h1 := hs.sim.obj j o k (by show (ext ++ (loc ++ [Ob.cells (row.map C.d)]))[j]? = some o; rw [← List.append_assoc, List.getElem?_append_left (by simpa using hjl)]; exact hj) hk
      have ho : o.lo ext.length loc.length := by
        rcases Nat.lt_or_ge j ext.length with h2 | h2
        · rw [List.getElem?_append_left h2] at hj; exact Ob_lo_of_fits (Obs_fits_get hs.fit hj)
        · rw [List.getElem?_append_right h2] at hj; exact Obs_lo_get hob hj
      exact RO_ren hsafe hi ho (by rw [Ob.ren_range ho]; exact h1)
    · intro x y k k' b h1 h2 h3 h4
      rw [List.getElem?_take] at h1 h2
      split at h1
      · split at h2
        · exact hs.sim.apart x y k k' b h1 h2 h3 h4
        · cases h2
      · cases h1
    · exact fun k b hk hb => hs.sim.low k b (List.mem_of_mem_take hk) hb
    · rw [hs.size]; simp
    · intro j x v hj hv
      by_cases hji : i = j
      · subst hji
        have hil := (List.getElem?_eq_some_iff.1 h).1
        simp only [List.getElem?_set, ↓reduceIte, hil] at hj
        cases hj
        have hr := hs.slots i _ v h hv
        cases hr with
        | c hc =>
          cases hc with
          | @ptr _ _ b hk =>
            obtain ⟨vs, el, h3, h4, h5⟩ := hs.sim.obj _ (.cells (row.map C.d)) _ (by simp [idx]) hk
            refine .c (RC.el (o := 0) (off := 0) fun j x hj => ?_)
            have hjl := (List.getElem?_eq_some_iff.1 hj).1
            have hvl : j < vs.toList.length := by rw [h4]; simpa using hjl
            have hrc := h5 j (.d x) vs.toList[j] (by simp [hj]) (List.getElem?_eq_getElem hvl)
            cases hrc with
            | d q =>
              refine ⟨vs.toList[j], ?_, ⟨(Array.getElem?_eq_some_iff.1 h3).1, fun k hk' ho => ?_⟩, q.mono hsafe⟩
              · have hvs : j < vs.size := by simpa using hvl
                simp [World.cell?, h3, hvs]
              · obtain ⟨i', hi'⟩ := List.mem_iff_getElem?.1 hk'
                have hlt : i' < ext.length + loc.length := by
                  have := (List.getElem?_eq_some_iff.1 hi').1
                  simp at this; omega
                rw [List.getElem?_take, if_pos hlt] at hi'
                have := hs.sim.apart _ _ _ k b hk hi' rfl (K.at_of_owns ho)
                simp [idx] at this
                omega
      · simp only [List.getElem?_set, hji, ↓reduceIte] at hj
        have hxlo : x.lo ext.length loc.length := As_lo_get (i := j) hlo (by simp only [List.getElem?_set, hji, ↓reduceIte]; exact hj)
        refine RA_ren hsafe hi (hs.slots j x v hj hv) x ?_ hxlo
        rw [A.ren_range hxlo]
  · refine ⟨hx.os, hx.tape, hx.output, hx.size, fun b o hso => ?_, fun b hb hk' => ?_, fun i k hik => ?_⟩
    · obtain ⟨p, q⟩ := hx.safe b o hso
      exact ⟨⟨p.1, fun k hk => p.2 k (List.mem_of_mem_take hk)⟩, q⟩
    · obtain ⟨p, q⟩ := hx.block b hb hk'
      exact ⟨p, fun k hk2 => q k (List.mem_of_mem_take hk2)⟩
    · obtain ⟨k', p, q⟩ := hx.ev i k hik
      have hlt : i < ext.length := by have := (List.getElem?_eq_some_iff.1 hik).1; simp only at hl₀; omega
      exact ⟨k', by rw [List.getElem?_take, if_pos (by omega)]; exact p, q⟩

end Go.AM

/-
  Trees beside told variables of the library: calls that are told of a few objects alone; functions that hand out a row of their own.
  Conditions: none.
-/
namespace Go.AM
set_option linter.unusedVariables false
set_option linter.unusedSimpArgs false
/-! ### calls beside a variable of the library -/

end Go.AM

/-
  Functions that hand out a row of their own, where a variable of the library is told.
  Conditions: none.
-/
namespace Go.AM
set_option linter.unusedVariables false
set_option linter.unusedSimpArgs false
variable {w : World} {ι : List K} {n : Nat}
end Go.AM

/-
  Trees made beside other objects: a state told by what its own objects become, and functions that hand out trees beside the caller's objects.
  Conditions: none.
-/
namespace Go.AM
set_option linter.unusedVariables false
set_option linter.unusedSimpArgs false

section
variable {w : World} {ι : List K} {n : Nat} {ext loc : Heap}
end
def C.down (m : Nat) : C → C
  | .fsl (.l i) len sz => if m ≤ i then .fsl (.l (i - m)) len sz else .u
  | .d x => .d x
  | .full rows => .full rows
  | _ => .u
/-! ### functions that hand out trees beside the caller's objects -/
def C.leafB : C → Bool
  | .d x => x.leaf
  | .full [] => true
  | .u => true
  | _ => false
/-- what bears no memory but its own -/
def Ob.freeB : Ob → Bool
  | .tree _ _ => true
  | .tab _ _ => true
  | .grow _ _ => true
  | .cells cs => cs.all C.leafB
  | .rows rs => rs.all fun r => r.all D.leaf
  | _ => false
/-- how an object may go on -/
def Ob.goes : Ob → Ob → Prop
  | .tree _ _, .tree _ _ => True
  | .tab g o, x => x = .tab g o
  | .grow p s, x => x = .grow p s
  | .cells _, .cells cs => cs.all C.leafB = true
  | .rows _, .rows rs => (rs.all fun r => r.all D.leaf) = true
  | _, _ => False
def Goes (H H' : Heap) : Prop := H'.length = H.length ∧ ∀ (i : Nat) o o', H[i]? = some o → H'[i]? = some o' → o.goes o'
theorem goes_self {o : Ob} (h : o.freeB = true) : o.goes o := by cases o <;> first | trivial | rfl | exact h | cases h
theorem Goes.refl {H : Heap} (h : H.all Ob.freeB = true) : Goes H H := ⟨rfl, fun i o o' h1 h2 => by
  rw [h1] at h2; cases h2
  exact goes_self (List.all_eq_true.1 h o (List.mem_of_getElem? h1))⟩
theorem Goes.set {H : Heap} (h : H.all Ob.freeB = true) (a : Nat) {o' : Ob} (ho : ∀ o, H[a]? = some o → o.goes o') : Goes H (H.set a o') := ⟨by simp, fun i o o2 h1 h2 => by
  by_cases hia : i = a
  · subst hia
    rw [List.getElem?_set_self (List.getElem?_eq_some_iff.1 h1).1] at h2
    cases h2
    exact ho o h1
  · rw [List.getElem?_set_ne (by omega), h1] at h2
    cases h2
    exact goes_self (List.all_eq_true.1 h o (List.mem_of_getElem? h1))⟩
/-! ### trees, grouped anew -/
/-- lists of trees: the first can be told as the second -/
def Regroup (l2 l3 : Heap) : Prop := l3.all Ob.isTreeB = true ∧ ∀ (w : World) (ι : List K), Sim w ι 0 l2 → ∃ ι', Sim w ι' 0 l3 ∧ ∀ k b, k ∈ ι' → k.at b → ∃ k', k' ∈ ι ∧ k'.at b
theorem Regroup.of {l2 l3 : Heap} (ht : l3.all Ob.isTreeB = true) (h : ∀ (w : World) (ι : List K), Sim w ι 0 l2 → ∃ I, I.Nodup ∧ Pieces w ι I l3) : Regroup l2 l3 := ⟨ht, fun w ι hs => by
  obtain ⟨I, h1, h2⟩ := h w ι hs
  obtain ⟨ι', h4, h5, h6, h7⟩ := h2.sim hs h1
  have hin : ∀ k b, k ∈ ι' → k.at b → ∃ k', k' ∈ ι ∧ k'.at b := fun k b hk hb => by
    obtain ⟨i, hi⟩ := List.mem_iff_getElem?.1 hk
    obtain ⟨j, k', _, a2, a3⟩ := h7 i k b hi hb
    exact ⟨k', List.mem_of_getElem? a2, a3⟩
  exact ⟨ι', ⟨h4, fun i o k ho hk => h5 i o k ho hk _ _, h6, fun k b hk hb => by
    obtain ⟨k', a1, a2⟩ := hin k b hk hb
    exact hs.low k' b a1 a2⟩, hin⟩⟩
theorem Regroup.refl {l : Heap} (h : l.all Ob.isTreeB = true) : Regroup l l := ⟨h, fun w ι hs => ⟨ι, hs, fun k b hk hb => ⟨k, hk, hb⟩⟩⟩
theorem Regroup.trans {a b c : Heap} (h : Regroup a b) (k : Regroup b c) : Regroup a c := ⟨k.1, fun w ι hs => by
  obtain ⟨ι1, h1, h2⟩ := h.2 w ι hs
  obtain ⟨ι2, h3, h4⟩ := k.2 w ι1 h1
  exact ⟨ι2, h3, fun k b hk hb => by
    obtain ⟨k', a1, a2⟩ := h4 k b hk hb
    exact h2 k' b a1 a2⟩⟩
theorem RO.of_treeB {w : World} {ι ι' : List K} {n n' : Nat} {o : Ob} {k : K} (ht : o.isTreeB = true) (h : RO w ι n o k) : RO w ι' n' o k := RO.of_tree (Ob.isTree_of ht) h
theorem Regroup.app {a a' b b' : Heap} (ha : a.all Ob.isTreeB = true) (hb : b.all Ob.isTreeB = true) (h : Regroup a a') (k : Regroup b b') : Regroup (a ++ b) (a' ++ b') := ⟨by rw [List.all_append, h.1, k.1]; rfl, fun w ι hs => by
  have hl := hs.len
  rw [List.length_append] at hl
  have s1 : Sim w (ι.take a.length) 0 a := by
    refine ⟨by simp; omega, fun i o k ho hk => ?_, fun i j k k' c hi hj hc hc' => ?_, fun k c hk hc => hs.low k c (List.mem_of_mem_take hk) hc⟩
    · rw [List.getElem?_take] at hk
      split at hk
      · exact (hs.obj i o k (by rw [List.getElem?_append_left (by omega)]; exact ho) hk).of_treeB (List.all_eq_true.1 ha o (List.mem_of_getElem? ho))
      · cases hk
    · rw [List.getElem?_take] at hi hj
      split at hi
      · split at hj
        · exact hs.apart i j k k' c hi hj hc hc'
        · cases hj
      · cases hi
  have s2 : Sim w (ι.drop a.length) 0 b := by
    refine ⟨by simp; omega, fun i o k ho hk => ?_, fun i j k k' c hi hj hc hc' => ?_, fun k c hk hc => hs.low k c (List.mem_of_mem_drop hk) hc⟩
    · rw [List.getElem?_drop] at hk
      exact (hs.obj _ o k (by rw [List.getElem?_append_right (by omega), Nat.add_sub_cancel_left]; exact ho) hk).of_treeB (List.all_eq_true.1 hb o (List.mem_of_getElem? ho))
    · rw [List.getElem?_drop] at hi hj
      have := hs.apart _ _ k k' c hi hj hc hc'
      omega
  obtain ⟨ι1, h1, h2⟩ := h.2 w _ s1
  obtain ⟨ι2, h3, h4⟩ := k.2 w _ s2
  have hcross : ∀ k1 k2 c, k1 ∈ ι1 → k2 ∈ ι2 → k1.at c → k2.at c → False := fun k1 k2 c m1 m2 c1 c2 => by
    obtain ⟨z, x1, x2⟩ := h2 k1 c m1 c1
    obtain ⟨y, y1, y2⟩ := h4 k2 c m2 c2
    obtain ⟨i, hi⟩ := List.mem_iff_getElem?.1 x1
    obtain ⟨j, hj⟩ := List.mem_iff_getElem?.1 y1
    rw [List.getElem?_drop] at hj
    have hlt := (List.getElem?_eq_some_iff.1 hi).1
    rw [List.getElem?_take] at hi
    split at hi
    · have := hs.apart _ _ _ _ c hi hj x2 y2
      omega
    · cases hi
  have hl1 := h1.len
  refine ⟨ι1 ++ ι2, ⟨by simp [h1.len, h3.len], fun i o k' ho hk => ?_, fun i j k1 k2 c hi hj hc hc' => ?_, fun k' c hk hc => ?_⟩, fun k' c hk hc => ?_⟩
  · by_cases hi : i < a'.length
    · rw [List.getElem?_append_left hi] at ho
      rw [List.getElem?_append_left (by omega)] at hk
      exact (h1.obj i o k' ho hk).of_treeB (List.all_eq_true.1 h.1 o (List.mem_of_getElem? ho))
    · rw [List.getElem?_append_right (by omega)] at ho
      rw [List.getElem?_append_right (by omega), hl1] at hk
      exact (h3.obj _ o k' ho hk).of_treeB (List.all_eq_true.1 k.1 o (List.mem_of_getElem? ho))
  · by_cases hi' : i < ι1.length
    · rw [List.getElem?_append_left hi'] at hi
      by_cases hj' : j < ι1.length
      · rw [List.getElem?_append_left hj'] at hj
        exact h1.apart _ _ _ _ c hi hj hc hc'
      · rw [List.getElem?_append_right (by omega)] at hj
        exact (hcross k1 k2 c (List.mem_of_getElem? hi) (List.mem_of_getElem? hj) hc hc').elim
    · rw [List.getElem?_append_right (by omega)] at hi
      by_cases hj' : j < ι1.length
      · rw [List.getElem?_append_left hj'] at hj
        exact (hcross k2 k1 c (List.mem_of_getElem? hj) (List.mem_of_getElem? hi) hc' hc).elim
      · rw [List.getElem?_append_right (by omega)] at hj
        have := h3.apart _ _ _ _ c hi hj hc hc'
        omega
  · rcases List.mem_append.1 hk with hk | hk
    · exact h1.low k' c hk hc
    · exact h3.low k' c hk hc
  · rcases List.mem_append.1 hk with hk | hk
    · obtain ⟨z, x1, x2⟩ := h2 k' c hk hc
      exact ⟨z, List.mem_of_mem_take x1, x2⟩
    · obtain ⟨z, x1, x2⟩ := h4 k' c hk hc
      exact ⟨z, List.mem_of_mem_drop x1, x2⟩⟩
end Go.AM

/-
  Calls of functions that are told of the first objects alone, and hand out trees.
  Conditions: none.
-/
namespace Go.AM
set_option linter.unusedVariables false
set_option linter.unusedSimpArgs false

/-! ### calls of functions that are told of the first objects alone -/
end Go.AM

/-
  The abstract machine: a slice with told room is taken as an own row.
  Conditions: none.
-/
namespace Go.AM
set_option linter.unusedVariables false
set_option linter.unusedSimpArgs false

/-- a slice with told room is taken as an own row; what stands between is let go -/
theorem St.le_csl {sl : List A} {ext l1 l2 : Heap} (i q : Nat) {rs : List (List D)} {n sz : Nat} (h : sl[i]? = some (.c (.csl (.l (l1.length + q)) n sz))) (hq : l2[q]? = some (.rows rs)) (hlo : As.lo ext.length l1.length (sl.set i .u)) (hob : Obs.lo ext.length l1.length l1) :
    St.le ⟨sl, ext, l1 ++ l2⟩ ⟨sl.set i (.c (.fsl (.l l1.length) n sz)), ext, l1 ++ [.rows (rs.take n)]⟩ := by
  refine ⟨rfl, fun w ι a hs => ?_⟩
  have hil := (List.getElem?_eq_some_iff.1 h).1
  have hsz := hs.size
  obtain ⟨v, hv⟩ : ∃ v, a.tmps[i]? = some v := ⟨a.tmps[i]'(by simp only at hsz; omega), Array.getElem?_eq_getElem _⟩
  have hra := hs.slots i _ v h hv
  cases hra with
  | c hra =>
  cases hra with
  | @csl _ _ b _ len cap hk hmc hml hcl =>
  have hql := (List.getElem?_eq_some_iff.1 hq).1
  have hiq : idx ext.length (.l (l1.length + q)) = ext.length + l1.length + q := by simp only [idx]; omega
  simp only [hiq] at hk
  obtain ⟨vs, el, h3, h4, ⟨h5, h5'⟩, h6⟩ := hs.sim.obj (ext.length + l1.length + q) (.rows rs) _ (by
    show (ext ++ (l1 ++ l2))[_]? = _
    rw [List.getElem?_append_right (by omega), List.getElem?_append_right (by omega), ← hq]; congr 1; omega) hk
  obtain ⟨m, hm⟩ : ∃ m, m = ext.length + l1.length := ⟨_, rfl⟩
  have hlen : ι.length = ext.length + (l1.length + l2.length) := by have := hs.sim.len; simp at this; omega
  have hmem : K.rows b sz len ∈ ι := List.mem_of_getElem? hk
  obtain ⟨ι', hι⟩ : ∃ ι', ι' = ι.take m ++ [K.rows b sz n] := ⟨_, rfl⟩
  have hown : ∀ k ∈ ι', ∀ c, k.at c → ∃ k' ∈ ι, k'.at c := fun k hk' c hc => by
    rw [hι] at hk'
    rcases List.mem_append.1 hk' with h1 | h1
    · exact ⟨k, List.mem_of_mem_take h1, hc⟩
    · rw [List.mem_singleton.1 h1] at hc
      exact ⟨_, hmem, hc⟩
  have hsafe : ∀ c o, Safe w ι c o → Safe w ι' c o ∧ w.cell? ⟨c, o, none⟩ = w.cell? ⟨c, o, none⟩ := fun c o h => ⟨⟨h.1, fun k hk' ho => by
    rw [hι] at hk'
    rcases List.mem_append.1 hk' with h1 | h1
    · exact h.2 k (List.mem_of_mem_take h1) ho
    · rw [List.mem_singleton.1 h1] at ho
      exact h.2 _ hmem ho⟩, rfl⟩
  have htl : (ι.take m).length = m := by simp; omega
  have hget : ∀ j, j < m → ι'[j]? = ι[j]? := fun j hj => by
    rw [hι, List.getElem?_append_left (by omega), List.getElem?_take, if_pos hj]
  have hlast : ι'[m]? = some (K.rows b sz n) := by rw [hι, List.getElem?_append_right (by omega), htl]; simp
  have hi : ∀ (r : Ref) k, r.lo ext.length l1.length → ι[idx ext.length (r.ren (List.range l1.length))]? = some k → ι'[idx ext.length r]? = some k := fun r k hr hk' => by
    rw [Ref.ren_range hr] at hk'
    have : idx ext.length r < m := by cases r <;> simp only [idx, Ref.lo] at hr ⊢ <;> omega
    rw [hget _ this]; exact hk'
  have hil' : ι'.length = m + 1 := by rw [hι]; simp; omega
  refine ⟨ι', ⟨⟨?_, ?_, ?_, ?_⟩, ?_, ?_, hs.fit, hs.defers⟩, fun w₀ ι₀ hl₀ hx => ?_⟩
  · rw [hil']; simp; omega
  · intro j o k hj hk'
    have hjl : j < m + 1 := by rw [← hil']; exact (List.getElem?_eq_some_iff.1 hk').1
    rcases Nat.lt_or_ge j m with hjm | hjm
    · rw [hget j hjm] at hk'
      have hj' : (ext ++ l1)[j]? = some o := by
        simp only [← List.append_assoc] at hj
        rw [List.getElem?_append_left (by simp; omega)] at hj
        exact hj
      have h1 := hs.sim.obj j o k (by show (ext ++ (l1 ++ l2))[j]? = some o; rw [← List.append_assoc, List.getElem?_append_left (by simp; omega)]; exact hj') hk'
      have ho : o.lo ext.length l1.length := by
        rcases Nat.lt_or_ge j ext.length with h2 | h2
        · rw [List.getElem?_append_left h2] at hj'; exact Ob_lo_of_fits (Obs_fits_get hs.fit hj')
        · rw [List.getElem?_append_right h2] at hj'; exact Obs_lo_get hob hj'
      exact RO_ren hsafe hi ho (by rw [Ob.ren_range ho]; exact h1)
    · obtain rfl : j = m := by omega
      rw [hlast] at hk'
      cases hk'
      have hj' : o = .rows (rs.take n) := by
        simp only [← List.append_assoc] at hj
        rw [List.getElem?_append_right (by simp; omega)] at hj
        have e : j - (ext ++ l1).length = 0 := by simp; omega
        rw [e] at hj
        simpa using hj.symm
      subst hj'
      have hnl : (rs.take n).length = n := by simp; omega
      refine ⟨vs, el, h3, by rw [hnl]; exact Nat.le_trans (Nat.mul_le_mul_right _ (by omega)) h4, ⟨by rw [hnl]; omega, hnl⟩, fun i r hir => ?_⟩
      rw [List.getElem?_take] at hir
      split at hir
      · obtain ⟨p1, p2⟩ := h6 i r hir
        exact ⟨p1, fun j x hj => by obtain ⟨y, p, q⟩ := p2 j x hj; exact ⟨y, p, q.mono hsafe⟩⟩
      · cases hir
  · intro x y k k' c h1 h2 h3 h4
    have hx1 : x < m + 1 := by rw [← hil']; exact (List.getElem?_eq_some_iff.1 h1).1
    have hy1 : y < m + 1 := by rw [← hil']; exact (List.getElem?_eq_some_iff.1 h2).1
    rcases Nat.lt_or_ge x m with hxm | hxm
    · rw [hget x hxm] at h1
      rcases Nat.lt_or_ge y m with hym | hym
      · rw [hget y hym] at h2
        exact hs.sim.apart x y k k' c h1 h2 h3 h4
      · obtain rfl : y = m := by omega
        rw [hlast] at h2
        cases h2
        have := hs.sim.apart _ _ k _ c h1 hk h3 h4
        omega
    · obtain rfl : x = m := by omega
      rw [hlast] at h1
      cases h1
      rcases Nat.lt_or_ge y x with hym | hym
      · rw [hget y hym] at h2
        have := hs.sim.apart _ _ _ k' c hk h2 h3 h4
        omega
      · omega
  · intro k c hk' hc
    obtain ⟨k0, h1, h2⟩ := hown k hk' c hc
    exact hs.sim.low k0 c h1 h2
  · rw [hs.size]; simp
  · intro j x v' hj hv'
    by_cases hji : i = j
    · subst hji
      simp only [List.getElem?_set, ↓reduceIte, hil] at hj
      cases hj
      rw [hv] at hv'
      cases hv'
      exact .c (.fsl (by simp only [idx]; rw [← hm]; exact hlast) hmc)
    · simp only [List.getElem?_set, hji, ↓reduceIte] at hj
      have hxlo : x.lo ext.length l1.length := As_lo_get (i := j) hlo (by simp only [List.getElem?_set, hji, ↓reduceIte]; exact hj)
      refine RA_ren hsafe hi (hs.slots j x v' hj hv') x ?_ hxlo
      rw [A.ren_range hxlo]
  · refine ⟨hx.os, hx.tape, hx.output, hx.size, fun c o hso => ?_, fun c hc hk' => ?_, fun j k hjk => ?_⟩
    · obtain ⟨p, q⟩ := hx.safe c o hso
      exact ⟨(hsafe c o p).1, q⟩
    · obtain ⟨p, q⟩ := hx.block c hc hk'
      exact ⟨p, fun k hk2 hat => by
        obtain ⟨k0, h1, h2⟩ := hown k hk2 c hat
        exact q k0 h1 h2⟩
    · obtain ⟨k', p, q⟩ := hx.ev j k hjk
      have hlt : j < ext.length := by have := (List.getElem?_eq_some_iff.1 hjk).1; simp only at hl₀; omega
      exact ⟨k', by rw [hget j (by omega)]; exact p, q⟩
end Go.AM
