/-
  The abstract machine: several parts of it in one text.
  Conditions: none.
-/
import Derived.Test.YtbblefjbgbocoaaGreatDoorAbsI
import Derived.Test.YtbblefjbgbocoaaGreatDoorAbsH
import Derived.Lib.LaidTab
import Derived.Sort.Grow
import Derived.Deep.Draws
/-
  Own objects are dropped or put in another order; functions that hand out objects of their own.
  Conditions: none.
-/
namespace Go.AM
set_option linter.unusedVariables false
set_option linter.unusedSimpArgs false

def Ref.ren (ks : List Nat) : Ref → Ref
  | .e b => .e b
  | .l j => .l (ks.getD j 0)
def C.ren (ks : List Nat) : C → C
  | .ptr r off => .ptr (r.ren ks) off
  | .own r pos rows => .own (r.ren ks) pos rows
  | .fsl r len sz => .fsl (r.ren ks) len sz
  | .psl r lo m sz => .psl (r.ren ks) lo m sz
  | .rel r i off => .rel (r.ren ks) i off
  | .map r => .map (r.ren ks)
  | .fn f caps => .fn f (caps.map fun x => (x.1.ren ks, x.2))
  | c => c
mutual
def A.ren (ks : List Nat) : A → A
  | .u => .u
  | .c x => .c (x.ren ks)
  | .agg cs => .agg (cs.map (C.ren ks))
  | .tup vs => .tup (A.rens ks vs)
  | .gd g x => .gd g (x.ren ks)
def A.rens (ks : List Nat) : List A → List A
  | [] => []
  | a :: l => a.ren ks :: A.rens ks l
end
def Ob.ren (ks : List Nat) : Ob → Ob
  | .cells cs => .cells (cs.map (C.ren ks))
  | o => o

/-- references lie where they belong: strictly -/
def Ref.lo (n m : Nat) : Ref → Prop
  | .e b => b < n
  | .l i => i < m
def C.lo (n m : Nat) : C → Prop
  | .ptr r _ => r.lo n m
  | .own r _ _ => r.lo n m
  | .fsl r _ _ => r.lo n m
  | .psl r _ _ _ => r.lo n m
  | .rel r _ _ => r.lo n m
  | .map r => r.lo n m
  | .fn _ caps => ∀ x ∈ caps, x.1.lo n m
  | _ => True
def Cs.lo (n m : Nat) : List C → Prop
  | [] => True
  | c :: l => c.lo n m ∧ Cs.lo n m l
mutual
def A.lo (n m : Nat) : A → Prop
  | .u => True
  | .c x => x.lo n m
  | .agg cs => Cs.lo n m cs
  | .tup vs => As.lo n m vs
  | .gd g x => x.lo n m
def As.lo (n m : Nat) : List A → Prop
  | [] => True
  | a :: l => a.lo n m ∧ As.lo n m l
end
def Ob.lo (n m : Nat) : Ob → Prop
  | .cells cs => Cs.lo n m cs
  | _ => True
def Obs.lo (n m : Nat) : List Ob → Prop
  | [] => True
  | o :: l => o.lo n m ∧ Obs.lo n m l

theorem rens_map (ks : List Nat) (as : List A) : A.rens ks as = as.map (A.ren ks) := by
  induction as with
  | nil => rfl
  | cons a l ih => simp only [A.rens, ih, List.map_cons]

section
variable {w : World} {ι ι' : List K} {n q : Nat} {ks : List Nat}

theorem Cs_lo_get {m : Nat} : ∀ {cs : List C} {i : Nat} {c : C}, Cs.lo n m cs → cs[i]? = some c → c.lo n m
  | c' :: l, 0, c, h, hi => by simp at hi; subst hi; exact h.1
  | c' :: l, i + 1, c, h, hi => Cs_lo_get h.2 (by simpa using hi)
theorem Obs_lo_get {m : Nat} : ∀ {H : Heap} {i : Nat} {o : Ob}, Obs.lo n m H → H[i]? = some o → o.lo n m
  | x :: l, 0, o, h, hi => by simp at hi; subst hi; exact h.1
  | x :: l, i + 1, o, h, hi => Obs_lo_get h.2 (by simpa using hi)

theorem RC_ren (hs : ∀ b o, Safe w ι b o → Safe w ι' b o ∧ w.cell? ⟨b, o, none⟩ = w.cell? ⟨b, o, none⟩) (hi : ∀ (r : Ref) k, r.lo n q → ι[idx n (r.ren ks)]? = some k → ι'[idx n r]? = some k)
    {c : C} {v : Value} (hf : c.lo n q) (h : RC w ι n (c.ren ks) v) : RC w ι' n c v := by
  cases c with
  | d x => cases h with | d h => exact .d (h.mono hs)
  | ptr r o => cases h with | ptr h => exact .ptr (hi _ _ hf h)
  | el row o => cases h with | el h => exact .el (h.mono hs)
  | own r p rows => cases h with | own h1 h2 => obtain ⟨a, b, h3, h4⟩ := h2; exact .own (h1.mono hs) ⟨a, b, hi _ _ hf h3, h4⟩
  | full rows => cases h with | full h => exact .full (h.mono hs)
  | fsl r l s => cases h with | fsl h h' => exact .fsl (hi _ _ hf h) h'
  | psl r l m s => cases h with | psl h h1 h2 h3 => exact .psl (hi _ _ hf h) h1 h2 h3
  | rel r i o => cases h with | rel h => exact .rel (hi _ _ hf h)
  | map r => cases h with | map h => exact .map (hi _ _ hf h)
  | fn f caps =>
    cases h with
    | fn h1 h2 =>
      refine .fn (by simpa using h1) fun i r o hio => ?_
      obtain ⟨b, h3, h4⟩ := h2 i (r.ren ks) o (by simp [hio])
      exact ⟨b, hi _ _ (hf (r, o) (List.mem_of_getElem? hio)) h3, h4⟩
  | u => cases h with | u h => exact .u h

theorem As_lo_get {m : Nat} : ∀ {l : List A} {i : Nat} {a : A}, As.lo n m l → l[i]? = some a → a.lo n m
  | x :: l, 0, a, h, hi => by simp at hi; subst hi; exact h.1
  | x :: l, i + 1, a, h, hi => As_lo_get h.2 (by simpa using hi)

theorem RA_ren (hs : ∀ b o, Safe w ι b o → Safe w ι' b o ∧ w.cell? ⟨b, o, none⟩ = w.cell? ⟨b, o, none⟩) (hi : ∀ (r : Ref) k, r.lo n q → ι[idx n (r.ren ks)]? = some k → ι'[idx n r]? = some k)
    {a' : A} {v : Value} (h : RA w ι n a' v) : ∀ a : A, a' = a.ren ks → a.lo n q → RA w ι' n a v := by
  induction h with
  | u => intro a e _; cases a <;> simp [A.ren] at e; exact .u
  | c h1 => intro a e hf; cases a <;> simp [A.ren] at e; subst e; exact .c (RC_ren hs hi hf h1)
  | agg h1 =>
    intro a e hf
    cases a <;> simp [A.ren] at e
    subst e
    refine .agg ⟨by simpa using h1.1, fun i c v hc hv => ?_⟩
    exact RC_ren hs hi (Cs_lo_get hf hc) (h1.2 i (c.ren ks) v (by simp [hc]) hv)
  | tup h1 h2 ih =>
    intro a e hf
    cases a <;> simp [A.ren] at e
    rename_i l
    subst e
    rw [rens_map] at h1 h2 ih
    refine .tup (by simpa using h1) fun i x y hx hy => ih i (x.ren ks) y (by simp [hx]) hy x rfl (As_lo_get hf hx)
  | gd h1 h2 ih =>
    intro a e hf
    cases a <;> simp [A.ren] at e
    obtain ⟨rfl, rfl⟩ := e
    exact .gd (fun g => ih g _ rfl hf) h2

theorem RO_ren (hs : ∀ b o, Safe w ι b o → Safe w ι' b o ∧ w.cell? ⟨b, o, none⟩ = w.cell? ⟨b, o, none⟩) (hi : ∀ (r : Ref) k, r.lo n q → ι[idx n (r.ren ks)]? = some k → ι'[idx n r]? = some k)
    {o : Ob} {k : K} (hf : o.lo n q) (h : RO w ι n (o.ren ks) k) : RO w ι' n o k := by
  match o, k, h with
  | .cells cs, .blk b, ⟨vs, el, h1, h2⟩ => exact ⟨vs, el, h1, by simpa using h2.1, fun i c v hc hv => RC_ren hs hi (Cs_lo_get hf hc) (h2.2 i (c.ren ks) v (by simp [hc]) hv)⟩
  | .rows rs, .rows b sz _, ⟨vs, el, h1, h2, h3, h4⟩ => exact ⟨vs, el, h1, h2, h3, fun i r hi => ⟨(h4 i r hi).1, fun j x hj => let ⟨y, p, q⟩ := (h4 i r hi).2 j x hj; ⟨y, p, q.mono hs⟩⟩⟩
  | .grow p s, .grow q none, h => exact h
  | .grow p s, .grow q (some _), h => exact h
  | .map m, .blk b, ⟨es, clock, h1, h2, h3, h4⟩ =>
    refine ⟨es, clock, h1, h2, h3, fun i k row e hi he => ?_⟩
    obtain ⟨a1, a2, a3⟩ := h4 i k row e hi he
    refine ⟨a1, a2, ?_⟩
    rcases a3 with ⟨x, v, p, q, r⟩ | ⟨vs, p, q, r⟩
    · exact .inl ⟨x, v, p, q, r.mono hs⟩
    · exact .inr ⟨vs, p, q, fun j x y a b => (r j x y a b).mono hs⟩
  | .tree v d, .tree B, h => exact h
  | .tab g o, .grow q (some _), h => exact h
  | .dead, k, _ => cases k <;> trivial

theorem ren_id {c : C} (hf : c.fits n 0) : c.ren ks = c := by
  have hr : ∀ r : Ref, r.fits n 0 → r.ren ks = r := fun r h => by
    cases r with
    | e b => rfl
    | l i => exact absurd h (Nat.not_lt_zero i)
  cases c with
  | ptr r o => simp only [C.ren, hr _ hf]
  | own r p rows => simp only [C.ren, hr _ hf]
  | fsl r l s => simp only [C.ren, hr _ hf]
  | psl r l m s => simp only [C.ren, hr _ hf]
  | rel r i o => simp only [C.ren, hr _ hf]
  | map r => simp only [C.ren, hr _ hf]
  | fn f caps =>
    simp only [C.ren, C.fn.injEq, true_and]
    conv => rhs; rw [← List.map_id caps]
    exact List.map_congr_left fun x hx => by simp [hr x.1 (hf x hx)]
  | _ => rfl

theorem lo_of_fits {m : Nat} {c : C} (hf : c.fits n 0) : c.lo n m := by
  have hr : ∀ r : Ref, r.fits n 0 → r.lo n m := fun r h => by
    cases r with
    | e b => exact h
    | l i => exact absurd h (Nat.not_lt_zero i)
  cases c with
  | ptr r o => exact hr _ hf
  | own r p rows => exact hr _ hf
  | fsl r l s => exact hr _ hf
  | psl r l m s => exact hr _ hf
  | rel r i o => exact hr _ hf
  | map r => exact hr _ hf
  | fn f caps => exact fun x hx => hr _ (hf x hx)
  | _ => trivial

theorem Ob_ren_id {o : Ob} (hf : o.fits n 0) : o.ren ks = o := by
  cases o with
  | cells cs =>
    simp only [Ob.ren, Ob.cells.injEq]
    conv => rhs; rw [← List.map_id cs]
    refine List.map_congr_left fun c hc => ?_
    obtain ⟨i, hi⟩ := List.mem_iff_getElem?.1 hc
    simpa using ren_id (ks := ks) (Cs_fits_get hf hi)
  | _ => rfl

theorem Cs_lo_of {m : Nat} : ∀ {cs : List C}, (∀ c ∈ cs, c.lo n m) → Cs.lo n m cs
  | [], _ => trivial
  | c :: l, h => ⟨h c (by simp), Cs_lo_of fun x hx => h x (by simp [hx])⟩

theorem Ob_lo_of_fits {m : Nat} {o : Ob} (hf : o.fits n 0) : o.lo n m := by
  cases o with
  | cells cs =>
    refine Cs_lo_of fun c hc => ?_
    obtain ⟨i, hi⟩ := List.mem_iff_getElem?.1 hc
    exact lo_of_fits (Cs_fits_get hf hi)
  | _ => trivial
end

/-- slots told by less -/
def SlR (ks : List Nat) : List A → List A → Prop
  | [], [] => True
  | a :: l, b :: r => A.le a (b.ren ks) ∧ SlR ks l r
  | _, _ => False

theorem SlR_get {ks : List Nat} : ∀ {l r : List A}, SlR ks l r → l.length = r.length ∧ ∀ (i : Nat) b, r[i]? = some b → ∃ a, l[i]? = some a ∧ A.le a (b.ren ks)
  | [], [], _ => ⟨rfl, fun i b h => by simp at h⟩
  | a :: l, b :: r, ⟨h1, h2⟩ => by
    obtain ⟨h3, h4⟩ := SlR_get h2
    refine ⟨by simp [h3], fun i c hc => ?_⟩
    match i with
    | 0 => simp at hc; subst hc; exact ⟨a, rfl, h1⟩
    | i + 1 => exact h4 i c (by simpa using hc)

/-- own objects are dropped or put in another order: ks tells where each object that is kept stood -/
theorem St.le_keep {sl sl' : List A} {ext loc loc' : Heap} (ks : List Nat) (hn : ks.Nodup) (hk : ∀ k ∈ ks, k < loc.length) (hl : loc'.length = ks.length) (hsl : SlR ks sl sl') (hfit : As.lo ext.length ks.length sl')
    (hob : ∀ (j : Nat) o, loc'[j]? = some o → ∃ o', loc[ks.getD j 0]? = some o' ∧ Ob.le o' (o.ren ks)) (hobf : Obs.lo ext.length ks.length loc') : St.le ⟨sl, ext, loc⟩ ⟨sl', ext, loc'⟩ := by
  obtain ⟨h1, h2⟩ := SlR_get hsl
  refine ⟨rfl, fun w ι a hs => ?_⟩
  have hlen : ι.length = ext.length + loc.length := by simpa using hs.sim.len
  let ι' : List K := ι.take ext.length ++ ks.map fun k => ι.getD (ext.length + k) .x
  have hι'l : ι'.length = ext.length + ks.length := by simp [ι', hlen]
  have hget : ∀ (j : Nat), j < ks.length → ι'[ext.length + j]? = ι[ext.length + ks.getD j 0]? := fun j hj => by
    have hj' : ks.getD j 0 < loc.length := hk _ (by rw [List.getD, List.getElem?_eq_getElem hj]; simp)
    simp only [ι']
    rw [List.getElem?_append_right (by simp [hlen])]
    simp only [List.length_take, hlen]
    rw [show ext.length + j - min ext.length (ext.length + loc.length) = j by omega, List.getElem?_map, List.getElem?_eq_getElem hj]
    simp only [List.getD, List.getElem?_eq_getElem hj, Option.getD_some, Option.map_some] at hj' ⊢
    rw [List.getElem?_eq_getElem (by omega)]
    rfl
  have hgete : ∀ (b : Nat), b < ext.length → ι'[b]? = ι[b]? := fun b hb => by
    simp only [ι']
    rw [List.getElem?_append_left (by simp [hlen]; omega), List.getElem?_take, if_pos hb]
  have hmem : ∀ k ∈ ι', k ∈ ι ∨ k = .x := fun k hk' => by
    simp only [ι', List.mem_append, List.mem_map] at hk'
    rcases hk' with h | ⟨j, hj, rfl⟩
    · exact .inl (List.mem_of_mem_take h)
    · have : ext.length + j < ι.length := by rw [hlen]; have := hk j hj; omega
      rw [List.getD, List.getElem?_eq_getElem this]
      exact .inl (List.getElem_mem this)
  have hsafe : ∀ b o, Safe w ι b o → Safe w ι' b o ∧ w.cell? ⟨b, o, none⟩ = w.cell? ⟨b, o, none⟩ := fun b o h => ⟨⟨h.1, fun k hk' => by
    rcases hmem k hk' with h' | rfl
    · exact h.2 k h'
    · exact fun h => h.elim⟩, rfl⟩
  have hi : ∀ (r : Ref) k, r.lo ext.length ks.length → ι[idx ext.length (r.ren ks)]? = some k → ι'[idx ext.length r]? = some k := fun r k hf h => by
    cases r with
    | e b =>
      simp only [idx, Ref.ren, Ref.lo] at h hf ⊢
      rw [hgete b hf]; exact h
    | l j =>
      simp only [idx, Ref.ren, Ref.lo] at h hf ⊢
      rw [hget j hf]; exact h
  have hold : ∀ (i : Nat) o, (ext ++ loc')[i]? = some o → ∃ i' o', (ext ++ loc)[i']? = some o' ∧ Ob.le o' (o.ren ks) ∧ o.lo ext.length ks.length ∧ ι'[i]? = ι[i']? ∧ i < ext.length + ks.length ∧ i' = (if i < ext.length then i else ext.length + ks.getD (i - ext.length) 0) := fun i o ho => by
    rcases Nat.lt_or_ge i ext.length with hlt | hge
    · rw [List.getElem?_append_left hlt] at ho
      have hfo := Obs_fits_get hs.fit ho
      exact ⟨i, o, by rw [List.getElem?_append_left hlt]; exact ho, by rw [Ob_ren_id hfo]; exact .refl o, Ob_lo_of_fits hfo, hgete i hlt, by omega, by rw [if_pos hlt]⟩
    · rw [List.getElem?_append_right hge] at ho
      have hjl : i - ext.length < ks.length := by rw [← hl]; exact (List.getElem?_eq_some_iff.1 ho).1
      obtain ⟨o', h3, h4⟩ := hob _ o ho
      have h5 := hget _ hjl
      rw [show ext.length + (i - ext.length) = i by omega] at h5
      refine ⟨_, o', ?_, h4, Obs_lo_get hobf ho, h5, by omega, by rw [if_neg (by omega)]⟩
      rw [List.getElem?_append_right (by omega), show ext.length + ks.getD (i - ext.length) 0 - ext.length = ks.getD (i - ext.length) 0 by omega]
      exact h3
  have hinj : ∀ i j, i < ext.length + ks.length → j < ext.length + ks.length → (if i < ext.length then i else ext.length + ks.getD (i - ext.length) 0) = (if j < ext.length then j else ext.length + ks.getD (j - ext.length) 0) → i = j := fun i j hi hj h => by
    split at h <;> split at h
    · exact h
    · omega
    · omega
    · have h6 : ks.getD (i - ext.length) 0 = ks.getD (j - ext.length) 0 := by omega
      simp only [List.getD, List.getElem?_eq_getElem (show i - ext.length < ks.length by omega), List.getElem?_eq_getElem (show j - ext.length < ks.length by omega), Option.getD_some] at h6
      have := (List.getElem_inj hn).1 h6
      omega
  have hback : ∀ (i : Nat) k, ι'[i]? = some k → ∃ i', ι[i']? = some k ∧ i < ext.length + ks.length ∧ i' = (if i < ext.length then i else ext.length + ks.getD (i - ext.length) 0) := fun i k hik => by
    have hil : i < ext.length + ks.length := by rw [← hι'l]; exact (List.getElem?_eq_some_iff.1 hik).1
    rcases Nat.lt_or_ge i ext.length with hlt | hge
    · exact ⟨i, by rw [← hgete i hlt]; exact hik, hil, by rw [if_pos hlt]⟩
    · have h5 := hget (i - ext.length) (by omega)
      rw [show ext.length + (i - ext.length) = i by omega] at h5
      exact ⟨_, by rw [← h5]; exact hik, hil, by rw [if_neg (by omega)]⟩
  refine ⟨ι', ⟨⟨?_, ?_, ?_, ?_⟩, ?_, ?_, hs.fit, hs.defers⟩, ?_⟩
  · rw [hι'l]; simp [hl]
  · intro i o k ho hik
    obtain ⟨i', o', h3, h4, h5, h6, _, _⟩ := hold i o ho
    rw [h6] at hik
    have h7 := hs.sim.obj i' o' k h3 hik
    refine RO_ren hsafe hi h5 ?_
    generalize o.ren ks = o2 at h4 ⊢
    exact Ob.le_RO h4 h7
  · intro i j k k' b hik hjk hb hb'
    obtain ⟨i', h3, h4, h5⟩ := hback i k hik
    obtain ⟨j', h6, h7, h8⟩ := hback j k' hjk
    have := hs.sim.apart i' j' k k' b h3 h6 hb hb'
    exact hinj i j h4 h7 (by rw [← h5, ← h8]; exact this)
  · intro k b hk' hb
    rcases hmem k hk' with h' | rfl
    · exact hs.sim.low k b h' hb
    · exact hb.elim
  · rw [hs.size]; exact h1
  · intro i x v hix hiv
    obtain ⟨y, h3, h4⟩ := h2 i x hix
    exact RA_ren hsafe hi (A.le_RA h4 (hs.slots i y v h3 hiv)) x rfl (As_lo_get hfit hix)
  · intro w₀ ι₀ hl₀ hx
    refine ⟨hx.os, hx.tape, hx.output, hx.size, fun b o hso => ?_, fun b hb hk' => ?_, fun i k hik => ?_⟩
    · obtain ⟨p, q⟩ := hx.safe b o hso
      exact ⟨(hsafe b o p).1, q⟩
    · obtain ⟨p, q⟩ := hx.block b hb hk'
      refine ⟨p, fun k hk2 => ?_⟩
      rcases hmem k hk2 with h' | rfl
      · exact q k h'
      · exact fun h => h.elim
    · obtain ⟨k', p, q⟩ := hx.ev i k hik
      have hlt : i < ext.length := by have := (List.getElem?_eq_some_iff.1 hik).1; simp only at hl₀; omega
      exact ⟨k', by rw [hgete i hlt]; exact p, q⟩

theorem Ref.ren_range {n k : Nat} {r : Ref} (h : r.lo n k) : r.ren (List.range k) = r := by
  cases r with
  | e b => rfl
  | l i => simp only [Ref.lo] at h; simp [Ref.ren, List.getD, List.getElem?_range h]
theorem C.ren_range {n k : Nat} {c : C} (h : c.lo n k) : c.ren (List.range k) = c := by
  cases c with
  | ptr r o => simp only [C.ren, Ref.ren_range h]
  | own r p rows => simp only [C.ren, Ref.ren_range h]
  | fsl r l s => simp only [C.ren, Ref.ren_range h]
  | psl r l m s => simp only [C.ren, Ref.ren_range h]
  | rel r i o => simp only [C.ren, Ref.ren_range h]
  | map r => simp only [C.ren, Ref.ren_range h]
  | fn f caps =>
    simp only [C.ren, C.fn.injEq, true_and]
    conv => rhs; rw [← List.map_id caps]
    exact List.map_congr_left fun x hx => by simp [Ref.ren_range (h x hx)]
  | _ => rfl
theorem Cs.ren_range {n k : Nat} : ∀ {cs : List C}, Cs.lo n k cs → cs.map (C.ren (List.range k)) = cs
  | [], _ => rfl
  | c :: l, h => by simp only [List.map_cons, C.ren_range h.1, Cs.ren_range h.2]
mutual
theorem A.ren_range {n k : Nat} : ∀ {a : A}, a.lo n k → a.ren (List.range k) = a
  | .u, _ => rfl
  | .c x, h => by simp only [A.ren, C.ren_range (c := x) h]
  | .agg cs, h => by simp only [A.ren, Cs.ren_range (cs := cs) h]
  | .tup vs, h => by simp only [A.ren, As.ren_range (l := vs) h]
  | .gd g x, h => by simp only [A.ren, A.ren_range (a := x) h]
theorem As.ren_range {n k : Nat} : ∀ {l : List A}, As.lo n k l → A.rens (List.range k) l = l
  | [], _ => rfl
  | a :: l, h => by simp only [A.rens, A.ren_range (a := a) h.1, As.ren_range (l := l) h.2]
end
theorem Ob.ren_range {n k : Nat} {o : Ob} (h : o.lo n k) : o.ren (List.range k) = o := by
  cases o with
  | cells cs => simp only [Ob.ren, Cs.ren_range (cs := cs) h]
  | _ => rfl

theorem SlR_of {n k : Nat} : ∀ {sl sl' : List A}, Sl.le sl sl' → As.lo n k sl' → SlR (List.range k) sl sl'
  | [], [], _, _ => trivial
  | a :: l, b :: r, h, hlo => ⟨by rw [A.ren_range hlo.1]; exact h.1, SlR_of h.2 hlo.2⟩

/-- the objects behind the first ones are dropped -/
theorem St.le_cut {sl sl' : List A} {ext loc loc' : Heap} (x : Heap) (h : Sl.le sl sl') (hlo : As.lo ext.length loc'.length sl') (hloc : loc = loc' ++ x) (hob : Obs.lo ext.length loc'.length loc') : St.le ⟨sl, ext, loc⟩ ⟨sl', ext, loc'⟩ := by
  subst hloc
  refine St.le_keep (List.range loc'.length) List.nodup_range (fun k hk => by simp at hk ⊢; omega) (by simp) (SlR_of h hlo) (by simpa using hlo) (fun j o ho => ?_) (by simpa using hob)
  have hj : j < loc'.length := (List.getElem?_eq_some_iff.1 ho).1
  refine ⟨o, ?_, by rw [Ob.ren_range (Obs_lo_get hob ho)]; exact .refl o⟩
  simp only [List.getD, List.getElem?_range hj, Option.getD_some]
  rw [List.getElem?_append_left hj]; exact ho

theorem A.le_refl_iff {a : A} : A.le a a ↔ True := iff_true_intro (.refl a)
theorem A.le_u_iff {a : A} : A.le a .u ↔ True := iff_true_intro (.u a)

theorem fits_reset {n m : Nat} : ∀ {H : Heap} {i : Nat} {a b : Ob}, Obs.fits n m (H.set i a) → b.fits n m → Obs.fits n m (H.set i b)
  | [], _, _, _, _, _ => trivial
  | o :: l, 0, a, b, h, hb => ⟨hb, h.2⟩
  | o :: l, i + 1, a, b, h, hb => ⟨h.1, fits_reset (H := l) (i := i) (a := a) h.2 hb⟩
theorem fits_append {n m : Nat} : ∀ {H H' : Heap}, Obs.fits n m H → Obs.fits n m H' → Obs.fits n m (H ++ H')
  | [], _, _, h => h
  | o :: l, _, h, h' => ⟨h.1, fits_append (H := l) h.2 h'⟩

theorem allLen_nil_iff {n : Nat} : allLen n [] ↔ True := iff_true_intro fun r h => by cases h
theorem allLen_cons_iff {n : Nat} {r : List D} {l : List (List D)} : allLen n (r :: l) ↔ r.length = n ∧ allLen n l := by simp [allLen]
theorem allLen_append_iff {n : Nat} {l l' : List (List D)} : allLen n (l ++ l') ↔ allLen n l ∧ allLen n l' := by
  simp only [allLen, List.mem_append]
  exact ⟨fun h => ⟨fun r hr => h r (.inl hr), fun r hr => h r (.inr hr)⟩, fun ⟨h1, h2⟩ r hr => hr.elim (h1 r) (h2 r)⟩
theorem allLen_map {α : Type} {n : Nat} {f : α → List D} {l : List α} (h : ∀ x, (f x).length = n) : allLen n (l.map f) := fun r hr => by
  obtain ⟨x, _, rfl⟩ := List.mem_map.1 hr
  exact h x

theorem row_off {rows : List (List D)} {i : Int} {sz : Nat} {K : A → St → Prop} {st : St} (row : List D) (hk : K (.c (.el row 0)) st) : RowK false rows i sz K st :=
  ⟨fun h => (by cases h), row, fun h => (by cases h), hk⟩

/-- a nil slice is taken as an owned one with nothing in it -/
theorem St.le_token {sl : List A} {ext loc : Heap} (i sz : Nat) (h : sl[i]? = some (.c (.full []))) : St.le ⟨sl, ext, loc⟩ ⟨sl.set i (.c (.own (.l loc.length) 0 [])), ext, loc ++ [.grow 0 sz]⟩ := by
  refine ⟨rfl, fun w ι a hs => ⟨ι ++ [.grow 0 none], ?_, fun w₀ ι₀ _ hx => hx.trans ((Ext.refl w ι).push (k := .grow 0 none) (fun b hb => hb.elim))⟩⟩
  have hx : Ext w ι w (ι ++ [.grow 0 none]) := (Ext.refl w ι).push (fun b hb => hb.elim)
  have h1 := hs.push (k := .grow 0 none) (o := .grow 0 sz) (Ext.refl w ι) (fun _ _ => rfl) (fun b hb => hb.elim) rfl
  refine ⟨h1.sim, by rw [hs.size]; simp, fun j x v hj hv => ?_, h1.fit, h1.defers⟩
  simp only [List.getElem?_set] at hj
  split at hj
  · rename_i hij
    subst hij
    split at hj
    · cases hj
      have := hs.slots i _ v h hv
      cases this with
      | c hc =>
        cases hc with
        | @full _ ad len hd =>
          have hlen : len = 0 := by
            rcases RD.sl_iff.1 hd with ⟨_, h, _⟩ | ⟨_, _, _, _, h, _⟩
            · exact h
            · simpa using h
          subst hlen
          refine .c (.own (.nil _) ⟨0, none, hs.newIdx _, Nat.le_refl _, fun _ => by cases ad <;> simp [Cur]⟩)
    · cases hj
  · exact (hs.slots j x v hj hv).mono hx

/-- a loop is entered with less -/
theorem loop_enter {P : Program} {F : Ex → St → Prop} {fs : List Fr} {c : Cd} {st st' : St} (h : St.le st st') (h' : aw P (.loop c) (kq P F fs) st') : aw P (.loop c) (kq P F fs) st := by
  obtain ⟨I, m, s, h1, h2, h3⟩ := h'
  exact ⟨I, m, s, St.le_trans h h1, h2, h3⟩

/-! ### functions that hand out own objects -/

def resRawOne (st : St) : Rv → Option A
  | .tmp t => some (st.sl.getD t .u).val
  | .cell t n => match (st.sl.getD t .u).val with
    | .c p => y_ st n p
    | _ => none
def resRaws (st : St) : List Rv → Option (List A)
  | [] => some []
  | r :: l => match resRawOne st r, resRaws st l with
    | some a, some as => some (a :: as)
    | _, _ => none
def resRaw (st : St) (rs : List Rv) : Option A :=
  match resRaws st rs with
  | some [a] => some a
  | some as => some (.tup as)
  | none => none

/-- the end of a function: the own objects that are left are handed out -/
def FinK (rs : List Rv) (Q : A → Heap → Prop) : Ex → St → Prop
  | .exit _, _ => False
  | _, st => ∃ st', St.le st st' ∧ r_ st' rs ∧ ∃ r, resRaw st' rs = some r ∧ Q (r.re st'.ext.length) (st'.ext ++ st'.loc.map (Ob.re st'.ext.length))

theorem finK_ret {rs : List Rv} {Q : A → Heap → Prop} {st : St} (r : A) (hok : r_ st rs) (hr : resRaw st rs = some r) (hq : Q (r.re st.ext.length) (st.ext ++ st.loc.map (Ob.re st.ext.length))) : FinK rs Q .ret st :=
  ⟨st, St.le_refl _, hok, r, hr, hq⟩

theorem resRawOne_ra {P : Program} {w : World} {ι : List K} {st : St} {a : Act} (hs : SimSt w ι st a) {rv : ResultVar} {r : Rv} {x : A} (hc : cRv P rv = some r) (hok : s_ st r) (hr : resRawOne st r = some x) :
    ∃ v, (oneRv a.tmps rv).run P w = .ok v w ∧ RA w ι st.ext.length x v := by
  cases rv with
  | tmp t =>
    simp only [cRv, Option.some.injEq] at hc
    subst hc
    simp only [resRawOne, Option.some.injEq] at hr
    subst hr
    exact ⟨_, rfl, (hs.eval t).val hok⟩
  | cell b t =>
    simp only [cRv, Option.map_eq_some_iff] at hc
    obtain ⟨n, h1, rfl⟩ := hc
    simp only [resRawOne] at hr
    split at hr
    · rename_i p hp
      have hv := (hs.eval b).val hok
      rw [hp] at hv
      obtain ⟨ad, z, h3, h4, h5⟩ := load_ra (P := P) h1 hs hv.c_inv hr
      have h3' : a.tmps.getD b undef = .pointer (some ad) := h3
      exact ⟨z, by simp [oneRv, h3', asAddr, h4], h5⟩
    · cases hr

theorem resRaws_ra {P : Program} {w : World} {ι : List K} {st : St} {a : Act} (hs : SimSt w ι st a) : ∀ {l : List ResultVar} {rs : List Rv} {xs : List A}, cRvs P l = some rs → r_ st rs → resRaws st rs = some xs →
    ∃ vs : List Value, (l.mapM (oneRv a.tmps)).run P w = .ok vs w ∧ vs.length = xs.length ∧
      ∀ (i : Nat) x v, xs[i]? = some x → vs[i]? = some v → RA w ι st.ext.length x v
  | [], rs, xs, hc, _, hr => by
    simp [cRvs] at hc
    subst hc
    simp [resRaws] at hr
    subst hr
    exact ⟨[], by simp, rfl, fun i x v h => by simp at h⟩
  | rv :: l, rs, xs, hc, hok, hr => by
    simp only [cRvs] at hc
    split at hc
    · rename_i r rs' h1 h2
      cases hc
      simp only [r_] at hok
      simp only [resRaws] at hr
      split at hr
      · rename_i x xs' h3 h4
        cases hr
        obtain ⟨v, h5, h6⟩ := resRawOne_ra (P := P) hs h1 hok.1 h3
        obtain ⟨vs, h7, h8, h9⟩ := resRaws_ra hs h2 hok.2 h4
        refine ⟨v :: vs, ?_, by simp [h8], fun i y u hy hu => ?_⟩
        · simp only [List.mapM_cons, Sem.run_bind, h5, Result.andThen_ok, h7, Sem.run_pure]
        · cases i with
          | zero => simp at hy hu; subst hy; subst hu; exact h6
          | succ i => simp at hy hu; exact h9 i y u hy hu
      · cases hr
    · cases hc

/-- what is shown of the machine holds of the call: a function that hands out own objects -/
theorem acallsK {P : Program} {f : FuncId} {fn : Func} {d : Cd} {rs : List Rv} {n : Nat} {args : List A} {H : Heap} {Q : A → Heap → Prop} {toks : List FuncId} {kl : List (Nat × List Nat × List Nat)}
    (hf : P.funcs[f]? = some fn) (hname : nameOk fn = true) (hc : cFunc P toks kl fn = some (d, rs, n))
    (h : Obs.fits H.length 0 H → aw P d (kq P (FinK rs Q) []) ⟨args ++ List.replicate (n - args.length) .u, H, []⟩) : ACalls P f args H Q := by
  unfold cFunc at hc
  split at hc
  · rename_i c hb
    split at hc
    · rename_i d' rs' h1 h2
      cases hc
      refine acalls_of_run toks kl hf hb (by simpa [nameOk] using hname) h1 (FQ := FinK rs Q) (fun i st h => h.elim) (fun e w ι w' ι' st a' he hq hs hx hn hsim => ?_) h
      have hq' : ∃ st', St.le st st' ∧ r_ st' rs ∧ ∃ r, resRaw st' rs = some r ∧ Q (r.re st'.ext.length) (st'.ext ++ st'.loc.map (Ob.re st'.ext.length)) := by
        rcases he with rfl | rfl
        · exact hq
        · exact hq
      obtain ⟨st', hle, hok, r, hr, hQ⟩ := hq'
      obtain ⟨ι2, hs2, hx2⟩ := hle.2 w' ι' a' hs
      have hx3 := hx2 w ι (by rw [hsim.len, hn]; exact Nat.le_refl _) hx
      refine ⟨hs2.defers, ?_⟩
      have hmap : ∀ vs : List Value, (fn.results.toList.mapM (oneRv a'.tmps)).run P w' = .ok vs w' →
          (results fn a'.tmps).run P w' = .ok (if h : vs.toArray.size = 1 then vs.toArray[0] else .tuple vs.toArray) w' := fun vs hvs => by
        rw [results_eq, Sem.run_bind, Array.mapM_eq_mapM_toList, Sem.run_map, hvs]
        rfl
      have hsim2 := hs2.sim.out hs2.fit (st'.ext ++ st'.loc.map (Ob.re st'.ext.length)).length
      have hlen : H.length ≤ (st'.ext ++ st'.loc.map (Ob.re st'.ext.length)).length := by
        have := hle.1
        simp; omega
      unfold resRaw at hr
      split at hr
      · rename_i x hx1
        cases hr
        obtain ⟨vs, h3, h4, h5⟩ := resRaws_ra (P := P) hs2 h2 hok hx1
        obtain ⟨v, rfl⟩ := List.length_eq_one_iff.1 h4
        exact ⟨v, by simpa using hmap _ h3, _, _, ι2, v, rfl, hQ, hsim2, RA_re_of (h5 0 r v rfl rfl), hx3, hlen⟩
      · rename_i xs hne hx1
        cases hr
        obtain ⟨vs, h3, h4, h5⟩ := resRaws_ra (P := P) hs2 h2 hok hx1
        have hn1 : ¬ vs.toArray.size = 1 := by
          intro e
          simp [h4] at e
          obtain ⟨y, rfl⟩ := List.length_eq_one_iff.1 e
          exact hne y rfl
        exact ⟨.tuple vs.toArray, by rw [hmap _ h3, dif_neg hn1], _, _, ι2, _, rfl, hQ, hsim2, RA_re_of (.tup h4 h5), hx3, hlen⟩
      · cases hr
    · cases hc
  · cases hc

end Go.AM

/-
  Slots of long lists are looked up and set eight at a time; data cells in rows.
  Conditions: none.
-/
namespace Go.AM
set_option linter.unusedVariables false
set_option linter.unusedSimpArgs false

section
variable {P : Program} {F : Ex → St → Prop} {fs : List Fr} {st : St}
theorem b_ {kill dst op rest g w} : awOps P (kq P F fs .normal) kill (⟨dst, op, some (g, w)⟩ :: rest) st =
    match f_ w (Opd.ev st.sl (.t g)) with
      | none => False
      | some G =>
        if op.total then c_ P st G (nx P F ⟨dst, some G, rest, kill, fs⟩) op
        else
          (G = true → c_ P ⟨st.sl.set g (p_ w (Opd.ev st.sl (.t g))), st.ext, st.loc⟩ true (nx P F ⟨dst, none, rest, kill, fs⟩) op) ∧
          (G = false → nx P F ⟨dst, none, rest, kill, fs⟩ .u ⟨st.sl.set g (p_ (!w) (Opd.ev st.sl (.t g))), st.ext, st.loc⟩) := rfl
end

theorem pure_d : C.pure ∘ C.d = C.d := rfl
theorem re_d {n : Nat} : C.re n ∘ C.d = C.d := rfl
theorem thaw_d {st : St} : C.thaw st ∘ C.d = C.d := rfl
theorem toDs_map {row : List D} : O_ (row.map C.d) = some row := by
  induction row with
  | nil => rfl
  | cons x l ih => simp [O_, C.toD, ih]
theorem fits_map {n m : Nat} {row : List D} : Cs.fits n m (row.map C.d) ↔ True := by
  induction row with
  | nil => exact Iff.rfl
  | cons x l ih => simp [Cs.fits, C.fits, ih]
theorem lo_map {n m : Nat} {row : List D} : Cs.lo n m (row.map C.d) ↔ True := by
  induction row with
  | nil => exact Iff.rfl
  | cons x l ih => simp [Cs.lo, C.lo, ih]
theorem spliceD_all {z row : List D} (h : z.length = row.length) : P_ z 0 row = row := by
  simp [P_, h]
theorem splice_all {z row : List C} (h : z.length = row.length) : D_ z 0 row = row := by
  simp [D_, h]
theorem cut_all {cs : List C} {n : Nat} (h : cs.length = n) : cut cs 0 (some n) = some (.agg cs) := by
  subst h
  simp [cut]

theorem callArgs_ptrs {n : Nat} {caps : List (Nat × Nat)} : w_ false n (ptrsOf (caps.map fun x => (Ref.e x.1, x.2))) = caps.map fun x => A.c (.ptr (.e x.1) x.2) := by
  induction caps with
  | nil => rfl
  | cons x l ih =>
    simp only [ptrsOf, List.map_cons, List.map_map] at ih ⊢
    simp only [w_, ih]
    rfl
theorem byte_off {s : List UInt8} {i : Int} {K : A → St → Prop} {st : St} (b : UInt8) (hk : K (.c (.d (.int .u8 b.toNat))) st) : ByteK false s i K st := ⟨b, fun h => (by cases h), hk⟩

/-- references lie where they belong whenever a function is called -/
theorem acalls_fits {P : Program} {f : FuncId} {fn : Func} {args : List A} {H : Heap} {Q : A → Heap → Prop} (hf : P.funcs[f]? = some fn) (hb : fn.body.isSome = true) (hname : nameOk fn = true) (h : Obs.fits H.length 0 H → ACalls P f args H Q) : ACalls P f args H Q :=
  ⟨⟨fn, hf, hb, by simpa [nameOk] using hname⟩, fun w ι cargs hsim => (h (sim_fits hsim)).2 w ι cargs hsim⟩

theorem Ref.fits_mono {n n' m : Nat} (h : n ≤ n') {r : Ref} (hr : r.fits n m) : r.fits n' m := by
  cases r with
  | e b => simp only [Ref.fits] at hr ⊢; omega
  | l i => exact hr
theorem C.fits_mono {n n' m : Nat} (h : n ≤ n') {c : C} (hc : c.fits n m) : c.fits n' m := by
  cases c with
  | ptr r o => exact Ref.fits_mono h hc
  | own r p rows => exact Ref.fits_mono h hc
  | fsl r l s => exact Ref.fits_mono h hc
  | psl r l m s => exact Ref.fits_mono h hc
  | rel r i o => exact Ref.fits_mono h hc
  | map r => exact Ref.fits_mono h hc
  | fn f caps => exact fun x hx => Ref.fits_mono h (hc x hx)
  | _ => trivial
theorem Cs.fits_mono {n n' m : Nat} (h : n ≤ n') : ∀ {cs : List C}, Cs.fits n m cs → Cs.fits n' m cs
  | [], _ => trivial
  | c :: l, hc => ⟨C.fits_mono h hc.1, Cs.fits_mono h hc.2⟩
theorem fits_mono {n n' m : Nat} (h : n ≤ n') : ∀ {H : Heap}, Obs.fits n m H → Obs.fits n' m H
  | [], _ => trivial
  | o :: l, ho => ⟨(by
      cases o with
      | cells cs => exact Cs.fits_mono h ho.1
      | _ => trivial), fits_mono h ho.2⟩

/-- the first of a list that a step takes, the steps' states handed on -/
def anyS {α σ : Type} (step : σ → α → Bool × σ) : List α → σ → Bool × σ
  | [], s => (false, s)
  | t :: l, s => if (step s t).1 = true then (true, (step s t).2) else anyS step l (step s t).2
theorem anyS_const {α : Type} (p : α → Bool) : ∀ (l : List α), anyS (fun (_ : Unit) t => (p t, ())) l () = (l.any p, ())
  | [] => rfl
  | t :: l => by
    simp only [anyS, List.any_cons]
    cases h : p t with
    | true => simp
    | false => simp [anyS_const p l]

/-- a nil slice in an own object is taken as an owned one with nothing in it -/
theorem St.le_tokenC {sl : List A} {ext loc : Heap} (j i sz : Nat) {cs : List C} (hj : loc[j]? = some (.cells cs)) (h : cs[i]? = some (.full [])) :
    St.le ⟨sl, ext, loc⟩ ⟨sl, ext, loc.set j (.cells (cs.set i (.own (.l loc.length) 0 []))) ++ [.grow 0 sz]⟩ := by
  refine ⟨rfl, fun w ι a hs => ⟨ι ++ [.grow 0 none], ?_, fun w₀ ι₀ _ hx => hx.trans ((Ext.refl w ι).push (k := .grow 0 none) (fun b hb => hb.elim))⟩⟩
  have hx : Ext w ι w (ι ++ [.grow 0 none]) := (Ext.refl w ι).push (fun b hb => hb.elim)
  have h1 := hs.push (k := .grow 0 none) (o := .grow 0 sz) (Ext.refl w ι) (fun _ _ => rfl) (fun b hb => hb.elim) rfl
  have hjl := (List.getElem?_eq_some_iff.1 hj).1
  refine ⟨⟨?_, fun x o k ho hk => ?_, h1.sim.apart, h1.sim.low⟩, h1.size, h1.slots, h1.fit, h1.defers⟩
  · have := h1.sim.len; simpa [A_] using this
  · have h2 := h1.sim.obj x
    change (ext ++ (loc.set j (.cells (cs.set i (.own (.l loc.length) 0 []))) ++ [Ob.grow 0 sz]))[x]? = some o at ho
    by_cases hxj : x = ext.length + j
    · subst hxj
      have ho' : o = .cells (cs.set i (.own (.l loc.length) 0 [])) := by
        rw [List.getElem?_append_right (by omega), Nat.add_sub_cancel_left, List.getElem?_append_left (by simpa using hjl), List.getElem?_set_self hjl] at ho
        exact (Option.some.inj ho).symm
      subst ho'
      have h3 := h2 (.cells cs) k (by
        show (ext ++ (loc ++ [Ob.grow 0 sz]))[ext.length + j]? = _
        rw [List.getElem?_append_right (by omega), Nat.add_sub_cancel_left, List.getElem?_append_left hjl]; exact hj) hk
      cases k with
      | blk b =>
        obtain ⟨vs, el, h4, h5, h6⟩ := h3
        refine ⟨vs, el, h4, by simpa using h5, fun y c v hc hv => ?_⟩
        simp only [List.getElem?_set] at hc
        split at hc
        · rename_i hiy
          subst hiy
          split at hc
          · cases hc
            have h7 := h6 i _ v h hv
            cases h7 with
            | @full _ ad len hd =>
              have hlen : len = 0 := by
                rcases RD.sl_iff.1 hd with ⟨_, h, _⟩ | ⟨_, _, _, _, h, _⟩
                · exact h
                · simpa using h
              subst hlen
              exact .own (.nil _) ⟨0, none, hs.newIdx _, Nat.le_refl _, fun _ => by cases ad <;> simp [Cur]⟩
          · cases hc
        · exact h6 y c v hc hv
      | _ => exact h3.elim
    · refine h2 o k ?_ hk
      show (ext ++ (loc ++ [Ob.grow 0 sz]))[x]? = some o
      rcases Nat.lt_or_ge x ext.length with hlt | hge
      · rw [List.getElem?_append_left hlt] at ho ⊢; exact ho
      · rw [List.getElem?_append_right hge] at ho ⊢
        rcases Nat.lt_or_ge (x - ext.length) loc.length with h8 | h8
        · rw [List.getElem?_append_left (by simpa using h8), List.getElem?_set_ne (by omega)] at ho
          rw [List.getElem?_append_left h8]; exact ho
        · rw [List.getElem?_append_right (by simpa using h8)] at ho
          rw [List.getElem?_append_right h8]; simpa using ho

end Go.AM

/-
  Trees of slices that own their arrays: how they are read, put together and taken apart.
  Conditions: none.
-/
namespace Go.AM
set_option linter.unusedVariables false
set_option linter.unusedSimpArgs false

theorem flatten_get {rows : List (List D)} {sz : Nat} (h : ∀ r ∈ rows, r.length = sz) {i j : Nat} {r : List D} {x : D} (hi : rows[i]? = some r) (hj : r[j]? = some x) : rows.flatten[i * sz + j]? = some x := by
  induction rows generalizing i with
  | nil => simp at hi
  | cons a l ih =>
    have ha : a.length = sz := h a (by simp)
    cases i with
    | zero =>
      simp at hi; subst hi
      rw [List.flatten_cons, Nat.zero_mul, Nat.zero_add, List.getElem?_append_left (List.getElem?_eq_some_iff.1 hj).1]; exact hj
    | succ i =>
      rw [List.flatten_cons, List.getElem?_append_right (by rw [ha, Nat.succ_mul]; omega)]
      have := ih (fun r hr => h r (by simp [hr])) (i := i) (by simpa using hi)
      rw [← this]
      congr 1
      rw [ha, Nat.succ_mul]; omega

theorem flatten_inv {rows : List (List D)} {sz : Nat} (h : ∀ r ∈ rows, r.length = sz) {n : Nat} {x : D} (hn : rows.flatten[n]? = some x) : ∃ i j r, rows[i]? = some r ∧ r[j]? = some x ∧ n = i * sz + j := by
  induction rows generalizing n with
  | nil => simp at hn
  | cons a l ih =>
    have ha : a.length = sz := h a (by simp)
    rcases Nat.lt_or_ge n a.length with hlt | hge
    · rw [List.flatten_cons, List.getElem?_append_left hlt] at hn
      exact ⟨0, n, a, rfl, hn, by simp⟩
    · rw [List.flatten_cons, List.getElem?_append_right hge] at hn
      obtain ⟨i, j, r, h1, h2, h3⟩ := ih (fun r hr => h r (by simp [hr])) hn
      exact ⟨i + 1, j, r, by simpa using h1, h2, by rw [Nat.succ_mul]; omega⟩

theorem flatten_len {rows : List (List D)} {sz : Nat} (h : ∀ r ∈ rows, r.length = sz) : rows.flatten.length = rows.length * sz := by
  induction rows with
  | nil => simp
  | cons a l ih =>
    rw [List.flatten_cons, List.length_append, ih (fun r hr => h r (by simp [hr])), h a (by simp), List.length_cons, Nat.succ_mul]; omega

theorem RD.of_leaf {w w' : World} {S S' : Nat → Nat → Prop} {x : D} {v : Value} (hx : x.leaf = true) (h : RD w S x v) : RD w' S' x v := by
  cases h with
  | bool b => exact .bool b
  | int k n h => exact .int k n h
  | str s h => exact .str s h
  | v _ h => exact .v _ h
  | nil a => exact .nil a
  | sl rows b off cap sz vs h1 h2 h3 h4 h5 =>
    cases rows with
    | nil => exact .sl [] b off cap sz vs h1 h2 (fun i r h => by simp at h) (fun i r j x h => by simp at h) (fun i r j x h => by simp at h)
    | cons a l => simp [D.leaf] at hx

/-- a tree is read as data -/
theorem RT.rd {w : World} {S : Nat → Nat → Prop} {x : D} {v : Value} {B : Nat → Prop} (h : RT w x v B) (hS : ∀ b o, B b → S b o) : RD w S x v := by
  induction h with
  | leaf h1 h2 => exact h2.of_leaf h1
  | sl rows b cap sz vs el vf Bs h1 h2 h3 h4 h5 h6 h7 h8 h9 h10 ih =>
    refine .sl rows b 0 cap sz vf h2 h3 (fun i r hi => h4 r (List.mem_of_getElem? hi)) (fun i r j x hi hj => ⟨?_, hS _ _ (.inl rfl)⟩) (fun i r j x hi hj => ?_)
    · have := h7 _ x (flatten_get h4 hi hj)
      simp [World.cell?, h5, this]
    · have := flatten_get h4 hi hj
      exact ih _ x this fun c o hc => hS c o (.inr ⟨_, hc⟩)

def D.isSl : D → Bool
  | .sl _ => true
  | _ => false

theorem RT.oneCell {w : World} {x : D} {v : Value} {B : Nat → Prop} (h : RT w x v B) : v.oneCell' = true := by
  cases h with
  | leaf h1 h2 => exact h2.oneCell
  | sl => rfl

theorem RT.len {w : World} {rows : List (List D)} {v : Value} {B : Nat → Prop} (h : RT w (.sl rows) v B) : ∃ a cap, v = .slice a rows.length cap ∧ rows.length ≤ cap := by
  cases h with
  | leaf h1 h2 =>
    cases h2 with
    | nil a => exact ⟨a, 0, rfl, Nat.le_refl _⟩
    | sl _ b off cap sz vs h1 => exact ⟨_, cap, rfl, h1⟩
  | sl _ b cap sz vs el vf Bs h1 h2 => exact ⟨_, cap, rfl, h2⟩

/-- cells with their slices cut off, which stand as trees -/
def Strip : List D → List D → Heap → Prop
  | [], c, t => c = [] ∧ t = []
  | .sl d :: l, c, t => ∃ v c' t', c = .v v :: c' ∧ t = .tree v d :: t' ∧ Strip l c' t'
  | x :: l, c, t => ∃ c', c = x :: c' ∧ Strip l c' t

theorem strip_cons {x : D} (hx : x.isSl = false) {l c : List D} {t : Heap} : Strip (x :: l) c t ↔ ∃ c', c = x :: c' ∧ Strip l c' t := by
  cases x <;> first | (simp [D.isSl] at hx; done) | exact Iff.rfl

theorem strip_get : ∀ {l c : List D} {t : Heap}, Strip l c t → l.length = c.length ∧ ∃ σ : Nat → Nat,
    (∀ n x, l[n]? = some x → (∃ d v, x = .sl d ∧ c[n]? = some (.v v) ∧ t[σ n]? = some (.tree v d)) ∨ (x.isSl = false ∧ c[n]? = some x)) ∧
    (∀ n m d d', l[n]? = some (.sl d) → l[m]? = some (.sl d') → σ n = σ m → n = m)
  | [], c, t, h => by
    obtain ⟨rfl, rfl⟩ := h
    exact ⟨rfl, fun _ => 0, fun n x h => by simp at h, fun n m d d' h => by simp at h⟩
  | x :: l, c, t, h => by
    by_cases hx : x.isSl = false
    · obtain ⟨c', rfl, h1⟩ := (strip_cons hx).1 h
      obtain ⟨h2, σ, h3, h4⟩ := strip_get h1
      refine ⟨by simp [h2], fun n => σ (n - 1), fun n y hn => ?_, fun n m d d' hn hm he => ?_⟩
      · cases n with
        | zero => simp at hn; subst hn; exact .inr ⟨hx, rfl⟩
        | succ n => simpa using h3 n y (by simpa using hn)
      · cases n with
        | zero => simp at hn; subst hn; simp [D.isSl] at hx
        | succ n =>
          cases m with
          | zero => simp at hm; subst hm; simp [D.isSl] at hx
          | succ m => simp at hn hm he; rw [h4 n m d d' hn hm he]
    · cases x with
      | sl d0 =>
        obtain ⟨v, c', t', rfl, rfl, h1⟩ := h
        obtain ⟨h2, σ, h3, h4⟩ := strip_get h1
        refine ⟨by simp [h2], fun n => if n = 0 then 0 else σ (n - 1) + 1, fun n y hn => ?_, fun n m d d' hn hm he => ?_⟩
        · cases n with
          | zero => simp at hn; subst hn; exact .inl ⟨d0, v, rfl, rfl, by simp⟩
          | succ n => simpa using h3 n y (by simpa using hn)
        · cases n with
          | zero =>
            cases m with
            | zero => rfl
            | succ m => simp at he
          | succ n =>
            cases m with
            | zero => simp at he
            | succ m => simp at hn hm he; rw [h4 n m d d' hn hm he]
      | _ => simp [D.isSl] at hx

/-- an array that stands in a block of its own -/
def Arr (w : World) (S : Nat → Nat → Prop) (cs : List D) (b : Nat) : Prop :=
  ∃ (vs : Array Value) (el : TypeId), w.heap[b]? = some (.cells vs el (0, 0)) ∧ cs.length ≤ vs.size ∧ ∀ (n : Nat) (x : D), cs[n]? = some x → ∃ y, vs[n]? = some y ∧ RD w S x y

/-- an array and trees make a tree -/
theorem RT.join {w : World} {S : Nat → Nat → Prop} {rows rows' : List (List D)} {trs : Heap} {b cap sz : Nat} {Bt : Nat → Nat → Prop}
    (hA : Arr w S rows.flatten b) (hs : Strip rows'.flatten rows.flatten trs) (hne : rows' ≠ []) (hc : rows'.length ≤ cap) (hm : rows'.length ≤ maxRows) (hsz : ∀ r ∈ rows', r.length = sz)
    (ht : ∀ m v d, trs[m]? = some (.tree v d) → RT w (.sl d) v (Bt m)) (hb : ∀ m, m < trs.length → ¬ Bt m b) (hd : ∀ m m' c, m < trs.length → m' < trs.length → Bt m c → Bt m' c → m = m') :
    ∃ B, RT w (.sl rows') (.slice (some ⟨b, 0, none⟩) rows'.length cap) B ∧ ∀ c, B c → c = b ∨ ∃ m, m < trs.length ∧ Bt m c := by
  obtain ⟨vs, el, h1, h2, h3⟩ := hA
  obtain ⟨h4, σ, h5, h6⟩ := strip_get hs
  have hlt : ∀ n d, rows'.flatten[n]? = some (.sl d) → σ n < trs.length := fun n d hn => by
    rcases h5 n _ hn with ⟨d', v, e, _, h8⟩ | ⟨h8, _⟩
    · exact (List.getElem?_eq_some_iff.1 h8).1
    · simp [D.isSl] at h8
  refine ⟨_, .sl rows' b cap sz vs el (fun n => vs.getD n undef) (fun n c => (∃ d, rows'.flatten[n]? = some (.sl d)) ∧ Bt (σ n) c) hne hc hm hsz h1 (by omega) (fun n x hn => ?_) (fun n x hn => ?_) (fun n ⟨⟨d, h7⟩, h8⟩ => hb _ (hlt n d h7) h8)
    (fun n m c ⟨⟨d, h7⟩, h8⟩ ⟨⟨d', h9⟩, h10⟩ => h6 n m d d' h7 h9 (hd _ _ c (hlt n d h7) (hlt m d' h9) h8 h10)), fun c hc => ?_⟩
  · have hlt : n < vs.size := by have := (List.getElem?_eq_some_iff.1 hn).1; omega
    simp [hlt]
  · rcases h5 n x hn with ⟨d, v, rfl, h7, h8⟩ | ⟨h7, h8⟩
    · obtain ⟨y, h9, h10⟩ := h3 n _ h7
      have hy : vs.getD n undef = v := by
        have : vs.getD n undef = y := by simp [Array.getD_eq_getD_getElem?, h9]
        rw [this]; cases h10; rfl
      show RT w (D.sl d) (vs.getD n undef) (fun c => (∃ d, rows'.flatten[n]? = some (D.sl d)) ∧ Bt (σ n) c)
      rw [hy, show (fun c => (∃ d, rows'.flatten[n]? = some (D.sl d)) ∧ Bt (σ n) c) = Bt (σ n) from funext fun c => propext ⟨fun h => h.2, fun h => ⟨⟨d, hn⟩, h⟩⟩]
      exact ht _ v d h8
    · obtain ⟨y, h9, h10⟩ := h3 n _ h8
      have hy : vs.getD n undef = y := by simp [Array.getD_eq_getD_getElem?, h9]
      have hnot : ∀ d, ¬ rows'.flatten[n]? = some (.sl d) := fun d e => by rw [hn] at e; cases e; simp [D.isSl] at h7
      show RT w x (vs.getD n undef) (fun c => (∃ d, rows'.flatten[n]? = some (D.sl d)) ∧ Bt (σ n) c)
      rw [hy, show (fun c => (∃ d, rows'.flatten[n]? = some (D.sl d)) ∧ Bt (σ n) c) = (fun _ => False) from funext fun c => propext ⟨fun h => hnot _ h.1.choose_spec, fun h => h.elim⟩]
      have hl : x.leaf = true := by cases x <;> first | rfl | (simp [D.isSl] at h7)
      exact .leaf hl (h10.of_leaf hl)
  · rcases hc with rfl | ⟨n, ⟨d, h7⟩, h8⟩
    · exact .inl rfl
    · exact .inr ⟨σ n, hlt n d h7, h8⟩

end Go.AM

/-
  Functions that hand out trees of their own; calls in front of which other objects are set aside.
  Conditions: none.
-/
namespace Go.AM
set_option linter.unusedVariables false
set_option linter.unusedSimpArgs false

/-- a tree that lies in the blocks of these objects -/
def Piece (w : World) (ι : List K) (I : List Nat) (x : List (List D)) (v : Value) : Prop :=
  ∃ B : Nat → Prop, RT w (.sl x) v B ∧ ∀ b, B b → ∃ (i : Nat) (k : K), i ∈ I ∧ ι[i]? = some k ∧ k.at b

section
variable {w : World} {ι : List K} {n : Nat} {loc : Heap}

theorem Sim.get (hs : Sim w ι n loc) {j : Nat} {o : Ob} (h : loc[j]? = some o) : ∃ k, ι[j]? = some k ∧ RO w ι n o k := by
  have hj : j < ι.length := by rw [hs.len]; exact (List.getElem?_eq_some_iff.1 h).1
  exact ⟨ι[j], List.getElem?_eq_getElem hj, hs.obj j o _ h (List.getElem?_eq_getElem hj)⟩

theorem RO.tree_inv {v : Value} {d : List (List D)} {k : K} (h : RO w ι n (.tree v d) k) : ∃ B B₀ : Nat → Prop, k = .tree B ∧ (∀ b, B₀ b → B b) ∧ RT w (.sl d) v B₀ := by
  cases k with
  | tree B => obtain ⟨B₀, h1, h2⟩ := h; exact ⟨B, B₀, rfl, h1, h2⟩
  | grow q p => cases p <;> exact h.elim
  | _ => exact h.elim

theorem piece_tree (hs : Sim w ι n loc) {j : Nat} {v : Value} {d : List (List D)} (h : loc[j]? = some (.tree v d)) : Piece w ι [j] d v := by
  obtain ⟨k, hk, ho⟩ := hs.get h
  obtain ⟨B, B₀, rfl, h1, h2⟩ := ho.tree_inv
  exact ⟨B₀, h2, fun b hb => ⟨j, _, by simp, hk, h1 b hb⟩⟩

theorem piece_nil {S : Nat → Nat → Prop} {v : Value} (h : RD w S (.sl []) v) : Piece w ι [] [] v :=
  ⟨_, .leaf rfl (h.of_leaf rfl), fun b hb => hb.elim⟩

theorem piece_join (hs : Sim w ι n loc) {S : Nat → Nat → Prop} {i b cap sz : Nat} {k : K} {rows rows' : List (List D)} {trs : Heap} {js : List Nat} (hk : ι[i]? = some k) (hat : k.at b) (hA : Arr w S rows.flatten b)
    (hst : Strip rows'.flatten rows.flatten trs) (hne : rows' ≠ []) (hc : rows'.length ≤ cap) (hm : rows'.length ≤ maxRows) (hsz : ∀ r ∈ rows', r.length = sz)
    (hj : ∀ m, m < trs.length → ∃ j, js[m]? = some j ∧ loc[j]? = trs[m]?) (hnd : (i :: js).Nodup) :
    Piece w ι (i :: js) rows' (.slice (some ⟨b, 0, none⟩) rows'.length cap) := by
  have hP : ∀ m : Nat, ∃ B : Nat → Prop, (∀ (v : Value) (d : List (List D)), trs[m]? = some (Ob.tree v d) → RT w (.sl d) v B) ∧ ∀ c, B c → ∃ (j : Nat) (k : K), js[m]? = some j ∧ ι[j]? = some k ∧ k.at c := fun m => by
    by_cases h : ∃ (v : Value) (d : List (List D)), trs[m]? = some (Ob.tree v d)
    · obtain ⟨v, d, h⟩ := h
      obtain ⟨j, h1, h2⟩ := hj m (List.getElem?_eq_some_iff.1 h).1
      rw [h] at h2
      obtain ⟨B, h3, h4⟩ := piece_tree hs h2
      refine ⟨B, fun v' d' h' => ?_, fun c hc => ?_⟩
      · rw [h] at h'; cases h'; exact h3
      · obtain ⟨j', k, h5, h6⟩ := h4 c hc
        simp at h5; subst h5
        exact ⟨j', k, h1, h6⟩
    · exact ⟨fun _ => False, fun v d h' => absurd ⟨v, d, h'⟩ h, fun c hc => hc.elim⟩
  have hP1 := fun m => (Classical.choose_spec (hP m)).1
  have hP2 := fun m => (Classical.choose_spec (hP m)).2
  obtain ⟨hn1, hn2⟩ := List.nodup_cons.1 hnd
  obtain ⟨B, h1, h2⟩ := RT.join (Bt := fun m => Classical.choose (hP m)) hA hst hne hc hm hsz hP1 (fun m hm hb => by
      obtain ⟨j, k', h3, h4, h5⟩ := hP2 m b hb
      have := hs.apart _ _ _ _ b hk h4 hat h5
      subst this
      exact hn1 (List.mem_of_getElem? h3))
    (fun m m' c hm hm' h3 h4 => by
      obtain ⟨j, k1, h5, h6, h7⟩ := hP2 m c h3
      obtain ⟨j', k2, h8, h9, h10⟩ := hP2 m' c h4
      have := hs.apart _ _ _ _ c h6 h9 h7 h10
      subst this
      obtain ⟨hl, h5⟩ := List.getElem?_eq_some_iff.1 h5
      obtain ⟨hl', h8⟩ := List.getElem?_eq_some_iff.1 h8
      exact (List.getElem_inj hn2).1 (h5.trans h8.symm))
  refine ⟨B, h1, fun c hc => ?_⟩
  rcases h2 c hc with rfl | ⟨m, hm, h3⟩
  · exact ⟨i, k, by simp, hk, hat⟩
  · obtain ⟨j, k', h4, h5⟩ := hP2 m c h3
    exact ⟨j, k', by simp [List.mem_of_getElem? h4], h5⟩

theorem arr_own {S : Nat → Nat → Prop} {rows : List (List D)} {b cap sz len : Nat} {vs : Array Value} {el : TypeId} (h : RD w S (.sl rows) (.slice (some ⟨b, 0, none⟩) len cap)) (hne : rows ≠ []) (hsz : ∀ r ∈ rows, r.length = sz)
    (hh : w.heap[b]? = some (.cells vs el (0, 0))) (hl : cap * sz ≤ vs.size) : Arr w S rows.flatten b ∧ rows.length ≤ maxRows := by
  rcases RD.sl_iff.1 h with ⟨h, _⟩ | ⟨b', off, sz', h1, h2, h3, h4, h5⟩
  · exact absurd h hne
  · simp at h1
    obtain ⟨rfl, rfl⟩ := h1
    refine ⟨⟨vs, el, hh, ?_, fun m x hm => ?_⟩, h4⟩
    · rw [flatten_len hsz]
      exact Nat.le_trans (Nat.mul_le_mul_right sz h3) hl
    · obtain ⟨i, j, r, h6, h7, rfl⟩ := flatten_inv hsz hm
      obtain ⟨h8, h9⟩ := h5 i r h6
      have : sz' = sz := by rw [← h8, hsz r (List.mem_of_getElem? h6)]
      subst this
      obtain ⟨y, h10, _, h11⟩ := h9 j x h7
      refine ⟨y, ?_, h11⟩
      simpa [World.cell?, hh] using h10

/-- an array without memory below it -/
theorem RT.of_leafs {w : World} {S : Nat → Nat → Prop} {rows : List (List D)} {b cap sz : Nat} (hA : Arr w S rows.flatten b) (hl : ∀ x ∈ rows.flatten, x.leaf = true) (hne : rows ≠ []) (hc : rows.length ≤ cap) (hm : rows.length ≤ maxRows) (hsz : ∀ r ∈ rows, r.length = sz) :
    ∃ B, RT w (.sl rows) (.slice (some ⟨b, 0, none⟩) rows.length cap) B ∧ ∀ c, B c → c = b := by
  obtain ⟨vs, el, h1, h2, h3⟩ := hA
  refine ⟨_, .sl rows b cap sz vs el (fun n => vs.getD n undef) (fun _ _ => False) hne hc hm hsz h1 h2 (fun n x hn => ?_) (fun n x hn => ?_) (fun n h => h) (fun n m c h => h.elim), fun c hc => ?_⟩
  · have hlt : n < vs.size := by have := (List.getElem?_eq_some_iff.1 hn).1; omega
    simp [hlt]
  · obtain ⟨y, h9, h10⟩ := h3 n _ hn
    have hy : vs.getD n undef = y := by simp [Array.getD_eq_getD_getElem?, h9]
    have hx := hl x (List.mem_of_getElem? hn)
    show RT w x (vs.getD n undef) _
    rw [hy]
    exact .leaf hx (h10.of_leaf hx)
  · rcases hc with h | ⟨n, h⟩
    · exact h
    · exact h.elim

/-- what is handed out for a cell: the cell with its tree in place of its token; I: the objects that go into it -/
inductive OutC (loc : Heap) : Value → C → C → Heap → List Nat → Prop
  | leaf {v : Value} {x : D} : x.leaf = true → OutC loc v (.d x) (.d x) [] []
  | u {v : Value} : OutC loc v .u .u [] []
  | tree {v kv : Value} {d : List (List D)} {j : Nat} : loc[j]? = some (.tree kv d) → OutC loc v (.d (.v kv)) (.d (.v v)) [.tree v d] [j]
  | nil {v : Value} : OutC loc v (.d (.sl [])) (.d (.v v)) [.tree v []] []
  | full {v : Value} : OutC loc v (.full []) (.d (.v v)) [.tree v []] []
  | ownNil {v : Value} {r : Ref} {pos : Nat} : OutC loc v (.own r pos []) (.d (.v v)) [.tree v []] []
  | own {v : Value} {i pos sz : Nat} {rows rows' : List (List D)} {trs : Heap} {js : List Nat} : loc[i]? = some (.grow pos sz) → rows.length = pos → Strip rows'.flatten rows.flatten trs → rows'.map List.length = rows.map List.length →
      (∀ m, m < trs.length → ∃ j, js[m]? = some j ∧ loc[j]? = trs[m]?) → OutC loc v (.own (.l i) pos rows) (.d (.v v)) [.tree v rows'] (i :: js)
  | leafs {v : Value} {i len sz : Nat} {rows : List (List D)} : loc[i]? = some (.rows rows) → (∀ x ∈ rows.flatten, x.leaf = true) → OutC loc v (.fsl (.l i) len sz) (.d (.v v)) [.tree v rows] [i]
  | part {v : Value} {i m sz : Nat} {rows : List (List D)} : loc[i]? = some (.rows rows) → (∀ x ∈ (rows.take m).flatten, x.leaf = true) → OutC loc v (.psl (.l i) 0 m sz) (.d (.v v)) [.tree v (rows.take m)] [i]
  | fsl {v : Value} {i len sz : Nat} {rows rows' : List (List D)} {trs : Heap} {js : List Nat} : loc[i]? = some (.rows rows) → Strip rows'.flatten rows.flatten trs → rows'.map List.length = rows.map List.length →
      (∀ m, m < trs.length → ∃ j, js[m]? = some j ∧ loc[j]? = trs[m]?) → OutC loc v (.fsl (.l i) len sz) (.d (.v v)) [.tree v rows'] (i :: js)

inductive Pieces (w : World) (ι : List K) : List Nat → Heap → Prop
  | nil : Pieces w ι [] []
  | cons {I I' : List Nat} {v : Value} {d : List (List D)} {H : Heap} : Piece w ι I d v → Pieces w ι I' H → Pieces w ι (I ++ I') (.tree v d :: H)

theorem Pieces.one {I : List Nat} {v : Value} {d : List (List D)} (h : Piece w ι I d v) : Pieces w ι I [.tree v d] := by
  have := Pieces.cons h .nil
  simpa using this
theorem Pieces.app {I I' : List Nat} {H H' : Heap} (h : Pieces w ι I H) (h' : Pieces w ι I' H') : Pieces w ι (I ++ I') (H ++ H') := by
  induction h with
  | nil => exact h'
  | cons a b ih => rw [List.append_assoc]; exact .cons a ih

theorem lens_of {rows rows' : List (List D)} {sz : Nat} (h : rows'.map List.length = rows.map List.length) (hs : ∀ r ∈ rows, r.length = sz) : rows'.length = rows.length ∧ ∀ r ∈ rows', r.length = sz := by
  refine ⟨by simpa using congrArg List.length h, fun r hr => ?_⟩
  have : r.length ∈ rows'.map List.length := List.mem_map_of_mem hr
  rw [h] at this
  obtain ⟨r', h1, h2⟩ := List.mem_map.1 this
  rw [← h2]; exact hs r' h1

theorem outC_ra (hs : Sim w ι 0 loc) {v : Value} {c c' : C} {H : Heap} {I : List Nat} (hr : RC w ι 0 c v) (ho : OutC loc v c c' H I) (hnd : I.Nodup) : Pieces w ι I H ∧ ∀ w' ι' n', RC w' ι' n' c' v := by
  have hv : ∀ w' ι' n', RC w' ι' n' (.d (.v v)) v := fun w' ι' n' => .d (.v v hr.oneCell)
  cases ho with
  | leaf hx => cases hr with | d h => exact ⟨.nil, fun w' ι' n' => .d (h.of_leaf hx)⟩
  | u => exact ⟨.nil, fun w' ι' n' => .u hr.oneCell⟩
  | @tree kv d j hl =>
    cases hr with
    | d h =>
      cases h
      exact ⟨.one (piece_tree hs hl), hv⟩
  | nil => cases hr with | d h => exact ⟨.one (piece_nil h), hv⟩
  | full => cases hr with | full h => exact ⟨.one (piece_nil h), hv⟩
  | ownNil => cases hr with | own h _ => exact ⟨.one (piece_nil h), hv⟩
  | @own i pos sz rows rows' trs js hl hp hst hlen hj =>
    refine ⟨.one ?_, hv⟩
    cases hr with
    | own h1 h2 =>
      obtain ⟨q, p, h3, h4, h5⟩ := h2
      rw [show idx 0 (.l i) = i by simp [idx]] at h3
      have ho := hs.obj i _ _ hl h3
      rcases Decidable.em (rows = []) with rfl | hne
      · have : rows' = [] := by simpa using hlen
        subst this
        have := hst
        have hN : Piece w ι [] [] v := piece_nil h1
        obtain ⟨B, h6, h7⟩ := hN
        exact ⟨B, h6, fun b hb => by obtain ⟨_, _, h, _⟩ := h7 b hb; cases h⟩
      · have hpq : pos = q := by
          cases p with
          | none => exact ho
          | some p => obtain ⟨b, E, lim, s⟩ := p; exact ho.1.1
        obtain ⟨_, _, h6⟩ := h5 hpq
        rcases h6 hp with ⟨h6, _⟩ | ⟨b, cap, cap', sz', rfl, rfl, h7, h7', h8⟩
        · exact absurd h6 hne
        obtain ⟨_, vs, el, h9, h10⟩ := ho
        obtain ⟨h11, h12⟩ := arr_own h1 hne h8 h9 (Nat.le_trans (Nat.mul_le_mul_right sz' h7') h10)
        obtain ⟨h13, h14⟩ := lens_of hlen h8
        rw [← h13]
        exact piece_join hs h3 rfl h11 hst (fun e => hne (by subst e; simpa using hlen.symm)) (by omega) (by omega) h14 hj hnd
  | @leafs i len sz rows hl hlf =>
    refine ⟨.one ?_, hv⟩
    cases hr with
    | @fsl _ _ b _ cap h1 h2 =>
      rw [show idx 0 (.l i) = i by simp [idx]] at h1
      obtain ⟨vs, el, h3, h4, ⟨h5, rfl⟩, h6⟩ := hs.obj i _ _ hl h1
      have hsz : ∀ r ∈ rows, r.length = sz := fun r hr => by
        obtain ⟨m, hm⟩ := List.mem_iff_getElem?.1 hr
        exact (h6 m r hm).1
      rcases Decidable.em (rows = []) with rfl | hne
      · refine ⟨_, .leaf rfl (.sl [] b 0 cap sz (fun _ => undef) (by simp) (by simp) (fun i r h => by simp at h) (fun i r j x h => by simp at h) (fun i r j x h => by simp at h)), fun b hb => hb.elim⟩
      · have h11 : Arr w (Safe w ι) rows.flatten b := ⟨vs, el, h3, by rw [flatten_len hsz]; exact h4, fun m x hm => by
          obtain ⟨i, j, r, h6', h7, rfl⟩ := flatten_inv hsz hm
          exact (h6 i r h6').2 j x h7⟩
        obtain ⟨B, h12, h13⟩ := RT.of_leafs h11 hlf hne h2 h5 hsz
        exact ⟨B, h12, fun c hc => by rw [h13 c hc]; exact ⟨i, _, by simp, h1, rfl⟩⟩
  | @part i m sz rows hl hlf =>
    refine ⟨.one ?_, hv⟩
    cases hr with
    | @psl _ _ _ b _ len off cap h1 hlo h2 hoff =>
      rw [show idx 0 (.l i) = i by simp [idx]] at h1
      obtain ⟨vs, el, h3, h4, ⟨h5, rfl⟩, h6⟩ := hs.obj i _ _ hl h1
      have hsz : ∀ r ∈ rows.take m, r.length = sz := fun r hr => by
        obtain ⟨j, hj⟩ := List.mem_iff_getElem?.1 (List.mem_of_mem_take hr)
        exact (h6 j r hj).1
      have hml : (rows.take m).length = m := by simp; omega
      rcases Nat.eq_zero_or_pos m with rfl | hpos
      · rw [List.take_zero]
        exact ⟨_, .leaf rfl (.sl [] b off cap sz (fun _ => undef) (by simp) (by simp) (fun i r h => by simp at h) (fun i r j x h => by simp at h) (fun i r j x h => by simp at h)), fun b hb => hb.elim⟩
      · have hoff := hoff hpos
        rw [Nat.zero_mul] at hoff
        subst hoff
        have hle : m * sz ≤ rows.length * sz := Nat.mul_le_mul_right sz (by omega)
        have h11 : Arr w (Safe w ι) (rows.take m).flatten b := ⟨vs, el, h3, by rw [flatten_len hsz, hml]; omega, fun q x hq => by
          obtain ⟨i, j, r, h6', h7, rfl⟩ := flatten_inv hsz hq
          rw [List.getElem?_take] at h6'
          split at h6'
          · exact (h6 i r h6').2 j x h7
          · cases h6'⟩
        obtain ⟨B, h12, h13⟩ := RT.of_leafs h11 hlf (fun e => by rw [e] at hml; simp at hml; omega) (by rw [hml]; exact h2) (by omega) hsz
        rw [hml] at h12
        exact ⟨B, h12, fun c hc => by rw [h13 c hc]; exact ⟨i, _, by simp, h1, rfl⟩⟩
  | @fsl i len sz rows rows' trs js hl hst hlen hj =>
    refine ⟨.one ?_, hv⟩
    cases hr with
    | @fsl _ _ b _ cap h1 h2 =>
      rw [show idx 0 (.l i) = i by simp [idx]] at h1
      obtain ⟨vs, el, h3, h4, ⟨h5, rfl⟩, h6⟩ := hs.obj i _ _ hl h1
      have hsz : ∀ r ∈ rows, r.length = sz := fun r hr => by
        obtain ⟨m, hm⟩ := List.mem_iff_getElem?.1 hr
        exact (h6 m r hm).1
      rcases Decidable.em (rows = []) with rfl | hne
      · have : rows' = [] := by simpa using hlen
        subst this
        refine ⟨_, .leaf rfl (.sl [] b 0 cap sz (fun _ => undef) (by simp) (by simp) (fun i r h => by simp at h) (fun i r j x h => by simp at h) (fun i r j x h => by simp at h)), fun b hb => hb.elim⟩
      · have h11 : Arr w (Safe w ι) rows.flatten b := ⟨vs, el, h3, by rw [flatten_len hsz]; exact h4, fun m x hm => by
          obtain ⟨i, j, r, h6', h7, rfl⟩ := flatten_inv hsz hm
          exact (h6 i r h6').2 j x h7⟩
        obtain ⟨h13, h14⟩ := lens_of hlen hsz
        rw [← h13]
        exact piece_join hs h1 rfl h11 hst (fun e => hne (by subst e; simpa using hlen.symm)) (by omega) (by omega) h14 hj hnd

/-- objects for the trees -/
theorem Pieces.sim (hs : Sim w ι n loc) {I : List Nat} {H : Heap} (h : Pieces w ι I H) (hnd : I.Nodup) :
    ∃ ι' : List K, ι'.length = H.length ∧ (∀ (i : Nat) o k, H[i]? = some o → ι'[i]? = some k → ∀ ι₁ n₁, RO w ι₁ n₁ o k) ∧ (∀ (i j : Nat) k k' b, ι'[i]? = some k → ι'[j]? = some k' → k.at b → k'.at b → i = j) ∧
      ∀ (i : Nat) k b, ι'[i]? = some k → k.at b → ∃ (j : Nat) (k' : K), j ∈ I ∧ ι[j]? = some k' ∧ k'.at b := by
  induction h with
  | nil => exact ⟨[], rfl, fun i o k h => by simp at h, fun i j k k' b h => by simp at h, fun i k b h => by simp at h⟩
  | @cons I I' v d H h h' ih =>
    obtain ⟨n1, n2, n3⟩ := List.nodup_append.1 hnd
    obtain ⟨ι', h1, h2, h3, h4⟩ := ih n2
    obtain ⟨B, h5, h6⟩ := h
    have hap : ∀ (j : Nat) k b, ι'[j]? = some k → B b → k.at b → False := fun j k b hj hb hk => by
      obtain ⟨j1, k1, a1, a2, a3⟩ := h6 b hb
      obtain ⟨j2, k2, b1, b2, b3⟩ := h4 j k b hj hk
      have := hs.apart _ _ _ _ b a2 b2 a3 b3
      subst this
      exact n3 j1 a1 j1 b1 rfl
    refine ⟨.tree B :: ι', by simp [h1], fun i o k hi hk ι₁ n₁ => ?_, fun i j k k' b hi hj hk hk' => ?_, fun i k b hi hk => ?_⟩
    · cases i with
      | zero => simp at hi hk; subst hi; subst hk; exact ⟨B, fun b hb => hb, h5⟩
      | succ i => exact h2 i o k (by simpa using hi) (by simpa using hk) ι₁ n₁
    · cases i with
      | zero =>
        simp at hi; subst hi
        cases j with
        | zero => rfl
        | succ j => exact (hap j k' b (by simpa using hj) hk hk').elim
      | succ i =>
        cases j with
        | zero => simp at hj; subst hj; exact (hap i k b (by simpa using hi) hk' hk).elim
        | succ j => rw [h3 i j k k' b (by simpa using hi) (by simpa using hj) hk hk']
    · cases i with
      | zero =>
        simp at hi; subst hi
        obtain ⟨j, k', a1, a2, a3⟩ := h6 b hk
        exact ⟨j, k', by simp [a1], a2, a3⟩
      | succ i =>
        obtain ⟨j, k', a1, a2, a3⟩ := h4 i k b (by simpa using hi) hk
        exact ⟨j, k', by simp [a1], a2, a3⟩

inductive OutCs (loc : Heap) (kv : Nat → Value) : Nat → List C → List C → Heap → List Nat → Prop
  | nil {p : Nat} : OutCs loc kv p [] [] [] []
  | cons {p : Nat} {c c' : C} {l l' : List C} {H H' : Heap} {I I' : List Nat} : OutC loc (kv p) c c' H I → OutCs loc kv (p + 1) l l' H' I' → OutCs loc kv p (c :: l) (c' :: l') (H ++ H') (I ++ I')
inductive OutA1 (loc : Heap) (kv : Nat → Value) : A → A → Heap → List Nat → Prop
  | c {c c' : C} {H : Heap} {I : List Nat} : OutC loc (kv 0) c c' H I → OutA1 loc kv (.c c) (.c c') H I
  | agg {cs cs' : List C} {H : Heap} {I : List Nat} : OutCs loc kv 0 cs cs' H I → OutA1 loc kv (.agg cs) (.agg cs') H I
inductive OutAs (loc : Heap) (kv : Nat → Nat → Value) : Nat → List A → List A → Heap → List Nat → Prop
  | nil {t : Nat} : OutAs loc kv t [] [] [] []
  | cons {t : Nat} {a a' : A} {l l' : List A} {H H' : Heap} {I I' : List Nat} : OutA1 loc (kv t) a a' H I → OutAs loc kv (t + 1) l l' H' I' → OutAs loc kv t (a :: l) (a' :: l') (H ++ H') (I ++ I')
/-- what is handed out for a result -/
inductive OutA (loc : Heap) (kv : Nat → Nat → Value) : A → A → Heap → List Nat → Prop
  | one {a a' : A} {H : Heap} {I : List Nat} : OutA1 loc (kv 0) a a' H I → OutA loc kv a a' H I
  | tup {l l' : List A} {H : Heap} {I : List Nat} : OutAs loc kv 0 l l' H I → OutA loc kv (.tup l) (.tup l') H I

theorem outCs_ra (hs : Sim w ι 0 loc) {kv : Nat → Value} : ∀ {cs cs' : List C} {p : Nat} {vs : List Value} {H : Heap} {I : List Nat}, RCs w ι 0 cs vs → (∀ i v, vs[i]? = some v → kv (p + i) = v) → OutCs loc kv p cs cs' H I → I.Nodup →
    Pieces w ι I H ∧ ∀ w' ι' n', RCs w' ι' n' cs' vs
  | [], cs', p, vs, H, I, hr, hk, ho, hnd => by
    cases ho
    exact ⟨.nil, fun w' ι' n' => ⟨hr.1, fun i c v h => by simp at h⟩⟩
  | c :: l, cs', p, vs, H, I, hr, hk, ho, hnd => by
    cases ho with
    | @cons _ _ c' _ l' H H' I I' h1 h2 =>
      obtain ⟨n1, n2, n3⟩ := List.nodup_append.1 hnd
      cases vs with
      | nil => have := hr.1; simp at this
      | cons v vs =>
        have hv : kv p = v := hk 0 v rfl
        rw [hv] at h1
        obtain ⟨a1, a2⟩ := outC_ra hs (hr.2 0 c v rfl rfl) h1 n1
        obtain ⟨b1, b2⟩ := outCs_ra hs (vs := vs) ⟨by have := hr.1; simpa using this, fun i c v h h' => hr.2 (i + 1) c v (by simpa using h) (by simpa using h')⟩
          (fun i u h => by rw [show p + 1 + i = p + (i + 1) by omega]; exact hk (i + 1) u (by simpa using h)) h2 n2
        refine ⟨a1.app b1, fun w' ι' n' => ⟨by have := (b2 w' ι' n').1; simp [this], fun i x y hx hy => ?_⟩⟩
        cases i with
        | zero => simp at hx hy; subst hx; subst hy; exact a2 w' ι' n'
        | succ i => exact (b2 w' ι' n').2 i x y (by simpa using hx) (by simpa using hy)

theorem outA1_ra (hs : Sim w ι 0 loc) {a : A} {v : Value} (hr : RA w ι 0 a v) : ∃ kv : Nat → Value, ∀ a' H I, OutA1 loc kv a a' H I → I.Nodup → Pieces w ι I H ∧ ∀ w' ι' n', RA w' ι' n' a' v := by
  cases hr with
  | c h =>
    refine ⟨fun _ => v, fun a' H I ho hnd => ?_⟩
    cases ho with
    | c ho => obtain ⟨h1, h2⟩ := outC_ra hs h ho hnd; exact ⟨h1, fun w' ι' n' => .c (h2 w' ι' n')⟩
  | @agg cs vs h =>
    refine ⟨fun i => vs.getD i undef, fun a' H I ho hnd => ?_⟩
    cases ho with
    | agg ho =>
      obtain ⟨h1, h2⟩ := outCs_ra hs h (fun i v hv => by simp [hv]) ho hnd
      exact ⟨h1, fun w' ι' n' => .agg (h2 w' ι' n')⟩
  | _ => exact ⟨fun _ => undef, fun a' H I ho => by cases ho⟩

theorem outAs_ra (hs : Sim w ι 0 loc) : ∀ {l : List A} {vs : List Value} (t : Nat), vs.length = l.length → (∀ (i : Nat) a v, l[i]? = some a → vs[i]? = some v → RA w ι 0 a v) → ∃ kv : Nat → Nat → Value, ∀ l' H I, OutAs loc kv t l l' H I → I.Nodup →
    Pieces w ι I H ∧ l'.length = l.length ∧ ∀ w' ι' n' (i : Nat) a v, l'[i]? = some a → vs[i]? = some v → RA w' ι' n' a v
  | [], vs, t, hl, hr => ⟨fun _ _ => undef, fun l' H I ho hnd => by cases ho; exact ⟨.nil, rfl, fun w' ι' n' i a v h => by simp at h⟩⟩
  | x :: l, [], t, hl, hr => by simp at hl
  | x :: l, v :: vs, t, hl, hr => by
    obtain ⟨kv, h1⟩ := outAs_ra hs (l := l) (vs := vs) (t + 1) (by simpa using hl) (fun i a v h h' => hr (i + 1) a v (by simpa using h) (by simpa using h'))
    obtain ⟨k0, h2⟩ := outA1_ra hs (hr 0 x v rfl rfl)
    have key : ∀ {l l' : List A} {H : Heap} {I : List Nat} {s : Nat}, t < s → OutAs loc (fun i => if i = t then k0 else kv i) s l l' H I → OutAs loc kv s l l' H I := fun {l l' H I s} hs h => by
      induction h with
      | nil => exact .nil
      | @cons s a a' l l' H H' I I' ha hl ih =>
        have : (fun i => if i = t then k0 else kv i) s = kv s := by simp; omega
        simp only [if_neg (show ¬ s = t by omega)] at ha
        exact .cons ha (ih (by omega))
    refine ⟨fun i => if i = t then k0 else kv i, fun l' H I ho hnd => ?_⟩
    cases ho with
    | @cons _ _ a' _ l' H H' I I' ha hl' =>
      simp only [if_true] at ha
      obtain ⟨n1, n2, n3⟩ := List.nodup_append.1 hnd
      obtain ⟨a1, a2⟩ := h2 _ _ _ ha n1
      obtain ⟨b1, b2, b3⟩ := h1 _ _ _ (key (by omega) hl') n2
      refine ⟨a1.app b1, by simp [b2], fun w' ι' n' i y u hy hu => ?_⟩
      cases i with
      | zero => simp at hy hu; subst hy; subst hu; exact a2 w' ι' n'
      | succ i => exact b3 w' ι' n' i y u (by simpa using hy) (by simpa using hu)

theorem outA_ra (hs : Sim w ι 0 loc) {a : A} {v : Value} (hr : RA w ι 0 a v) : ∃ kv : Nat → Nat → Value, ∀ a' H I, OutA loc kv a a' H I → I.Nodup → Pieces w ι I H ∧ ∀ w' ι' n', RA w' ι' n' a' v := by
  cases hr with
  | @tup as vs hl h =>
    obtain ⟨kv, h1⟩ := outAs_ra hs 0 hl h
    refine ⟨kv, fun a' H I ho hnd => ?_⟩
    cases ho with
    | one ho => cases ho
    | tup ho =>
      obtain ⟨a1, a2, a3⟩ := h1 _ _ _ ho hnd
      exact ⟨a1, fun w' ι' n' => .tup (by rw [hl, a2]) (a3 w' ι' n')⟩
  | c h =>
    obtain ⟨kv, h1⟩ := outA1_ra hs (RA.c h)
    exact ⟨fun _ => kv, fun a' H I ho hnd => by cases ho with | one ho => exact h1 _ _ _ ho hnd⟩
  | agg h =>
    obtain ⟨kv, h1⟩ := outA1_ra hs (RA.agg h)
    exact ⟨fun _ => kv, fun a' H I ho hnd => by cases ho with | one ho => exact h1 _ _ _ ho hnd⟩
  | _ => exact ⟨fun _ _ => undef, fun a' H I ho => by cases ho with | one ho => cases ho⟩
end

end Go.AM

/-
  Functions that hand out trees; calls in front of which other objects are set aside; functions that write into a tree.
  Conditions: none.
-/
namespace Go.AM
set_option linter.unusedVariables false
set_option linter.unusedSimpArgs false

/-- the end of a function that hands out trees -/
def FinT (rs : List Rv) (Q : A → Heap → Prop) : Ex → St → Prop
  | .exit _, _ => False
  | _, st => ∃ st', St.le st st' ∧ r_ st' rs ∧ ∃ r, resRaw st' rs = some r ∧ ∀ kv, ∃ r' H' I, OutA st'.loc kv r r' H' I ∧ I.Nodup ∧ Q r' H'

theorem finT_ret {rs : List Rv} {Q : A → Heap → Prop} {st : St} (r : A) (hok : r_ st rs) (hr : resRaw st rs = some r) (h : ∀ kv, ∃ r' H' I, OutA st.loc kv r r' H' I ∧ I.Nodup ∧ Q r' H') : FinT rs Q .ret st :=
  ⟨st, St.le_refl _, hok, r, hr, h⟩

theorem ext_sub {w w' : World} {ι2 ι' : List K} (hx : Ext w [] w' ι2) (h : ∀ (i : Nat) k b, ι'[i]? = some k → k.at b → ∃ k', k' ∈ ι2 ∧ k'.at b) : Ext w [] w' ι' := by
  have key : ∀ b, b < w.heap.size → ∀ k ∈ ι', ¬ k.at b := fun b hb k hk hat => by
    obtain ⟨i, hi⟩ := List.mem_iff_getElem?.1 hk
    obtain ⟨k', h1, h2⟩ := h i k b hi hat
    exact (hx.block b hb (fun k hk => by simp at hk)).2 k' h1 h2
  refine ⟨hx.os, hx.tape, hx.output, hx.size, fun b o hs => ?_, fun b hb _ => ?_, fun i k hi => by simp at hi⟩
  · obtain ⟨p, q⟩ := hx.safe b o hs
    exact ⟨⟨p.1, fun k hk ho => key b hs.1 k hk (K.at_of_owns ho)⟩, q⟩
  · exact ⟨(hx.block b hb (fun k hk => by simp at hk)).1, key b hb⟩

/-- what is shown of the machine holds of the call: a function that hands out trees -/
theorem acallsT {P : Program} {f : FuncId} {fn : Func} {d : Cd} {rs : List Rv} {n : Nat} {args : List A} {Q : A → Heap → Prop} {toks : List FuncId} {kl : List (Nat × List Nat × List Nat)}
    (hf : P.funcs[f]? = some fn) (hname : nameOk fn = true) (hc : cFunc P toks kl fn = some (d, rs, n))
    (h : aw P d (kq P (FinT rs Q) []) ⟨args ++ List.replicate (n - args.length) .u, [], []⟩) : ACalls P f args [] Q := by
  unfold cFunc at hc
  split at hc
  · rename_i c hb
    split at hc
    · rename_i d' rs' h1 h2
      cases hc
      refine acalls_of_run toks kl hf hb (by simpa [nameOk] using hname) h1 (FQ := FinT rs Q) (fun i st h => h.elim) (fun e w ι w' ι' st a' he hq hs hx hn hsim => ?_) (fun _ => h)
      have hq' : ∃ st', St.le st st' ∧ r_ st' rs ∧ ∃ r, resRaw st' rs = some r ∧ ∀ kv, ∃ r' H' I, OutA st'.loc kv r r' H' I ∧ I.Nodup ∧ Q r' H' := by
        rcases he with rfl | rfl
        · exact hq
        · exact hq
      obtain ⟨st', hle, hok, r, hr, hout⟩ := hq'
      have hι : ι = [] := List.eq_nil_of_length_eq_zero hsim.len
      subst hι
      obtain ⟨ι2, hs2, hx2⟩ := hle.2 w' ι' a' hs
      have hx3 := hx2 w [] (by simp) hx
      refine ⟨hs2.defers, ?_⟩
      have hext : st'.ext = [] := List.eq_nil_of_length_eq_zero (by rw [hle.1, hn]; rfl)
      have hsl : Sim w' ι2 0 st'.loc := by have := hs2.sim; rw [hext] at this; exact this
      have hmap : ∀ vs : List Value, (fn.results.toList.mapM (oneRv a'.tmps)).run P w' = .ok vs w' →
          (results fn a'.tmps).run P w' = .ok (if h : vs.toArray.size = 1 then vs.toArray[0] else .tuple vs.toArray) w' := fun vs hvs => by
        rw [results_eq, Sem.run_bind, Array.mapM_eq_mapM_toList, Sem.run_map, hvs]
        rfl
      have fin : ∀ v, RA w' ι2 0 r v → ∃ r' H' ι' v', Ending.returned v = .returned v' ∧ Q r' H' ∧ Sim w' ι' H'.length H' ∧ RA w' ι' H'.length r' v' ∧ Ext w [] w' ι' ∧ ([] : Heap).length ≤ H'.length := fun v hv => by
        obtain ⟨kv, hkv⟩ := outA_ra hsl hv
        obtain ⟨r', H', I, ho, hnd, hQ⟩ := hout kv
        obtain ⟨hp, hra⟩ := hkv r' H' I ho hnd
        obtain ⟨ι3, h4, h5, h6, h7⟩ := hp.sim hsl hnd
        have hat : ∀ (i : Nat) k b, ι3[i]? = some k → k.at b → ∃ k', k' ∈ ι2 ∧ k'.at b := fun i k b hi hk => by
          obtain ⟨j, k', _, h8, h9⟩ := h7 i k b hi hk
          exact ⟨k', List.mem_of_getElem? h8, h9⟩
        refine ⟨r', H', ι3, v, rfl, hQ, ⟨h4, fun i o k ho hk => h5 i o k ho hk _ _, h6, fun k b hk hb => ?_⟩, hra _ _ _, ext_sub hx3 hat, Nat.zero_le _⟩
        obtain ⟨i, hi⟩ := List.mem_iff_getElem?.1 hk
        obtain ⟨k', h8, h9⟩ := hat i k b hi hb
        exact hsl.low k' b h8 h9
      unfold resRaw at hr
      split at hr
      · rename_i x hx1
        cases hr
        obtain ⟨vs, h3, h4, h5⟩ := resRaws_ra (P := P) hs2 h2 hok hx1
        obtain ⟨v, rfl⟩ := List.length_eq_one_iff.1 h4
        have h6 := h5 0 r v rfl rfl
        rw [hext] at h6
        exact ⟨v, by simpa using hmap _ h3, fin v h6⟩
      · rename_i xs hne hx1
        cases hr
        obtain ⟨vs, h3, h4, h5⟩ := resRaws_ra (P := P) hs2 h2 hok hx1
        have hn1 : ¬ vs.toArray.size = 1 := by
          intro e
          simp [h4] at e
          obtain ⟨y, rfl⟩ := List.length_eq_one_iff.1 e
          exact hne y rfl
        rw [hext] at h5
        exact ⟨.tuple vs.toArray, by rw [hmap _ h3, dif_neg hn1], fin _ (.tup h4 h5)⟩
      · cases hr
    · cases hc
  · cases hc

/-! ### what looks at no object -/

def C.port (c : C) : Prop := ∀ w ι n w' ι' n' v, RC w ι n c v → RC w' ι' n' c v
def A.port (a : A) : Prop := ∀ w ι n w' ι' n' v, RA w ι n a v → RA w' ι' n' a v

theorem port_d {x : D} (hx : x.leaf = true) : (C.d x).port := fun w ι n w' ι' n' v h => by cases h with | d h => exact .d (h.of_leaf hx)
theorem port_c {c : C} (hc : c.port) : (A.c c).port := fun w ι n w' ι' n' v h => by cases h with | c h => exact .c (hc _ _ _ _ _ _ _ h)
theorem port_agg {cs : List C} (hc : ∀ c ∈ cs, c.port) : (A.agg cs).port := fun w ι n w' ι' n' v h => by
  cases h with
  | agg h => exact .agg ⟨h.1, fun i c v h1 h2 => hc c (List.mem_of_getElem? h1) _ _ _ _ _ _ _ (h.2 i c v h1 h2)⟩
theorem port_tup {as : List A} (ha : ∀ a ∈ as, a.port) : (A.tup as).port := fun w ι n w' ι' n' v h => by
  cases h with
  | tup h1 h2 => exact .tup h1 fun i a v h3 h4 => ha a (List.mem_of_getElem? h3) _ _ _ _ _ _ _ (h2 i a v h3 h4)

def C.portB : C → Bool
  | .d x => x.leaf
  | _ => false
def A.portB : A → Bool
  | A.c x => x.portB
  | A.agg cs => cs.all C.portB
  | _ => false
def A.portT : A → Bool
  | A.tup as => as.all A.portB
  | a => a.portB
theorem C.port_of {c : C} (h : c.portB = true) : c.port := by cases c <;> first | exact port_d h | cases h
theorem A.port_ofB {a : A} (h : a.portB = true) : a.port := by
  cases a <;> first | exact port_c (C.port_of h) | exact port_agg (fun c hc => C.port_of (List.all_eq_true.1 h c hc)) | cases h
theorem A.port_of {a : A} (h : a.portT = true) : a.port := by
  cases a <;> first | exact port_tup (fun c hc => A.port_ofB (List.all_eq_true.1 h c hc)) | exact A.port_ofB h

def Ob.isTree : Ob → Prop
  | .tree _ _ => True
  | _ => False

/-! ### objects are set aside -/

/-- objects are put in their places, the others behind -/
def putAll (H : Heap) : List Nat → Heap → Heap
  | [], l => H ++ l
  | j :: J, o :: l => putAll (H.set j o) J l
  | _ :: _, [] => H

theorem putAll_len : ∀ {J : List Nat} {H l : Heap}, J.length ≤ l.length → (putAll H J l).length = H.length + (l.length - J.length)
  | [], H, l, h => by simp [putAll]
  | j :: J, H, [], h => by simp at h
  | j :: J, H, o :: l, h => by simp only [putAll]; rw [putAll_len (by simpa using h)]; simp

theorem putAll_get : ∀ {J : List Nat} {H l : Heap} {i : Nat} {o : Ob}, J.Nodup → J.length ≤ l.length → (putAll H J l)[i]? = some o →
    (∃ m : Nat, J[m]? = some i ∧ l[m]? = some o) ∨ (i ∉ J ∧ H[i]? = some o) ∨ ∃ m : Nat, i = H.length + m ∧ l[J.length + m]? = some o
  | [], H, l, i, o, hn, hl, h => by
    simp only [putAll] at h
    rcases Nat.lt_or_ge i H.length with h1 | h1
    · rw [List.getElem?_append_left h1] at h; exact .inr (.inl ⟨by simp, h⟩)
    · rw [List.getElem?_append_right h1] at h; exact .inr (.inr ⟨i - H.length, by omega, by simpa using h⟩)
  | j :: J, H, [], i, o, hn, hl, h => by simp at hl
  | j :: J, H, x :: l, i, o, hn, hl, h => by
    simp only [putAll] at h
    obtain ⟨n1, n2⟩ := List.nodup_cons.1 hn
    rcases putAll_get n2 (by simpa using hl) h with ⟨m, h1, h2⟩ | ⟨h1, h2⟩ | ⟨m, h1, h2⟩
    · exact .inl ⟨m + 1, by simpa using h1, by simpa using h2⟩
    · by_cases hij : j = i
      · subst hij
        rw [List.getElem?_set] at h2
        simp only [↓reduceIte] at h2
        split at h2
        · exact .inl ⟨0, rfl, by simpa using h2⟩
        · cases h2
      · rw [List.getElem?_set_ne hij] at h2
        exact .inr (.inl ⟨by simp [h1, Ne.symm hij], h2⟩)
    · exact .inr (.inr ⟨m, by simpa using h1, by rw [List.length_cons, show J.length + 1 + m = (J.length + m) + 1 by omega]; simpa using h2⟩)

inductive FzC (H : Heap) (J : List Nat) : C → C → Prop
  | d {x : D} : FzC H J (.d x) (.d x)
  | tree {i : Nat} {kv : Value} {d : List (List D)} : H[i]? = some (.tree kv d) → i ∉ J → FzC H J (.d (.v kv)) (.d (.sl d))
  | u {c : C} : FzC H J c .u
inductive FzCs (H : Heap) (J : List Nat) : List C → List C → Prop
  | nil : FzCs H J [] []
  | cons {c c' : C} {l l' : List C} : FzC H J c c' → FzCs H J l l' → FzCs H J (c :: l) (c' :: l')
inductive FzA (H : Heap) (J : List Nat) : A → A → Prop
  | c {c c' : C} : FzC H J c c' → FzA H J (.c c) (.c c')
  | agg {cs cs' : List C} : FzCs H J cs cs' → FzA H J (.agg cs) (.agg cs')
  | u {a : A} : FzA H J a .u
inductive FzL (H : Heap) (J : List Nat) : List A → List A → Prop
  | nil : FzL H J [] []
  | cons {a a' : A} {l l' : List A} : FzA H J a a' → FzL H J l l' → FzL H J (a :: l) (a' :: l')

theorem fzCs_id {H : Heap} {J : List Nat} (ds : List D) : FzCs H J (ds.map C.d) (ds.map C.d) := by
  induction ds with
  | nil => exact .nil
  | cons x l ih => exact .cons .d ih

section
variable {w : World} {ι ι₀ : List K} {n n₀ : Nat} {H : Heap} {J : List Nat}

theorem fzC_ra (hs : Sim w ι n H) (hsub : ∀ k ∈ ι₀, ∃ i : Nat, i ∈ J ∧ ι[i]? = some k) {c c' : C} {v : Value} (hz : FzC H J c c') (hr : RC w ι n c v) : RC w ι₀ n₀ c' v := by
  cases hz with
  | d => cases hr with | d h => exact .d (h.mono fun b o ho => ⟨⟨ho.1, fun k hk => let ⟨i, _, hi⟩ := hsub k hk; ho.2 k (List.mem_of_getElem? hi)⟩, rfl⟩)
  | @tree i kv d h1 h2 =>
    cases hr with
    | d h =>
      cases h
      obtain ⟨k, hk, ho⟩ := hs.get h1
      obtain ⟨B, B₀, rfl, h3, h4⟩ := ho.tree_inv
      refine .d (h4.rd fun b o hb => ⟨hs.low _ b (List.mem_of_getElem? hk) (h3 b hb), fun k hk' hown => ?_⟩)
      obtain ⟨j, hj, hj'⟩ := hsub k hk'
      have := hs.apart _ _ _ _ b hk hj' (h3 b hb) (K.at_of_owns hown)
      subst this
      exact h2 hj
  | u => exact .u hr.oneCell

theorem fzCs_ra (hs : Sim w ι n H) (hsub : ∀ k ∈ ι₀, ∃ i : Nat, i ∈ J ∧ ι[i]? = some k) : ∀ {cs cs' : List C} {vs : List Value}, FzCs H J cs cs' → RCs w ι n cs vs → RCs w ι₀ n₀ cs' vs
  | [], _, vs, .nil, hr => ⟨hr.1, fun i c v h => by simp at h⟩
  | c :: l, _, [], .cons h1 h2, hr => by have := hr.1; simp at this
  | c :: l, _, v :: vs, .cons h1 h2, hr => by
    have h3 := fzCs_ra hs hsub (vs := vs) h2 ⟨by have := hr.1; simpa using this, fun i c v h h' => hr.2 (i + 1) c v (by simpa using h) (by simpa using h')⟩
    refine ⟨by have := h3.1; simp [this], fun i x y hx hy => ?_⟩
    cases i with
    | zero => simp at hx hy; subst hx; subst hy; exact fzC_ra hs hsub h1 (hr.2 0 c v rfl rfl)
    | succ i => exact h3.2 i x y (by simpa using hx) (by simpa using hy)

theorem fzA_ra (hs : Sim w ι n H) (hsub : ∀ k ∈ ι₀, ∃ i : Nat, i ∈ J ∧ ι[i]? = some k) {a a' : A} {v : Value} (hz : FzA H J a a') (hr : RA w ι n a v) : RA w ι₀ n₀ a' v := by
  cases hz with
  | c h => cases hr with | c hr => exact .c (fzC_ra hs hsub h hr)
  | agg h => cases hr with | agg hr => exact .agg (fzCs_ra hs hsub h hr)
  | u => exact .u

theorem fzL_ra (hs : Sim w ι n H) (hsub : ∀ k ∈ ι₀, ∃ i : Nat, i ∈ J ∧ ι[i]? = some k) : ∀ {as as' : List A} {vs : List Value}, FzL H J as as' → vs.length = as.length → (∀ (i : Nat) a v, as[i]? = some a → vs[i]? = some v → RA w ι n a v) →
    vs.length = as'.length ∧ ∀ (i : Nat) a v, as'[i]? = some a → vs[i]? = some v → RA w ι₀ n₀ a v
  | [], _, vs, .nil, hl, hr => ⟨hl, fun i a v h => by simp at h⟩
  | a :: l, _, [], .cons h1 h2, hl, hr => by simp at hl
  | a :: l, _, v :: vs, .cons h1 h2, hl, hr => by
    obtain ⟨h3, h4⟩ := fzL_ra hs hsub (vs := vs) h2 (by simpa using hl) (fun i a v h h' => hr (i + 1) a v (by simpa using h) (by simpa using h'))
    refine ⟨by simp [h3], fun i x y hx hy => ?_⟩
    cases i with
    | zero => simp at hx hy; subst hx; subst hy; exact fzA_ra hs hsub h1 (hr 0 a v rfl rfl)
    | succ i => exact h4 i x y (by simpa using hx) (by simpa using hy)
end

theorem RO.of_tree {w : World} {ι ι' : List K} {n n' : Nat} {o : Ob} {k : K} (ht : o.isTree) (h : RO w ι n o k) : RO w ι' n' o k := by
  cases o with
  | tree v d =>
    obtain ⟨B, B₀, rfl, h1, h2⟩ := h.tree_inv
    exact ⟨B₀, h1, h2⟩
  | _ => exact ht.elim

/-- a call that is told of some trees alone -/
theorem acalls_frame {P : Program} {f : FuncId} {args args₀ : List A} {H H₀ : Heap} {J : List Nat} {Q₀ : A → Heap → Prop} (hJ : J.Nodup) (hH : J.map (fun i => H[i]?) = H₀.map some) (hT : ∀ o ∈ H₀, o.isTree)
    (hz : FzL H J args args₀) (h : ACalls P f args₀ H₀ Q₀) (hQ : ∀ r H', Q₀ r H' → r.port ∧ ∀ o ∈ H', o.isTree) :
    ACalls P f args H (fun r H' => ∃ H₀', Q₀ r H₀' ∧ H₀.length ≤ H₀'.length ∧ H' = putAll H J H₀') := by
  refine ⟨h.1, fun w ι cargs hsim hl ha => ?_⟩
  have hJl : J.length = H₀.length := by simpa using congrArg List.length hH
  have hJget : ∀ (m i : Nat), J[m]? = some i → ∃ o k, H₀[m]? = some o ∧ H[i]? = some o ∧ ι[i]? = some k ∧ RO w ι H.length o k := fun m i hm => by
    have h1 : (J.map (fun i => H[i]?))[m]? = some (H[i]?) := by simp [hm]
    rw [hH] at h1
    simp only [List.getElem?_map, Option.map_eq_some_iff] at h1
    obtain ⟨o, h2, h3⟩ := h1
    obtain ⟨k, h4, h5⟩ := hsim.get h3.symm
    exact ⟨o, k, h2, h3.symm, h4, h5⟩
  let ι₀ : List K := J.map (fun i => ι.getD i .x)
  have hι₀ : ∀ (m : Nat) k, ι₀[m]? = some k → ∃ i, J[m]? = some i ∧ ι[i]? = some k := fun m k hm => by
    simp only [ι₀, List.getElem?_map, Option.map_eq_some_iff] at hm
    obtain ⟨i, h1, h2⟩ := hm
    obtain ⟨o, k', _, _, h4, _⟩ := hJget m i h1
    have : ι.getD i .x = k' := by simp [List.getD, h4]
    rw [this] at h2; subst h2
    exact ⟨i, h1, h4⟩
  have hsub : ∀ k ∈ ι₀, ∃ i : Nat, i ∈ J ∧ ι[i]? = some k := fun k hk => by
    obtain ⟨m, hm⟩ := List.mem_iff_getElem?.1 hk
    obtain ⟨i, h1, h2⟩ := hι₀ m k hm
    exact ⟨i, List.mem_of_getElem? h1, h2⟩
  have hJinj : ∀ (m m' i : Nat), J[m]? = some i → J[m']? = some i → m = m' := fun m m' i h1 h2 => by
    obtain ⟨a, h1⟩ := List.getElem?_eq_some_iff.1 h1
    obtain ⟨b, h2⟩ := List.getElem?_eq_some_iff.1 h2
    exact (List.getElem_inj hJ).1 (h1.trans h2.symm)
  have hsim0 : Sim w ι₀ H₀.length H₀ := by
    refine ⟨by simp [ι₀, hJl], fun m o k ho hk => ?_, fun m m' k k' b hm hm' hk hk' => ?_, fun k b hk hb => ?_⟩
    · obtain ⟨i, h1, h2⟩ := hι₀ m k hk
      obtain ⟨o', k', h3, h4, h5, h6⟩ := hJget m i h1
      rw [ho] at h3; cases h3
      rw [h2] at h5; cases h5
      exact h6.of_tree (hT o (List.mem_of_getElem? ho))
    · obtain ⟨i, h1, h2⟩ := hι₀ m k hm
      obtain ⟨i', h3, h4⟩ := hι₀ m' k' hm'
      have := hsim.apart _ _ _ _ b h2 h4 hk hk'
      subst this
      exact hJinj m m' i h1 h3
    · obtain ⟨i, _, hi⟩ := hsub k hk
      exact hsim.low k b (List.mem_of_getElem? hi) hb
  obtain ⟨hl0, ha0⟩ := fzL_ra (n₀ := H₀.length) hsim hsub hz hl ha
  refine (h.2 w ι₀ cargs hsim0 hl0 ha0).mono fun e w' ⟨r, H₀', ι₀', v, he, hq, hs', hr', hx, hle⟩ => ?_
  obtain ⟨hport, htree⟩ := hQ r H₀' hq
  have hιlen : ι₀'.length = H₀'.length := hs'.len
  have hsame : ∀ (m i : Nat), J[m]? = some i → ∃ k, ι[i]? = some k ∧ ι₀'[m]? = some k := fun m i hm => by
    obtain ⟨o, k, h1, h2, h3, h4⟩ := hJget m i hm
    have h5 : ι₀[m]? = some k := by simp [ι₀, hm, List.getD, h3]
    obtain ⟨k', h6, h7⟩ := hx.ev m k h5
    have ho := hT o (List.mem_of_getElem? h1)
    cases o with
    | tree v d =>
      obtain ⟨B, B₀, rfl, _, _⟩ := h4.tree_inv
      cases h7
      exact ⟨_, h3, h6⟩
    | _ => exact ho.elim
  have hnew : ∀ k b, k ∈ ι₀'.drop J.length → k.at b → ∀ k' ∈ ι, ¬ k'.at b := fun k b hk hb k' hk' hb' => by
    obtain ⟨m, hm⟩ := List.mem_iff_getElem?.1 hk
    rw [List.getElem?_drop] at hm
    obtain ⟨i, hi⟩ := List.mem_iff_getElem?.1 hk'
    by_cases hiJ : i ∈ J
    · obtain ⟨m', hm'⟩ := List.mem_iff_getElem?.1 hiJ
      obtain ⟨k1, h1, h2⟩ := hsame m' i hm'
      rw [hi] at h1; cases h1
      have := hs'.apart _ _ _ _ b hm h2 hb hb'
      have := (List.getElem?_eq_some_iff.1 hm').1
      omega
    · have hlt := hsim.low k' b hk' hb'
      refine (hx.block b hlt fun k0 hk0 hb0 => ?_).2 k (List.mem_of_mem_drop hk) hb
      obtain ⟨i0, h1, h2⟩ := hsub k0 hk0
      have := hsim.apart _ _ _ _ b hi h2 hb' hb0
      subst this
      exact hiJ h1
  have hsafe : ∀ b o, Safe w ι b o → Safe w' (ι ++ ι₀'.drop J.length) b o ∧ w'.cell? ⟨b, o, none⟩ = w.cell? ⟨b, o, none⟩ := fun b o hso => by
    obtain ⟨p, q⟩ := hx.safe b o ⟨hso.1, fun k hk => let ⟨i, _, hi⟩ := hsub k hk; hso.2 k (List.mem_of_getElem? hi)⟩
    refine ⟨⟨p.1, fun k hk => ?_⟩, q⟩
    rcases List.mem_append.1 hk with h1 | h1
    · exact hso.2 k h1
    · exact p.2 k (List.mem_of_mem_drop h1)
  have hext : Ext w ι w' (ι ++ ι₀'.drop J.length) := by
    refine ⟨hx.os, hx.tape, hx.output, hx.size, hsafe, fun b hb hk => ?_, fun i k hi => ⟨k, ?_, k.ev_refl⟩⟩
    · obtain ⟨p, q⟩ := hx.block b hb fun k hk' => let ⟨i, _, hi⟩ := hsub k hk'; hk k (List.mem_of_getElem? hi)
      refine ⟨p, fun k hk' => ?_⟩
      rcases List.mem_append.1 hk' with h1 | h1
      · exact hk k h1
      · exact q k (List.mem_of_mem_drop h1)
    · rw [List.getElem?_append_left (List.getElem?_eq_some_iff.1 hi).1]; exact hi
  have hle' : J.length ≤ H₀'.length := by rw [hJl]; exact hle
  have hplen : (putAll H J H₀').length = H.length + (H₀'.length - J.length) := putAll_len hle'
  refine ⟨r, putAll H J H₀', ι ++ ι₀'.drop J.length, v, he, ⟨H₀', hq, hle, rfl⟩, ⟨?_, fun i o k ho hk => ?_, fun i j k k' b hi hj hk hk' => ?_, fun k b hk hb => ?_⟩, hport _ _ _ _ _ _ _ hr', hext, by rw [hplen]; omega⟩
  · rw [hplen, List.length_append, List.length_drop, hsim.len, hιlen]
  · rcases putAll_get hJ hle' ho with ⟨m, h1, h2⟩ | ⟨h1, h2⟩ | ⟨m, h1, h2⟩
    · obtain ⟨k', h3, h4⟩ := hsame m i h1
      rw [List.getElem?_append_left (List.getElem?_eq_some_iff.1 h3).1, h3] at hk
      obtain rfl := Option.some.inj hk
      exact (hs'.obj m o k' h2 h4).of_tree (htree o (List.mem_of_getElem? h2))
    · obtain ⟨k', h3, h4⟩ := hsim.get h2
      rw [List.getElem?_append_left (List.getElem?_eq_some_iff.1 h3).1, h3] at hk
      obtain rfl := Option.some.inj hk
      have h5 : RO w' (ι ++ ι₀'.drop J.length) H.length o k' := h4.of_blocks hext fun b hb => (hx.block b (hsim.low k' b (List.mem_of_getElem? h3) hb) fun k0 hk0 hb0 => by
        obtain ⟨i0, h6, h7⟩ := hsub k0 hk0
        have := hsim.apart _ _ _ _ b h3 h7 hb hb0
        subst this
        exact h1 h6).1
      exact RO_ground (Obs_fits_get (sim_fits hsim) h2) h5
    · subst h1
      rw [List.getElem?_append_right (by rw [hsim.len]; omega), hsim.len, Nat.add_sub_cancel_left, List.getElem?_drop] at hk
      exact (hs'.obj _ o k h2 hk).of_tree (htree o (List.mem_of_getElem? h2))
  · rcases Nat.lt_or_ge i ι.length with h1 | h1
    · rw [List.getElem?_append_left h1] at hi
      rcases Nat.lt_or_ge j ι.length with h2 | h2
      · rw [List.getElem?_append_left h2] at hj
        exact hsim.apart _ _ _ _ b hi hj hk hk'
      · rw [List.getElem?_append_right h2] at hj
        exact absurd hk (hnew k' b (List.mem_of_getElem? hj) hk' k (List.mem_of_getElem? hi))
    · rw [List.getElem?_append_right h1] at hi
      rcases Nat.lt_or_ge j ι.length with h2 | h2
      · rw [List.getElem?_append_left h2] at hj
        exact absurd hk' (hnew k b (List.mem_of_getElem? hi) hk k' (List.mem_of_getElem? hj))
      · rw [List.getElem?_append_right h2] at hj
        rw [List.getElem?_drop] at hi hj
        have := hs'.apart _ _ _ _ b hi hj hk hk'
        omega
  · rcases List.mem_append.1 hk with h1 | h1
    · exact Nat.lt_of_lt_of_le (hsim.low k b h1 hb) hx.size
    · exact hs'.low k b (List.mem_of_mem_drop h1) hb

/-! ### a tree is opened -/

end Go.AM

/-
  Calls of functions that hand out, write into, or read trees, in the machine.
  Conditions: none.
-/
namespace Go.AM
set_option linter.unusedVariables false
set_option linter.unusedSimpArgs false

theorem C.re_of {c : C} (h : c.portB = true) (n : Nat) : C.re n c = c := by cases c <;> first | rfl | cases h
theorem A.re_ofB {a : A} (h : a.portB = true) (n : Nat) : A.re n a = a := by
  cases a with
  | c c => simp only [A.re, C.re_of h]
  | agg cs =>
    simp only [A.re, A.agg.injEq]
    exact (List.map_congr_left fun c hc => C.re_of (List.all_eq_true.1 h c hc) n).trans (by simp)
  | _ => cases h
theorem res_of {n : Nat} : ∀ {as : List A}, as.all A.portB = true → A.res n as = as
  | [], _ => rfl
  | a :: l, h => by
    simp only [List.all_cons, Bool.and_eq_true] at h
    simp only [A.res, A.re_ofB h.1, res_of h.2]
theorem A.re_of {a : A} (h : a.portT = true) (n : Nat) : A.re n a = a := by
  cases a with
  | tup as => simp only [A.re, res_of (n := n) (as := as) h]
  | c x => exact A.re_ofB (a := .c x) h n
  | agg cs => exact A.re_ofB (a := .agg cs) h n
  | _ => cases h

def Ob.isTreeB : Ob → Bool
  | .tree _ _ => true
  | _ => false
theorem Ob.isTree_of {o : Ob} (h : o.isTreeB = true) : o.isTree := by cases o <;> first | trivial | cases h

/-- what is handed out: a result that looks at no object, and trees -/
def Handed (r : A) (H : Heap) : Prop := r.portT = true ∧ H.all Ob.isTreeB = true

theorem trees_re {l : Heap} (h : l.all Ob.isTreeB = true) (n : Nat) : l.map (Ob.re n) = l := by
  refine (List.map_congr_left (g := id) fun o ho => ?_).trans (List.map_id l)
  have := List.all_eq_true.1 h o ho
  cases o <;> first | rfl | cases this

theorem putAll_map {g : Ob → Ob} : ∀ {J : List Nat} {H l : Heap}, (putAll H J l).map g = putAll (H.map g) J (l.map g)
  | [], H, l => by simp [putAll]
  | j :: J, H, [] => by simp [putAll]
  | j :: J, H, o :: l => by simp only [putAll, List.map_cons]; rw [putAll_map, List.map_set]

/-- a call in a function that was told of no object -/
theorem call_loc {P : Program} {f : FuncId} {args args₀ : List A} {sl : List A} {loc H H₀ : Heap} {J : List Nat} {Q₀ : A → Heap → Prop} {K : A → St → Prop} (hc : ACalls P f args₀ H₀ Q₀) (hQ : ∀ r H', Q₀ r H' → Handed r H') (hH : H = loc.map (Ob.re 0)) (hz : FzL H J args args₀)
    (hJ : J.Nodup) (hJH : J.map (fun i => H[i]?) = H₀.map some) (hT : H₀.all Ob.isTreeB = true) (hk : ∀ r H', Q₀ r H' → H₀.length ≤ H'.length → K r ⟨sl, [], putAll loc J H'⟩) :
    ACalls P f args H (CallK K ⟨sl, [], loc⟩) := by
  refine (acalls_frame hJ hJH (fun o ho => Ob.isTree_of (List.all_eq_true.1 hT o ho)) hz hc (fun r H' h => ⟨A.port_of (hQ r H' h).1, fun o ho => Ob.isTree_of (List.all_eq_true.1 (hQ r H' h).2 o ho)⟩)).mono fun r H' ⟨H₁, h1, h2, h3⟩ => ?_
  refine ⟨[], putAll loc J H₁, r, ?_, rfl, ?_, trivial, (A.re_of (hQ r H₁ h1).1 _).symm, hk r H₁ h1 h2⟩
  · rw [h3, hH, List.nil_append]
    show _ = (putAll loc J H₁).map (Ob.re 0)
    rw [putAll_map, trees_re (hQ r H₁ h1).2]
  · have hJl : J.length = H₀.length := by simpa using congrArg List.length hJH
    show loc.length ≤ (putAll loc J H₁).length
    rw [putAll_len (by omega)]; omega

theorem FzC.mono {H H' : Heap} {J : List Nat} (h : ∀ (i : Nat) kv d, H[i]? = some (.tree kv d) → H'[i]? = some (.tree kv d)) {c c' : C} (hz : FzC H J c c') : FzC H' J c c' := by
  cases hz with
  | d => exact .d
  | tree h1 h2 => exact .tree (h _ _ _ h1) h2
  | u => exact .u
theorem FzCs.mono {H H' : Heap} {J : List Nat} (h : ∀ (i : Nat) kv d, H[i]? = some (.tree kv d) → H'[i]? = some (.tree kv d)) : ∀ {c c' : List C}, FzCs H J c c' → FzCs H' J c c'
  | _, _, .nil => .nil
  | _, _, .cons h1 h2 => .cons (h1.mono h) (h2.mono h)
theorem FzA.mono {H H' : Heap} {J : List Nat} (h : ∀ (i : Nat) kv d, H[i]? = some (.tree kv d) → H'[i]? = some (.tree kv d)) {c c' : A} (hz : FzA H J c c') : FzA H' J c c' := by
  cases hz with
  | c h1 => exact .c (h1.mono h)
  | agg h1 => exact .agg (h1.mono h)
  | u => exact .u
theorem FzL.mono {H H' : Heap} {J : List Nat} (h : ∀ (i : Nat) kv d, H[i]? = some (.tree kv d) → H'[i]? = some (.tree kv d)) : ∀ {c c' : List A}, FzL H J c c' → FzL H' J c c'
  | _, _, .nil => .nil
  | _, _, .cons h1 h2 => .cons (h1.mono h) (h2.mono h)
/-! ### trees without trees below -/

/-! ### trees that are not looked at -/

end Go.AM

/-
  Functions that write into an array below which there is no memory.
  Conditions: none.
-/
namespace Go.AM
set_option linter.unusedVariables false
set_option linter.unusedSimpArgs false

end Go.AM

/-
  Laws whose code reads a table of the library: the table's block is told among the objects and owns nothing.
  Conditions: none.
-/
namespace Go.AM
open Go.ChangeShapes Go.WideShapes Go.ChangeAt Go.RowKit
set_option linter.unusedVariables false
set_option linter.unusedSimpArgs false

/-- the way in which a table's block is told -/
abbrev K.tab (g : Nat) : K := .grow 0 (some (g, 0, 0, 0))

theorem K.tab_owns {g b o : Nat} : ¬ (K.tab g).owns b o := by
  rintro ⟨_, _, h⟩
  omega

theorem safe_tab {w : World} {g b o : Nat} : Safe w [] b o → Safe w [K.tab g] b o := fun h =>
  ⟨h.1, fun k hk => by rw [List.mem_singleton.1 hk]; exact K.tab_owns⟩

theorem RC.tab {w : World} {g n m : Nat} {c : C} {v : Value} (h : RC w [] n c v) : RC w [K.tab g] m c v := by
  cases h with
  | d h => exact .d (h.mono fun b o hs => ⟨safe_tab hs, rfl⟩)
  | el h => exact .el (h.mono fun b o hs => ⟨safe_tab hs, rfl⟩)
  | full h => exact .full (h.mono fun b o hs => ⟨safe_tab hs, rfl⟩)
  | u h => exact .u h
  | ptr h => simp at h
  | own h1 h2 => obtain ⟨q, p, h3, _⟩ := h2; simp at h3
  | fsl h => simp at h
  | psl h => simp at h
  | rel h => simp at h
  | map h => simp at h
  | fn h1 h2 => exact .fn h1 fun i r o h => by obtain ⟨b, h3, _⟩ := h2 i r o h; simp at h3

theorem RCs.tab {w : World} {g n m : Nat} {cs : List C} {vs : List Value} (h : RCs w [] n cs vs) : RCs w [K.tab g] m cs vs :=
  ⟨h.1, fun i c v h1 h2 => (h.2 i c v h1 h2).tab⟩

theorem RA.tab {w : World} {g n m : Nat} {a : A} {v : Value} (h : RA w [] n a v) : RA w [K.tab g] m a v := by
  induction h with
  | u => exact .u
  | c h => exact .c h.tab
  | agg h => exact .agg h.tab
  | tup h1 h2 ih => exact .tup h1 ih
  | gd h1 h2 ih => exact .gd ih h2

theorem sim_tab {w : World} {g : Nat} {o : Obj} (h : w.heap[g]? = some o) : Sim w [K.tab g] ([Ob.tab g o] : Heap).length [Ob.tab g o] where
  len := rfl
  obj := fun i ob k h1 h2 => by
    cases i with
    | zero =>
      simp at h1 h2
      subst h1; subst h2
      exact ⟨⟨rfl, rfl⟩, h⟩
    | succ i => simp at h1
  apart := fun i j k k' b hi hj _ _ => by
    have hi := (List.getElem?_eq_some_iff.1 hi).1
    have hj := (List.getElem?_eq_some_iff.1 hj).1
    simp at hi hj; omega
  low := fun k b hk hb => by
    rw [List.mem_singleton.1 hk] at hb
    rw [show b = g from hb]
    exact (Array.getElem?_eq_some_iff.1 h).1

theorem Sim.tab_get {w : World} {ι : List K} {n g : Nat} {o : Obj} {H : Heap} (h : Sim w ι n H) (hH : H[0]? = some (.tab g o)) : w.heap[g]? = some o := by
  obtain ⟨k, hk, ho⟩ := h.get (j := 0) hH
  cases k with
  | grow q p =>
    cases p with
    | none => exact ho.elim
    | some p => obtain ⟨b, E, lim, sz⟩ := p; exact ho.2
  | _ => exact ho.elim

/-- a table is told by the block that holds it -/
theorem tab_of {P : Program} {W : World} {name : String} {k : IntKind} {zs : List Int} (h : Lib.TabIs P W name k zs) :
    ∃ (g : Nat) (o : Obj), W.heap[g]? = some o ∧ ∀ w : World, w.heap[g]? = some o → Lib.TabIs P w name k zs := by
  unfold Lib.TabIs World.var? at h
  cases hg : P.globalNamed name with
  | none => rw [hg] at h; cases h
  | some g =>
    rw [hg] at h
    simp only [Option.bind_some] at h
    split at h
    · rename_i cs t fz hc
      refine ⟨g, _, hc, fun w hw => ?_⟩
      unfold Lib.TabIs World.var?
      rw [hg]
      simp only [Option.bind_some, hw]
      exact h
    · cases h

/-- a call that reads a table, makes new blocks and hands out a string -/
theorem acalls_tab_str {P : Program} {f : FuncId} {g : Nat} {o : Obj} {H : Heap} {args : List A} {s : List UInt8} (hH : H[0]? = some (.tab g o)) (hfn : ∃ fn, P.funcs[f]? = some fn ∧ fn.body.isSome = true ∧ fn.name ≠ "runtime.NumGoroutine") (hs : s.length ≤ maxStr)
    (hC : ∀ (w : World) (ι : List K) (n : Nat) (cargs : List Value), w.heap[g]? = some o → cargs.length = args.length → (∀ (i : Nat) a v, args[i]? = some a → cargs[i]? = some v → RA w ι n a v) →
      Calls P f cargs.toArray w fun e w' => e = .returned (.string ⟨s.toArray⟩) ∧ ∃ k os, w' = Sort.grow (w.drewN k) os) :
    ACalls P f args H (fun r H' => H' = H ∧ r = .c (.d (.str s))) := by
  refine ⟨hfn, fun w ι cargs hsim hl ha => ?_⟩
  refine (hC w ι _ cargs (hsim.tab_get hH) hl ha).mono ?_
  rintro e w' ⟨rfl, k, os, rfl⟩
  have hb : ∀ b, b < w.heap.size → (Sort.grow (w.drewN k) os).heap[b]? = w.heap[b]? := fun b hb => by
    show (w.heap ++ os)[b]? = _
    rw [Array.getElem?_append_left hb]
  have hx : Ext w ι (Sort.grow (w.drewN k) os) ι := Ext.of_blocks rfl rfl rfl (by show w.heap.size ≤ (w.heap ++ os).size; simp) hb
  refine ⟨_, _, ι, _, rfl, ⟨rfl, rfl⟩, hsim.of_blocks hx hb, .c (.d ?_), hx, Nat.le_refl _⟩
  have := RD.str (w := Sort.grow (w.drewN k) os) (S := Safe (Sort.grow (w.drewN k) os) ι) ⟨s.toArray⟩ (by simpa using hs)
  simpa using this

/-- a quiet call of a function that reads the table -/
theorem qcall_tab {P : Program} {f : FuncId} {as : List A} {K : A → St → Prop} {st : St} {r : A} {g : Nat} {o : Obj} (hc : ∀ H : Heap, H[0]? = some (.tab g o) → ACalls P f as H (fun r' H' => H' = H ∧ r' = r))
    (hf : Obs.fits st.ext.length 0 st.ext) (he : st.ext[0]? = some (.tab g o)) (hr : A.re st.ext.length r = r) (hk : K r st) : QCallK P f as st K := by
  refine ⟨hf, r, hr, fun st' hg => hc _ ?_, hk⟩
  have hi := (List.getElem?_eq_some_iff.1 he).1
  have := hg.2.2 [] [] (.e 0) (.tab g o) (by simp [z_, List.getD, he]) (by intro h; cases h) (by intro p s h; cases h)
  simp only [z_, List.getD] at this
  rw [List.getElem?_append_left (by rw [hg.1]; exact hi)]
  rw [List.getElem?_eq_getElem (by rw [hg.1]; exact hi)] at this ⊢
  simpa using this

section
variable {P : Program} {H : Type} {enc : TypeId × Value → H}

/-- as law_contract, where a table is told -/
theorem law_contract_tab {f : FuncId} {fn : Func} {s : ChangeSpec} {apart fresh handsOn again : Bool} {L : List TypeId} {tb : TypeId} {T : Nat → Obj → Prop} (hL : plainB P L = true) (hl : laidOutB P = true)
    (hp : (fn.params.toList.all fun t => L.contains t && P.readableRec t && decide (t < P.types.size)) = true) (hv : s.vars = [])
    (hs : ∀ ds : List (DataW H), ds.length = fn.params.size → s.fn H ds = { results := [.lit (.bool true)], args := ds }) (hr : fn.resultTypes = #[tb]) (htb : P.underlying tb = some .bool)
    (hA : ∀ g o, T g o → ∀ rows, HasTys P fn.params.toList rows → ACalls P f (argsA P fn.params.toList rows) [.tab g o] (fun r H' => H' = [.tab g o] ∧ r = .c (.d (.bool true))))
    (W : World) (base : Nat) (args : Array Value) (ds gs : List (DataW H)) (before : List MemPlace) (hT0 : ∃ (g : Nat) (o : Obj), W.heap[g]? = some o ∧ T g o)
    (hval : ∀ (j : Nat) t v, fn.params[j]? = some t → args[j]? = some v → Value.okWide P W .any base t v)
    (hW : DataW.Whole enc P fn.params.toList s.vars apart W args.toList ds gs before)
    (hw : (DataW.weightsEach P (fn.params.toList ++ s.plain.varTypes P) (ds ++ gs)).all (· ≤ reachBytes) = true) :
    Calls P f args W fun e W' => ∃ v, e = .returned v ∧ s.post enc P fn apart fresh handsOn again W args v W' := by
  have hW' := hW
  obtain ⟨p, q, hT, hV, rfl, hfz, hnd⟩ := hW
  rw [hv] at hV
  obtain ⟨rfl, rfl⟩ := trodVars_none hV
  have hmem : ∀ t ∈ fn.params.toList, t ∈ L ∧ P.readableRec t = true ∧ t < P.types.size := fun t ht => by
    have := List.all_eq_true.1 hp t ht
    simpa [and_assoc] using this
  have hlen : ∀ {ts : List TypeId} {vs : List Value} {ds : List (DataW H)} {ps : List MemPlace}, DataW.TrodAll enc P W 0 (fun _ => true) true ts vs ds ps → ds.length = ts.length := by
    intro ts
    induction ts with
    | nil => intro vs ds ps h; obtain ⟨_, rfl, _⟩ := trodAll_nil h; rfl
    | cons t ts ih => intro vs ds ps h; obtain ⟨_, _, _, _, _, _, _, rfl, _, _, h2⟩ := trodAll_cons h; simp [ih h2]
  have hdl : ds.length = fn.params.size := by rw [hlen hT]; simp
  have hvt : s.plain.varTypes P = [] := by simp [DataSpec.varTypes, ChangeSpec.plain, hv]
  rw [hvt, List.append_nil, List.append_nil] at hw
  obtain ⟨rows, h1, h2, h3⟩ := trod_rows hL (fun t ht => (hmem t ht).1) hT (fun n hn => by simpa using List.all_eq_true.1 hw n hn) base (fun j t v h4 h5 => hval j t v (by simpa using h4) (by simpa using h5))
  obtain ⟨g, o, hgo, hTt⟩ := hT0
  have hc := (hA g o hTt rows h1).2 W [K.tab g] args.toList (sim_tab hgo) h2 (fun i a v h4 h5 => (h3 i a v h4 h5).tab)
  rw [Array.toArray_toList] at hc
  refine hc.mono fun e W' ⟨r, H', ι', v, he, hq, hsim, hra, hx, _⟩ => ⟨v, he, ?_⟩
  obtain ⟨hH, hq⟩ := hq
  subst hH
  have hvt : v = .bool true := by
    subst hq
    cases hra with
    | c h => cases h with
      | d h => cases h; rfl
  subst hvt
  have hblock : ∀ b, b < W.heap.size → W'.heap[b]? = W.heap[b]? := fun b hb => by
    by_cases e : b = g
    · subst e
      rw [hsim.tab_get rfl, hgo]
    · exact (hx.block b hb (fun k hk => by rw [List.mem_singleton.1 hk]; exact e)).1
  have hbel : Below W.heap.size W W' := ⟨hx.os, hx.tape, hx.output, hx.size, hblock⟩
  have hfn := hs (ds ++ []) (by simpa using hdl)
  refine post_of_below (pa := p) (pv := []) hW' (fun b sp hd => ?_) (fun sp hsp => ?_) (fun sp _ => ?_) rfl hbel (ok_one hr rfl (okWide_bool_mk htb _))
  · rw [hfn, hr]
    exact trodAll_mk1 (shut_bool htb true)
  · rw [hfn, List.append_nil]
    exact trodAll_again hl hblock (fun t ht => (hmem t ht).2) hT (fun x hx => hsp x (by simpa using hx)) (fun x hx => hW'.lt x (by simpa using hx))
  · rw [hfn, hv]; rfl

end
end Go.AM

/-
  Functions that are handed nil, where an owned slice with nothing in it serves.
  Conditions: none.
-/
namespace Go.AM
set_option linter.unusedVariables false
set_option linter.unusedSimpArgs false
variable {w : World} {ι : List K}

end Go.AM

/-
  The machine's equations under short names.
  Conditions: none.
-/
namespace Go.AM
theorem ew : (∀ {s : List A} {x : A}, Opd.ev s (.k x) = x) ∧
  (∀ {x0 : A} {l : List A}, Opd.ev (x0 :: l) (.t 0) = x0) ∧
  (∀ {x0 x1 : A} {l : List A}, Opd.ev (x0 :: x1 :: l) (.t 1) = x1) ∧
  (∀ {x0 x1 x2 : A} {l : List A}, Opd.ev (x0 :: x1 :: x2 :: l) (.t 2) = x2) ∧
  (∀ {x0 x1 x2 x3 : A} {l : List A}, Opd.ev (x0 :: x1 :: x2 :: x3 :: l) (.t 3) = x3) ∧
  (∀ {x0 x1 x2 x3 x4 : A} {l : List A}, Opd.ev (x0 :: x1 :: x2 :: x3 :: x4 :: l) (.t 4) = x4) ∧
  (∀ {x0 x1 x2 x3 x4 x5 : A} {l : List A}, Opd.ev (x0 :: x1 :: x2 :: x3 :: x4 :: x5 :: l) (.t 5) = x5) ∧
  (∀ {x0 x1 x2 x3 x4 x5 x6 : A} {l : List A}, Opd.ev (x0 :: x1 :: x2 :: x3 :: x4 :: x5 :: x6 :: l) (.t 6) = x6) ∧
  (∀ {x0 x1 x2 x3 x4 x5 x6 x7 : A} {l : List A}, Opd.ev (x0 :: x1 :: x2 :: x3 :: x4 :: x5 :: x6 :: x7 :: l) (.t 7) = x7) ∧
  (∀ {x0 x1 x2 x3 x4 x5 x6 x7 : A} {l : List A} {n : Nat}, Opd.ev (x0 :: x1 :: x2 :: x3 :: x4 :: x5 :: x6 :: x7 :: l) (.t (n + 8)) = Opd.ev l (.t n)) := ⟨rfl, rfl, rfl, rfl, rfl, rfl, rfl, rfl, rfl, rfl⟩
theorem sw : (∀ {α : Type} {x0 y : α} {l : List α}, (x0 :: l).set 0 y = y :: l) ∧
  (∀ {α : Type} {x0 x1 y : α} {l : List α}, (x0 :: x1 :: l).set 1 y = x0 :: y :: l) ∧
  (∀ {α : Type} {x0 x1 x2 y : α} {l : List α}, (x0 :: x1 :: x2 :: l).set 2 y = x0 :: x1 :: y :: l) ∧
  (∀ {α : Type} {x0 x1 x2 x3 y : α} {l : List α}, (x0 :: x1 :: x2 :: x3 :: l).set 3 y = x0 :: x1 :: x2 :: y :: l) ∧
  (∀ {α : Type} {x0 x1 x2 x3 x4 y : α} {l : List α}, (x0 :: x1 :: x2 :: x3 :: x4 :: l).set 4 y = x0 :: x1 :: x2 :: x3 :: y :: l) ∧
  (∀ {α : Type} {x0 x1 x2 x3 x4 x5 y : α} {l : List α}, (x0 :: x1 :: x2 :: x3 :: x4 :: x5 :: l).set 5 y = x0 :: x1 :: x2 :: x3 :: x4 :: y :: l) ∧
  (∀ {α : Type} {x0 x1 x2 x3 x4 x5 x6 y : α} {l : List α}, (x0 :: x1 :: x2 :: x3 :: x4 :: x5 :: x6 :: l).set 6 y = x0 :: x1 :: x2 :: x3 :: x4 :: x5 :: y :: l) ∧
  (∀ {α : Type} {x0 x1 x2 x3 x4 x5 x6 x7 y : α} {l : List α}, (x0 :: x1 :: x2 :: x3 :: x4 :: x5 :: x6 :: x7 :: l).set 7 y = x0 :: x1 :: x2 :: x3 :: x4 :: x5 :: x6 :: y :: l) ∧
  (∀ {α : Type} {x0 x1 x2 x3 x4 x5 x6 x7 y : α} {l : List α} {n : Nat}, (x0 :: x1 :: x2 :: x3 :: x4 :: x5 :: x6 :: x7 :: l).set (n + 8) y = x0 :: x1 :: x2 :: x3 :: x4 :: x5 :: x6 :: x7 :: l.set n y) := ⟨rfl, rfl, rfl, rfl, rfl, rfl, rfl, rfl, rfl⟩
theorem kw : (∀ {P : Program} {F : Ex → St → Prop} {fs : List Fr} {st : St}, aw P .skip (kq P F fs) st = kq P F fs .normal st) ∧
  (∀ {P : Program} {F : Ex → St → Prop} {fs : List Fr} {st : St} {ops kill}, aw P (.region ops kill) (kq P F fs) st = awOps P (kq P F fs .normal) kill ops st) ∧
  (∀ {P : Program} {F : Ex → St → Prop} {fs : List Fr} {st : St} {a b}, aw P (.seq a b) (kq P F fs) st = aw P a (kq P F (.seq b :: fs)) st) ∧
  (∀ {P : Program} {F : Ex → St → Prop} {fs : List Fr} {st : St} {id c}, aw P (.block id c) (kq P F fs) st = aw P c (kq P F (.block id :: fs)) st) ∧
  (∀ {P : Program} {F : Ex → St → Prop} {fs : List Fr} {st : St} {id}, aw P (.exit id) (kq P F fs) st = kq P F fs (.exit id) st) ∧
  (∀ {P : Program} {F : Ex → St → Prop} {fs : List Fr} {st : St}, aw P .ret (kq P F fs) st = kq P F fs .ret st) ∧
  (∀ {P : Program} {F : Ex → St → Prop} {st : St} {e}, kq P F [] e st = F e st) ∧
  (∀ {P : Program} {F : Ex → St → Prop} {fs : List Fr} {st : St} {b}, kq P F (.seq b :: fs) .normal st = aw P b (kq P F fs) st) ∧
  (∀ {P : Program} {F : Ex → St → Prop} {fs : List Fr} {st : St} {b}, kq P F (.seq b :: fs) .ret st = kq P F fs .ret st) ∧
  (∀ {P : Program} {F : Ex → St → Prop} {fs : List Fr} {st : St} {b i}, kq P F (.seq b :: fs) (.exit i) st = kq P F fs (.exit i) st) ∧
  (∀ {P : Program} {F : Ex → St → Prop} {fs : List Fr} {st : St} {i}, kq P F (.block i :: fs) .normal st = kq P F fs .normal st) ∧
  (∀ {P : Program} {F : Ex → St → Prop} {fs : List Fr} {st : St} {i}, kq P F (.block i :: fs) .ret st = kq P F fs .ret st) ∧
  (∀ {P : Program} {F : Ex → St → Prop} {fs : List Fr} {st : St} {i j}, kq P F (.block i :: fs) (.exit j) st = if j = i then kq P F fs .normal st else kq P F fs (.exit j) st) ∧
  (∀ {P : Program} {F : Ex → St → Prop} {fs : List Fr} {st : St} {I m}, kq P F (.loop I m :: fs) .normal st = LB I m st) ∧
  (∀ {P : Program} {F : Ex → St → Prop} {fs : List Fr} {st : St} {I m}, kq P F (.loop I m :: fs) .ret st = kq P F fs .ret st) ∧
  (∀ {P : Program} {F : Ex → St → Prop} {fs : List Fr} {st : St} {I m i}, kq P F (.loop I m :: fs) (.exit i) st = kq P F fs (.exit i) st) := ⟨rfl, rfl, rfl, rfl, rfl, rfl, rfl, rfl, rfl, rfl, rfl, rfl, rfl, rfl, rfl, rfl⟩
theorem tw : (∀ {P : Program} {F : Ex → St → Prop} {fs : List Fr} {st : St} {kill}, awOps P (kq P F fs .normal) kill [] st = kq P F fs .normal ⟨o_ st.sl kill, st.ext, st.loc⟩) ∧
  (∀ {P : Program} {F : Ex → St → Prop} {fs : List Fr} {st : St} {kill dst op rest}, awOps P (kq P F fs .normal) kill (⟨dst, op, none⟩ :: rest) st = c_ P st true (nx P F ⟨dst, none, rest, kill, fs⟩) op) ∧
  (∀ {P : Program} {F : Ex → St → Prop} {st : St} {k a}, nx P F k a st = awOps P (kq P F k.fs .normal) k.kill k.rest ⟨d_ st.sl k.dst (e_ k.gd a), st.ext, st.loc⟩) ∧
  (∀ {v : A} {K : A → St → Prop} {st : St}, OptK (some v) K st = K v st) ∧
  (∀ {K : A → St → Prop} {st' : St}, StoreK (some st') K = (Obs.fits st'.ext.length 0 st'.ext ∧ K .u st')) ∧
  (∀ {n : Nat}, allLen n [] ↔ True) ∧
  (∀ {n : Nat} {r : List D} {l : List (List D)}, allLen n (r :: l) ↔ r.length = n ∧ allLen n l) ∧
  (∀ {n : Nat} {l l' : List (List D)}, allLen n (l ++ l') ↔ allLen n l ∧ allLen n l') ∧
  (∀ {α β : Type} {a : α} {f : α → β}, Option.map f (some a) = some (f a)) :=
  ⟨rfl, rfl, rfl, rfl, rfl, allLen_nil_iff, allLen_cons_iff, allLen_append_iff, rfl⟩
end Go.AM

/-
  The array of a tree that a call hands out is taken as an own row of cells.
  Conditions: none.
-/
namespace Go.AM
set_option linter.unusedVariables false
set_option linter.unusedSimpArgs false
section
variable {w : World} {ι ι' : List K}

/-- what is told stands where trees alone are taken apart -/
theorem RC.melt {n : Nat} {c : C} {v : Value} (hs : ∀ b o, Safe w ι b o → Safe w ι' b o) (hk : ∀ (i : Nat) k, ι[i]? = some k → (∀ B, k ≠ .tree B) → ι'[i]? = some k) (h : RC w ι n c v) : RC w ι' n c v := by
  have hs' : ∀ b o, Safe w ι b o → Safe w ι' b o ∧ w.cell? ⟨b, o, none⟩ = w.cell? ⟨b, o, none⟩ := fun b o h => ⟨hs b o h, rfl⟩
  cases h with
  | d h => exact .d (h.mono hs')
  | ptr h => exact .ptr (hk _ _ h (by simp))
  | el h => exact .el (h.mono hs')
  | own h1 h2 => obtain ⟨q, p, h3, h4⟩ := h2; exact .own (h1.mono hs') ⟨q, p, hk _ _ h3 (by simp), h4⟩
  | full h => exact .full (h.mono hs')
  | fsl h h2 => exact .fsl (hk _ _ h (by simp)) h2
  | psl h h1 h2 h3 => exact .psl (hk _ _ h (by simp)) h1 h2 h3
  | rel h => exact .rel (hk _ _ h (by simp))
  | map h => exact .map (hk _ _ h (by simp))
  | fn h1 h2 =>
    refine .fn h1 fun i r o h => ?_
    obtain ⟨b, h3, h4⟩ := h2 i r o h
    exact ⟨b, hk _ _ h3 (by simp), h4⟩
  | u h => exact .u h

theorem RO.melt {n : Nat} {o : Ob} {k : K} (hs : ∀ b o, Safe w ι b o → Safe w ι' b o) (hk : ∀ (i : Nat) k, ι[i]? = some k → (∀ B, k ≠ .tree B) → ι'[i]? = some k) (h : RO w ι n o k) : RO w ι' n o k := by
  have hs' : ∀ b o, Safe w ι b o → Safe w ι' b o ∧ w.cell? ⟨b, o, none⟩ = w.cell? ⟨b, o, none⟩ := fun b o h => ⟨hs b o h, rfl⟩
  match o, k, h with
  | .cells cs, .blk b, ⟨vs, el, h1, h2⟩ => exact ⟨vs, el, h1, h2.1, fun i c v hc hv => (h2.2 i c v hc hv).melt hs hk⟩
  | .rows rs, .rows b sz _, ⟨vs, el, h1, h2, h3, h4⟩ => exact ⟨vs, el, h1, h2, h3, fun i r hi => ⟨(h4 i r hi).1, fun j x hj => let ⟨y, p, q⟩ := (h4 i r hi).2 j x hj; ⟨y, p, q.mono hs'⟩⟩⟩
  | .grow p s, .grow q none, h => exact h
  | .grow p s, .grow q (some _), h => exact h
  | .map m, .blk b, ⟨es, clock, h1, h2, h3, h4⟩ =>
    refine ⟨es, clock, h1, h2, h3, fun i k row e hi he => ?_⟩
    obtain ⟨a1, a2, a3⟩ := h4 i k row e hi he
    refine ⟨a1, a2, ?_⟩
    rcases a3 with ⟨x, v, p, q, r⟩ | ⟨vs, p, q, r⟩
    · exact .inl ⟨x, v, p, q, r.mono hs'⟩
    · exact .inr ⟨vs, p, q, fun j x y a b => (r j x y a b).mono hs'⟩
  | .tree v d, .tree B, h => exact h
  | .tab g o, .grow q (some _), h => exact h
  | .dead, k, _ => cases k <;> trivial

/-- the array of a tree, and the trees below it -/
theorem RT.open {v : Value} {rows : List (List D)} {sz : Nat} {B : Nat → Prop} (h : RT w (.sl rows) v B) (hne : rows ≠ []) (hsz : ∀ r ∈ rows, r.length = sz) :
    ∃ b cap vs el, v = .slice (some ⟨b, 0, none⟩) rows.length cap ∧ B b ∧ rows.length ≤ cap ∧ rows.length ≤ maxRows ∧ w.heap[b]? = some (.cells vs el (0, 0)) ∧ rows.length * sz ≤ vs.size ∧
      ∀ (i : Nat) (r : List D), rows[i]? = some r → r.length = sz ∧ ∀ (j : Nat) (x : D), r[j]? = some x → ∃ y, vs[i * sz + j]? = some y ∧ ∃ B', RT w x y B' ∧ ∀ c, B' c → B c ∧ c ≠ b := by
  generalize hx : D.sl rows = x at h
  cases h with
  | leaf h1 h2 =>
    subst hx
    cases rows with
    | nil => exact absurd rfl hne
    | cons r l => simp [D.leaf] at h1
  | sl rows' b cap sz' vs el vf Bs h1 h2 h3 h4 h5 h6 h7 h8 h9 h10 =>
    cases hx
    refine ⟨b, cap, vs, el, rfl, .inl rfl, h2, h3, h5, by rw [← flatten_len hsz]; exact h6, fun i r hi => ⟨hsz r (List.mem_of_getElem? hi), fun j x hj => ?_⟩⟩
    have hf := flatten_get hsz hi hj
    exact ⟨_, h7 _ x hf, Bs (i * sz + j), h8 _ x hf, fun c hc => ⟨.inr ⟨_, hc⟩, fun e => h9 _ (by rw [← e]; exact hc)⟩⟩

/-- a call that hands out a tree, its array taken as an own row of cells -/
theorem acalls_melt {P : Program} {f : FuncId} {args : List A} {H : Heap} {pre post : List C} {rows : List (List D)} (sz : Nat) (hne : rows ≠ []) (hsz : ∀ r ∈ rows, r.length = sz)
    (h : ACalls P f args H (fun r H' => ∃ kv, H' = H ++ [.tree kv rows] ∧ r = .agg (pre ++ .d (.v kv) :: post))) : ACalls P f args H (fun r H' => H' = H ++ [.rows rows] ∧ r = .agg (pre ++ .fsl (.e H.length) rows.length sz :: post)) := by
  refine ⟨h.1, fun w ι cargs hsim hl ha => (h.2 w ι cargs hsim hl ha).mono fun e w' ⟨r, H', ι', v, he, ⟨kv, hH', hr⟩, hs', hr', hx, hle⟩ => ?_⟩
  subst hH'; subst hr
  have hlen : (H ++ [Ob.tree kv rows]).length = H.length + 1 := by simp
  have hιl : ι'.length = H.length + 1 := by rw [hs'.len, hlen]
  have hιH : ι.length = H.length := hsim.len
  obtain ⟨k, hk, ho⟩ := hs'.get (j := H.length) (o := .tree kv rows) (by simp)
  obtain ⟨B, B₀, rfl, hB, hT⟩ := ho.tree_inv
  obtain ⟨b, cap, vs, el, e1, e2, e3, e4, e5, e6, e7⟩ := hT.open hne hsz
  have hBb : B b := hB b e2
  generalize hι2 : ι'.set H.length (.rows b sz rows.length) = ι2
  have hget : ∀ i, i ≠ H.length → ι2[i]? = ι'[i]? := fun i hi => by rw [← hι2, List.getElem?_set_ne (Ne.symm hi)]
  have hself : ι2[H.length]? = some (.rows b sz rows.length) := by rw [← hι2, List.getElem?_set_self (by omega)]
  have hmem : ∀ k ∈ ι2, k = .rows b sz rows.length ∨ k ∈ ι' := fun k hk => by rw [← hι2] at hk; rcases List.mem_or_eq_of_mem_set hk with h | h; exact .inr h; exact .inl h
  have hsafe : ∀ c o, Safe w' ι' c o → Safe w' ι2 c o := fun c o hs => ⟨hs.1, fun k hk2 hown => by
    rcases hmem k hk2 with rfl | hk3
    · cases hown
      exact hs.2 (.tree B) (List.mem_of_getElem? hk) hBb
    · exact hs.2 k hk3 hown⟩
  have hkeep : ∀ (i : Nat) k, ι'[i]? = some k → (∀ B, k ≠ .tree B) → ι2[i]? = some k := fun i k hi hn => by
    have : i ≠ H.length := fun e => by subst e; rw [hk] at hi; cases hi; exact hn _ rfl
    rw [hget i this]; exact hi
  have hatB : ∀ (i : Nat) k c, ι2[i]? = some k → k.at c → ∃ k', ι'[i]? = some k' ∧ k'.at c := fun i k c hi hc => by
    by_cases e : i = H.length
    · subst e
      rw [hself] at hi; cases hi
      cases hc
      exact ⟨_, hk, hBb⟩
    · rw [hget i e] at hi; exact ⟨k, hi, hc⟩
  have hsim2 : Sim w' ι2 (H ++ [Ob.rows rows]).length (H ++ [.rows rows]) := by
    refine ⟨by rw [← hι2]; simp [hιl], fun i o k ho hi => ?_, fun i j k k' c hi hj hk1 hk2 => ?_, fun k c hk1 hc => ?_⟩
    · by_cases e : i = H.length
      · subst e
        rw [hself] at hi; cases hi
        have : o = .rows rows := by simp at ho; exact ho.symm
        subst this
        refine ⟨vs, el, e5, e6, ⟨e4, rfl⟩, fun i r hi => ⟨(e7 i r hi).1, fun j x hj => ?_⟩⟩
        obtain ⟨y, a1, B', a2, a3⟩ := (e7 i r hi).2 j x hj
        refine ⟨y, a1, a2.rd fun c o hc => ?_⟩
        obtain ⟨b1, b2⟩ := a3 c hc
        refine ⟨hs'.low _ c (List.mem_of_getElem? hk) (hB c b1), fun k hk1 hown => ?_⟩
        obtain ⟨i', hi'⟩ := List.mem_iff_getElem?.1 hk1
        by_cases e : i' = H.length
        · subst e
          rw [hself] at hi'; cases hi'
          exact b2 hown
        · rw [hget i' e] at hi'
          exact e (hs'.apart _ _ _ _ c hi' hk (K.at_of_owns hown) (hB c b1))
      · rw [hget i e] at hi
        have hi2 : i < H.length := by
          have := (List.getElem?_eq_some_iff.1 hi).1
          omega
        rw [List.getElem?_append_left hi2] at ho
        have := hs'.obj i o k (by rw [List.getElem?_append_left hi2]; exact ho) hi
        rw [show (H ++ [Ob.rows rows]).length = (H ++ [Ob.tree kv rows]).length by simp]
        exact this.melt hsafe hkeep
    · obtain ⟨q, q1, q2⟩ := hatB i k c hi hk1
      obtain ⟨q', q3, q4⟩ := hatB j k' c hj hk2
      exact hs'.apart _ _ _ _ c q1 q3 q2 q4
    · obtain ⟨i, hi⟩ := List.mem_iff_getElem?.1 hk1
      obtain ⟨q, q1, q2⟩ := hatB i k c hi hc
      exact hs'.low _ c (List.mem_of_getElem? q1) q2
  refine ⟨_, _, ι2, v, he, ⟨rfl, rfl⟩, hsim2, ?_, ⟨hx.os, hx.tape, hx.output, hx.size, fun c o hs => ?_, fun c hc hn => ?_, fun i k hi => ?_⟩, by simp⟩
  · cases hr' with
    | agg h2 =>
      refine .agg ⟨by simpa using h2.1, fun i c y hi hy => ?_⟩
      rw [show (H ++ [Ob.rows rows]).length = (H ++ [Ob.tree kv rows]).length by simp]
      by_cases e : i = pre.length
      · subst e
        have hc : c = .fsl (.e H.length) rows.length sz := by simp at hi; exact hi.symm
        subst hc
        have := h2.2 pre.length (.d (.v kv)) y (by simp) hy
        cases this with
        | d hd =>
          cases hd
          rw [e1]
          exact .fsl hself e3
      · refine (h2.2 i c y ?_ hy).melt hsafe hkeep
        rcases Nat.lt_or_gt_of_ne e with h3 | h3
        · rw [List.getElem?_append_left h3] at hi ⊢; exact hi
        · rw [List.getElem?_append_right (by omega)] at hi ⊢
          obtain ⟨m, hm⟩ : ∃ m, i - pre.length = m + 1 := ⟨i - pre.length - 1, by omega⟩
          rw [hm] at hi ⊢
          simpa using hi
  · obtain ⟨p, q⟩ := hx.safe c o hs
    exact ⟨hsafe c o p, q⟩
  · obtain ⟨p, q⟩ := hx.block c hc hn
    refine ⟨p, fun k hk1 hat => ?_⟩
    obtain ⟨i, hi⟩ := List.mem_iff_getElem?.1 hk1
    obtain ⟨k', q1, q2⟩ := hatB i k c hi hat
    exact q k' (List.mem_of_getElem? q1) q2
  · obtain ⟨k', p, q⟩ := hx.ev i k hi
    have : i ≠ H.length := by have := (List.getElem?_eq_some_iff.1 hi).1; omega
    exact ⟨k', by rw [hget i this]; exact p, q⟩
end
end Go.AM

/-
  Laws whose code reads several variables of the library: each one's block is told among the objects and owns nothing.
  Conditions: none.
-/
namespace Go.AM
open Go.ChangeShapes Go.WideShapes Go.ChangeAt Go.RowKit
set_option linter.unusedVariables false
set_option linter.unusedSimpArgs false

section
variable {P : Program} {H : Type} {enc : TypeId × Value → H}

end
end Go.AM

/-
  An own object of data is let go: its pointer reads as one at a row of data.
  Conditions: none.
-/
namespace Go.AM
open Go.ChangeShapes Go.WideShapes Go.ChangeAt Go.RowKit
set_option linter.unusedVariables false
set_option linter.unusedSimpArgs false

end Go.AM

/-
  Trees beside told variables of the library: calls that are told of a few objects alone; functions that hand out a row of their own.
  Conditions: none.
-/
namespace Go.AM
set_option linter.unusedVariables false
set_option linter.unusedSimpArgs false
/-! ### calls beside a variable of the library -/

end Go.AM

/-
  Functions that hand out a row of their own, where a variable of the library is told.
  Conditions: none.
-/
namespace Go.AM
set_option linter.unusedVariables false
set_option linter.unusedSimpArgs false
variable {w : World} {ι : List K} {n : Nat}
end Go.AM
