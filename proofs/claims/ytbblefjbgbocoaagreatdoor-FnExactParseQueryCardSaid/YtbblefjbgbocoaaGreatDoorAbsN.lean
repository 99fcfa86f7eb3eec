/-
  The abstract machine: several parts of it in one text.
  Conditions: none.
-/
import Derived.Test.YtbblefjbgbocoaaGreatDoorAbsI
import Derived.Test.YtbblefjbgbocoaaGreatDoorAbsH
import Derived.Lib.LaidTab
import Derived.Sort.Grow
import Derived.Deep.Draws
/-
  Own objects are dropped or put in another order; functions that hand out objects of their own.
  Conditions: none.
-/
namespace Go.AM
set_option linter.unusedVariables false
set_option linter.unusedSimpArgs false

def Ref.ren (ks : List Nat) : Ref → Ref
  | .e b => .e b
  | .l j => .l (ks.getD j 0)
def C.ren (ks : List Nat) : C → C
  | .ptr r off => .ptr (r.ren ks) off
  | .own r pos rows => .own (r.ren ks) pos rows
  | .fsl r len sz => .fsl (r.ren ks) len sz
  | .psl r lo m sz => .psl (r.ren ks) lo m sz
  | .rel r i off => .rel (r.ren ks) i off
  | .map r => .map (r.ren ks)
  | .fn f caps => .fn f (caps.map fun x => (x.1.ren ks, x.2))
  | c => c
mutual
def A.ren (ks : List Nat) : A → A
  | .u => .u
  | .c x => .c (x.ren ks)
  | .agg cs => .agg (cs.map (C.ren ks))
  | .tup vs => .tup (A.rens ks vs)
  | .gd g x => .gd g (x.ren ks)
def A.rens (ks : List Nat) : List A → List A
  | [] => []
  | a :: l => a.ren ks :: A.rens ks l
end
def Ob.ren (ks : List Nat) : Ob → Ob
  | .cells cs => .cells (cs.map (C.ren ks))
  | o => o

/-- references lie where they belong: strictly -/
def Ref.lo (n m : Nat) : Ref → Prop
  | .e b => b < n
  | .l i => i < m
def C.lo (n m : Nat) : C → Prop
  | .ptr r _ => r.lo n m
  | .own r _ _ => r.lo n m
  | .fsl r _ _ => r.lo n m
  | .psl r _ _ _ => r.lo n m
  | .rel r _ _ => r.lo n m
  | .map r => r.lo n m
  | .fn _ caps => ∀ x ∈ caps, x.1.lo n m
  | _ => True
def Cs.lo (n m : Nat) : List C → Prop
  | [] => True
  | c :: l => c.lo n m ∧ Cs.lo n m l
mutual
def A.lo (n m : Nat) : A → Prop
  | .u => True
  | .c x => x.lo n m
  | .agg cs => Cs.lo n m cs
  | .tup vs => As.lo n m vs
  | .gd g x => x.lo n m
def As.lo (n m : Nat) : List A → Prop
  | [] => True
  | a :: l => a.lo n m ∧ As.lo n m l
end
def Ob.lo (n m : Nat) : Ob → Prop
  | .cells cs => Cs.lo n m cs
  | _ => True
def Obs.lo (n m : Nat) : List Ob → Prop
  | [] => True
  | o :: l => o.lo n m ∧ Obs.lo n m l

theorem rens_map (ks : List Nat) (as : List A) : A.rens ks as = as.map (A.ren ks) := by
  induction as with
  | nil => rfl
  | cons a l ih => simp only [A.rens, ih, List.map_cons]

section
variable {w : World} {ι ι' : List K} {n q : Nat} {ks : List Nat}

theorem Cs_lo_get {m : Nat} : ∀ {cs : List C} {i : Nat} {c : C}, Cs.lo n m cs → cs[i]? = some c → c.lo n m
  | c' :: l, 0, c, h, hi => by simp at hi; subst hi; exact h.1
  | c' :: l, i + 1, c, h, hi => Cs_lo_get h.2 (by simpa using hi)
theorem Obs_lo_get {m : Nat} : ∀ {H : Heap} {i : Nat} {o : Ob}, Obs.lo n m H → H[i]? = some o → o.lo n m
  | x :: l, 0, o, h, hi => by simp at hi; subst hi; exact h.1
  | x :: l, i + 1, o, h, hi => Obs_lo_get h.2 (by simpa using hi)

theorem RC_ren (hs : ∀ b o, Safe w ι b o → Safe w ι' b o ∧ w.cell? ⟨b, o, none⟩ = w.cell? ⟨b, o, none⟩) (hi : ∀ (r : Ref) k, r.lo n q → ι[idx n (r.ren ks)]? = some k → ι'[idx n r]? = some k)
    {c : C} {v : Value} (hf : c.lo n q) (h : RC w ι n (c.ren ks) v) : RC w ι' n c v := by
  cases c with
  | d x => cases h with | d h => exact .d (h.mono hs)
  | ptr r o => cases h with | ptr h => exact .ptr (hi _ _ hf h)
  | el row o => cases h with | el h => exact .el (h.mono hs)
  | own r p rows => cases h with | own h1 h2 => obtain ⟨a, b, h3, h4⟩ := h2; exact .own (h1.mono hs) ⟨a, b, hi _ _ hf h3, h4⟩
  | full rows => cases h with | full h => exact .full (h.mono hs)
  | fsl r l s => cases h with | fsl h h' => exact .fsl (hi _ _ hf h) h'
  | psl r l m s => cases h with | psl h h1 h2 h3 => exact .psl (hi _ _ hf h) h1 h2 h3
  | rel r i o => cases h with | rel h => exact .rel (hi _ _ hf h)
  | map r => cases h with | map h => exact .map (hi _ _ hf h)
  | fn f caps =>
    cases h with
    | fn h1 h2 =>
      refine .fn (by simpa using h1) fun i r o hio => ?_
      obtain ⟨b, h3, h4⟩ := h2 i (r.ren ks) o (by simp [hio])
      exact ⟨b, hi _ _ (hf (r, o) (List.mem_of_getElem? hio)) h3, h4⟩
  | u => cases h with | u h => exact .u h

theorem As_lo_get {m : Nat} : ∀ {l : List A} {i : Nat} {a : A}, As.lo n m l → l[i]? = some a → a.lo n m
  | x :: l, 0, a, h, hi => by simp at hi; subst hi; exact h.1
  | x :: l, i + 1, a, h, hi => As_lo_get h.2 (by simpa using hi)

theorem RA_ren (hs : ∀ b o, Safe w ι b o → Safe w ι' b o ∧ w.cell? ⟨b, o, none⟩ = w.cell? ⟨b, o, none⟩) (hi : ∀ (r : Ref) k, r.lo n q → ι[idx n (r.ren ks)]? = some k → ι'[idx n r]? = some k)
    {a' : A} {v : Value} (h : RA w ι n a' v) : ∀ a : A, a' = a.ren ks → a.lo n q → RA w ι' n a v := by
  induction h with
  | u => intro a e _; cases a <;> simp [A.ren] at e; exact .u
  | c h1 => intro a e hf; cases a <;> simp [A.ren] at e; subst e; exact .c (RC_ren hs hi hf h1)
  | agg h1 =>
    intro a e hf
    cases a <;> simp [A.ren] at e
    subst e
    refine .agg ⟨by simpa using h1.1, fun i c v hc hv => ?_⟩
    exact RC_ren hs hi (Cs_lo_get hf hc) (h1.2 i (c.ren ks) v (by simp [hc]) hv)
  | tup h1 h2 ih =>
    intro a e hf
    cases a <;> simp [A.ren] at e
    rename_i l
    subst e
    rw [rens_map] at h1 h2 ih
    refine .tup (by simpa using h1) fun i x y hx hy => ih i (x.ren ks) y (by simp [hx]) hy x rfl (As_lo_get hf hx)
  | gd h1 h2 ih =>
    intro a e hf
    cases a <;> simp [A.ren] at e
    obtain ⟨rfl, rfl⟩ := e
    exact .gd (fun g => ih g _ rfl hf) h2

theorem RO_ren (hs : ∀ b o, Safe w ι b o → Safe w ι' b o ∧ w.cell? ⟨b, o, none⟩ = w.cell? ⟨b, o, none⟩) (hi : ∀ (r : Ref) k, r.lo n q → ι[idx n (r.ren ks)]? = some k → ι'[idx n r]? = some k)
    {o : Ob} {k : K} (hf : o.lo n q) (h : RO w ι n (o.ren ks) k) : RO w ι' n o k := by
  match o, k, h with
  | .cells cs, .blk b, ⟨vs, el, h1, h2⟩ => exact ⟨vs, el, h1, by simpa using h2.1, fun i c v hc hv => RC_ren hs hi (Cs_lo_get hf hc) (h2.2 i (c.ren ks) v (by simp [hc]) hv)⟩
  | .rows rs, .rows b sz _, ⟨vs, el, h1, h2, h3, h4⟩ => exact ⟨vs, el, h1, h2, h3, fun i r hi => ⟨(h4 i r hi).1, fun j x hj => let ⟨y, p, q⟩ := (h4 i r hi).2 j x hj; ⟨y, p, q.mono hs⟩⟩⟩
  | .grow p s, .grow q none, h => exact h
  | .grow p s, .grow q (some _), h => exact h
  | .map m, .blk b, ⟨es, clock, h1, h2, h3, h4⟩ =>
    refine ⟨es, clock, h1, h2, h3, fun i k row e hi he => ?_⟩
    obtain ⟨a1, a2, a3⟩ := h4 i k row e hi he
    refine ⟨a1, a2, ?_⟩
    rcases a3 with ⟨x, v, p, q, r⟩ | ⟨vs, p, q, r⟩
    · exact .inl ⟨x, v, p, q, r.mono hs⟩
    · exact .inr ⟨vs, p, q, fun j x y a b => (r j x y a b).mono hs⟩
  | .tree v d, .tree B, h => exact h
  | .tab g o, .grow q (some _), h => exact h
  | .dead, k, _ => cases k <;> trivial

theorem ren_id {c : C} (hf : c.fits n 0) : c.ren ks = c := by
  have hr : ∀ r : Ref, r.fits n 0 → r.ren ks = r := fun r h => by
    cases r with
    | e b => rfl
    | l i => exact absurd h (Nat.not_lt_zero i)
  cases c with
  | ptr r o => simp only [C.ren, hr _ hf]
  | own r p rows => simp only [C.ren, hr _ hf]
  | fsl r l s => simp only [C.ren, hr _ hf]
  | psl r l m s => simp only [C.ren, hr _ hf]
  | rel r i o => simp only [C.ren, hr _ hf]
  | map r => simp only [C.ren, hr _ hf]
  | fn f caps =>
    simp only [C.ren, C.fn.injEq, true_and]
    conv => rhs; rw [← List.map_id caps]
    exact List.map_congr_left fun x hx => by simp [hr x.1 (hf x hx)]
  | _ => rfl

theorem lo_of_fits {m : Nat} {c : C} (hf : c.fits n 0) : c.lo n m := by
  have hr : ∀ r : Ref, r.fits n 0 → r.lo n m := fun r h => by
    cases r with
    | e b => exact h
    | l i => exact absurd h (Nat.not_lt_zero i)
  cases c with
  | ptr r o => exact hr _ hf
  | own r p rows => exact hr _ hf
  | fsl r l s => exact hr _ hf
  | psl r l m s => exact hr _ hf
  | rel r i o => exact hr _ hf
  | map r => exact hr _ hf
  | fn f caps => exact fun x hx => hr _ (hf x hx)
  | _ => trivial

theorem Ob_ren_id {o : Ob} (hf : o.fits n 0) : o.ren ks = o := by
  cases o with
  | cells cs =>
    simp only [Ob.ren, Ob.cells.injEq]
    conv => rhs; rw [← List.map_id cs]
    refine List.map_congr_left fun c hc => ?_
    obtain ⟨i, hi⟩ := List.mem_iff_getElem?.1 hc
    simpa using ren_id (ks := ks) (Cs_fits_get hf hi)
  | _ => rfl

theorem Cs_lo_of {m : Nat} : ∀ {cs : List C}, (∀ c ∈ cs, c.lo n m) → Cs.lo n m cs
  | [], _ => trivial
  | c :: l, h => ⟨h c (by simp), Cs_lo_of fun x hx => h x (by simp [hx])⟩

theorem Ob_lo_of_fits {m : Nat} {o : Ob} (hf : o.fits n 0) : o.lo n m := by
  cases o with
  | cells cs =>
    refine Cs_lo_of fun c hc => ?_
    obtain ⟨i, hi⟩ := List.mem_iff_getElem?.1 hc
    exact lo_of_fits (Cs_fits_get hf hi)
  | _ => trivial
end

/-- slots told by less -/
def SlR (ks : List Nat) : List A → List A → Prop
  | [], [] => True
  | a :: l, b :: r => A.le a (b.ren ks) ∧ SlR ks l r
  | _, _ => False

theorem SlR_get {ks : List Nat} : ∀ {l r : List A}, SlR ks l r → l.length = r.length ∧ ∀ (i : Nat) b, r[i]? = some b → ∃ a, l[i]? = some a ∧ A.le a (b.ren ks)
  | [], [], _ => ⟨rfl, fun i b h => by simp at h⟩
  | a :: l, b :: r, ⟨h1, h2⟩ => by
    obtain ⟨h3, h4⟩ := SlR_get h2
    refine ⟨by simp [h3], fun i c hc => ?_⟩
    match i with
    | 0 => simp at hc; subst hc; exact ⟨a, rfl, h1⟩
    | i + 1 => exact h4 i c (by simpa using hc)

/-- own objects are dropped or put in another order: ks tells where each object that is kept stood -/
theorem St.le_keep {sl sl' : List A} {ext loc loc' : Heap} (ks : List Nat) (hn : ks.Nodup) (hk : ∀ k ∈ ks, k < loc.length) (hl : loc'.length = ks.length) (hsl : SlR ks sl sl') (hfit : As.lo ext.length ks.length sl')
    (hob : ∀ (j : Nat) o, loc'[j]? = some o → ∃ o', loc[ks.getD j 0]? = some o' ∧ Ob.le o' (o.ren ks)) (hobf : Obs.lo ext.length ks.length loc') : St.le ⟨sl, ext, loc⟩ ⟨sl', ext, loc'⟩ := by
  obtain ⟨h1, h2⟩ := SlR_get hsl
  refine ⟨rfl, fun w ι a hs => ?_⟩
  have hlen : ι.length = ext.length + loc.length := by simpa using hs.sim.len
  let ι' : List K := ι.take ext.length ++ ks.map fun k => ι.getD (ext.length + k) .x
  have hι'l : ι'.length = ext.length + ks.length := by simp [ι', hlen]
  have hget : ∀ (j : Nat), j < ks.length → ι'[ext.length + j]? = ι[ext.length + ks.getD j 0]? := fun j hj => by
    have hj' : ks.getD j 0 < loc.length := hk _ (by rw [List.getD, List.getElem?_eq_getElem hj]; simp)
    simp only [ι']
    rw [List.getElem?_append_right (by simp [hlen])]
    simp only [List.length_take, hlen]
    rw [show ext.length + j - min ext.length (ext.length + loc.length) = j by omega, List.getElem?_map, List.getElem?_eq_getElem hj]
    simp only [List.getD, List.getElem?_eq_getElem hj, Option.getD_some, Option.map_some] at hj' ⊢
    rw [List.getElem?_eq_getElem (by omega)]
    rfl
  have hgete : ∀ (b : Nat), b < ext.length → ι'[b]? = ι[b]? := fun b hb => by
    simp only [ι']
    rw [List.getElem?_append_left (by simp [hlen]; omega), List.getElem?_take, if_pos hb]
  have hmem : ∀ k ∈ ι', k ∈ ι ∨ k = .x := fun k hk' => by
    simp only [ι', List.mem_append, List.mem_map] at hk'
    rcases hk' with h | ⟨j, hj, rfl⟩
    · exact .inl (List.mem_of_mem_take h)
    · have : ext.length + j < ι.length := by rw [hlen]; have := hk j hj; omega
      rw [List.getD, List.getElem?_eq_getElem this]
      exact .inl (List.getElem_mem this)
  have hsafe : ∀ b o, Safe w ι b o → Safe w ι' b o ∧ w.cell? ⟨b, o, none⟩ = w.cell? ⟨b, o, none⟩ := fun b o h => ⟨⟨h.1, fun k hk' => by
    rcases hmem k hk' with h' | rfl
    · exact h.2 k h'
    · exact fun h => h.elim⟩, rfl⟩
  have hi : ∀ (r : Ref) k, r.lo ext.length ks.length → ι[idx ext.length (r.ren ks)]? = some k → ι'[idx ext.length r]? = some k := fun r k hf h => by
    cases r with
    | e b =>
      simp only [idx, Ref.ren, Ref.lo] at h hf ⊢
      rw [hgete b hf]; exact h
    | l j =>
      simp only [idx, Ref.ren, Ref.lo] at h hf ⊢
      rw [hget j hf]; exact h
  have hold : ∀ (i : Nat) o, (ext ++ loc')[i]? = some o → ∃ i' o', (ext ++ loc)[i']? = some o' ∧ Ob.le o' (o.ren ks) ∧ o.lo ext.length ks.length ∧ ι'[i]? = ι[i']? ∧ i < ext.length + ks.length ∧ i' = (if i < ext.length then i else ext.length + ks.getD (i - ext.length) 0) := fun i o ho => by
    rcases Nat.lt_or_ge i ext.length with hlt | hge
    · rw [List.getElem?_append_left hlt] at ho
      have hfo := Obs_fits_get hs.fit ho
      exact ⟨i, o, by rw [List.getElem?_append_left hlt]; exact ho, by rw [Ob_ren_id hfo]; exact .refl o, Ob_lo_of_fits hfo, hgete i hlt, by omega, by rw [if_pos hlt]⟩
    · rw [List.getElem?_append_right hge] at ho
      have hjl : i - ext.length < ks.length := by rw [← hl]; exact (List.getElem?_eq_some_iff.1 ho).1
      obtain ⟨o', h3, h4⟩ := hob _ o ho
      have h5 := hget _ hjl
      rw [show ext.length + (i - ext.length) = i by omega] at h5
      refine ⟨_, o', ?_, h4, Obs_lo_get hobf ho, h5, by omega, by rw [if_neg (by omega)]⟩
      rw [List.getElem?_append_right (by omega), show ext.length + ks.getD (i - ext.length) 0 - ext.length = ks.getD (i - ext.length) 0 by omega]
      exact h3
  have hinj : ∀ i j, i < ext.length + ks.length → j < ext.length + ks.length → (if i < ext.length then i else ext.length + ks.getD (i - ext.length) 0) = (if j < ext.length then j else ext.length + ks.getD (j - ext.length) 0) → i = j := fun i j hi hj h => by
    split at h <;> split at h
    · exact h
    · omega
    · omega
    · have h6 : ks.getD (i - ext.length) 0 = ks.getD (j - ext.length) 0 := by omega
      simp only [List.getD, List.getElem?_eq_getElem (show i - ext.length < ks.length by omega), List.getElem?_eq_getElem (show j - ext.length < ks.length by omega), Option.getD_some] at h6
      have := (List.getElem_inj hn).1 h6
      omega
  have hback : ∀ (i : Nat) k, ι'[i]? = some k → ∃ i', ι[i']? = some k ∧ i < ext.length + ks.length ∧ i' = (if i < ext.length then i else ext.length + ks.getD (i - ext.length) 0) := fun i k hik => by
    have hil : i < ext.length + ks.length := by rw [← hι'l]; exact (List.getElem?_eq_some_iff.1 hik).1
    rcases Nat.lt_or_ge i ext.length with hlt | hge
    · exact ⟨i, by rw [← hgete i hlt]; exact hik, hil, by rw [if_pos hlt]⟩
    · have h5 := hget (i - ext.length) (by omega)
      rw [show ext.length + (i - ext.length) = i by omega] at h5
      exact ⟨_, by rw [← h5]; exact hik, hil, by rw [if_neg (by omega)]⟩
  refine ⟨ι', ⟨⟨?_, ?_, ?_, ?_⟩, ?_, ?_, hs.fit, hs.defers⟩, ?_⟩
  · rw [hι'l]; simp [hl]
  · intro i o k ho hik
    obtain ⟨i', o', h3, h4, h5, h6, _, _⟩ := hold i o ho
    rw [h6] at hik
    have h7 := hs.sim.obj i' o' k h3 hik
    refine RO_ren hsafe hi h5 ?_
    generalize o.ren ks = o2 at h4 ⊢
    exact Ob.le_RO h4 h7
  · intro i j k k' b hik hjk hb hb'
    obtain ⟨i', h3, h4, h5⟩ := hback i k hik
    obtain ⟨j', h6, h7, h8⟩ := hback j k' hjk
    have := hs.sim.apart i' j' k k' b h3 h6 hb hb'
    exact hinj i j h4 h7 (by rw [← h5, ← h8]; exact this)
  · intro k b hk' hb
    rcases hmem k hk' with h' | rfl
    · exact hs.sim.low k b h' hb
    · exact hb.elim
  · rw [hs.size]; exact h1
  · intro i x v hix hiv
    obtain ⟨y, h3, h4⟩ := h2 i x hix
    exact RA_ren hsafe hi (A.le_RA h4 (hs.slots i y v h3 hiv)) x rfl (As_lo_get hfit hix)
  · intro w₀ ι₀ hl₀ hx
    refine ⟨hx.os, hx.tape, hx.output, hx.size, fun b o hso => ?_, fun b hb hk' => ?_, fun i k hik => ?_⟩
    · obtain ⟨p, q⟩ := hx.safe b o hso
      exact ⟨(hsafe b o p).1, q⟩
    · obtain ⟨p, q⟩ := hx.block b hb hk'
      refine ⟨p, fun k hk2 => ?_⟩
      rcases hmem k hk2 with h' | rfl
      · exact q k h'
      · exact fun h => h.elim
    · obtain ⟨k', p, q⟩ := hx.ev i k hik
      have hlt : i < ext.length := by have := (List.getElem?_eq_some_iff.1 hik).1; simp only at hl₀; omega
      exact ⟨k', by rw [hgete i hlt]; exact p, q⟩

theorem Ref.ren_range {n k : Nat} {r : Ref} (h : r.lo n k) : r.ren (List.range k) = r := by
  cases r with
  | e b => rfl
  | l i => simp only [Ref.lo] at h; simp [Ref.ren, List.getD, List.getElem?_range h]
theorem C.ren_range {n k : Nat} {c : C} (h : c.lo n k) : c.ren (List.range k) = c := by
  cases c with
  | ptr r o => simp only [C.ren, Ref.ren_range h]
  | own r p rows => simp only [C.ren, Ref.ren_range h]
  | fsl r l s => simp only [C.ren, Ref.ren_range h]
  | psl r l m s => simp only [C.ren, Ref.ren_range h]
  | rel r i o => simp only [C.ren, Ref.ren_range h]
  | map r => simp only [C.ren, Ref.ren_range h]
  | fn f caps =>
    simp only [C.ren, C.fn.injEq, true_and]
    conv => rhs; rw [← List.map_id caps]
    exact List.map_congr_left fun x hx => by simp [Ref.ren_range (h x hx)]
  | _ => rfl
theorem Cs.ren_range {n k : Nat} : ∀ {cs : List C}, Cs.lo n k cs → cs.map (C.ren (List.range k)) = cs
  | [], _ => rfl
  | c :: l, h => by simp only [List.map_cons, C.ren_range h.1, Cs.ren_range h.2]
mutual
theorem A.ren_range {n k : Nat} : ∀ {a : A}, a.lo n k → a.ren (List.range k) = a
  | .u, _ => rfl
  | .c x, h => by simp only [A.ren, C.ren_range (c := x) h]
  | .agg cs, h => by simp only [A.ren, Cs.ren_range (cs := cs) h]
  | .tup vs, h => by simp only [A.ren, As.ren_range (l := vs) h]
  | .gd g x, h => by simp only [A.ren, A.ren_range (a := x) h]
theorem As.ren_range {n k : Nat} : ∀ {l : List A}, As.lo n k l → A.rens (List.range k) l = l
  | [], _ => rfl
  | a :: l, h => by simp only [A.rens, A.ren_range (a := a) h.1, As.ren_range (l := l) h.2]
end
theorem Ob.ren_range {n k : Nat} {o : Ob} (h : o.lo n k) : o.ren (List.range k) = o := by
  cases o with
  | cells cs => simp only [Ob.ren, Cs.ren_range (cs := cs) h]
  | _ => rfl

theorem SlR_of {n k : Nat} : ∀ {sl sl' : List A}, Sl.le sl sl' → As.lo n k sl' → SlR (List.range k) sl sl'
  | [], [], _, _ => trivial
  | a :: l, b :: r, h, hlo => ⟨by rw [A.ren_range hlo.1]; exact h.1, SlR_of h.2 hlo.2⟩

/-- the objects behind the first ones are dropped -/
theorem St.le_cut {sl sl' : List A} {ext loc loc' : Heap} (x : Heap) (h : Sl.le sl sl') (hlo : As.lo ext.length loc'.length sl') (hloc : loc = loc' ++ x) (hob : Obs.lo ext.length loc'.length loc') : St.le ⟨sl, ext, loc⟩ ⟨sl', ext, loc'⟩ := by
  subst hloc
  refine St.le_keep (List.range loc'.length) List.nodup_range (fun k hk => by simp at hk ⊢; omega) (by simp) (SlR_of h hlo) (by simpa using hlo) (fun j o ho => ?_) (by simpa using hob)
  have hj : j < loc'.length := (List.getElem?_eq_some_iff.1 ho).1
  refine ⟨o, ?_, by rw [Ob.ren_range (Obs_lo_get hob ho)]; exact .refl o⟩
  simp only [List.getD, List.getElem?_range hj, Option.getD_some]
  rw [List.getElem?_append_left hj]; exact ho

theorem A.le_refl_iff {a : A} : A.le a a ↔ True := iff_true_intro (.refl a)
theorem A.le_u_iff {a : A} : A.le a .u ↔ True := iff_true_intro (.u a)

theorem fits_reset {n m : Nat} : ∀ {H : Heap} {i : Nat} {a b : Ob}, Obs.fits n m (H.set i a) → b.fits n m → Obs.fits n m (H.set i b)
  | [], _, _, _, _, _ => trivial
  | o :: l, 0, a, b, h, hb => ⟨hb, h.2⟩
  | o :: l, i + 1, a, b, h, hb => ⟨h.1, fits_reset (H := l) (i := i) (a := a) h.2 hb⟩
theorem fits_append {n m : Nat} : ∀ {H H' : Heap}, Obs.fits n m H → Obs.fits n m H' → Obs.fits n m (H ++ H')
  | [], _, _, h => h
  | o :: l, _, h, h' => ⟨h.1, fits_append (H := l) h.2 h'⟩

theorem allLen_nil_iff {n : Nat} : allLen n [] ↔ True := iff_true_intro fun r h => by cases h
theorem allLen_cons_iff {n : Nat} {r : List D} {l : List (List D)} : allLen n (r :: l) ↔ r.length = n ∧ allLen n l := by simp [allLen]
theorem allLen_append_iff {n : Nat} {l l' : List (List D)} : allLen n (l ++ l') ↔ allLen n l ∧ allLen n l' := by
  simp only [allLen, List.mem_append]
  exact ⟨fun h => ⟨fun r hr => h r (.inl hr), fun r hr => h r (.inr hr)⟩, fun ⟨h1, h2⟩ r hr => hr.elim (h1 r) (h2 r)⟩
theorem allLen_map {α : Type} {n : Nat} {f : α → List D} {l : List α} (h : ∀ x, (f x).length = n) : allLen n (l.map f) := fun r hr => by
  obtain ⟨x, _, rfl⟩ := List.mem_map.1 hr
  exact h x

theorem row_off {rows : List (List D)} {i : Int} {sz : Nat} {K : A → St → Prop} {st : St} (row : List D) (hk : K (.c (.el row 0)) st) : RowK false rows i sz K st :=
  ⟨fun h => (by cases h), row, fun h => (by cases h), hk⟩

/-- a nil slice is taken as an owned one with nothing in it -/
theorem St.le_token {sl : List A} {ext loc : Heap} (i sz : Nat) (h : sl[i]? = some (.c (.full []))) : St.le ⟨sl, ext, loc⟩ ⟨sl.set i (.c (.own (.l loc.length) 0 [])), ext, loc ++ [.grow 0 sz]⟩ := by
  refine ⟨rfl, fun w ι a hs => ⟨ι ++ [.grow 0 none], ?_, fun w₀ ι₀ _ hx => hx.trans ((Ext.refl w ι).push (k := .grow 0 none) (fun b hb => hb.elim))⟩⟩
  have hx : Ext w ι w (ι ++ [.grow 0 none]) := (Ext.refl w ι).push (fun b hb => hb.elim)
  have h1 := hs.push (k := .grow 0 none) (o := .grow 0 sz) (Ext.refl w ι) (fun _ _ => rfl) (fun b hb => hb.elim) rfl
  refine ⟨h1.sim, by rw [hs.size]; simp, fun j x v hj hv => ?_, h1.fit, h1.defers⟩
  simp only [List.getElem?_set] at hj
  split at hj
  · rename_i hij
    subst hij
    split at hj
    · cases hj
      have := hs.slots i _ v h hv
      cases this with
      | c hc =>
        cases hc with
        | @full _ ad len hd =>
          have hlen : len = 0 := by
            rcases RD.sl_iff.1 hd with ⟨_, h, _⟩ | ⟨_, _, _, _, h, _⟩
            · exact h
            · simpa using h
          subst hlen
          refine .c (.own (.nil _) ⟨0, none, hs.newIdx _, Nat.le_refl _, fun _ => by cases ad <;> simp [Cur]⟩)
    · cases hj
  · exact (hs.slots j x v hj hv).mono hx

/-- a loop is entered with less -/
theorem loop_enter {P : Program} {F : Ex → St → Prop} {fs : List Fr} {c : Cd} {st st' : St} (h : St.le st st') (h' : aw P (.loop c) (kq P F fs) st') : aw P (.loop c) (kq P F fs) st := by
  obtain ⟨I, m, s, h1, h2, h3⟩ := h'
  exact ⟨I, m, s, St.le_trans h h1, h2, h3⟩

/-! ### functions that hand out own objects -/

def resRawOne (st : St) : Rv → Option A
  | .tmp t => some (st.sl.getD t .u).val
  | .cell t n => match (st.sl.getD t .u).val with
    | .c p => y_ st n p
    | _ => none
def resRaws (st : St) : List Rv → Option (List A)
  | [] => some []
  | r :: l => match resRawOne st r, resRaws st l with
    | some a, some as => some (a :: as)
    | _, _ => none
def resRaw (st : St) (rs : List Rv) : Option A :=
  match resRaws st rs with
  | some [a] => some a
  | some as => some (.tup as)
  | none => none

/-- the end of a function: the own objects that are left are handed out -/
def FinK (rs : List Rv) (Q : A → Heap → Prop) : Ex → St → Prop
  | .exit _, _ => False
  | _, st => ∃ st', St.le st st' ∧ r_ st' rs ∧ ∃ r, resRaw st' rs = some r ∧ Q (r.re st'.ext.length) (st'.ext ++ st'.loc.map (Ob.re st'.ext.length))

theorem finK_ret {rs : List Rv} {Q : A → Heap → Prop} {st : St} (r : A) (hok : r_ st rs) (hr : resRaw st rs = some r) (hq : Q (r.re st.ext.length) (st.ext ++ st.loc.map (Ob.re st.ext.length))) : FinK rs Q .ret st :=
  ⟨st, St.le_refl _, hok, r, hr, hq⟩

theorem resRawOne_ra {P : Program} {w : World} {ι : List K} {st : St} {a : Act} (hs : SimSt w ι st a) {rv : ResultVar} {r : Rv} {x : A} (hc : cRv P rv = some r) (hok : s_ st r) (hr : resRawOne st r = some x) :
    ∃ v, (oneRv a.tmps rv).run P w = .ok v w ∧ RA w ι st.ext.length x v := by
  cases rv with
  | tmp t =>
    simp only [cRv, Option.some.injEq] at hc
    subst hc
    simp only [resRawOne, Option.some.injEq] at hr
    subst hr
    exact ⟨_, rfl, (hs.eval t).val hok⟩
  | cell b t =>
    simp only [cRv, Option.map_eq_some_iff] at hc
    obtain ⟨n, h1, rfl⟩ := hc
    simp only [resRawOne] at hr
    split at hr
    · rename_i p hp
      have hv := (hs.eval b).val hok
      rw [hp] at hv
      obtain ⟨ad, z, h3, h4, h5⟩ := load_ra (P := P) h1 hs hv.c_inv hr
      have h3' : a.tmps.getD b undef = .pointer (some ad) := h3
      exact ⟨z, by simp [oneRv, h3', asAddr, h4], h5⟩
    · cases hr

theorem resRaws_ra {P : Program} {w : World} {ι : List K} {st : St} {a : Act} (hs : SimSt w ι st a) : ∀ {l : List ResultVar} {rs : List Rv} {xs : List A}, cRvs P l = some rs → r_ st rs → resRaws st rs = some xs →
    ∃ vs : List Value, (l.mapM (oneRv a.tmps)).run P w = .ok vs w ∧ vs.length = xs.length ∧
      ∀ (i : Nat) x v, xs[i]? = some x → vs[i]? = some v → RA w ι st.ext.length x v
  | [], rs, xs, hc, _, hr => by
    simp [cRvs] at hc
    subst hc
    simp [resRaws] at hr
    subst hr
    exact ⟨[], by simp, rfl, fun i x v h => by simp at h⟩
  | rv :: l, rs, xs, hc, hok, hr => by
    simp only [cRvs] at hc
    split at hc
    · rename_i r rs' h1 h2
      cases hc
      simp only [r_] at hok
      simp only [resRaws] at hr
      split at hr
      · rename_i x xs' h3 h4
        cases hr
        obtain ⟨v, h5, h6⟩ := resRawOne_ra (P := P) hs h1 hok.1 h3
        obtain ⟨vs, h7, h8, h9⟩ := resRaws_ra hs h2 hok.2 h4
        refine ⟨v :: vs, ?_, by simp [h8], fun i y u hy hu => ?_⟩
        · simp only [List.mapM_cons, Sem.run_bind, h5, Result.andThen_ok, h7, Sem.run_pure]
        · cases i with
          | zero => simp at hy hu; subst hy; subst hu; exact h6
          | succ i => simp at hy hu; exact h9 i y u hy hu
      · cases hr
    · cases hc

/-- what is shown of the machine holds of the call: a function that hands out own objects -/
theorem acallsK {P : Program} {f : FuncId} {fn : Func} {d : Cd} {rs : List Rv} {n : Nat} {args : List A} {H : Heap} {Q : A → Heap → Prop} {toks : List FuncId} {kl : List (Nat × List Nat × List Nat)}
    (hf : P.funcs[f]? = some fn) (hname : nameOk fn = true) (hc : cFunc P toks kl fn = some (d, rs, n))
    (h : Obs.fits H.length 0 H → aw P d (kq P (FinK rs Q) []) ⟨args ++ List.replicate (n - args.length) .u, H, []⟩) : ACalls P f args H Q := by
  unfold cFunc at hc
  split at hc
  · rename_i c hb
    split at hc
    · rename_i d' rs' h1 h2
      cases hc
      refine acalls_of_run toks kl hf hb (by simpa [nameOk] using hname) h1 (FQ := FinK rs Q) (fun i st h => h.elim) (fun e w ι w' ι' st a' he hq hs hx hn hsim => ?_) h
      have hq' : ∃ st', St.le st st' ∧ r_ st' rs ∧ ∃ r, resRaw st' rs = some r ∧ Q (r.re st'.ext.length) (st'.ext ++ st'.loc.map (Ob.re st'.ext.length)) := by
        rcases he with rfl | rfl
        · exact hq
        · exact hq
      obtain ⟨st', hle, hok, r, hr, hQ⟩ := hq'
      obtain ⟨ι2, hs2, hx2⟩ := hle.2 w' ι' a' hs
      have hx3 := hx2 w ι (by rw [hsim.len, hn]; exact Nat.le_refl _) hx
      refine ⟨hs2.defers, ?_⟩
      have hmap : ∀ vs : List Value, (fn.results.toList.mapM (oneRv a'.tmps)).run P w' = .ok vs w' →
          (results fn a'.tmps).run P w' = .ok (if h : vs.toArray.size = 1 then vs.toArray[0] else .tuple vs.toArray) w' := fun vs hvs => by
        rw [results_eq, Sem.run_bind, Array.mapM_eq_mapM_toList, Sem.run_map, hvs]
        rfl
      have hsim2 := hs2.sim.out hs2.fit (st'.ext ++ st'.loc.map (Ob.re st'.ext.length)).length
      have hlen : H.length ≤ (st'.ext ++ st'.loc.map (Ob.re st'.ext.length)).length := by
        have := hle.1
        simp; omega
      unfold resRaw at hr
      split at hr
      · rename_i x hx1
        cases hr
        obtain ⟨vs, h3, h4, h5⟩ := resRaws_ra (P := P) hs2 h2 hok hx1
        obtain ⟨v, rfl⟩ := List.length_eq_one_iff.1 h4
        exact ⟨v, by simpa using hmap _ h3, _, _, ι2, v, rfl, hQ, hsim2, RA_re_of (h5 0 r v rfl rfl), hx3, hlen⟩
      · rename_i xs hne hx1
        cases hr
        obtain ⟨vs, h3, h4, h5⟩ := resRaws_ra (P := P) hs2 h2 hok hx1
        have hn1 : ¬ vs.toArray.size = 1 := by
          intro e
          simp [h4] at e
          obtain ⟨y, rfl⟩ := List.length_eq_one_iff.1 e
          exact hne y rfl
        exact ⟨.tuple vs.toArray, by rw [hmap _ h3, dif_neg hn1], _, _, ι2, _, rfl, hQ, hsim2, RA_re_of (.tup h4 h5), hx3, hlen⟩
      · cases hr
    · cases hc
  · cases hc

end Go.AM

/-
  Slots of long lists are looked up and set eight at a time; data cells in rows.
  Conditions: none.
-/
namespace Go.AM
set_option linter.unusedVariables false
set_option linter.unusedSimpArgs false

section
variable {P : Program} {F : Ex → St → Prop} {fs : List Fr} {st : St}
theorem b_ {kill dst op rest g w} : awOps P (kq P F fs .normal) kill (⟨dst, op, some (g, w)⟩ :: rest) st =
    match f_ w (Opd.ev st.sl (.t g)) with
      | none => False
      | some G =>
        if op.total then c_ P st G (nx P F ⟨dst, some G, rest, kill, fs⟩) op
        else
          (G = true → c_ P ⟨st.sl.set g (p_ w (Opd.ev st.sl (.t g))), st.ext, st.loc⟩ true (nx P F ⟨dst, none, rest, kill, fs⟩) op) ∧
          (G = false → nx P F ⟨dst, none, rest, kill, fs⟩ .u ⟨st.sl.set g (p_ (!w) (Opd.ev st.sl (.t g))), st.ext, st.loc⟩) := rfl
end

theorem pure_d : C.pure ∘ C.d = C.d := rfl
theorem re_d {n : Nat} : C.re n ∘ C.d = C.d := rfl
theorem thaw_d {st : St} : C.thaw st ∘ C.d = C.d := rfl
theorem toDs_map {row : List D} : O_ (row.map C.d) = some row := by
  induction row with
  | nil => rfl
  | cons x l ih => simp [O_, C.toD, ih]
theorem fits_map {n m : Nat} {row : List D} : Cs.fits n m (row.map C.d) ↔ True := by
  induction row with
  | nil => exact Iff.rfl
  | cons x l ih => simp [Cs.fits, C.fits, ih]
theorem callArgs_ptrs {n : Nat} {caps : List (Nat × Nat)} : w_ false n (ptrsOf (caps.map fun x => (Ref.e x.1, x.2))) = caps.map fun x => A.c (.ptr (.e x.1) x.2) := by
  induction caps with
  | nil => rfl
  | cons x l ih =>
    simp only [ptrsOf, List.map_cons, List.map_map] at ih ⊢
    simp only [w_, ih]
    rfl
theorem byte_off {s : List UInt8} {i : Int} {K : A → St → Prop} {st : St} (b : UInt8) (hk : K (.c (.d (.int .u8 b.toNat))) st) : ByteK false s i K st := ⟨b, fun h => (by cases h), hk⟩

/-- references lie where they belong whenever a function is called -/
theorem acalls_fits {P : Program} {f : FuncId} {fn : Func} {args : List A} {H : Heap} {Q : A → Heap → Prop} (hf : P.funcs[f]? = some fn) (hb : fn.body.isSome = true) (hname : nameOk fn = true) (h : Obs.fits H.length 0 H → ACalls P f args H Q) : ACalls P f args H Q :=
  ⟨⟨fn, hf, hb, by simpa [nameOk] using hname⟩, fun w ι cargs hsim => (h (sim_fits hsim)).2 w ι cargs hsim⟩

theorem Ref.fits_mono {n n' m : Nat} (h : n ≤ n') {r : Ref} (hr : r.fits n m) : r.fits n' m := by
  cases r with
  | e b => simp only [Ref.fits] at hr ⊢; omega
  | l i => exact hr
theorem C.fits_mono {n n' m : Nat} (h : n ≤ n') {c : C} (hc : c.fits n m) : c.fits n' m := by
  cases c with
  | ptr r o => exact Ref.fits_mono h hc
  | own r p rows => exact Ref.fits_mono h hc
  | fsl r l s => exact Ref.fits_mono h hc
  | psl r l m s => exact Ref.fits_mono h hc
  | rel r i o => exact Ref.fits_mono h hc
  | map r => exact Ref.fits_mono h hc
  | fn f caps => exact fun x hx => Ref.fits_mono h (hc x hx)
  | _ => trivial
theorem Cs.fits_mono {n n' m : Nat} (h : n ≤ n') : ∀ {cs : List C}, Cs.fits n m cs → Cs.fits n' m cs
  | [], _ => trivial
  | c :: l, hc => ⟨C.fits_mono h hc.1, Cs.fits_mono h hc.2⟩
theorem fits_mono {n n' m : Nat} (h : n ≤ n') : ∀ {H : Heap}, Obs.fits n m H → Obs.fits n' m H
  | [], _ => trivial
  | o :: l, ho => ⟨(by
      cases o with
      | cells cs => exact Cs.fits_mono h ho.1
      | _ => trivial), fits_mono h ho.2⟩

/-- the first of a list that a step takes, the steps' states handed on -/
def anyS {α σ : Type} (step : σ → α → Bool × σ) : List α → σ → Bool × σ
  | [], s => (false, s)
  | t :: l, s => if (step s t).1 = true then (true, (step s t).2) else anyS step l (step s t).2
theorem anyS_const {α : Type} (p : α → Bool) : ∀ (l : List α), anyS (fun (_ : Unit) t => (p t, ())) l () = (l.any p, ())
  | [] => rfl
  | t :: l => by
    simp only [anyS, List.any_cons]
    cases h : p t with
    | true => simp
    | false => simp [anyS_const p l]

theorem weak_to {P : Program} {F : Ex → St → Prop} {fs : List Fr} {c : Cd} {st : St} (X : St → Prop) (h : St.leTo st X) (h' : ∀ st', X st' → aw P c (kq P F fs) st') : aw P (.weak c) (kq P F fs) st := ⟨X, h, h'⟩

/-- a nil slice in an own object is taken as an owned one with nothing in it -/
theorem St.le_tokenC {sl : List A} {ext loc : Heap} (j i sz : Nat) {cs : List C} (hj : loc[j]? = some (.cells cs)) (h : cs[i]? = some (.full [])) :
    St.le ⟨sl, ext, loc⟩ ⟨sl, ext, loc.set j (.cells (cs.set i (.own (.l loc.length) 0 []))) ++ [.grow 0 sz]⟩ := by
  refine ⟨rfl, fun w ι a hs => ⟨ι ++ [.grow 0 none], ?_, fun w₀ ι₀ _ hx => hx.trans ((Ext.refl w ι).push (k := .grow 0 none) (fun b hb => hb.elim))⟩⟩
  have hx : Ext w ι w (ι ++ [.grow 0 none]) := (Ext.refl w ι).push (fun b hb => hb.elim)
  have h1 := hs.push (k := .grow 0 none) (o := .grow 0 sz) (Ext.refl w ι) (fun _ _ => rfl) (fun b hb => hb.elim) rfl
  have hjl := (List.getElem?_eq_some_iff.1 hj).1
  refine ⟨⟨?_, fun x o k ho hk => ?_, h1.sim.apart, h1.sim.low⟩, h1.size, h1.slots, h1.fit, h1.defers⟩
  · have := h1.sim.len; simpa [A_] using this
  · have h2 := h1.sim.obj x
    change (ext ++ (loc.set j (.cells (cs.set i (.own (.l loc.length) 0 []))) ++ [Ob.grow 0 sz]))[x]? = some o at ho
    by_cases hxj : x = ext.length + j
    · subst hxj
      have ho' : o = .cells (cs.set i (.own (.l loc.length) 0 [])) := by
        rw [List.getElem?_append_right (by omega), Nat.add_sub_cancel_left, List.getElem?_append_left (by simpa using hjl), List.getElem?_set_self hjl] at ho
        exact (Option.some.inj ho).symm
      subst ho'
      have h3 := h2 (.cells cs) k (by
        show (ext ++ (loc ++ [Ob.grow 0 sz]))[ext.length + j]? = _
        rw [List.getElem?_append_right (by omega), Nat.add_sub_cancel_left, List.getElem?_append_left hjl]; exact hj) hk
      cases k with
      | blk b =>
        obtain ⟨vs, el, h4, h5, h6⟩ := h3
        refine ⟨vs, el, h4, by simpa using h5, fun y c v hc hv => ?_⟩
        simp only [List.getElem?_set] at hc
        split at hc
        · rename_i hiy
          subst hiy
          split at hc
          · cases hc
            have h7 := h6 i _ v h hv
            cases h7 with
            | @full _ ad len hd =>
              have hlen : len = 0 := by
                rcases RD.sl_iff.1 hd with ⟨_, h, _⟩ | ⟨_, _, _, _, h, _⟩
                · exact h
                · simpa using h
              subst hlen
              exact .own (.nil _) ⟨0, none, hs.newIdx _, Nat.le_refl _, fun _ => by cases ad <;> simp [Cur]⟩
          · cases hc
        · exact h6 y c v hc hv
      | _ => exact h3.elim
    · refine h2 o k ?_ hk
      show (ext ++ (loc ++ [Ob.grow 0 sz]))[x]? = some o
      rcases Nat.lt_or_ge x ext.length with hlt | hge
      · rw [List.getElem?_append_left hlt] at ho ⊢; exact ho
      · rw [List.getElem?_append_right hge] at ho ⊢
        rcases Nat.lt_or_ge (x - ext.length) loc.length with h8 | h8
        · rw [List.getElem?_append_left (by simpa using h8), List.getElem?_set_ne (by omega)] at ho
          rw [List.getElem?_append_left h8]; exact ho
        · rw [List.getElem?_append_right (by simpa using h8)] at ho
          rw [List.getElem?_append_right h8]; simpa using ho

end Go.AM

/-
  Trees of slices that own their arrays: how they are read, put together and taken apart.
  Conditions: none.
-/
namespace Go.AM
set_option linter.unusedVariables false
set_option linter.unusedSimpArgs false

theorem flatten_get {rows : List (List D)} {sz : Nat} (h : ∀ r ∈ rows, r.length = sz) {i j : Nat} {r : List D} {x : D} (hi : rows[i]? = some r) (hj : r[j]? = some x) : rows.flatten[i * sz + j]? = some x := by
  induction rows generalizing i with
  | nil => simp at hi
  | cons a l ih =>
    have ha : a.length = sz := h a (by simp)
    cases i with
    | zero =>
      simp at hi; subst hi
      rw [List.flatten_cons, Nat.zero_mul, Nat.zero_add, List.getElem?_append_left (List.getElem?_eq_some_iff.1 hj).1]; exact hj
    | succ i =>
      rw [List.flatten_cons, List.getElem?_append_right (by rw [ha, Nat.succ_mul]; omega)]
      have := ih (fun r hr => h r (by simp [hr])) (i := i) (by simpa using hi)
      rw [← this]
      congr 1
      rw [ha, Nat.succ_mul]; omega

theorem flatten_inv {rows : List (List D)} {sz : Nat} (h : ∀ r ∈ rows, r.length = sz) {n : Nat} {x : D} (hn : rows.flatten[n]? = some x) : ∃ i j r, rows[i]? = some r ∧ r[j]? = some x ∧ n = i * sz + j := by
  induction rows generalizing n with
  | nil => simp at hn
  | cons a l ih =>
    have ha : a.length = sz := h a (by simp)
    rcases Nat.lt_or_ge n a.length with hlt | hge
    · rw [List.flatten_cons, List.getElem?_append_left hlt] at hn
      exact ⟨0, n, a, rfl, hn, by simp⟩
    · rw [List.flatten_cons, List.getElem?_append_right hge] at hn
      obtain ⟨i, j, r, h1, h2, h3⟩ := ih (fun r hr => h r (by simp [hr])) hn
      exact ⟨i + 1, j, r, by simpa using h1, h2, by rw [Nat.succ_mul]; omega⟩

theorem flatten_len {rows : List (List D)} {sz : Nat} (h : ∀ r ∈ rows, r.length = sz) : rows.flatten.length = rows.length * sz := by
  induction rows with
  | nil => simp
  | cons a l ih =>
    rw [List.flatten_cons, List.length_append, ih (fun r hr => h r (by simp [hr])), h a (by simp), List.length_cons, Nat.succ_mul]; omega

theorem RD.of_leaf {w w' : World} {S S' : Nat → Nat → Prop} {x : D} {v : Value} (hx : x.leaf = true) (h : RD w S x v) : RD w' S' x v := by
  cases h with
  | bool b => exact .bool b
  | int k n h => exact .int k n h
  | str s h => exact .str s h
  | v _ h => exact .v _ h
  | nil a => exact .nil a
  | sl rows b off cap sz vs h1 h2 h3 h4 h5 =>
    cases rows with
    | nil => exact .sl [] b off cap sz vs h1 h2 (fun i r h => by simp at h) (fun i r j x h => by simp at h) (fun i r j x h => by simp at h)
    | cons a l => simp [D.leaf] at hx

/-- a tree is read as data -/
theorem RT.rd {w : World} {S : Nat → Nat → Prop} {x : D} {v : Value} {B : Nat → Prop} (h : RT w x v B) (hS : ∀ b o, B b → S b o) : RD w S x v := by
  induction h with
  | leaf h1 h2 => exact h2.of_leaf h1
  | sl rows b cap sz vs el vf Bs h1 h2 h3 h4 h5 h6 h7 h8 h9 h10 ih =>
    refine .sl rows b 0 cap sz vf h2 h3 (fun i r hi => h4 r (List.mem_of_getElem? hi)) (fun i r j x hi hj => ⟨?_, hS _ _ (.inl rfl)⟩) (fun i r j x hi hj => ?_)
    · have := h7 _ x (flatten_get h4 hi hj)
      simp [World.cell?, h5, this]
    · have := flatten_get h4 hi hj
      exact ih _ x this fun c o hc => hS c o (.inr ⟨_, hc⟩)

def D.isSl : D → Bool
  | .sl _ => true
  | _ => false

theorem RT.leaf_rd {w : World} {x : D} {v : Value} {B : Nat → Prop} (h : RT w x v B) (hx : x.isSl = false) (S : Nat → Nat → Prop) : RD w S x v := by
  cases h with
  | leaf a b => exact b.of_leaf a
  | sl => simp [D.isSl] at hx

theorem RT.oneCell {w : World} {x : D} {v : Value} {B : Nat → Prop} (h : RT w x v B) : v.oneCell' = true := by
  cases h with
  | leaf h1 h2 => exact h2.oneCell
  | sl => rfl

theorem RT.len {w : World} {rows : List (List D)} {v : Value} {B : Nat → Prop} (h : RT w (.sl rows) v B) : ∃ a cap, v = .slice a rows.length cap ∧ rows.length ≤ cap := by
  cases h with
  | leaf h1 h2 =>
    cases h2 with
    | nil a => exact ⟨a, 0, rfl, Nat.le_refl _⟩
    | sl _ b off cap sz vs h1 => exact ⟨_, cap, rfl, h1⟩
  | sl _ b cap sz vs el vf Bs h1 h2 => exact ⟨_, cap, rfl, h2⟩

/-- cells with their slices cut off, which stand as trees -/
def Strip : List D → List D → Heap → Prop
  | [], c, t => c = [] ∧ t = []
  | .sl d :: l, c, t => ∃ v c' t', c = .v v :: c' ∧ t = .tree v d :: t' ∧ Strip l c' t'
  | x :: l, c, t => ∃ c', c = x :: c' ∧ Strip l c' t

theorem strip_cons {x : D} (hx : x.isSl = false) {l c : List D} {t : Heap} : Strip (x :: l) c t ↔ ∃ c', c = x :: c' ∧ Strip l c' t := by
  cases x <;> first | (simp [D.isSl] at hx; done) | exact Iff.rfl

theorem strip_get : ∀ {l c : List D} {t : Heap}, Strip l c t → l.length = c.length ∧ ∃ σ : Nat → Nat,
    (∀ n x, l[n]? = some x → (∃ d v, x = .sl d ∧ c[n]? = some (.v v) ∧ t[σ n]? = some (.tree v d)) ∨ (x.isSl = false ∧ c[n]? = some x)) ∧
    (∀ n m d d', l[n]? = some (.sl d) → l[m]? = some (.sl d') → σ n = σ m → n = m)
  | [], c, t, h => by
    obtain ⟨rfl, rfl⟩ := h
    exact ⟨rfl, fun _ => 0, fun n x h => by simp at h, fun n m d d' h => by simp at h⟩
  | x :: l, c, t, h => by
    by_cases hx : x.isSl = false
    · obtain ⟨c', rfl, h1⟩ := (strip_cons hx).1 h
      obtain ⟨h2, σ, h3, h4⟩ := strip_get h1
      refine ⟨by simp [h2], fun n => σ (n - 1), fun n y hn => ?_, fun n m d d' hn hm he => ?_⟩
      · cases n with
        | zero => simp at hn; subst hn; exact .inr ⟨hx, rfl⟩
        | succ n => simpa using h3 n y (by simpa using hn)
      · cases n with
        | zero => simp at hn; subst hn; simp [D.isSl] at hx
        | succ n =>
          cases m with
          | zero => simp at hm; subst hm; simp [D.isSl] at hx
          | succ m => simp at hn hm he; rw [h4 n m d d' hn hm he]
    · cases x with
      | sl d0 =>
        obtain ⟨v, c', t', rfl, rfl, h1⟩ := h
        obtain ⟨h2, σ, h3, h4⟩ := strip_get h1
        refine ⟨by simp [h2], fun n => if n = 0 then 0 else σ (n - 1) + 1, fun n y hn => ?_, fun n m d d' hn hm he => ?_⟩
        · cases n with
          | zero => simp at hn; subst hn; exact .inl ⟨d0, v, rfl, rfl, by simp⟩
          | succ n => simpa using h3 n y (by simpa using hn)
        · cases n with
          | zero =>
            cases m with
            | zero => rfl
            | succ m => simp at he
          | succ n =>
            cases m with
            | zero => simp at he
            | succ m => simp at hn hm he; rw [h4 n m d d' hn hm he]
      | _ => simp [D.isSl] at hx

/-- an array that stands in a block of its own -/
def Arr (w : World) (S : Nat → Nat → Prop) (cs : List D) (b : Nat) : Prop :=
  ∃ (vs : Array Value) (el : TypeId), w.heap[b]? = some (.cells vs el (0, 0)) ∧ cs.length ≤ vs.size ∧ ∀ (n : Nat) (x : D), cs[n]? = some x → ∃ y, vs[n]? = some y ∧ RD w S x y

/-- an array and trees make a tree -/
theorem RT.join {w : World} {S : Nat → Nat → Prop} {rows rows' : List (List D)} {trs : Heap} {b cap sz : Nat} {Bt : Nat → Nat → Prop}
    (hA : Arr w S rows.flatten b) (hs : Strip rows'.flatten rows.flatten trs) (hne : rows' ≠ []) (hc : rows'.length ≤ cap) (hm : rows'.length ≤ maxRows) (hsz : ∀ r ∈ rows', r.length = sz)
    (ht : ∀ m v d, trs[m]? = some (.tree v d) → RT w (.sl d) v (Bt m)) (hb : ∀ m, m < trs.length → ¬ Bt m b) (hd : ∀ m m' c, m < trs.length → m' < trs.length → Bt m c → Bt m' c → m = m') :
    ∃ B, RT w (.sl rows') (.slice (some ⟨b, 0, none⟩) rows'.length cap) B ∧ ∀ c, B c → c = b ∨ ∃ m, m < trs.length ∧ Bt m c := by
  obtain ⟨vs, el, h1, h2, h3⟩ := hA
  obtain ⟨h4, σ, h5, h6⟩ := strip_get hs
  have hlt : ∀ n d, rows'.flatten[n]? = some (.sl d) → σ n < trs.length := fun n d hn => by
    rcases h5 n _ hn with ⟨d', v, e, _, h8⟩ | ⟨h8, _⟩
    · exact (List.getElem?_eq_some_iff.1 h8).1
    · simp [D.isSl] at h8
  refine ⟨_, .sl rows' b cap sz vs el (fun n => vs.getD n undef) (fun n c => (∃ d, rows'.flatten[n]? = some (.sl d)) ∧ Bt (σ n) c) hne hc hm hsz h1 (by omega) (fun n x hn => ?_) (fun n x hn => ?_) (fun n ⟨⟨d, h7⟩, h8⟩ => hb _ (hlt n d h7) h8)
    (fun n m c ⟨⟨d, h7⟩, h8⟩ ⟨⟨d', h9⟩, h10⟩ => h6 n m d d' h7 h9 (hd _ _ c (hlt n d h7) (hlt m d' h9) h8 h10)), fun c hc => ?_⟩
  · have hlt : n < vs.size := by have := (List.getElem?_eq_some_iff.1 hn).1; omega
    simp [hlt]
  · rcases h5 n x hn with ⟨d, v, rfl, h7, h8⟩ | ⟨h7, h8⟩
    · obtain ⟨y, h9, h10⟩ := h3 n _ h7
      have hy : vs.getD n undef = v := by
        have : vs.getD n undef = y := by simp [Array.getD_eq_getD_getElem?, h9]
        rw [this]; cases h10; rfl
      show RT w (D.sl d) (vs.getD n undef) (fun c => (∃ d, rows'.flatten[n]? = some (D.sl d)) ∧ Bt (σ n) c)
      rw [hy, show (fun c => (∃ d, rows'.flatten[n]? = some (D.sl d)) ∧ Bt (σ n) c) = Bt (σ n) from funext fun c => propext ⟨fun h => h.2, fun h => ⟨⟨d, hn⟩, h⟩⟩]
      exact ht _ v d h8
    · obtain ⟨y, h9, h10⟩ := h3 n _ h8
      have hy : vs.getD n undef = y := by simp [Array.getD_eq_getD_getElem?, h9]
      have hnot : ∀ d, ¬ rows'.flatten[n]? = some (.sl d) := fun d e => by rw [hn] at e; cases e; simp [D.isSl] at h7
      show RT w x (vs.getD n undef) (fun c => (∃ d, rows'.flatten[n]? = some (D.sl d)) ∧ Bt (σ n) c)
      rw [hy, show (fun c => (∃ d, rows'.flatten[n]? = some (D.sl d)) ∧ Bt (σ n) c) = (fun _ => False) from funext fun c => propext ⟨fun h => hnot _ h.1.choose_spec, fun h => h.elim⟩]
      have hl : x.leaf = true := by cases x <;> first | rfl | (simp [D.isSl] at h7)
      exact .leaf hl (h10.of_leaf hl)
  · rcases hc with rfl | ⟨n, ⟨d, h7⟩, h8⟩
    · exact .inl rfl
    · exact .inr ⟨σ n, hlt n d h7, h8⟩

/-- the cells of a tree, taken apart -/
theorem strip_exists {w : World} {vf : Nat → Value} {Bs : Nat → Nat → Prop} (hd : ∀ n m c, Bs n c → Bs m c → n = m) : ∀ (l : List D) (off : Nat), (∀ n x, l[n]? = some x → RT w x (vf (off + n)) (Bs (off + n))) →
    ∃ (c : List D) (t : Heap) (ks : List K), Strip l c t ∧ (∀ n x, c[n]? = some x → ∀ S, RD w S x (vf (off + n))) ∧ t.length = ks.length ∧
      (∀ (m : Nat) (o : Ob), t[m]? = some o → ∃ (v : Value) (d : List (List D)) (n : Nat), o = .tree v d ∧ off ≤ n ∧ ks[m]? = some (K.tree (Bs n)) ∧ RT w (.sl d) v (Bs n)) ∧
      (∀ (m m' n : Nat), ks[m]? = some (K.tree (Bs n)) → ks[m']? = some (K.tree (Bs n)) → (∃ c, Bs n c) → m = m')
  | [], off, _ => ⟨[], [], [], ⟨rfl, rfl⟩, fun n x h => by simp at h, rfl, fun m o h => by simp at h, fun m m' n h => by simp at h⟩
  | x :: l, off, h => by
    obtain ⟨c, t, ks, h1, h2, h3, h4, h5⟩ := strip_exists hd l (off + 1) (fun n y hn => by have := h (n + 1) y (by simpa using hn); rwa [show off + (n + 1) = off + 1 + n by omega] at this)
    have h0 := h 0 x rfl
    rw [Nat.add_zero] at h0
    by_cases hx : x.isSl = false
    · refine ⟨x :: c, t, ks, (strip_cons hx).2 ⟨c, rfl, h1⟩, fun n y hn S => ?_, h3, fun m o hm => ?_, h5⟩
      · cases n with
        | zero =>
          simp at hn; subst hn
          exact h0.leaf_rd hx S
        | succ n => rw [show off + (n + 1) = off + 1 + n by omega]; exact h2 n y (by simpa using hn) S
      · obtain ⟨v, d, n, e1, e2, e3⟩ := h4 m o hm
        exact ⟨v, d, n, e1, by omega, e3⟩
    · cases x with
      | sl d =>
        refine ⟨.v (vf off) :: c, .tree (vf off) d :: t, .tree (Bs off) :: ks, ⟨_, _, _, rfl, rfl, h1⟩, fun n y hn S => ?_, by simp [h3], fun m o hm => ?_, fun m m' n hm hm' hc => ?_⟩
        · cases n with
          | zero => simp at hn; subst hn; exact .v _ h0.oneCell
          | succ n => rw [show off + (n + 1) = off + 1 + n by omega]; exact h2 n y (by simpa using hn) S
        · cases m with
          | zero => simp at hm; subst hm; exact ⟨_, _, off, rfl, Nat.le_refl _, rfl, h0⟩
          | succ m =>
            obtain ⟨v, d, n, e1, e2, e3⟩ := h4 m o (by simpa using hm)
            exact ⟨v, d, n, e1, by omega, by simpa using e3⟩
        · have key : ∀ m, (K.tree (Bs off) :: ks)[m + 1]? = some (.tree (Bs n)) → ∃ n', off + 1 ≤ n' ∧ Bs n' = Bs n := fun m hm => by
            have hlt : m < t.length := by rw [h3]; exact (List.getElem?_eq_some_iff.1 (by simpa using hm)).1
            obtain ⟨v, d, n', e1, e2, e3, _⟩ := h4 m _ (List.getElem?_eq_getElem hlt)
            simp only [List.getElem?_cons_succ] at hm
            rw [hm] at e3
            injection e3 with e3
            injection e3 with e3
            exact ⟨n', e2, e3.symm⟩
          obtain ⟨c0, hc0⟩ := hc
          cases m with
          | zero =>
            simp at hm
            cases m' with
            | zero => rfl
            | succ m' =>
              obtain ⟨n', e1, e2⟩ := key m' hm'
              have := hd off n' c0 (by rw [hm]; exact hc0) (by rw [e2]; exact hc0)
              omega
          | succ m =>
            cases m' with
            | zero =>
              simp at hm'
              obtain ⟨n', e1, e2⟩ := key m hm
              have := hd off n' c0 (by rw [hm']; exact hc0) (by rw [e2]; exact hc0)
              omega
            | succ m' => simp at hm hm'; rw [h5 m m' n hm hm' ⟨c0, hc0⟩]
      | _ => simp [D.isSl] at hx

end Go.AM

/-
  Functions that hand out trees of their own; calls in front of which other objects are set aside.
  Conditions: none.
-/
namespace Go.AM
set_option linter.unusedVariables false
set_option linter.unusedSimpArgs false

/-- a tree that lies in the blocks of these objects -/
def Piece (w : World) (ι : List K) (I : List Nat) (x : List (List D)) (v : Value) : Prop :=
  ∃ B : Nat → Prop, RT w (.sl x) v B ∧ ∀ b, B b → ∃ (i : Nat) (k : K), i ∈ I ∧ ι[i]? = some k ∧ k.at b

section
variable {w : World} {ι : List K} {n : Nat} {loc : Heap}

theorem Sim.get (hs : Sim w ι n loc) {j : Nat} {o : Ob} (h : loc[j]? = some o) : ∃ k, ι[j]? = some k ∧ RO w ι n o k := by
  have hj : j < ι.length := by rw [hs.len]; exact (List.getElem?_eq_some_iff.1 h).1
  exact ⟨ι[j], List.getElem?_eq_getElem hj, hs.obj j o _ h (List.getElem?_eq_getElem hj)⟩

theorem RO.tree_inv {v : Value} {d : List (List D)} {k : K} (h : RO w ι n (.tree v d) k) : ∃ B B₀ : Nat → Prop, k = .tree B ∧ (∀ b, B₀ b → B b) ∧ RT w (.sl d) v B₀ := by
  cases k with
  | tree B => obtain ⟨B₀, h1, h2⟩ := h; exact ⟨B, B₀, rfl, h1, h2⟩
  | grow q p => cases p <;> exact h.elim
  | _ => exact h.elim

theorem piece_tree (hs : Sim w ι n loc) {j : Nat} {v : Value} {d : List (List D)} (h : loc[j]? = some (.tree v d)) : Piece w ι [j] d v := by
  obtain ⟨k, hk, ho⟩ := hs.get h
  obtain ⟨B, B₀, rfl, h1, h2⟩ := ho.tree_inv
  exact ⟨B₀, h2, fun b hb => ⟨j, _, by simp, hk, h1 b hb⟩⟩

theorem piece_nil {S : Nat → Nat → Prop} {v : Value} (h : RD w S (.sl []) v) : Piece w ι [] [] v :=
  ⟨_, .leaf rfl (h.of_leaf rfl), fun b hb => hb.elim⟩

theorem piece_join (hs : Sim w ι n loc) {S : Nat → Nat → Prop} {i b cap sz : Nat} {k : K} {rows rows' : List (List D)} {trs : Heap} {js : List Nat} (hk : ι[i]? = some k) (hat : k.at b) (hA : Arr w S rows.flatten b)
    (hst : Strip rows'.flatten rows.flatten trs) (hne : rows' ≠ []) (hc : rows'.length ≤ cap) (hm : rows'.length ≤ maxRows) (hsz : ∀ r ∈ rows', r.length = sz)
    (hj : ∀ m, m < trs.length → ∃ j, js[m]? = some j ∧ loc[j]? = trs[m]?) (hnd : (i :: js).Nodup) :
    Piece w ι (i :: js) rows' (.slice (some ⟨b, 0, none⟩) rows'.length cap) := by
  have hP : ∀ m : Nat, ∃ B : Nat → Prop, (∀ (v : Value) (d : List (List D)), trs[m]? = some (Ob.tree v d) → RT w (.sl d) v B) ∧ ∀ c, B c → ∃ (j : Nat) (k : K), js[m]? = some j ∧ ι[j]? = some k ∧ k.at c := fun m => by
    by_cases h : ∃ (v : Value) (d : List (List D)), trs[m]? = some (Ob.tree v d)
    · obtain ⟨v, d, h⟩ := h
      obtain ⟨j, h1, h2⟩ := hj m (List.getElem?_eq_some_iff.1 h).1
      rw [h] at h2
      obtain ⟨B, h3, h4⟩ := piece_tree hs h2
      refine ⟨B, fun v' d' h' => ?_, fun c hc => ?_⟩
      · rw [h] at h'; cases h'; exact h3
      · obtain ⟨j', k, h5, h6⟩ := h4 c hc
        simp at h5; subst h5
        exact ⟨j', k, h1, h6⟩
    · exact ⟨fun _ => False, fun v d h' => absurd ⟨v, d, h'⟩ h, fun c hc => hc.elim⟩
  have hP1 := fun m => (Classical.choose_spec (hP m)).1
  have hP2 := fun m => (Classical.choose_spec (hP m)).2
  obtain ⟨hn1, hn2⟩ := List.nodup_cons.1 hnd
  obtain ⟨B, h1, h2⟩ := RT.join (Bt := fun m => Classical.choose (hP m)) hA hst hne hc hm hsz hP1 (fun m hm hb => by
      obtain ⟨j, k', h3, h4, h5⟩ := hP2 m b hb
      have := hs.apart _ _ _ _ b hk h4 hat h5
      subst this
      exact hn1 (List.mem_of_getElem? h3))
    (fun m m' c hm hm' h3 h4 => by
      obtain ⟨j, k1, h5, h6, h7⟩ := hP2 m c h3
      obtain ⟨j', k2, h8, h9, h10⟩ := hP2 m' c h4
      have := hs.apart _ _ _ _ c h6 h9 h7 h10
      subst this
      obtain ⟨hl, h5⟩ := List.getElem?_eq_some_iff.1 h5
      obtain ⟨hl', h8⟩ := List.getElem?_eq_some_iff.1 h8
      exact (List.getElem_inj hn2).1 (h5.trans h8.symm))
  refine ⟨B, h1, fun c hc => ?_⟩
  rcases h2 c hc with rfl | ⟨m, hm, h3⟩
  · exact ⟨i, k, by simp, hk, hat⟩
  · obtain ⟨j, k', h4, h5⟩ := hP2 m c h3
    exact ⟨j, k', by simp [List.mem_of_getElem? h4], h5⟩

theorem arr_own {S : Nat → Nat → Prop} {rows : List (List D)} {b cap sz len : Nat} {vs : Array Value} {el : TypeId} (h : RD w S (.sl rows) (.slice (some ⟨b, 0, none⟩) len cap)) (hne : rows ≠ []) (hsz : ∀ r ∈ rows, r.length = sz)
    (hh : w.heap[b]? = some (.cells vs el (0, 0))) (hl : cap * sz ≤ vs.size) : Arr w S rows.flatten b ∧ rows.length ≤ maxRows := by
  rcases RD.sl_iff.1 h with ⟨h, _⟩ | ⟨b', off, sz', h1, h2, h3, h4, h5⟩
  · exact absurd h hne
  · simp at h1
    obtain ⟨rfl, rfl⟩ := h1
    refine ⟨⟨vs, el, hh, ?_, fun m x hm => ?_⟩, h4⟩
    · rw [flatten_len hsz]
      exact Nat.le_trans (Nat.mul_le_mul_right sz h3) hl
    · obtain ⟨i, j, r, h6, h7, rfl⟩ := flatten_inv hsz hm
      obtain ⟨h8, h9⟩ := h5 i r h6
      have : sz' = sz := by rw [← h8, hsz r (List.mem_of_getElem? h6)]
      subst this
      obtain ⟨y, h10, _, h11⟩ := h9 j x h7
      refine ⟨y, ?_, h11⟩
      simpa [World.cell?, hh] using h10

/-- an array without memory below it -/
theorem RT.of_leafs {w : World} {S : Nat → Nat → Prop} {rows : List (List D)} {b cap sz : Nat} (hA : Arr w S rows.flatten b) (hl : ∀ x ∈ rows.flatten, x.leaf = true) (hne : rows ≠ []) (hc : rows.length ≤ cap) (hm : rows.length ≤ maxRows) (hsz : ∀ r ∈ rows, r.length = sz) :
    ∃ B, RT w (.sl rows) (.slice (some ⟨b, 0, none⟩) rows.length cap) B ∧ ∀ c, B c → c = b := by
  obtain ⟨vs, el, h1, h2, h3⟩ := hA
  refine ⟨_, .sl rows b cap sz vs el (fun n => vs.getD n undef) (fun _ _ => False) hne hc hm hsz h1 h2 (fun n x hn => ?_) (fun n x hn => ?_) (fun n h => h) (fun n m c h => h.elim), fun c hc => ?_⟩
  · have hlt : n < vs.size := by have := (List.getElem?_eq_some_iff.1 hn).1; omega
    simp [hlt]
  · obtain ⟨y, h9, h10⟩ := h3 n _ hn
    have hy : vs.getD n undef = y := by simp [Array.getD_eq_getD_getElem?, h9]
    have hx := hl x (List.mem_of_getElem? hn)
    show RT w x (vs.getD n undef) _
    rw [hy]
    exact .leaf hx (h10.of_leaf hx)
  · rcases hc with h | ⟨n, h⟩
    · exact h
    · exact h.elim

/-- what is handed out for a cell: the cell with its tree in place of its token; I: the objects that go into it -/
inductive OutC (loc : Heap) : Value → C → C → Heap → List Nat → Prop
  | leaf {v : Value} {x : D} : x.leaf = true → OutC loc v (.d x) (.d x) [] []
  | u {v : Value} : OutC loc v .u .u [] []
  | tree {v kv : Value} {d : List (List D)} {j : Nat} : loc[j]? = some (.tree kv d) → OutC loc v (.d (.v kv)) (.d (.v v)) [.tree v d] [j]
  | nil {v : Value} : OutC loc v (.d (.sl [])) (.d (.v v)) [.tree v []] []
  | full {v : Value} : OutC loc v (.full []) (.d (.v v)) [.tree v []] []
  | ownNil {v : Value} {r : Ref} {pos : Nat} : OutC loc v (.own r pos []) (.d (.v v)) [.tree v []] []
  | own {v : Value} {i pos sz : Nat} {rows rows' : List (List D)} {trs : Heap} {js : List Nat} : loc[i]? = some (.grow pos sz) → rows.length = pos → Strip rows'.flatten rows.flatten trs → rows'.map List.length = rows.map List.length →
      (∀ m, m < trs.length → ∃ j, js[m]? = some j ∧ loc[j]? = trs[m]?) → OutC loc v (.own (.l i) pos rows) (.d (.v v)) [.tree v rows'] (i :: js)
  | leafs {v : Value} {i len sz : Nat} {rows : List (List D)} : loc[i]? = some (.rows rows) → (∀ x ∈ rows.flatten, x.leaf = true) → OutC loc v (.fsl (.l i) len sz) (.d (.v v)) [.tree v rows] [i]
  | part {v : Value} {i m sz : Nat} {rows : List (List D)} : loc[i]? = some (.rows rows) → (∀ x ∈ (rows.take m).flatten, x.leaf = true) → OutC loc v (.psl (.l i) 0 m sz) (.d (.v v)) [.tree v (rows.take m)] [i]
  | fsl {v : Value} {i len sz : Nat} {rows rows' : List (List D)} {trs : Heap} {js : List Nat} : loc[i]? = some (.rows rows) → Strip rows'.flatten rows.flatten trs → rows'.map List.length = rows.map List.length →
      (∀ m, m < trs.length → ∃ j, js[m]? = some j ∧ loc[j]? = trs[m]?) → OutC loc v (.fsl (.l i) len sz) (.d (.v v)) [.tree v rows'] (i :: js)

inductive Pieces (w : World) (ι : List K) : List Nat → Heap → Prop
  | nil : Pieces w ι [] []
  | cons {I I' : List Nat} {v : Value} {d : List (List D)} {H : Heap} : Piece w ι I d v → Pieces w ι I' H → Pieces w ι (I ++ I') (.tree v d :: H)

theorem Pieces.one {I : List Nat} {v : Value} {d : List (List D)} (h : Piece w ι I d v) : Pieces w ι I [.tree v d] := by
  have := Pieces.cons h .nil
  simpa using this
theorem Pieces.app {I I' : List Nat} {H H' : Heap} (h : Pieces w ι I H) (h' : Pieces w ι I' H') : Pieces w ι (I ++ I') (H ++ H') := by
  induction h with
  | nil => exact h'
  | cons a b ih => rw [List.append_assoc]; exact .cons a ih

theorem lens_of {rows rows' : List (List D)} {sz : Nat} (h : rows'.map List.length = rows.map List.length) (hs : ∀ r ∈ rows, r.length = sz) : rows'.length = rows.length ∧ ∀ r ∈ rows', r.length = sz := by
  refine ⟨by simpa using congrArg List.length h, fun r hr => ?_⟩
  have : r.length ∈ rows'.map List.length := List.mem_map_of_mem hr
  rw [h] at this
  obtain ⟨r', h1, h2⟩ := List.mem_map.1 this
  rw [← h2]; exact hs r' h1

theorem outC_ra (hs : Sim w ι 0 loc) {v : Value} {c c' : C} {H : Heap} {I : List Nat} (hr : RC w ι 0 c v) (ho : OutC loc v c c' H I) (hnd : I.Nodup) : Pieces w ι I H ∧ ∀ w' ι' n', RC w' ι' n' c' v := by
  have hv : ∀ w' ι' n', RC w' ι' n' (.d (.v v)) v := fun w' ι' n' => .d (.v v hr.oneCell)
  cases ho with
  | leaf hx => cases hr with | d h => exact ⟨.nil, fun w' ι' n' => .d (h.of_leaf hx)⟩
  | u => exact ⟨.nil, fun w' ι' n' => .u hr.oneCell⟩
  | @tree kv d j hl =>
    cases hr with
    | d h =>
      cases h
      exact ⟨.one (piece_tree hs hl), hv⟩
  | nil => cases hr with | d h => exact ⟨.one (piece_nil h), hv⟩
  | full => cases hr with | full h => exact ⟨.one (piece_nil h), hv⟩
  | ownNil => cases hr with | own h _ => exact ⟨.one (piece_nil h), hv⟩
  | @own i pos sz rows rows' trs js hl hp hst hlen hj =>
    refine ⟨.one ?_, hv⟩
    cases hr with
    | own h1 h2 =>
      obtain ⟨q, p, h3, h4, h5⟩ := h2
      rw [show idx 0 (.l i) = i by simp [idx]] at h3
      have ho := hs.obj i _ _ hl h3
      rcases Decidable.em (rows = []) with rfl | hne
      · have : rows' = [] := by simpa using hlen
        subst this
        have := hst
        have hN : Piece w ι [] [] v := piece_nil h1
        obtain ⟨B, h6, h7⟩ := hN
        exact ⟨B, h6, fun b hb => by obtain ⟨_, _, h, _⟩ := h7 b hb; cases h⟩
      · have hpq : pos = q := by
          cases p with
          | none => exact ho
          | some p => obtain ⟨b, E, lim, s⟩ := p; exact ho.1.1
        obtain ⟨_, _, h6⟩ := h5 hpq
        rcases h6 hp with ⟨h6, _⟩ | ⟨b, cap, cap', sz', rfl, rfl, h7, h7', h8⟩
        · exact absurd h6 hne
        obtain ⟨_, vs, el, h9, h10⟩ := ho
        obtain ⟨h11, h12⟩ := arr_own h1 hne h8 h9 (Nat.le_trans (Nat.mul_le_mul_right sz' h7') h10)
        obtain ⟨h13, h14⟩ := lens_of hlen h8
        rw [← h13]
        exact piece_join hs h3 rfl h11 hst (fun e => hne (by subst e; simpa using hlen.symm)) (by omega) (by omega) h14 hj hnd
  | @leafs i len sz rows hl hlf =>
    refine ⟨.one ?_, hv⟩
    cases hr with
    | @fsl _ _ b _ cap h1 h2 =>
      rw [show idx 0 (.l i) = i by simp [idx]] at h1
      obtain ⟨vs, el, h3, h4, ⟨h5, rfl⟩, h6⟩ := hs.obj i _ _ hl h1
      have hsz : ∀ r ∈ rows, r.length = sz := fun r hr => by
        obtain ⟨m, hm⟩ := List.mem_iff_getElem?.1 hr
        exact (h6 m r hm).1
      rcases Decidable.em (rows = []) with rfl | hne
      · refine ⟨_, .leaf rfl (.sl [] b 0 cap sz (fun _ => undef) (by simp) (by simp) (fun i r h => by simp at h) (fun i r j x h => by simp at h) (fun i r j x h => by simp at h)), fun b hb => hb.elim⟩
      · have h11 : Arr w (Safe w ι) rows.flatten b := ⟨vs, el, h3, by rw [flatten_len hsz]; exact h4, fun m x hm => by
          obtain ⟨i, j, r, h6', h7, rfl⟩ := flatten_inv hsz hm
          exact (h6 i r h6').2 j x h7⟩
        obtain ⟨B, h12, h13⟩ := RT.of_leafs h11 hlf hne h2 h5 hsz
        exact ⟨B, h12, fun c hc => by rw [h13 c hc]; exact ⟨i, _, by simp, h1, rfl⟩⟩
  | @part i m sz rows hl hlf =>
    refine ⟨.one ?_, hv⟩
    cases hr with
    | @psl _ _ _ b _ len off cap h1 hlo h2 hoff =>
      rw [show idx 0 (.l i) = i by simp [idx]] at h1
      obtain ⟨vs, el, h3, h4, ⟨h5, rfl⟩, h6⟩ := hs.obj i _ _ hl h1
      have hsz : ∀ r ∈ rows.take m, r.length = sz := fun r hr => by
        obtain ⟨j, hj⟩ := List.mem_iff_getElem?.1 (List.mem_of_mem_take hr)
        exact (h6 j r hj).1
      have hml : (rows.take m).length = m := by simp; omega
      rcases Nat.eq_zero_or_pos m with rfl | hpos
      · rw [List.take_zero]
        exact ⟨_, .leaf rfl (.sl [] b off cap sz (fun _ => undef) (by simp) (by simp) (fun i r h => by simp at h) (fun i r j x h => by simp at h) (fun i r j x h => by simp at h)), fun b hb => hb.elim⟩
      · have hoff := hoff hpos
        rw [Nat.zero_mul] at hoff
        subst hoff
        have hle : m * sz ≤ rows.length * sz := Nat.mul_le_mul_right sz (by omega)
        have h11 : Arr w (Safe w ι) (rows.take m).flatten b := ⟨vs, el, h3, by rw [flatten_len hsz, hml]; omega, fun q x hq => by
          obtain ⟨i, j, r, h6', h7, rfl⟩ := flatten_inv hsz hq
          rw [List.getElem?_take] at h6'
          split at h6'
          · exact (h6 i r h6').2 j x h7
          · cases h6'⟩
        obtain ⟨B, h12, h13⟩ := RT.of_leafs h11 hlf (fun e => by rw [e] at hml; simp at hml; omega) (by rw [hml]; exact h2) (by omega) hsz
        rw [hml] at h12
        exact ⟨B, h12, fun c hc => by rw [h13 c hc]; exact ⟨i, _, by simp, h1, rfl⟩⟩
  | @fsl i len sz rows rows' trs js hl hst hlen hj =>
    refine ⟨.one ?_, hv⟩
    cases hr with
    | @fsl _ _ b _ cap h1 h2 =>
      rw [show idx 0 (.l i) = i by simp [idx]] at h1
      obtain ⟨vs, el, h3, h4, ⟨h5, rfl⟩, h6⟩ := hs.obj i _ _ hl h1
      have hsz : ∀ r ∈ rows, r.length = sz := fun r hr => by
        obtain ⟨m, hm⟩ := List.mem_iff_getElem?.1 hr
        exact (h6 m r hm).1
      rcases Decidable.em (rows = []) with rfl | hne
      · have : rows' = [] := by simpa using hlen
        subst this
        refine ⟨_, .leaf rfl (.sl [] b 0 cap sz (fun _ => undef) (by simp) (by simp) (fun i r h => by simp at h) (fun i r j x h => by simp at h) (fun i r j x h => by simp at h)), fun b hb => hb.elim⟩
      · have h11 : Arr w (Safe w ι) rows.flatten b := ⟨vs, el, h3, by rw [flatten_len hsz]; exact h4, fun m x hm => by
          obtain ⟨i, j, r, h6', h7, rfl⟩ := flatten_inv hsz hm
          exact (h6 i r h6').2 j x h7⟩
        obtain ⟨h13, h14⟩ := lens_of hlen hsz
        rw [← h13]
        exact piece_join hs h1 rfl h11 hst (fun e => hne (by subst e; simpa using hlen.symm)) (by omega) (by omega) h14 hj hnd

/-- objects for the trees -/
theorem Pieces.sim (hs : Sim w ι n loc) {I : List Nat} {H : Heap} (h : Pieces w ι I H) (hnd : I.Nodup) :
    ∃ ι' : List K, ι'.length = H.length ∧ (∀ (i : Nat) o k, H[i]? = some o → ι'[i]? = some k → ∀ ι₁ n₁, RO w ι₁ n₁ o k) ∧ (∀ (i j : Nat) k k' b, ι'[i]? = some k → ι'[j]? = some k' → k.at b → k'.at b → i = j) ∧
      ∀ (i : Nat) k b, ι'[i]? = some k → k.at b → ∃ (j : Nat) (k' : K), j ∈ I ∧ ι[j]? = some k' ∧ k'.at b := by
  induction h with
  | nil => exact ⟨[], rfl, fun i o k h => by simp at h, fun i j k k' b h => by simp at h, fun i k b h => by simp at h⟩
  | @cons I I' v d H h h' ih =>
    obtain ⟨n1, n2, n3⟩ := List.nodup_append.1 hnd
    obtain ⟨ι', h1, h2, h3, h4⟩ := ih n2
    obtain ⟨B, h5, h6⟩ := h
    have hap : ∀ (j : Nat) k b, ι'[j]? = some k → B b → k.at b → False := fun j k b hj hb hk => by
      obtain ⟨j1, k1, a1, a2, a3⟩ := h6 b hb
      obtain ⟨j2, k2, b1, b2, b3⟩ := h4 j k b hj hk
      have := hs.apart _ _ _ _ b a2 b2 a3 b3
      subst this
      exact n3 j1 a1 j1 b1 rfl
    refine ⟨.tree B :: ι', by simp [h1], fun i o k hi hk ι₁ n₁ => ?_, fun i j k k' b hi hj hk hk' => ?_, fun i k b hi hk => ?_⟩
    · cases i with
      | zero => simp at hi hk; subst hi; subst hk; exact ⟨B, fun b hb => hb, h5⟩
      | succ i => exact h2 i o k (by simpa using hi) (by simpa using hk) ι₁ n₁
    · cases i with
      | zero =>
        simp at hi; subst hi
        cases j with
        | zero => rfl
        | succ j => exact (hap j k' b (by simpa using hj) hk hk').elim
      | succ i =>
        cases j with
        | zero => simp at hj; subst hj; exact (hap i k b (by simpa using hi) hk' hk).elim
        | succ j => rw [h3 i j k k' b (by simpa using hi) (by simpa using hj) hk hk']
    · cases i with
      | zero =>
        simp at hi; subst hi
        obtain ⟨j, k', a1, a2, a3⟩ := h6 b hk
        exact ⟨j, k', by simp [a1], a2, a3⟩
      | succ i =>
        obtain ⟨j, k', a1, a2, a3⟩ := h4 i k b (by simpa using hi) hk
        exact ⟨j, k', by simp [a1], a2, a3⟩

inductive OutCs (loc : Heap) (kv : Nat → Value) : Nat → List C → List C → Heap → List Nat → Prop
  | nil {p : Nat} : OutCs loc kv p [] [] [] []
  | cons {p : Nat} {c c' : C} {l l' : List C} {H H' : Heap} {I I' : List Nat} : OutC loc (kv p) c c' H I → OutCs loc kv (p + 1) l l' H' I' → OutCs loc kv p (c :: l) (c' :: l') (H ++ H') (I ++ I')
inductive OutA1 (loc : Heap) (kv : Nat → Value) : A → A → Heap → List Nat → Prop
  | c {c c' : C} {H : Heap} {I : List Nat} : OutC loc (kv 0) c c' H I → OutA1 loc kv (.c c) (.c c') H I
  | agg {cs cs' : List C} {H : Heap} {I : List Nat} : OutCs loc kv 0 cs cs' H I → OutA1 loc kv (.agg cs) (.agg cs') H I
inductive OutAs (loc : Heap) (kv : Nat → Nat → Value) : Nat → List A → List A → Heap → List Nat → Prop
  | nil {t : Nat} : OutAs loc kv t [] [] [] []
  | cons {t : Nat} {a a' : A} {l l' : List A} {H H' : Heap} {I I' : List Nat} : OutA1 loc (kv t) a a' H I → OutAs loc kv (t + 1) l l' H' I' → OutAs loc kv t (a :: l) (a' :: l') (H ++ H') (I ++ I')
/-- what is handed out for a result -/
inductive OutA (loc : Heap) (kv : Nat → Nat → Value) : A → A → Heap → List Nat → Prop
  | one {a a' : A} {H : Heap} {I : List Nat} : OutA1 loc (kv 0) a a' H I → OutA loc kv a a' H I
  | tup {l l' : List A} {H : Heap} {I : List Nat} : OutAs loc kv 0 l l' H I → OutA loc kv (.tup l) (.tup l') H I

theorem outCs_ra (hs : Sim w ι 0 loc) {kv : Nat → Value} : ∀ {cs cs' : List C} {p : Nat} {vs : List Value} {H : Heap} {I : List Nat}, RCs w ι 0 cs vs → (∀ i v, vs[i]? = some v → kv (p + i) = v) → OutCs loc kv p cs cs' H I → I.Nodup →
    Pieces w ι I H ∧ ∀ w' ι' n', RCs w' ι' n' cs' vs
  | [], cs', p, vs, H, I, hr, hk, ho, hnd => by
    cases ho
    exact ⟨.nil, fun w' ι' n' => ⟨hr.1, fun i c v h => by simp at h⟩⟩
  | c :: l, cs', p, vs, H, I, hr, hk, ho, hnd => by
    cases ho with
    | @cons _ _ c' _ l' H H' I I' h1 h2 =>
      obtain ⟨n1, n2, n3⟩ := List.nodup_append.1 hnd
      cases vs with
      | nil => have := hr.1; simp at this
      | cons v vs =>
        have hv : kv p = v := hk 0 v rfl
        rw [hv] at h1
        obtain ⟨a1, a2⟩ := outC_ra hs (hr.2 0 c v rfl rfl) h1 n1
        obtain ⟨b1, b2⟩ := outCs_ra hs (vs := vs) ⟨by have := hr.1; simpa using this, fun i c v h h' => hr.2 (i + 1) c v (by simpa using h) (by simpa using h')⟩
          (fun i u h => by rw [show p + 1 + i = p + (i + 1) by omega]; exact hk (i + 1) u (by simpa using h)) h2 n2
        refine ⟨a1.app b1, fun w' ι' n' => ⟨by have := (b2 w' ι' n').1; simp [this], fun i x y hx hy => ?_⟩⟩
        cases i with
        | zero => simp at hx hy; subst hx; subst hy; exact a2 w' ι' n'
        | succ i => exact (b2 w' ι' n').2 i x y (by simpa using hx) (by simpa using hy)

theorem outA1_ra (hs : Sim w ι 0 loc) {a : A} {v : Value} (hr : RA w ι 0 a v) : ∃ kv : Nat → Value, ∀ a' H I, OutA1 loc kv a a' H I → I.Nodup → Pieces w ι I H ∧ ∀ w' ι' n', RA w' ι' n' a' v := by
  cases hr with
  | c h =>
    refine ⟨fun _ => v, fun a' H I ho hnd => ?_⟩
    cases ho with
    | c ho => obtain ⟨h1, h2⟩ := outC_ra hs h ho hnd; exact ⟨h1, fun w' ι' n' => .c (h2 w' ι' n')⟩
  | @agg cs vs h =>
    refine ⟨fun i => vs.getD i undef, fun a' H I ho hnd => ?_⟩
    cases ho with
    | agg ho =>
      obtain ⟨h1, h2⟩ := outCs_ra hs h (fun i v hv => by simp [hv]) ho hnd
      exact ⟨h1, fun w' ι' n' => .agg (h2 w' ι' n')⟩
  | _ => exact ⟨fun _ => undef, fun a' H I ho => by cases ho⟩

theorem outAs_ra (hs : Sim w ι 0 loc) : ∀ {l : List A} {vs : List Value} (t : Nat), vs.length = l.length → (∀ (i : Nat) a v, l[i]? = some a → vs[i]? = some v → RA w ι 0 a v) → ∃ kv : Nat → Nat → Value, ∀ l' H I, OutAs loc kv t l l' H I → I.Nodup →
    Pieces w ι I H ∧ l'.length = l.length ∧ ∀ w' ι' n' (i : Nat) a v, l'[i]? = some a → vs[i]? = some v → RA w' ι' n' a v
  | [], vs, t, hl, hr => ⟨fun _ _ => undef, fun l' H I ho hnd => by cases ho; exact ⟨.nil, rfl, fun w' ι' n' i a v h => by simp at h⟩⟩
  | x :: l, [], t, hl, hr => by simp at hl
  | x :: l, v :: vs, t, hl, hr => by
    obtain ⟨kv, h1⟩ := outAs_ra hs (l := l) (vs := vs) (t + 1) (by simpa using hl) (fun i a v h h' => hr (i + 1) a v (by simpa using h) (by simpa using h'))
    obtain ⟨k0, h2⟩ := outA1_ra hs (hr 0 x v rfl rfl)
    have key : ∀ {l l' : List A} {H : Heap} {I : List Nat} {s : Nat}, t < s → OutAs loc (fun i => if i = t then k0 else kv i) s l l' H I → OutAs loc kv s l l' H I := fun {l l' H I s} hs h => by
      induction h with
      | nil => exact .nil
      | @cons s a a' l l' H H' I I' ha hl ih =>
        have : (fun i => if i = t then k0 else kv i) s = kv s := by simp; omega
        simp only [if_neg (show ¬ s = t by omega)] at ha
        exact .cons ha (ih (by omega))
    refine ⟨fun i => if i = t then k0 else kv i, fun l' H I ho hnd => ?_⟩
    cases ho with
    | @cons _ _ a' _ l' H H' I I' ha hl' =>
      simp only [if_true] at ha
      obtain ⟨n1, n2, n3⟩ := List.nodup_append.1 hnd
      obtain ⟨a1, a2⟩ := h2 _ _ _ ha n1
      obtain ⟨b1, b2, b3⟩ := h1 _ _ _ (key (by omega) hl') n2
      refine ⟨a1.app b1, by simp [b2], fun w' ι' n' i y u hy hu => ?_⟩
      cases i with
      | zero => simp at hy hu; subst hy; subst hu; exact a2 w' ι' n'
      | succ i => exact b3 w' ι' n' i y u (by simpa using hy) (by simpa using hu)

theorem outA_ra (hs : Sim w ι 0 loc) {a : A} {v : Value} (hr : RA w ι 0 a v) : ∃ kv : Nat → Nat → Value, ∀ a' H I, OutA loc kv a a' H I → I.Nodup → Pieces w ι I H ∧ ∀ w' ι' n', RA w' ι' n' a' v := by
  cases hr with
  | @tup as vs hl h =>
    obtain ⟨kv, h1⟩ := outAs_ra hs 0 hl h
    refine ⟨kv, fun a' H I ho hnd => ?_⟩
    cases ho with
    | one ho => cases ho
    | tup ho =>
      obtain ⟨a1, a2, a3⟩ := h1 _ _ _ ho hnd
      exact ⟨a1, fun w' ι' n' => .tup (by rw [hl, a2]) (a3 w' ι' n')⟩
  | c h =>
    obtain ⟨kv, h1⟩ := outA1_ra hs (RA.c h)
    exact ⟨fun _ => kv, fun a' H I ho hnd => by cases ho with | one ho => exact h1 _ _ _ ho hnd⟩
  | agg h =>
    obtain ⟨kv, h1⟩ := outA1_ra hs (RA.agg h)
    exact ⟨fun _ => kv, fun a' H I ho hnd => by cases ho with | one ho => exact h1 _ _ _ ho hnd⟩
  | _ => exact ⟨fun _ _ => undef, fun a' H I ho => by cases ho with | one ho => cases ho⟩
end

end Go.AM

/-
  Functions that hand out trees; calls in front of which other objects are set aside; functions that write into a tree.
  Conditions: none.
-/
namespace Go.AM
set_option linter.unusedVariables false
set_option linter.unusedSimpArgs false

/-! ### what looks at no object -/

def C.port (c : C) : Prop := ∀ w ι n w' ι' n' v, RC w ι n c v → RC w' ι' n' c v
def A.port (a : A) : Prop := ∀ w ι n w' ι' n' v, RA w ι n a v → RA w' ι' n' a v

theorem port_d {x : D} (hx : x.leaf = true) : (C.d x).port := fun w ι n w' ι' n' v h => by cases h with | d h => exact .d (h.of_leaf hx)
theorem port_c {c : C} (hc : c.port) : (A.c c).port := fun w ι n w' ι' n' v h => by cases h with | c h => exact .c (hc _ _ _ _ _ _ _ h)
theorem port_agg {cs : List C} (hc : ∀ c ∈ cs, c.port) : (A.agg cs).port := fun w ι n w' ι' n' v h => by
  cases h with
  | agg h => exact .agg ⟨h.1, fun i c v h1 h2 => hc c (List.mem_of_getElem? h1) _ _ _ _ _ _ _ (h.2 i c v h1 h2)⟩
theorem port_tup {as : List A} (ha : ∀ a ∈ as, a.port) : (A.tup as).port := fun w ι n w' ι' n' v h => by
  cases h with
  | tup h1 h2 => exact .tup h1 fun i a v h3 h4 => ha a (List.mem_of_getElem? h3) _ _ _ _ _ _ _ (h2 i a v h3 h4)

def C.portB : C → Bool
  | .d x => x.leaf
  | _ => false
def A.portB : A → Bool
  | A.c x => x.portB
  | A.agg cs => cs.all C.portB
  | _ => false
def A.portT : A → Bool
  | A.tup as => as.all A.portB
  | a => a.portB
theorem C.port_of {c : C} (h : c.portB = true) : c.port := by cases c <;> first | exact port_d h | cases h
theorem A.port_ofB {a : A} (h : a.portB = true) : a.port := by
  cases a <;> first | exact port_c (C.port_of h) | exact port_agg (fun c hc => C.port_of (List.all_eq_true.1 h c hc)) | cases h
theorem A.port_of {a : A} (h : a.portT = true) : a.port := by
  cases a <;> first | exact port_tup (fun c hc => A.port_ofB (List.all_eq_true.1 h c hc)) | exact A.port_ofB h

def Ob.isTree : Ob → Prop
  | .tree _ _ => True
  | _ => False

/-! ### objects are set aside -/

/-- objects are put in their places, the others behind -/
def putAll (H : Heap) : List Nat → Heap → Heap
  | [], l => H ++ l
  | j :: J, o :: l => putAll (H.set j o) J l
  | _ :: _, [] => H

theorem putAll_len : ∀ {J : List Nat} {H l : Heap}, J.length ≤ l.length → (putAll H J l).length = H.length + (l.length - J.length)
  | [], H, l, h => by simp [putAll]
  | j :: J, H, [], h => by simp at h
  | j :: J, H, o :: l, h => by simp only [putAll]; rw [putAll_len (by simpa using h)]; simp

theorem putAll_get : ∀ {J : List Nat} {H l : Heap} {i : Nat} {o : Ob}, J.Nodup → J.length ≤ l.length → (putAll H J l)[i]? = some o →
    (∃ m : Nat, J[m]? = some i ∧ l[m]? = some o) ∨ (i ∉ J ∧ H[i]? = some o) ∨ ∃ m : Nat, i = H.length + m ∧ l[J.length + m]? = some o
  | [], H, l, i, o, hn, hl, h => by
    simp only [putAll] at h
    rcases Nat.lt_or_ge i H.length with h1 | h1
    · rw [List.getElem?_append_left h1] at h; exact .inr (.inl ⟨by simp, h⟩)
    · rw [List.getElem?_append_right h1] at h; exact .inr (.inr ⟨i - H.length, by omega, by simpa using h⟩)
  | j :: J, H, [], i, o, hn, hl, h => by simp at hl
  | j :: J, H, x :: l, i, o, hn, hl, h => by
    simp only [putAll] at h
    obtain ⟨n1, n2⟩ := List.nodup_cons.1 hn
    rcases putAll_get n2 (by simpa using hl) h with ⟨m, h1, h2⟩ | ⟨h1, h2⟩ | ⟨m, h1, h2⟩
    · exact .inl ⟨m + 1, by simpa using h1, by simpa using h2⟩
    · by_cases hij : j = i
      · subst hij
        rw [List.getElem?_set] at h2
        simp only [↓reduceIte] at h2
        split at h2
        · exact .inl ⟨0, rfl, by simpa using h2⟩
        · cases h2
      · rw [List.getElem?_set_ne hij] at h2
        exact .inr (.inl ⟨by simp [h1, Ne.symm hij], h2⟩)
    · exact .inr (.inr ⟨m, by simpa using h1, by rw [List.length_cons, show J.length + 1 + m = (J.length + m) + 1 by omega]; simpa using h2⟩)

inductive FzC (H : Heap) (J : List Nat) : C → C → Prop
  | d {x : D} : FzC H J (.d x) (.d x)
  | tree {i : Nat} {kv : Value} {d : List (List D)} : H[i]? = some (.tree kv d) → i ∉ J → FzC H J (.d (.v kv)) (.d (.sl d))
  | u {c : C} : FzC H J c .u
inductive FzCs (H : Heap) (J : List Nat) : List C → List C → Prop
  | nil : FzCs H J [] []
  | cons {c c' : C} {l l' : List C} : FzC H J c c' → FzCs H J l l' → FzCs H J (c :: l) (c' :: l')
inductive FzA (H : Heap) (J : List Nat) : A → A → Prop
  | c {c c' : C} : FzC H J c c' → FzA H J (.c c) (.c c')
  | agg {cs cs' : List C} : FzCs H J cs cs' → FzA H J (.agg cs) (.agg cs')
  | u {a : A} : FzA H J a .u
inductive FzL (H : Heap) (J : List Nat) : List A → List A → Prop
  | nil : FzL H J [] []
  | cons {a a' : A} {l l' : List A} : FzA H J a a' → FzL H J l l' → FzL H J (a :: l) (a' :: l')

theorem fzCs_id {H : Heap} {J : List Nat} (ds : List D) : FzCs H J (ds.map C.d) (ds.map C.d) := by
  induction ds with
  | nil => exact .nil
  | cons x l ih => exact .cons .d ih

section
variable {w : World} {ι ι₀ : List K} {n n₀ : Nat} {H : Heap} {J : List Nat}

theorem fzC_ra (hs : Sim w ι n H) (hsub : ∀ k ∈ ι₀, ∃ i : Nat, i ∈ J ∧ ι[i]? = some k) {c c' : C} {v : Value} (hz : FzC H J c c') (hr : RC w ι n c v) : RC w ι₀ n₀ c' v := by
  cases hz with
  | d => cases hr with | d h => exact .d (h.mono fun b o ho => ⟨⟨ho.1, fun k hk => let ⟨i, _, hi⟩ := hsub k hk; ho.2 k (List.mem_of_getElem? hi)⟩, rfl⟩)
  | @tree i kv d h1 h2 =>
    cases hr with
    | d h =>
      cases h
      obtain ⟨k, hk, ho⟩ := hs.get h1
      obtain ⟨B, B₀, rfl, h3, h4⟩ := ho.tree_inv
      refine .d (h4.rd fun b o hb => ⟨hs.low _ b (List.mem_of_getElem? hk) (h3 b hb), fun k hk' hown => ?_⟩)
      obtain ⟨j, hj, hj'⟩ := hsub k hk'
      have := hs.apart _ _ _ _ b hk hj' (h3 b hb) (K.at_of_owns hown)
      subst this
      exact h2 hj
  | u => exact .u hr.oneCell

theorem fzCs_ra (hs : Sim w ι n H) (hsub : ∀ k ∈ ι₀, ∃ i : Nat, i ∈ J ∧ ι[i]? = some k) : ∀ {cs cs' : List C} {vs : List Value}, FzCs H J cs cs' → RCs w ι n cs vs → RCs w ι₀ n₀ cs' vs
  | [], _, vs, .nil, hr => ⟨hr.1, fun i c v h => by simp at h⟩
  | c :: l, _, [], .cons h1 h2, hr => by have := hr.1; simp at this
  | c :: l, _, v :: vs, .cons h1 h2, hr => by
    have h3 := fzCs_ra hs hsub (vs := vs) h2 ⟨by have := hr.1; simpa using this, fun i c v h h' => hr.2 (i + 1) c v (by simpa using h) (by simpa using h')⟩
    refine ⟨by have := h3.1; simp [this], fun i x y hx hy => ?_⟩
    cases i with
    | zero => simp at hx hy; subst hx; subst hy; exact fzC_ra hs hsub h1 (hr.2 0 c v rfl rfl)
    | succ i => exact h3.2 i x y (by simpa using hx) (by simpa using hy)

theorem fzA_ra (hs : Sim w ι n H) (hsub : ∀ k ∈ ι₀, ∃ i : Nat, i ∈ J ∧ ι[i]? = some k) {a a' : A} {v : Value} (hz : FzA H J a a') (hr : RA w ι n a v) : RA w ι₀ n₀ a' v := by
  cases hz with
  | c h => cases hr with | c hr => exact .c (fzC_ra hs hsub h hr)
  | agg h => cases hr with | agg hr => exact .agg (fzCs_ra hs hsub h hr)
  | u => exact .u

theorem fzL_ra (hs : Sim w ι n H) (hsub : ∀ k ∈ ι₀, ∃ i : Nat, i ∈ J ∧ ι[i]? = some k) : ∀ {as as' : List A} {vs : List Value}, FzL H J as as' → vs.length = as.length → (∀ (i : Nat) a v, as[i]? = some a → vs[i]? = some v → RA w ι n a v) →
    vs.length = as'.length ∧ ∀ (i : Nat) a v, as'[i]? = some a → vs[i]? = some v → RA w ι₀ n₀ a v
  | [], _, vs, .nil, hl, hr => ⟨hl, fun i a v h => by simp at h⟩
  | a :: l, _, [], .cons h1 h2, hl, hr => by simp at hl
  | a :: l, _, v :: vs, .cons h1 h2, hl, hr => by
    obtain ⟨h3, h4⟩ := fzL_ra hs hsub (vs := vs) h2 (by simpa using hl) (fun i a v h h' => hr (i + 1) a v (by simpa using h) (by simpa using h'))
    refine ⟨by simp [h3], fun i x y hx hy => ?_⟩
    cases i with
    | zero => simp at hx hy; subst hx; subst hy; exact fzA_ra hs hsub h1 (hr 0 a v rfl rfl)
    | succ i => exact h4 i x y (by simpa using hx) (by simpa using hy)
end

theorem RO.of_tree {w : World} {ι ι' : List K} {n n' : Nat} {o : Ob} {k : K} (ht : o.isTree) (h : RO w ι n o k) : RO w ι' n' o k := by
  cases o with
  | tree v d =>
    obtain ⟨B, B₀, rfl, h1, h2⟩ := h.tree_inv
    exact ⟨B₀, h1, h2⟩
  | _ => exact ht.elim

/-- a call that is told of some trees alone -/
theorem acalls_frame {P : Program} {f : FuncId} {args args₀ : List A} {H H₀ : Heap} {J : List Nat} {Q₀ : A → Heap → Prop} (hJ : J.Nodup) (hH : J.map (fun i => H[i]?) = H₀.map some) (hT : ∀ o ∈ H₀, o.isTree)
    (hz : FzL H J args args₀) (h : ACalls P f args₀ H₀ Q₀) (hQ : ∀ r H', Q₀ r H' → r.port ∧ ∀ o ∈ H', o.isTree) :
    ACalls P f args H (fun r H' => ∃ H₀', Q₀ r H₀' ∧ H₀.length ≤ H₀'.length ∧ H' = putAll H J H₀') := by
  refine ⟨h.1, fun w ι cargs hsim hl ha => ?_⟩
  have hJl : J.length = H₀.length := by simpa using congrArg List.length hH
  have hJget : ∀ (m i : Nat), J[m]? = some i → ∃ o k, H₀[m]? = some o ∧ H[i]? = some o ∧ ι[i]? = some k ∧ RO w ι H.length o k := fun m i hm => by
    have h1 : (J.map (fun i => H[i]?))[m]? = some (H[i]?) := by simp [hm]
    rw [hH] at h1
    simp only [List.getElem?_map, Option.map_eq_some_iff] at h1
    obtain ⟨o, h2, h3⟩ := h1
    obtain ⟨k, h4, h5⟩ := hsim.get h3.symm
    exact ⟨o, k, h2, h3.symm, h4, h5⟩
  let ι₀ : List K := J.map (fun i => ι.getD i .x)
  have hι₀ : ∀ (m : Nat) k, ι₀[m]? = some k → ∃ i, J[m]? = some i ∧ ι[i]? = some k := fun m k hm => by
    simp only [ι₀, List.getElem?_map, Option.map_eq_some_iff] at hm
    obtain ⟨i, h1, h2⟩ := hm
    obtain ⟨o, k', _, _, h4, _⟩ := hJget m i h1
    have : ι.getD i .x = k' := by simp [List.getD, h4]
    rw [this] at h2; subst h2
    exact ⟨i, h1, h4⟩
  have hsub : ∀ k ∈ ι₀, ∃ i : Nat, i ∈ J ∧ ι[i]? = some k := fun k hk => by
    obtain ⟨m, hm⟩ := List.mem_iff_getElem?.1 hk
    obtain ⟨i, h1, h2⟩ := hι₀ m k hm
    exact ⟨i, List.mem_of_getElem? h1, h2⟩
  have hJinj : ∀ (m m' i : Nat), J[m]? = some i → J[m']? = some i → m = m' := fun m m' i h1 h2 => by
    obtain ⟨a, h1⟩ := List.getElem?_eq_some_iff.1 h1
    obtain ⟨b, h2⟩ := List.getElem?_eq_some_iff.1 h2
    exact (List.getElem_inj hJ).1 (h1.trans h2.symm)
  have hsim0 : Sim w ι₀ H₀.length H₀ := by
    refine ⟨by simp [ι₀, hJl], fun m o k ho hk => ?_, fun m m' k k' b hm hm' hk hk' => ?_, fun k b hk hb => ?_⟩
    · obtain ⟨i, h1, h2⟩ := hι₀ m k hk
      obtain ⟨o', k', h3, h4, h5, h6⟩ := hJget m i h1
      rw [ho] at h3; cases h3
      rw [h2] at h5; cases h5
      exact h6.of_tree (hT o (List.mem_of_getElem? ho))
    · obtain ⟨i, h1, h2⟩ := hι₀ m k hm
      obtain ⟨i', h3, h4⟩ := hι₀ m' k' hm'
      have := hsim.apart _ _ _ _ b h2 h4 hk hk'
      subst this
      exact hJinj m m' i h1 h3
    · obtain ⟨i, _, hi⟩ := hsub k hk
      exact hsim.low k b (List.mem_of_getElem? hi) hb
  obtain ⟨hl0, ha0⟩ := fzL_ra (n₀ := H₀.length) hsim hsub hz hl ha
  refine (h.2 w ι₀ cargs hsim0 hl0 ha0).mono fun e w' ⟨r, H₀', ι₀', v, he, hq, hs', hr', hx, hle⟩ => ?_
  obtain ⟨hport, htree⟩ := hQ r H₀' hq
  have hιlen : ι₀'.length = H₀'.length := hs'.len
  have hsame : ∀ (m i : Nat), J[m]? = some i → ∃ k, ι[i]? = some k ∧ ι₀'[m]? = some k := fun m i hm => by
    obtain ⟨o, k, h1, h2, h3, h4⟩ := hJget m i hm
    have h5 : ι₀[m]? = some k := by simp [ι₀, hm, List.getD, h3]
    obtain ⟨k', h6, h7⟩ := hx.ev m k h5
    have ho := hT o (List.mem_of_getElem? h1)
    cases o with
    | tree v d =>
      obtain ⟨B, B₀, rfl, _, _⟩ := h4.tree_inv
      cases h7
      exact ⟨_, h3, h6⟩
    | _ => exact ho.elim
  have hnew : ∀ k b, k ∈ ι₀'.drop J.length → k.at b → ∀ k' ∈ ι, ¬ k'.at b := fun k b hk hb k' hk' hb' => by
    obtain ⟨m, hm⟩ := List.mem_iff_getElem?.1 hk
    rw [List.getElem?_drop] at hm
    obtain ⟨i, hi⟩ := List.mem_iff_getElem?.1 hk'
    by_cases hiJ : i ∈ J
    · obtain ⟨m', hm'⟩ := List.mem_iff_getElem?.1 hiJ
      obtain ⟨k1, h1, h2⟩ := hsame m' i hm'
      rw [hi] at h1; cases h1
      have := hs'.apart _ _ _ _ b hm h2 hb hb'
      have := (List.getElem?_eq_some_iff.1 hm').1
      omega
    · have hlt := hsim.low k' b hk' hb'
      refine (hx.block b hlt fun k0 hk0 hb0 => ?_).2 k (List.mem_of_mem_drop hk) hb
      obtain ⟨i0, h1, h2⟩ := hsub k0 hk0
      have := hsim.apart _ _ _ _ b hi h2 hb' hb0
      subst this
      exact hiJ h1
  have hsafe : ∀ b o, Safe w ι b o → Safe w' (ι ++ ι₀'.drop J.length) b o ∧ w'.cell? ⟨b, o, none⟩ = w.cell? ⟨b, o, none⟩ := fun b o hso => by
    obtain ⟨p, q⟩ := hx.safe b o ⟨hso.1, fun k hk => let ⟨i, _, hi⟩ := hsub k hk; hso.2 k (List.mem_of_getElem? hi)⟩
    refine ⟨⟨p.1, fun k hk => ?_⟩, q⟩
    rcases List.mem_append.1 hk with h1 | h1
    · exact hso.2 k h1
    · exact p.2 k (List.mem_of_mem_drop h1)
  have hext : Ext w ι w' (ι ++ ι₀'.drop J.length) := by
    refine ⟨hx.os, hx.tape, hx.output, hx.size, hsafe, fun b hb hk => ?_, fun i k hi => ⟨k, ?_, k.ev_refl⟩⟩
    · obtain ⟨p, q⟩ := hx.block b hb fun k hk' => let ⟨i, _, hi⟩ := hsub k hk'; hk k (List.mem_of_getElem? hi)
      refine ⟨p, fun k hk' => ?_⟩
      rcases List.mem_append.1 hk' with h1 | h1
      · exact hk k h1
      · exact q k (List.mem_of_mem_drop h1)
    · rw [List.getElem?_append_left (List.getElem?_eq_some_iff.1 hi).1]; exact hi
  have hle' : J.length ≤ H₀'.length := by rw [hJl]; exact hle
  have hplen : (putAll H J H₀').length = H.length + (H₀'.length - J.length) := putAll_len hle'
  refine ⟨r, putAll H J H₀', ι ++ ι₀'.drop J.length, v, he, ⟨H₀', hq, hle, rfl⟩, ⟨?_, fun i o k ho hk => ?_, fun i j k k' b hi hj hk hk' => ?_, fun k b hk hb => ?_⟩, hport _ _ _ _ _ _ _ hr', hext, by rw [hplen]; omega⟩
  · rw [hplen, List.length_append, List.length_drop, hsim.len, hιlen]
  · rcases putAll_get hJ hle' ho with ⟨m, h1, h2⟩ | ⟨h1, h2⟩ | ⟨m, h1, h2⟩
    · obtain ⟨k', h3, h4⟩ := hsame m i h1
      rw [List.getElem?_append_left (List.getElem?_eq_some_iff.1 h3).1, h3] at hk
      obtain rfl := Option.some.inj hk
      exact (hs'.obj m o k' h2 h4).of_tree (htree o (List.mem_of_getElem? h2))
    · obtain ⟨k', h3, h4⟩ := hsim.get h2
      rw [List.getElem?_append_left (List.getElem?_eq_some_iff.1 h3).1, h3] at hk
      obtain rfl := Option.some.inj hk
      have h5 : RO w' (ι ++ ι₀'.drop J.length) H.length o k' := h4.of_blocks hext fun b hb => (hx.block b (hsim.low k' b (List.mem_of_getElem? h3) hb) fun k0 hk0 hb0 => by
        obtain ⟨i0, h6, h7⟩ := hsub k0 hk0
        have := hsim.apart _ _ _ _ b h3 h7 hb hb0
        subst this
        exact h1 h6).1
      exact RO_ground (Obs_fits_get (sim_fits hsim) h2) h5
    · subst h1
      rw [List.getElem?_append_right (by rw [hsim.len]; omega), hsim.len, Nat.add_sub_cancel_left, List.getElem?_drop] at hk
      exact (hs'.obj _ o k h2 hk).of_tree (htree o (List.mem_of_getElem? h2))
  · rcases Nat.lt_or_ge i ι.length with h1 | h1
    · rw [List.getElem?_append_left h1] at hi
      rcases Nat.lt_or_ge j ι.length with h2 | h2
      · rw [List.getElem?_append_left h2] at hj
        exact hsim.apart _ _ _ _ b hi hj hk hk'
      · rw [List.getElem?_append_right h2] at hj
        exact absurd hk (hnew k' b (List.mem_of_getElem? hj) hk' k (List.mem_of_getElem? hi))
    · rw [List.getElem?_append_right h1] at hi
      rcases Nat.lt_or_ge j ι.length with h2 | h2
      · rw [List.getElem?_append_left h2] at hj
        exact absurd hk' (hnew k b (List.mem_of_getElem? hi) hk k' (List.mem_of_getElem? hj))
      · rw [List.getElem?_append_right h2] at hj
        rw [List.getElem?_drop] at hi hj
        have := hs'.apart _ _ _ _ b hi hj hk hk'
        omega
  · rcases List.mem_append.1 hk with h1 | h1
    · exact Nat.lt_of_lt_of_le (hsim.low k b h1 hb) hx.size
    · exact hs'.low k b (List.mem_of_mem_drop h1) hb

/-! ### a tree is opened -/

theorem unflatten : ∀ (rows : List (List D)) (c : List D), c.length = rows.flatten.length → ∃ srows : List (List D), srows.flatten = c ∧ srows.map List.length = rows.map List.length
  | [], c, h => ⟨[], by simp at h; simp [h], rfl⟩
  | r :: l, c, h => by
    rw [List.flatten_cons, List.length_append] at h
    obtain ⟨s, h1, h2⟩ := unflatten l (c.drop r.length) (by rw [List.length_drop]; omega)
    exact ⟨c.take r.length :: s, by rw [List.flatten_cons, h1, List.take_append_drop], by rw [List.map_cons, List.map_cons, h2, List.length_take]; congr 1; omega⟩

/-- a function that writes into a tree sees its array and the trees below -/
theorem acalls_open {P : Program} {f : FuncId} {pre post : List A} {rows : List (List D)} {sz : Nat} {Q : A → List (List D) → Prop} (hne : rows ≠ []) (hsz : ∀ r ∈ rows, r.length = sz) (hpre : ∀ a ∈ pre, a.port) (hpost : ∀ a ∈ post, a.port)
    (h : ∀ srows trs, Strip rows.flatten srows.flatten trs → srows.map List.length = rows.map List.length →
      ACalls P f (pre ++ .c (.fsl (.e 0) rows.length sz) :: post) (.rows srows :: trs) (fun r H' => ∃ rows' srows' trs', Strip rows'.flatten srows'.flatten trs' ∧ rows'.length = rows.length ∧ (∀ r ∈ rows', r.length = sz) ∧
        srows'.map List.length = rows'.map List.length ∧ trs'.length = trs.length ∧ H' = .rows srows' :: trs' ∧ r.port ∧ Q r rows')) (kv : Value) :
    ACalls P f (pre ++ .c (.d (.v kv)) :: post) [.tree kv rows] (fun r H' => ∃ rows', H' = [.tree kv rows'] ∧ Q r rows') := by
  have h0 := h
  obtain ⟨s0, t0, hh0, hh1⟩ : ∃ s t, Strip rows.flatten s t ∧ s.length = rows.flatten.length := by
    clear h h0 hpre hpost hne hsz
    induction rows.flatten with
    | nil => exact ⟨[], [], ⟨rfl, rfl⟩, rfl⟩
    | cons x l ih =>
      obtain ⟨s, t, h1, h2⟩ := ih
      by_cases hx : x.isSl = false
      · exact ⟨x :: s, t, (strip_cons hx).2 ⟨s, rfl, h1⟩, by simp [h2]⟩
      · cases x with
        | sl d => exact ⟨.v kv :: s, .tree kv d :: t, ⟨kv, s, t, rfl, rfl, h1⟩, by simp [h2]⟩
        | _ => simp [D.isSl] at hx
  obtain ⟨ss, e1, e2⟩ := unflatten rows s0 hh1
  refine ⟨(h ss t0 (by rw [e1]; exact hh0) e2).1, fun w ι cargs hsim hl ha => ?_⟩
  obtain ⟨k, hk, ho⟩ := hsim.get (j := 0) rfl
  obtain ⟨B, B₀, rfl, hB, hT⟩ := ho.tree_inv
  have hι : ι = [.tree B] := by
    have := hsim.len
    cases ι with
    | nil => simp at this
    | cons a l =>
      cases l with
      | nil => simp at hk; rw [hk]
      | cons _ _ => simp at this
  subst hι
  have hlow : ∀ c, B c → c < w.heap.size := fun c hc => hsim.low (.tree B) c (by simp) hc
  cases hT with
  | leaf hx _ => cases rows with
    | nil => exact absurd rfl hne
    | cons _ _ => simp [D.leaf] at hx
  | sl _ b cap sz' vs el vf Bs g1 g2 g3 g4 g5 g6 g7 g8 g9 g10 =>
    have hsz' : sz' = sz := by
      cases rows with
      | nil => exact absurd rfl hne
      | cons r l => rw [← g4 r (by simp), hsz r (by simp)]
    subst hsz'
    obtain ⟨c, t, ks, i1, i2, i3, i4, i5⟩ := strip_exists g10 rows.flatten 0 (fun n x hn => by rw [Nat.zero_add]; exact g8 n x hn)
    obtain ⟨i6, _⟩ := strip_get i1
    obtain ⟨srows, rfl, i7⟩ := unflatten rows c i6.symm
    obtain ⟨i8, i9⟩ := lens_of i7 g4
    have hks : ∀ (m : Nat) k, ks[m]? = some k → ∃ n, k = .tree (Bs n) ∧ ∃ v d, t[m]? = some (.tree v d) ∧ RT w (.sl d) v (Bs n) := fun m k hm => by
      have hlt : m < t.length := by rw [i3]; exact (List.getElem?_eq_some_iff.1 hm).1
      obtain ⟨v, d, n, a1, a2, a3, a4⟩ := i4 m _ (List.getElem?_eq_getElem hlt)
      rw [hm] at a3
      injection a3 with a3
      exact ⟨n, a3, v, d, by rw [List.getElem?_eq_getElem hlt, a1], a4⟩
    have hsub : ∀ k c, k ∈ (K.rows b sz' rows.length :: ks) → k.at c → B c := fun k c hk hc => by
      rcases List.mem_cons.1 hk with rfl | hk
      · exact hB _ (.inl hc)
      · obtain ⟨m, hm⟩ := List.mem_iff_getElem?.1 hk
        obtain ⟨n, rfl, _⟩ := hks m k hm
        exact hB _ (.inr ⟨n, hc⟩)
    have hsim0 : Sim w (.rows b sz' rows.length :: ks) (Ob.rows srows :: t).length (.rows srows :: t) := by
      refine ⟨by simp [i3], fun i o k ho hk => ?_, fun i j k k' c hi hj hk hk' => ?_, fun k c hk hc => hlow c (hsub k c hk hc)⟩
      · cases i with
        | zero =>
          simp at ho hk
          subst ho; subst hk
          refine ⟨vs, el, g5, ?_, ⟨by omega, i8⟩, fun i r hi => ⟨i9 r (List.mem_of_getElem? hi), fun j x hj => ?_⟩⟩
          · rw [← flatten_len i9, ← i6]; exact g6
          · have h1 := flatten_get i9 hi hj
            have hlt : i * sz' + j < rows.flatten.length := by rw [i6]; exact (List.getElem?_eq_some_iff.1 h1).1
            refine ⟨_, g7 _ _ (List.getElem?_eq_getElem hlt), ?_⟩
            have := i2 _ x h1 (Safe w (.rows b sz' rows.length :: ks))
            rwa [Nat.zero_add] at this
        | succ i =>
          simp at ho hk
          obtain ⟨n, rfl, v, d, h1, h2⟩ := hks i k hk
          rw [ho] at h1; cases h1
          exact ⟨Bs n, fun b h => h, h2⟩
      · cases i with
        | zero =>
          simp at hi; subst hi
          cases j with
          | zero => rfl
          | succ j =>
            simp at hj
            obtain ⟨n, rfl, _⟩ := hks j k' hj
            cases hk
            exact (g9 n hk').elim
        | succ i =>
          simp at hi
          obtain ⟨n, rfl, _⟩ := hks i k hi
          cases j with
          | zero =>
            simp at hj; subst hj
            cases hk'
            exact (g9 n hk).elim
          | succ j =>
            simp at hj
            obtain ⟨n', rfl, _⟩ := hks j k' hj
            have := g10 n n' c hk hk'
            subst this
            rw [i5 i j n hi hj ⟨c, hk⟩]
    have hRA : ∀ (i : Nat) a v, (pre ++ A.c (.fsl (.e 0) rows.length sz') :: post)[i]? = some a → cargs[i]? = some v → RA w (.rows b sz' rows.length :: ks) (Ob.rows srows :: t).length a v := fun i a v hi hv => by
      rcases Nat.lt_trichotomy i pre.length with h1 | h1 | h1
      · rw [List.getElem?_append_left h1] at hi
        exact hpre a (List.mem_of_getElem? hi) _ _ _ _ _ _ _ (ha i a v (by rw [List.getElem?_append_left h1]; exact hi) hv)
      · subst h1
        have h2 := ha pre.length _ v (by simp; rfl) hv
        simp at hi
        subst hi
        cases h2 with
        | c h2 =>
          cases h2 with
          | d h2 =>
            cases h2
            exact .c (.fsl rfl g2)
      · rw [List.getElem?_append_right (by omega)] at hi
        obtain ⟨m, hm⟩ : ∃ m, i - pre.length = m + 1 := ⟨i - pre.length - 1, by omega⟩
        rw [hm, List.getElem?_cons_succ] at hi
        exact hpost a (List.mem_of_getElem? hi) _ _ _ _ _ _ _ (ha i a v (by rw [List.getElem?_append_right (by omega), hm, List.getElem?_cons_succ]; exact hi) hv)
    refine ((h srows t i1 i7).2 w _ cargs hsim0 (by simpa using hl) hRA).mono fun e w' ⟨r, H', ι', v, he, ⟨rows', srows', trs', q1, q2, q3, q4, q5, q6, q7, q8⟩, hs', hr', hx, hle⟩ => ?_
    subst q6
    have hιl : ι'.length = ks.length + 1 := by have := hs'.len; simp at this; omega
    have hι' : ι' = .rows b sz' rows.length :: ks := by
      refine List.ext_getElem? fun i => ?_
      rcases Nat.lt_or_ge i (ks.length + 1) with h1 | h1
      · have h2 : (K.rows b sz' rows.length :: ks)[i]? = some ((K.rows b sz' rows.length :: ks)[i]) := List.getElem?_eq_getElem (by simpa using h1)
        obtain ⟨k', h3, h4⟩ := hx.ev i _ h2
        rw [h2, h3]
        congr 1
        generalize hkk : (K.rows b sz' rows.length :: ks)[i] = kk at h4 h2
        cases i with
        | zero => simp at h2; subst h2; exact h4.symm
        | succ i =>
          simp only [List.getElem?_cons_succ] at h2
          obtain ⟨n, rfl, _⟩ := hks i kk h2
          exact h4.symm
      · rw [List.getElem?_eq_none (by omega), List.getElem?_eq_none (by simpa using h1)]
    subst hι'
    obtain ⟨vs', el', j1, j2, ⟨j3, j3'⟩, j4⟩ := hs'.obj 0 _ _ rfl rfl
    obtain ⟨j5, j6⟩ := lens_of q4 q3
    have hA : Arr w' (Safe w' (.rows b sz' rows.length :: ks)) srows'.flatten b := ⟨vs', el', j1, by rw [flatten_len j6]; exact j2, fun m x hm => by
      obtain ⟨i, j, r, h6', h7, rfl⟩ := flatten_inv j6 hm
      exact (j4 i r h6').2 j x h7⟩
    have hne' : rows' ≠ [] := fun e => by subst e; apply hne; simpa using q2.symm
    obtain ⟨B', hT', hB'⟩ := piece_join hs' (i := 0) (js := List.range' 1 trs'.length) (cap := cap) rfl rfl hA q1 hne' (by omega) (by omega) q3
      (fun m hm => ⟨1 + m, by rw [List.getElem?_eq_getElem (by simpa using hm)]; simp, by rw [show 1 + m = m + 1 from Nat.add_comm 1 m]; rfl⟩) (List.nodup_cons.2 ⟨fun h => by obtain ⟨i, _, h⟩ := List.mem_range'.1 h; omega, List.nodup_range'⟩)
    have hsub' : ∀ c, B' c → B c := fun c hc => by
      obtain ⟨i, k, _, h1, h2⟩ := hB' c hc
      exact hsub k c (List.mem_of_getElem? h1) h2
    rw [q2] at hT'
    refine ⟨r, [.tree (.slice (some ⟨b, 0, none⟩) rows.length cap) rows'], [.tree B], v, he, ⟨rows', rfl, q8⟩, ⟨rfl, fun i o k ho hk => ?_, fun i j k k' c hi hj _ _ => ?_, fun k c hk hc => ?_⟩, q7 _ _ _ _ _ _ _ hr', ?_, Nat.le_refl _⟩
    · cases i with
      | zero => simp at ho hk; subst ho; subst hk; exact ⟨B', hsub', hT'⟩
      | succ i => simp at ho
    · have hi := (List.getElem?_eq_some_iff.1 hi).1
      have hj := (List.getElem?_eq_some_iff.1 hj).1
      simp at hi hj; omega
    · simp at hk; subst hk; exact Nat.lt_of_lt_of_le (hlow c hc) hx.size
    · refine ⟨hx.os, hx.tape, hx.output, hx.size, fun c o hs => ?_, fun c hc hk => ?_, fun i k hi => ⟨k, hi, k.ev_refl⟩⟩
      · have hnB : ¬ B c := hs.2 (.tree B) (by simp)
        obtain ⟨p, q⟩ := hx.safe c o ⟨hs.1, fun k hk ho => hnB (hsub k c hk (K.at_of_owns ho))⟩
        exact ⟨⟨p.1, fun k hk ho => by simp at hk; subst hk; exact hnB ho⟩, q⟩
      · have hnB : ¬ B c := hk (.tree B) (by simp)
        refine ⟨(hx.block c hc fun k hk ho => hnB (hsub k c hk ho)).1, fun k hk ho => by simp at hk; subst hk; exact hnB ho⟩

end Go.AM

/-
  Calls of functions that hand out, write into, or read trees, in the machine.
  Conditions: none.
-/
namespace Go.AM
set_option linter.unusedVariables false
set_option linter.unusedSimpArgs false

theorem C.re_of {c : C} (h : c.portB = true) (n : Nat) : C.re n c = c := by cases c <;> first | rfl | cases h
theorem A.re_ofB {a : A} (h : a.portB = true) (n : Nat) : A.re n a = a := by
  cases a with
  | c c => simp only [A.re, C.re_of h]
  | agg cs =>
    simp only [A.re, A.agg.injEq]
    exact (List.map_congr_left fun c hc => C.re_of (List.all_eq_true.1 h c hc) n).trans (by simp)
  | _ => cases h
theorem res_of {n : Nat} : ∀ {as : List A}, as.all A.portB = true → A.res n as = as
  | [], _ => rfl
  | a :: l, h => by
    simp only [List.all_cons, Bool.and_eq_true] at h
    simp only [A.res, A.re_ofB h.1, res_of h.2]
theorem A.re_of {a : A} (h : a.portT = true) (n : Nat) : A.re n a = a := by
  cases a with
  | tup as => simp only [A.re, res_of (n := n) (as := as) h]
  | c x => exact A.re_ofB (a := .c x) h n
  | agg cs => exact A.re_ofB (a := .agg cs) h n
  | _ => cases h

def Ob.isTreeB : Ob → Bool
  | .tree _ _ => true
  | _ => false
theorem Ob.isTree_of {o : Ob} (h : o.isTreeB = true) : o.isTree := by cases o <;> first | trivial | cases h

/-- what is handed out: a result that looks at no object, and trees -/
def Handed (r : A) (H : Heap) : Prop := r.portT = true ∧ H.all Ob.isTreeB = true

theorem trees_re {l : Heap} (h : l.all Ob.isTreeB = true) (n : Nat) : l.map (Ob.re n) = l := by
  refine (List.map_congr_left (g := id) fun o ho => ?_).trans (List.map_id l)
  have := List.all_eq_true.1 h o ho
  cases o <;> first | rfl | cases this

theorem putAll_map {g : Ob → Ob} : ∀ {J : List Nat} {H l : Heap}, (putAll H J l).map g = putAll (H.map g) J (l.map g)
  | [], H, l => by simp [putAll]
  | j :: J, H, [] => by simp [putAll]
  | j :: J, H, o :: l => by simp only [putAll, List.map_cons]; rw [putAll_map, List.map_set]

theorem FzC.mono {H H' : Heap} {J : List Nat} (h : ∀ (i : Nat) kv d, H[i]? = some (.tree kv d) → H'[i]? = some (.tree kv d)) {c c' : C} (hz : FzC H J c c') : FzC H' J c c' := by
  cases hz with
  | d => exact .d
  | tree h1 h2 => exact .tree (h _ _ _ h1) h2
  | u => exact .u
theorem FzCs.mono {H H' : Heap} {J : List Nat} (h : ∀ (i : Nat) kv d, H[i]? = some (.tree kv d) → H'[i]? = some (.tree kv d)) : ∀ {c c' : List C}, FzCs H J c c' → FzCs H' J c c'
  | _, _, .nil => .nil
  | _, _, .cons h1 h2 => .cons (h1.mono h) (h2.mono h)
theorem FzA.mono {H H' : Heap} {J : List Nat} (h : ∀ (i : Nat) kv d, H[i]? = some (.tree kv d) → H'[i]? = some (.tree kv d)) {c c' : A} (hz : FzA H J c c') : FzA H' J c c' := by
  cases hz with
  | c h1 => exact .c (h1.mono h)
  | agg h1 => exact .agg (h1.mono h)
  | u => exact .u
theorem FzL.mono {H H' : Heap} {J : List Nat} (h : ∀ (i : Nat) kv d, H[i]? = some (.tree kv d) → H'[i]? = some (.tree kv d)) : ∀ {c c' : List A}, FzL H J c c' → FzL H' J c c'
  | _, _, .nil => .nil
  | _, _, .cons h1 h2 => .cons (h1.mono h) (h2.mono h)
theorem acalls_read {P : Program} {f : FuncId} {args args₀ : List A} {H : Heap} {r : A} (hc : ACalls P f args₀ [] (fun r' H' => H' = [] ∧ r' = r)) (hr : r.portT = true) (hz : FzL H [] args args₀) :
    ACalls P f args H (fun r' H' => H' = H ∧ r' = r) :=
  (acalls_frame (J := []) (H₀ := []) List.nodup_nil rfl (fun o ho => by cases ho) hz hc (fun r' H' ⟨h1, h2⟩ => by subst h1; subst h2; exact ⟨A.port_of hr, fun o ho => by cases ho⟩)).mono fun r' H' ⟨H₁, ⟨h1, h2⟩, _, h3⟩ => ⟨by rw [h3, h1]; simp [putAll], h2⟩
theorem tree_of_re {o : Ob} {n : Nat} {kv : Value} {d : List (List D)} (h : Ob.re n o = .tree kv d) : o = .tree kv d := by cases o <;> first | exact h | cases h
/-- a quiet call of a function that reads trees -/
theorem qcall_read {P : Program} {f : FuncId} {as as₀ : List A} {K : A → St → Prop} {sl : List A} {ext loc : Heap} {r : A} (hc : ACalls P f as₀ [] (fun r' H' => H' = [] ∧ r' = r)) (hr : r.portT = true) (hf : Obs.fits ext.length 0 ext)
    (hz : FzL (ext ++ loc.map (Ob.re ext.length)) [] as as₀) (hk : K r ⟨sl, ext, loc⟩) : QCallK P f as ⟨sl, ext, loc⟩ K := by
  refine ⟨hf, r, A.re_of hr _, fun st' hg => acalls_read hc hr (hz.mono fun i kv d hi => ?_), hk⟩
  rcases Nat.lt_or_ge i ext.length with h1 | h1
  · rw [List.getElem?_append_left h1] at hi
    rw [List.getElem?_append_left (by rw [hg.1]; exact h1)]
    have := hg.2.2 [] [] (.e i) (.tree kv d) (by simp [z_, List.getD, hi]) (by simp) (by simp)
    simp only [z_, List.getD] at this
    rw [List.getElem?_eq_getElem (by rw [hg.1]; exact h1)] at this ⊢
    simpa using this
  · rw [List.getElem?_append_right h1, List.getElem?_map] at hi
    rw [List.getElem?_append_right (by rw [hg.1]; exact h1), List.getElem?_map, hg.1]
    obtain ⟨o, h2, h3⟩ := Option.map_eq_some_iff.1 hi
    obtain rfl := tree_of_re h3
    have := hg.same0 (i - ext.length) (.tree kv d) (by simp [List.getD, h2]) (by simp) (by simp)
    rcases Nat.lt_or_ge (i - ext.length) st'.loc.length with h4 | h4
    · simp only [List.getD, List.getElem?_eq_getElem h4, Option.getD_some] at this
      rw [List.getElem?_eq_getElem h4, this]; rfl
    · simp [List.getD, List.getElem?_eq_none h4] at this

/-- a call that writes into trees that the caller was told of -/
theorem call_ext {P : Program} {f : FuncId} {args args₀ : List A} {sl : List A} {ext loc H H₀ : Heap} {J : List Nat} {Q₀ : A → Heap → Prop} {K : A → St → Prop} (hc : ACalls P f args₀ H₀ Q₀) (hQ : ∀ r H', Q₀ r H' → Handed r H' ∧ H'.length = H₀.length) (hH : H = ext ++ loc.map (Ob.re ext.length)) (hz : FzL H J args args₀)
    (hJ : J.Nodup) (hJH : J.map (fun i => ext[i]?) = H₀.map some) (hT : H₀.all Ob.isTreeB = true) (hf : Obs.fits ext.length 0 ext) (hk : ∀ r H', Q₀ r H' → K r ⟨sl, putAll ext J H', loc⟩) :
    ACalls P f args H (CallK K ⟨sl, ext, loc⟩) := by
  have hJl : J.length = H₀.length := by simpa using congrArg List.length hJH
  have hJx : ∀ i ∈ J, i < ext.length := fun i hi => by
    obtain ⟨m, hm⟩ := List.mem_iff_getElem?.1 hi
    have h1 : (J.map (fun i => ext[i]?))[m]? = some (ext[i]?) := by simp [hm]
    rw [hJH] at h1
    simp only [List.getElem?_map, Option.map_eq_some_iff] at h1
    obtain ⟨o, _, h3⟩ := h1
    exact (List.getElem?_eq_some_iff.1 h3.symm).1
  have hJH' : J.map (fun i => H[i]?) = H₀.map some := by
    rw [← hJH]
    refine List.map_congr_left fun i hi => ?_
    rw [hH, List.getElem?_append_left (hJx i hi)]
  have hput : ∀ {J : List Nat} {ext l rest : Heap}, (∀ i ∈ J, i < ext.length) → J.length = l.length → putAll (ext ++ rest) J l = putAll ext J l ++ rest := by
    intro J
    induction J with
    | nil => intro ext l rest _ h; cases l with | nil => simp [putAll] | cons _ _ => simp at h
    | cons j J ih =>
      intro ext l rest h h'
      cases l with
      | nil => simp at h'
      | cons o l =>
        simp only [putAll]
        rw [List.set_append_left _ _ (h j (by simp)), ih (fun i hi => by simpa using h i (by simp [hi])) (by simpa using h')]
  have hfit : ∀ {J : List Nat} {e l : Heap} {n : Nat}, l.all Ob.isTreeB = true → J.length = l.length → Obs.fits n 0 e → Obs.fits n 0 (putAll e J l) := by
    intro J
    induction J with
    | nil => intro e l n _ h hf; cases l with | nil => simpa [putAll] using hf | cons _ _ => simp at h
    | cons j J ih =>
      intro e l n h h' hf
      cases l with
      | nil => simp at h'
      | cons o l =>
        simp only [putAll]
        simp only [List.all_cons, Bool.and_eq_true] at h
        refine ih h.2 (by simpa using h') (Obs_fits_set hf ?_)
        cases o <;> first | trivial | cases h.1
  refine (acalls_frame hJ hJH' (fun o ho => Ob.isTree_of (List.all_eq_true.1 hT o ho)) hz hc (fun r H' h => ⟨A.port_of (hQ r H' h).1.1, fun o ho => Ob.isTree_of (List.all_eq_true.1 (hQ r H' h).1.2 o ho)⟩)).mono fun r H' ⟨H₁, h1, h2, h3⟩ => ?_
  obtain ⟨⟨q1, q2⟩, q3⟩ := hQ r H₁ h1
  have hlen : (putAll ext J H₁).length = ext.length := by rw [putAll_len (by omega)]; omega
  refine ⟨putAll ext J H₁, loc, r, ?_, hlen, Nat.le_refl _, hfit q2 (by omega) hf, (A.re_of q1 _).symm, hk r H₁ h1⟩
  rw [h3, hH, hput hJx (by omega)]

/-! ### trees without trees below -/

theorem flatten_uniq : ∀ {a b : List (List D)}, a.flatten = b.flatten → a.map List.length = b.map List.length → a = b
  | [], [], _, _ => rfl
  | [], _ :: _, _, h => by simp at h
  | _ :: _, [], _, h => by simp at h
  | x :: a, y :: b, h, h' => by
    simp only [List.map_cons, List.cons.injEq] at h'
    simp only [List.flatten_cons] at h
    obtain ⟨rfl, h2⟩ := List.append_inj h h'.1
    rw [flatten_uniq h2 h'.2]

/-- a function that writes into a tree -/
theorem acalls_tree {P : Program} {f : FuncId} {pre post : List A} {rows : List (List D)} {Q : A → List (List D) → Prop} (sz : Nat) (hsz : ∀ r ∈ rows, r.length = sz) (hpre : pre.all A.portT = true) (hpost : post.all A.portT = true)
    (h0 : rows = [] → ACalls P f (pre ++ .c (.d (.sl [])) :: post) [] (fun r H' => H' = [] ∧ r.portT = true ∧ Q r []))
    (h : rows ≠ [] → ∀ srows trs, Strip rows.flatten srows.flatten trs → srows.map List.length = rows.map List.length →
      ACalls P f (pre ++ .c (.fsl (.e 0) rows.length sz) :: post) (.rows srows :: trs) (fun r H' => ∃ rows' srows' trs', Strip rows'.flatten srows'.flatten trs' ∧ rows'.length = rows.length ∧ (∀ r ∈ rows', r.length = sz) ∧
        srows'.map List.length = rows'.map List.length ∧ trs'.length = trs.length ∧ H' = .rows srows' :: trs' ∧ r.portT = true ∧ Q r rows')) (kv : Value) :
    ACalls P f (pre ++ .c (.d (.v kv)) :: post) [.tree kv rows] (fun r H' => ∃ rows', H' = [.tree kv rows'] ∧ r.portT = true ∧ Q r rows') := by
  have hfz : ∀ l : List A, l.all A.portT = true → FzL [.tree kv rows] [] l l → True := fun _ _ _ => trivial
  rcases Decidable.em (rows = []) with hr | hr
  · have hp : ∀ l : List A, (∀ a ∈ l, a.port) → l.all A.portT = true → ∀ {x y : List A}, FzL [.tree kv rows] [] x y → FzL [.tree kv rows] [] x y := fun _ _ _ _ _ h => h
    have hid : ∀ {l x y : List A}, l.all A.portT = true → FzL [.tree kv rows] [] x y → (∀ a ∈ l, FzA [.tree kv rows] [] a a) → FzL [.tree kv rows] [] (l ++ x) (l ++ y) := by
      intro l x y hl hxy ha
      induction l with
      | nil => exact hxy
      | cons a l ih => exact .cons (ha a (by simp)) (ih (by simp at hl; simp; exact hl.2) fun b hb => ha b (by simp [hb]))
    have h1 := h0 hr
    subst hr
    refine ⟨h1.1, fun w ι cargs hsim hl ha => ?_⟩
    -- a tree of nothing is nothing: its blocks are set aside
    have hlen : cargs.length = (pre ++ A.c (.d (.sl [])) :: post).length := by simpa using hl
    refine (h1.2 w [] cargs ⟨rfl, fun i o k h => by simp at h, fun i j k k' b h => by simp at h, fun k b h => by simp at h⟩ hlen fun i a v hi hv => ?_).mono fun e w' ⟨r, H', ι', v, he, ⟨q1, q2, q3⟩, hs', hr', hx, _⟩ => ?_
    · rcases Nat.lt_trichotomy i pre.length with h2 | h2 | h2
      · rw [List.getElem?_append_left h2] at hi
        exact A.port_of (List.all_eq_true.1 hpre a (List.mem_of_getElem? hi)) _ _ _ _ _ _ _ (ha i a v (by rw [List.getElem?_append_left h2]; exact hi) hv)
      · subst h2
        have h3 := ha pre.length _ v (by simp; rfl) hv
        simp at hi
        subst hi
        obtain ⟨k, hk, ho⟩ := hsim.get (j := 0) rfl
        obtain ⟨B, B₀, rfl, hB, hT⟩ := ho.tree_inv
        cases h3 with
        | c h3 =>
          cases h3 with
          | d h3 =>
            cases h3
            cases hT with
            | leaf hx hd => exact .c (.d (hd.of_leaf hx))
            | sl _ b cap sz' vs el vf Bs g1 => exact absurd rfl g1
      · rw [List.getElem?_append_right (by omega)] at hi
        obtain ⟨m, hm⟩ : ∃ m, i - pre.length = m + 1 := ⟨i - pre.length - 1, by omega⟩
        rw [hm, List.getElem?_cons_succ] at hi
        exact A.port_of (List.all_eq_true.1 hpost a (List.mem_of_getElem? hi)) _ _ _ _ _ _ _ (ha i a v (by rw [List.getElem?_append_right (by omega), hm, List.getElem?_cons_succ]; exact hi) hv)
    · subst q1
      have hι' : ι' = [] := List.eq_nil_of_length_eq_zero hs'.len
      subst hι'
      have hwx : ∀ b, b < w.heap.size → w'.heap[b]? = w.heap[b]? := fun b hb => (hx.block b hb fun k hk => by simp at hk).1
      refine ⟨r, [.tree kv []], ι, v, he, ⟨[], rfl, q2, q3⟩, hsim.of_blocks (.of_blocks hx.os hx.tape hx.output hx.size hwx) hwx, A.port_of q2 _ _ _ _ _ _ _ hr', .of_blocks hx.os hx.tape hx.output hx.size hwx, Nat.le_refl _⟩
  · refine (acalls_open hr hsz (fun a ha => A.port_of (List.all_eq_true.1 hpre a ha)) (fun a ha => A.port_of (List.all_eq_true.1 hpost a ha)) (Q := fun r rows' => r.portT = true ∧ Q r rows') (fun srows trs h1 h2 => (h hr srows trs h1 h2).mono fun r H' ⟨a, b, c, d1, d2, d3, d4, d5, d6, d7, d8⟩ => ⟨a, b, c, d1, d2, d3, d4, d5, d6, A.port_of d7, d7, d8⟩) kv)

/-! ### trees that are not looked at -/

end Go.AM

/-
  Functions that write into an array below which there is no memory.
  Conditions: none.
-/
namespace Go.AM
set_option linter.unusedVariables false
set_option linter.unusedSimpArgs false

theorem RT.leafs_rd {w : World} {x : D} {v : Value} {B : Nat → Prop} (h : RT w x v B) (hx : x.leaf = true) (S : Nat → Nat → Prop) : RD w S x v := by
  cases h with
  | leaf a b => exact b.of_leaf a
  | sl rs _ _ _ _ _ _ _ e1 => cases rs with
    | nil => exact absurd rfl e1
    | cons _ _ => simp [D.leaf] at hx

end Go.AM

/-
  Laws whose code reads a table of the library: the table's block is told among the objects and owns nothing.
  Conditions: none.
-/
namespace Go.AM
open Go.ChangeShapes Go.WideShapes Go.ChangeAt Go.RowKit
set_option linter.unusedVariables false
set_option linter.unusedSimpArgs false

/-- the way in which a table's block is told -/
abbrev K.tab (g : Nat) : K := .grow 0 (some (g, 0, 0, 0))

theorem K.tab_owns {g b o : Nat} : ¬ (K.tab g).owns b o := by
  rintro ⟨_, _, h⟩
  omega

theorem safe_tab {w : World} {g b o : Nat} : Safe w [] b o → Safe w [K.tab g] b o := fun h =>
  ⟨h.1, fun k hk => by rw [List.mem_singleton.1 hk]; exact K.tab_owns⟩

theorem RC.tab {w : World} {g n m : Nat} {c : C} {v : Value} (h : RC w [] n c v) : RC w [K.tab g] m c v := by
  cases h with
  | d h => exact .d (h.mono fun b o hs => ⟨safe_tab hs, rfl⟩)
  | el h => exact .el (h.mono fun b o hs => ⟨safe_tab hs, rfl⟩)
  | full h => exact .full (h.mono fun b o hs => ⟨safe_tab hs, rfl⟩)
  | u h => exact .u h
  | ptr h => simp at h
  | own h1 h2 => obtain ⟨q, p, h3, _⟩ := h2; simp at h3
  | fsl h => simp at h
  | psl h => simp at h
  | rel h => simp at h
  | map h => simp at h
  | fn h1 h2 => exact .fn h1 fun i r o h => by obtain ⟨b, h3, _⟩ := h2 i r o h; simp at h3

theorem RCs.tab {w : World} {g n m : Nat} {cs : List C} {vs : List Value} (h : RCs w [] n cs vs) : RCs w [K.tab g] m cs vs :=
  ⟨h.1, fun i c v h1 h2 => (h.2 i c v h1 h2).tab⟩

theorem RA.tab {w : World} {g n m : Nat} {a : A} {v : Value} (h : RA w [] n a v) : RA w [K.tab g] m a v := by
  induction h with
  | u => exact .u
  | c h => exact .c h.tab
  | agg h => exact .agg h.tab
  | tup h1 h2 ih => exact .tup h1 ih
  | gd h1 h2 ih => exact .gd ih h2

theorem Sim.tab_get {w : World} {ι : List K} {n g : Nat} {o : Obj} {H : Heap} (h : Sim w ι n H) (hH : H[0]? = some (.tab g o)) : w.heap[g]? = some o := by
  obtain ⟨k, hk, ho⟩ := h.get (j := 0) hH
  cases k with
  | grow q p =>
    cases p with
    | none => exact ho.elim
    | some p => obtain ⟨b, E, lim, sz⟩ := p; exact ho.2
  | _ => exact ho.elim

/-- a table is told by the block that holds it -/
theorem tab_of {P : Program} {W : World} {name : String} {k : IntKind} {zs : List Int} (h : Lib.TabIs P W name k zs) :
    ∃ (g : Nat) (o : Obj), W.heap[g]? = some o ∧ ∀ w : World, w.heap[g]? = some o → Lib.TabIs P w name k zs := by
  unfold Lib.TabIs World.var? at h
  cases hg : P.globalNamed name with
  | none => rw [hg] at h; cases h
  | some g =>
    rw [hg] at h
    simp only [Option.bind_some] at h
    split at h
    · rename_i cs t fz hc
      refine ⟨g, _, hc, fun w hw => ?_⟩
      unfold Lib.TabIs World.var?
      rw [hg]
      simp only [Option.bind_some, hw]
      exact h
    · cases h

/-- a call that reads a table, makes new blocks and hands out a string -/
theorem acalls_tab_str {P : Program} {f : FuncId} {g : Nat} {o : Obj} {H : Heap} {args : List A} {s : List UInt8} (hH : H[0]? = some (.tab g o)) (hfn : ∃ fn, P.funcs[f]? = some fn ∧ fn.body.isSome = true ∧ fn.name ≠ "runtime.NumGoroutine") (hs : s.length ≤ maxStr)
    (hC : ∀ (w : World) (ι : List K) (n : Nat) (cargs : List Value), w.heap[g]? = some o → cargs.length = args.length → (∀ (i : Nat) a v, args[i]? = some a → cargs[i]? = some v → RA w ι n a v) →
      Calls P f cargs.toArray w fun e w' => e = .returned (.string ⟨s.toArray⟩) ∧ ∃ k os, w' = Sort.grow (w.drewN k) os) :
    ACalls P f args H (fun r H' => H' = H ∧ r = .c (.d (.str s))) := by
  refine ⟨hfn, fun w ι cargs hsim hl ha => ?_⟩
  refine (hC w ι _ cargs (hsim.tab_get hH) hl ha).mono ?_
  rintro e w' ⟨rfl, k, os, rfl⟩
  have hb : ∀ b, b < w.heap.size → (Sort.grow (w.drewN k) os).heap[b]? = w.heap[b]? := fun b hb => by
    show (w.heap ++ os)[b]? = _
    rw [Array.getElem?_append_left hb]
  have hx : Ext w ι (Sort.grow (w.drewN k) os) ι := Ext.of_blocks rfl rfl rfl (by show w.heap.size ≤ (w.heap ++ os).size; simp) hb
  refine ⟨_, _, ι, _, rfl, ⟨rfl, rfl⟩, hsim.of_blocks hx hb, .c (.d ?_), hx, Nat.le_refl _⟩
  have := RD.str (w := Sort.grow (w.drewN k) os) (S := Safe (Sort.grow (w.drewN k) os) ι) ⟨s.toArray⟩ (by simpa using hs)
  simpa using this

/-- a quiet call of a function that reads the table -/
theorem qcall_tab {P : Program} {f : FuncId} {as : List A} {K : A → St → Prop} {st : St} {r : A} {g : Nat} {o : Obj} (hc : ∀ H : Heap, H[0]? = some (.tab g o) → ACalls P f as H (fun r' H' => H' = H ∧ r' = r))
    (hf : Obs.fits st.ext.length 0 st.ext) (he : st.ext[0]? = some (.tab g o)) (hr : A.re st.ext.length r = r) (hk : K r st) : QCallK P f as st K := by
  refine ⟨hf, r, hr, fun st' hg => hc _ ?_, hk⟩
  have hi := (List.getElem?_eq_some_iff.1 he).1
  have := hg.2.2 [] [] (.e 0) (.tab g o) (by simp [z_, List.getD, he]) (by intro h; cases h) (by intro p s h; cases h)
  simp only [z_, List.getD] at this
  rw [List.getElem?_append_left (by rw [hg.1]; exact hi)]
  rw [List.getElem?_eq_getElem (by rw [hg.1]; exact hi)] at this ⊢
  simpa using this

section
variable {P : Program} {H : Type} {enc : TypeId × Value → H}

end
end Go.AM

/-
  Functions that are handed nil, where an owned slice with nothing in it serves.
  Conditions: none.
-/
namespace Go.AM
set_option linter.unusedVariables false
set_option linter.unusedSimpArgs false
variable {w : World} {ι : List K}

theorem idx_low {n : Nat} {r : Ref} {k : K} (hl : ι.length ≤ n) (h : ι[idx n r]? = some k) : ∃ b, r = .e b := by
  cases r with
  | e b => exact ⟨b, rfl⟩
  | l i =>
    have := (List.getElem?_eq_some_iff.1 h).1
    simp only [idx] at this
    omega

theorem RC.up {n m : Nat} {c : C} {v : Value} (hl : ι.length ≤ n) (h : RC w ι n c v) : RC w ι m c v := by
  cases h with
  | d h => exact .d h
  | ptr h => obtain ⟨b, rfl⟩ := idx_low hl h; exact .ptr h
  | el h => exact .el h
  | own h1 h2 =>
    obtain ⟨q, p, h3, h4⟩ := h2
    obtain ⟨b, rfl⟩ := idx_low hl h3
    exact .own h1 ⟨q, p, h3, h4⟩
  | full h => exact .full h
  | fsl h h2 => obtain ⟨b, rfl⟩ := idx_low hl h; exact .fsl h h2
  | psl h h1 h2 h3 => obtain ⟨b, rfl⟩ := idx_low hl h; exact .psl h h1 h2 h3
  | rel h => obtain ⟨b, rfl⟩ := idx_low hl h; exact .rel h
  | map h => obtain ⟨b, rfl⟩ := idx_low hl h; exact .map h
  | fn h1 h2 =>
    refine .fn h1 fun i r o h => ?_
    obtain ⟨b, h3, h4⟩ := h2 i r o h
    obtain ⟨c, rfl⟩ := idx_low hl h3
    exact ⟨b, h3, h4⟩
  | u h => exact .u h

theorem RCs.up {n m : Nat} {cs : List C} {vs : List Value} (hl : ι.length ≤ n) (h : RCs w ι n cs vs) : RCs w ι m cs vs :=
  ⟨h.1, fun i c v h1 h2 => (h.2 i c v h1 h2).up hl⟩

theorem RA.up {n m : Nat} {a : A} {v : Value} (hl : ι.length ≤ n) (h : RA w ι n a v) : RA w ι m a v := by
  induction h with
  | u => exact .u
  | c h => exact .c (h.up hl)
  | agg h => exact .agg (h.up hl)
  | tup h1 h2 ih => exact .tup h1 ih
  | gd h1 h2 ih => exact .gd ih h2

theorem RO.up {n m : Nat} {o : Ob} {k : K} (hl : ι.length ≤ n) (h : RO w ι n o k) : RO w ι m o k := by
  match o, k, h with
  | .cells cs, .blk b, ⟨vs, el, h1, h2⟩ => exact ⟨vs, el, h1, h2.up hl⟩
  | .rows rs, .rows b sz _, h => exact h
  | .grow p s, .grow q none, h => exact h
  | .grow p s, .grow q (some _), h => exact h
  | .map m, .blk b, h => exact h
  | .tree v d, .tree B, h => exact h
  | .tab g o, .grow q (some _), h => exact h
  | .dead, k, _ => cases k <;> trivial

theorem Sim.up {n m : Nat} {H : Heap} (hl : H.length ≤ n) (h : Sim w ι n H) : Sim w ι m H where
  len := h.len
  obj := fun i o k h1 h2 => (h.obj i o k h1 h2).up (by rw [h.len]; exact hl)
  apart := h.apart
  low := h.low

end Go.AM

/-
  The machine's equations under short names.
  Conditions: none.
-/
namespace Go.AM
theorem ew : (∀ {s : List A} {x : A}, Opd.ev s (.k x) = x) ∧
  (∀ {x0 : A} {l : List A}, Opd.ev (x0 :: l) (.t 0) = x0) ∧
  (∀ {x0 x1 : A} {l : List A}, Opd.ev (x0 :: x1 :: l) (.t 1) = x1) ∧
  (∀ {x0 x1 x2 : A} {l : List A}, Opd.ev (x0 :: x1 :: x2 :: l) (.t 2) = x2) ∧
  (∀ {x0 x1 x2 x3 : A} {l : List A}, Opd.ev (x0 :: x1 :: x2 :: x3 :: l) (.t 3) = x3) ∧
  (∀ {x0 x1 x2 x3 x4 : A} {l : List A}, Opd.ev (x0 :: x1 :: x2 :: x3 :: x4 :: l) (.t 4) = x4) ∧
  (∀ {x0 x1 x2 x3 x4 x5 : A} {l : List A}, Opd.ev (x0 :: x1 :: x2 :: x3 :: x4 :: x5 :: l) (.t 5) = x5) ∧
  (∀ {x0 x1 x2 x3 x4 x5 x6 : A} {l : List A}, Opd.ev (x0 :: x1 :: x2 :: x3 :: x4 :: x5 :: x6 :: l) (.t 6) = x6) ∧
  (∀ {x0 x1 x2 x3 x4 x5 x6 x7 : A} {l : List A}, Opd.ev (x0 :: x1 :: x2 :: x3 :: x4 :: x5 :: x6 :: x7 :: l) (.t 7) = x7) ∧
  (∀ {x0 x1 x2 x3 x4 x5 x6 x7 : A} {l : List A} {n : Nat}, Opd.ev (x0 :: x1 :: x2 :: x3 :: x4 :: x5 :: x6 :: x7 :: l) (.t (n + 8)) = Opd.ev l (.t n)) := ⟨rfl, rfl, rfl, rfl, rfl, rfl, rfl, rfl, rfl, rfl⟩
theorem sw : (∀ {α : Type} {x0 y : α} {l : List α}, (x0 :: l).set 0 y = y :: l) ∧
  (∀ {α : Type} {x0 x1 y : α} {l : List α}, (x0 :: x1 :: l).set 1 y = x0 :: y :: l) ∧
  (∀ {α : Type} {x0 x1 x2 y : α} {l : List α}, (x0 :: x1 :: x2 :: l).set 2 y = x0 :: x1 :: y :: l) ∧
  (∀ {α : Type} {x0 x1 x2 x3 y : α} {l : List α}, (x0 :: x1 :: x2 :: x3 :: l).set 3 y = x0 :: x1 :: x2 :: y :: l) ∧
  (∀ {α : Type} {x0 x1 x2 x3 x4 y : α} {l : List α}, (x0 :: x1 :: x2 :: x3 :: x4 :: l).set 4 y = x0 :: x1 :: x2 :: x3 :: y :: l) ∧
  (∀ {α : Type} {x0 x1 x2 x3 x4 x5 y : α} {l : List α}, (x0 :: x1 :: x2 :: x3 :: x4 :: x5 :: l).set 5 y = x0 :: x1 :: x2 :: x3 :: x4 :: y :: l) ∧
  (∀ {α : Type} {x0 x1 x2 x3 x4 x5 x6 y : α} {l : List α}, (x0 :: x1 :: x2 :: x3 :: x4 :: x5 :: x6 :: l).set 6 y = x0 :: x1 :: x2 :: x3 :: x4 :: x5 :: y :: l) ∧
  (∀ {α : Type} {x0 x1 x2 x3 x4 x5 x6 x7 y : α} {l : List α}, (x0 :: x1 :: x2 :: x3 :: x4 :: x5 :: x6 :: x7 :: l).set 7 y = x0 :: x1 :: x2 :: x3 :: x4 :: x5 :: x6 :: y :: l) ∧
  (∀ {α : Type} {x0 x1 x2 x3 x4 x5 x6 x7 y : α} {l : List α} {n : Nat}, (x0 :: x1 :: x2 :: x3 :: x4 :: x5 :: x6 :: x7 :: l).set (n + 8) y = x0 :: x1 :: x2 :: x3 :: x4 :: x5 :: x6 :: x7 :: l.set n y) := ⟨rfl, rfl, rfl, rfl, rfl, rfl, rfl, rfl, rfl⟩
theorem kw : (∀ {P : Program} {F : Ex → St → Prop} {fs : List Fr} {st : St}, aw P .skip (kq P F fs) st = kq P F fs .normal st) ∧
  (∀ {P : Program} {F : Ex → St → Prop} {fs : List Fr} {st : St} {ops kill}, aw P (.region ops kill) (kq P F fs) st = awOps P (kq P F fs .normal) kill ops st) ∧
  (∀ {P : Program} {F : Ex → St → Prop} {fs : List Fr} {st : St} {a b}, aw P (.seq a b) (kq P F fs) st = aw P a (kq P F (.seq b :: fs)) st) ∧
  (∀ {P : Program} {F : Ex → St → Prop} {fs : List Fr} {st : St} {id c}, aw P (.block id c) (kq P F fs) st = aw P c (kq P F (.block id :: fs)) st) ∧
  (∀ {P : Program} {F : Ex → St → Prop} {fs : List Fr} {st : St} {id}, aw P (.exit id) (kq P F fs) st = kq P F fs (.exit id) st) ∧
  (∀ {P : Program} {F : Ex → St → Prop} {fs : List Fr} {st : St}, aw P .ret (kq P F fs) st = kq P F fs .ret st) ∧
  (∀ {P : Program} {F : Ex → St → Prop} {st : St} {e}, kq P F [] e st = F e st) ∧
  (∀ {P : Program} {F : Ex → St → Prop} {fs : List Fr} {st : St} {b}, kq P F (.seq b :: fs) .normal st = aw P b (kq P F fs) st) ∧
  (∀ {P : Program} {F : Ex → St → Prop} {fs : List Fr} {st : St} {b}, kq P F (.seq b :: fs) .ret st = kq P F fs .ret st) ∧
  (∀ {P : Program} {F : Ex → St → Prop} {fs : List Fr} {st : St} {b i}, kq P F (.seq b :: fs) (.exit i) st = kq P F fs (.exit i) st) ∧
  (∀ {P : Program} {F : Ex → St → Prop} {fs : List Fr} {st : St} {i}, kq P F (.block i :: fs) .normal st = kq P F fs .normal st) ∧
  (∀ {P : Program} {F : Ex → St → Prop} {fs : List Fr} {st : St} {i}, kq P F (.block i :: fs) .ret st = kq P F fs .ret st) ∧
  (∀ {P : Program} {F : Ex → St → Prop} {fs : List Fr} {st : St} {i j}, kq P F (.block i :: fs) (.exit j) st = if j = i then kq P F fs .normal st else kq P F fs (.exit j) st) ∧
  (∀ {P : Program} {F : Ex → St → Prop} {fs : List Fr} {st : St} {I m}, kq P F (.loop I m :: fs) .normal st = LB I m st) ∧
  (∀ {P : Program} {F : Ex → St → Prop} {fs : List Fr} {st : St} {I m}, kq P F (.loop I m :: fs) .ret st = kq P F fs .ret st) ∧
  (∀ {P : Program} {F : Ex → St → Prop} {fs : List Fr} {st : St} {I m i}, kq P F (.loop I m :: fs) (.exit i) st = kq P F fs (.exit i) st) := ⟨rfl, rfl, rfl, rfl, rfl, rfl, rfl, rfl, rfl, rfl, rfl, rfl, rfl, rfl, rfl, rfl⟩
theorem tw : (∀ {P : Program} {F : Ex → St → Prop} {fs : List Fr} {st : St} {kill}, awOps P (kq P F fs .normal) kill [] st = kq P F fs .normal ⟨o_ st.sl kill, st.ext, st.loc⟩) ∧
  (∀ {P : Program} {F : Ex → St → Prop} {fs : List Fr} {st : St} {kill dst op rest}, awOps P (kq P F fs .normal) kill (⟨dst, op, none⟩ :: rest) st = c_ P st true (nx P F ⟨dst, none, rest, kill, fs⟩) op) ∧
  (∀ {P : Program} {F : Ex → St → Prop} {st : St} {k a}, nx P F k a st = awOps P (kq P F k.fs .normal) k.kill k.rest ⟨d_ st.sl k.dst (e_ k.gd a), st.ext, st.loc⟩) ∧
  (∀ {v : A} {K : A → St → Prop} {st : St}, OptK (some v) K st = K v st) ∧
  (∀ {K : A → St → Prop} {st' : St}, StoreK (some st') K = (Obs.fits st'.ext.length 0 st'.ext ∧ K .u st')) ∧
  (∀ {n : Nat}, allLen n [] ↔ True) ∧
  (∀ {n : Nat} {r : List D} {l : List (List D)}, allLen n (r :: l) ↔ r.length = n ∧ allLen n l) ∧
  (∀ {n : Nat} {l l' : List (List D)}, allLen n (l ++ l') ↔ allLen n l ∧ allLen n l') ∧
  (∀ {α β : Type} {a : α} {f : α → β}, Option.map f (some a) = some (f a)) :=
  ⟨rfl, rfl, rfl, rfl, rfl, allLen_nil_iff, allLen_cons_iff, allLen_append_iff, rfl⟩
end Go.AM

/-
  The array of a tree that a call hands out is taken as an own row of cells.
  Conditions: none.
-/
namespace Go.AM
set_option linter.unusedVariables false
set_option linter.unusedSimpArgs false
section
variable {w : World} {ι ι' : List K}

end
end Go.AM

/-
  Laws whose code reads several variables of the library: each one's block is told among the objects and owns nothing.
  Conditions: none.
-/
namespace Go.AM
open Go.ChangeShapes Go.WideShapes Go.ChangeAt Go.RowKit
set_option linter.unusedVariables false
set_option linter.unusedSimpArgs false

def tabsH (gs : List (Nat × Obj)) : Heap := gs.map fun x => .tab x.1 x.2
def tabsK (gs : List (Nat × Obj)) : List K := gs.map fun x => K.tab x.1
theorem tabsK_mem {gs : List (Nat × Obj)} {k : K} (h : k ∈ tabsK gs) : ∃ x ∈ gs, k = K.tab x.1 := by
  obtain ⟨x, h1, h2⟩ := List.mem_map.1 h
  exact ⟨x, h1, h2.symm⟩
theorem safe_tabs {w : World} {gs : List (Nat × Obj)} {b o : Nat} : Safe w [] b o → Safe w (tabsK gs) b o := fun h =>
  ⟨h.1, fun k hk => by obtain ⟨x, _, rfl⟩ := tabsK_mem hk; exact K.tab_owns⟩
theorem RC.tabs {w : World} {gs : List (Nat × Obj)} {n m : Nat} {c : C} {v : Value} (h : RC w [] n c v) : RC w (tabsK gs) m c v := by
  cases h with
  | d h => exact .d (h.mono fun b o hs => ⟨safe_tabs hs, rfl⟩)
  | el h => exact .el (h.mono fun b o hs => ⟨safe_tabs hs, rfl⟩)
  | full h => exact .full (h.mono fun b o hs => ⟨safe_tabs hs, rfl⟩)
  | u h => exact .u h
  | ptr h => simp at h
  | own h1 h2 => obtain ⟨q, p, h3, _⟩ := h2; simp at h3
  | fsl h => simp at h
  | psl h => simp at h
  | rel h => simp at h
  | map h => simp at h
  | fn h1 h2 => exact .fn h1 fun i r o h => by obtain ⟨b, h3, _⟩ := h2 i r o h; simp at h3
theorem RA.tabs {w : World} {gs : List (Nat × Obj)} {n m : Nat} {a : A} {v : Value} (h : RA w [] n a v) : RA w (tabsK gs) m a v := by
  induction h with
  | u => exact .u
  | c h => exact .c h.tabs
  | agg h => exact .agg ⟨h.1, fun i c v h1 h2 => (h.2 i c v h1 h2).tabs⟩
  | tup h1 h2 ih => exact .tup h1 ih
  | gd h1 h2 ih => exact .gd ih h2
theorem sim_tabs {w : World} {gs : List (Nat × Obj)} (hn : (gs.map Prod.fst).Nodup) (h : ∀ x ∈ gs, w.heap[x.1]? = some x.2) : Sim w (tabsK gs) (tabsH gs).length (tabsH gs) where
  len := by simp [tabsK, tabsH]
  obj := fun i ob k h1 h2 => by
    simp only [tabsH, tabsK, List.getElem?_map, Option.map_eq_some_iff] at h1 h2
    obtain ⟨x, hx, rfl⟩ := h1
    obtain ⟨y, hy, rfl⟩ := h2
    rw [hx] at hy
    cases hy
    exact ⟨⟨rfl, rfl⟩, h x (List.mem_of_getElem? hx)⟩
  apart := fun i j k k' b hi hj h1 h2 => by
    simp only [tabsK, List.getElem?_map, Option.map_eq_some_iff] at hi hj
    obtain ⟨x, hx, rfl⟩ := hi
    obtain ⟨y, hy, rfl⟩ := hj
    have e1 : b = x.1 := h1
    have e2 : b = y.1 := h2
    have hx1 : (gs.map Prod.fst)[i]? = some x.1 := by simp [hx]
    have hy1 : (gs.map Prod.fst)[j]? = some y.1 := by simp [hy]
    obtain ⟨hi1, hi2⟩ := List.getElem?_eq_some_iff.1 hx1
    obtain ⟨hj1, hj2⟩ := List.getElem?_eq_some_iff.1 hy1
    exact (List.getElem_inj hn).1 (by rw [hi2, hj2, ← e1, ← e2])
  low := fun k b hk hb => by
    obtain ⟨x, hx, rfl⟩ := tabsK_mem hk
    rw [show b = x.1 from hb]
    exact (Array.getElem?_eq_some_iff.1 (h x hx)).1
theorem Sim.tabs_get {w : World} {ι : List K} {n g j : Nat} {o : Obj} {H : Heap} (h : Sim w ι n H) (hH : H[j]? = some (.tab g o)) : w.heap[g]? = some o := by
  obtain ⟨k, hk, ho⟩ := h.get (j := j) hH
  cases k with
  | grow q p =>
    cases p with
    | none => exact ho.elim
    | some p => obtain ⟨b, E, lim, sz⟩ := p; exact ho.2
  | _ => exact ho.elim

/-- a call that reads a variable of the library, makes new blocks and hands out plain data -/
theorem acalls_tab_any {P : Program} {f : FuncId} {g j : Nat} {o : Obj} {H : Heap} {args : List A} {R : A → Prop} (hH : H[j]? = some (.tab g o)) (hfn : ∃ fn, P.funcs[f]? = some fn ∧ fn.body.isSome = true ∧ fn.name ≠ "runtime.NumGoroutine")
    (hC : ∀ (w : World) (ι : List K) (n : Nat) (cargs : List Value), w.heap[g]? = some o → cargs.length = args.length → (∀ (i : Nat) a v, args[i]? = some a → cargs[i]? = some v → RA w ι n a v) →
      Calls P f cargs.toArray w fun e w' => ∃ v r, e = .returned v ∧ R r ∧ (∀ (w : World) (ι : List K) (n : Nat), RA w ι n r v) ∧ Below w.heap.size w w') :
    ACalls P f args H (fun r H' => H' = H ∧ R r) := by
  refine ⟨hfn, fun w ι cargs hsim hl ha => ?_⟩
  refine (hC w ι _ cargs (hsim.tabs_get hH) hl ha).mono ?_
  rintro e w' ⟨v, r, rfl, hR, hra, hb⟩
  have hx : Ext w ι w' ι := Ext.of_blocks hb.os hb.tape hb.output hb.size hb.block
  exact ⟨r, H, ι, v, rfl, ⟨rfl, hR⟩, hsim.of_blocks hx hb.block, hra _ _ _, hx, Nat.le_refl _⟩

/-- as tab_of, where the block is known -/
theorem tab_of_at {P : Program} {W : World} {name : String} {k : IntKind} {zs : List Int} {g : Nat} (hg : P.globalNamed name = some g) (h : Lib.TabIs P W name k zs) :
    ∃ o : Obj, W.heap[g]? = some o ∧ ∀ w : World, w.heap[g]? = some o → Lib.TabIs P w name k zs := by
  unfold Lib.TabIs World.var? at h
  rw [hg] at h
  simp only [Option.bind_some] at h
  split at h
  · rename_i cs t fz hc
    refine ⟨_, hc, fun w hw => ?_⟩
    unfold Lib.TabIs World.var?
    rw [hg]
    simp only [Option.bind_some, hw]
    exact h
  · cases h
/-- a variable that holds one cell is told by the block that holds it -/
theorem one_of_at {P : Program} {W : World} {name : String} {g : Nat} {x : Value} (hg : P.globalNamed name = some g) (h : W.var? P name = some #[x]) :
    ∃ o : Obj, W.heap[g]? = some o ∧ ∀ w : World, w.heap[g]? = some o → w.cell? ⟨g, 0, none⟩ = some x := by
  unfold World.var? at h
  rw [hg] at h
  simp only [Option.bind_some] at h
  split at h
  · rename_i cs t fz hc
    refine ⟨_, hc, fun w hw => ?_⟩
    cases h
    simp [World.cell?, hw]
  · cases h

section
variable {P : Program} {H : Type} {enc : TypeId × Value → H}

/-- as law_contract, where variables of the library are told -/
theorem law_contract_tabs {f : FuncId} {fn : Func} {s : ChangeSpec} {apart fresh handsOn again : Bool} {L : List TypeId} {tb : TypeId} {T : List (Nat × Obj) → Prop} (hL : plainB P L = true) (hl : laidOutB P = true)
    (hp : (fn.params.toList.all fun t => L.contains t && P.readableRec t && decide (t < P.types.size)) = true) (hv : s.vars = [])
    (hs : ∀ ds : List (DataW H), ds.length = fn.params.size → s.fn H ds = { results := [.lit (.bool true)], args := ds }) (hr : fn.resultTypes = #[tb]) (htb : P.underlying tb = some .bool)
    (hA : ∀ gs, T gs → ∀ rows, HasTys P fn.params.toList rows → ACalls P f (argsA P fn.params.toList rows) (tabsH gs) (fun r H' => H' = tabsH gs ∧ r = .c (.d (.bool true))))
    (W : World) (base : Nat) (args : Array Value) (ds gs : List (DataW H)) (before : List MemPlace) (hT0 : ∃ ts : List (Nat × Obj), (ts.map Prod.fst).Nodup ∧ (∀ x ∈ ts, W.heap[x.1]? = some x.2) ∧ T ts)
    (hval : ∀ (j : Nat) t v, fn.params[j]? = some t → args[j]? = some v → Value.okWide P W .any base t v)
    (hW : DataW.Whole enc P fn.params.toList s.vars apart W args.toList ds gs before)
    (hw : (DataW.weightsEach P (fn.params.toList ++ s.plain.varTypes P) (ds ++ gs)).all (· ≤ reachBytes) = true) :
    Calls P f args W fun e W' => ∃ v, e = .returned v ∧ s.post enc P fn apart fresh handsOn again W args v W' := by
  have hW' := hW
  obtain ⟨p, q, hT, hV, rfl, hfz, hnd⟩ := hW
  rw [hv] at hV
  obtain ⟨rfl, rfl⟩ := trodVars_none hV
  have hmem : ∀ t ∈ fn.params.toList, t ∈ L ∧ P.readableRec t = true ∧ t < P.types.size := fun t ht => by
    have := List.all_eq_true.1 hp t ht
    simpa [and_assoc] using this
  have hlen : ∀ {ts : List TypeId} {vs : List Value} {ds : List (DataW H)} {ps : List MemPlace}, DataW.TrodAll enc P W 0 (fun _ => true) true ts vs ds ps → ds.length = ts.length := by
    intro ts
    induction ts with
    | nil => intro vs ds ps h; obtain ⟨_, rfl, _⟩ := trodAll_nil h; rfl
    | cons t ts ih => intro vs ds ps h; obtain ⟨_, _, _, _, _, _, _, rfl, _, _, h2⟩ := trodAll_cons h; simp [ih h2]
  have hdl : ds.length = fn.params.size := by rw [hlen hT]; simp
  have hvt : s.plain.varTypes P = [] := by simp [DataSpec.varTypes, ChangeSpec.plain, hv]
  rw [hvt, List.append_nil, List.append_nil] at hw
  obtain ⟨rows, h1, h2, h3⟩ := trod_rows hL (fun t ht => (hmem t ht).1) hT (fun n hn => by simpa using List.all_eq_true.1 hw n hn) base (fun j t v h4 h5 => hval j t v (by simpa using h4) (by simpa using h5))
  obtain ⟨ts, hnd2, hgo, hTt⟩ := hT0
  have hc := (hA ts hTt rows h1).2 W (tabsK ts) args.toList (sim_tabs hnd2 hgo) h2 (fun i a v h4 h5 => (h3 i a v h4 h5).tabs)
  rw [Array.toArray_toList] at hc
  refine hc.mono fun e W' ⟨r, H', ι', v, he, hq, hsim, hra, hx, _⟩ => ⟨v, he, ?_⟩
  obtain ⟨hH, hq⟩ := hq
  subst hH
  have hvt : v = .bool true := by
    subst hq
    cases hra with
    | c h => cases h with
      | d h => cases h; rfl
  subst hvt
  have hblock : ∀ b, b < W.heap.size → W'.heap[b]? = W.heap[b]? := fun b hb => by
    by_cases e : ∃ x ∈ ts, b = x.1
    · obtain ⟨x, hx1, rfl⟩ := e
      obtain ⟨j, hj⟩ := List.mem_iff_getElem?.1 hx1
      rw [hsim.tabs_get (j := j) (g := x.1) (o := x.2) (by simp [tabsH, hj]), hgo x hx1]
    · refine (hx.block b hb (fun k hk => ?_)).1
      obtain ⟨x, hx1, rfl⟩ := tabsK_mem hk
      exact fun h => e ⟨x, hx1, h⟩
  have hbel : Below W.heap.size W W' := ⟨hx.os, hx.tape, hx.output, hx.size, hblock⟩
  have hfn := hs (ds ++ []) (by simpa using hdl)
  refine post_of_below (pa := p) (pv := []) hW' (fun b sp hd => ?_) (fun sp hsp => ?_) (fun sp _ => ?_) rfl hbel (ok_one hr rfl (okWide_bool_mk htb _))
  · rw [hfn, hr]
    exact trodAll_mk1 (shut_bool htb true)
  · rw [hfn, List.append_nil]
    exact trodAll_again hl hblock (fun t ht => (hmem t ht).2) hT (fun x hx => hsp x (by simpa using hx)) (fun x hx => hW'.lt x (by simpa using hx))
  · rw [hfn, hv]; rfl

end
end Go.AM

/-
  An own object of data is let go: its pointer reads as one at a row of data.
  Conditions: none.
-/
namespace Go.AM
open Go.ChangeShapes Go.WideShapes Go.ChangeAt Go.RowKit
set_option linter.unusedVariables false
set_option linter.unusedSimpArgs false

end Go.AM

/-
  Trees beside told variables of the library: calls that are told of a few objects alone; functions that hand out a row of their own.
  Conditions: none.
-/
namespace Go.AM
set_option linter.unusedVariables false
set_option linter.unusedSimpArgs false
def Ob.isTT : Ob → Bool
  | .tree _ _ => true
  | .tab _ _ => true
  | _ => false
theorem RO.tab_inv {w : World} {ι : List K} {n g : Nat} {o : Obj} {k : K} (h : RO w ι n (.tab g o) k) : ∃ q E sz, k = .grow q (some (g, E, 0, sz)) := by
  cases k with
  | grow q p =>
    cases p with
    | none => exact h.elim
    | some x =>
      obtain ⟨b, E, lim, sz⟩ := x
      obtain ⟨⟨rfl, rfl⟩, _⟩ := h
      exact ⟨q, E, sz, rfl⟩
  | _ => exact h.elim
theorem RO.of_tt {w : World} {ι ι' : List K} {n n' : Nat} {o : Ob} {k : K} (ht : o.isTT = true) (h : RO w ι n o k) : RO w ι' n' o k := by
  cases o with
  | tree v d => exact RO.of_tree (o := .tree v d) trivial h
  | tab g o =>
    obtain ⟨q, E, sz, rfl⟩ := h.tab_inv
    exact h
  | _ => cases ht
/-- a call that is told of some trees and variables of the library alone -/
theorem acalls_frameT {P : Program} {f : FuncId} {args args₀ : List A} {H H₀ : Heap} {J : List Nat} {Q₀ : A → Heap → Prop} (hJ : J.Nodup) (hH : J.map (fun i => H[i]?) = H₀.map some) (hT : ∀ o ∈ H₀, o.isTT = true)
    (hz : FzL H J args args₀) (h : ACalls P f args₀ H₀ Q₀) (hQ : ∀ r H', Q₀ r H' → r.port ∧ (∀ o ∈ H', o.isTT = true) ∧ ∀ (m g : Nat) (o : Obj), H₀[m]? = some (.tab g o) → H'[m]? = some (.tab g o)) :
    ACalls P f args H (fun r H' => ∃ H₀', Q₀ r H₀' ∧ H₀.length ≤ H₀'.length ∧ H' = putAll H J H₀') := by
  refine ⟨h.1, fun w ι cargs hsim hl ha => ?_⟩
  have hJl : J.length = H₀.length := by simpa using congrArg List.length hH
  have hJget : ∀ (m i : Nat), J[m]? = some i → ∃ o k, H₀[m]? = some o ∧ H[i]? = some o ∧ ι[i]? = some k ∧ RO w ι H.length o k := fun m i hm => by
    have h1 : (J.map (fun i => H[i]?))[m]? = some (H[i]?) := by simp [hm]
    rw [hH] at h1
    simp only [List.getElem?_map, Option.map_eq_some_iff] at h1
    obtain ⟨o, h2, h3⟩ := h1
    obtain ⟨k, h4, h5⟩ := hsim.get h3.symm
    exact ⟨o, k, h2, h3.symm, h4, h5⟩
  let ι₀ : List K := J.map (fun i => ι.getD i .x)
  have hι₀ : ∀ (m : Nat) k, ι₀[m]? = some k → ∃ i, J[m]? = some i ∧ ι[i]? = some k := fun m k hm => by
    simp only [ι₀, List.getElem?_map, Option.map_eq_some_iff] at hm
    obtain ⟨i, h1, h2⟩ := hm
    obtain ⟨o, k', _, _, h4, _⟩ := hJget m i h1
    have : ι.getD i .x = k' := by simp [List.getD, h4]
    rw [this] at h2; subst h2
    exact ⟨i, h1, h4⟩
  have hsub : ∀ k ∈ ι₀, ∃ i : Nat, i ∈ J ∧ ι[i]? = some k := fun k hk => by
    obtain ⟨m, hm⟩ := List.mem_iff_getElem?.1 hk
    obtain ⟨i, h1, h2⟩ := hι₀ m k hm
    exact ⟨i, List.mem_of_getElem? h1, h2⟩
  have hJinj : ∀ (m m' i : Nat), J[m]? = some i → J[m']? = some i → m = m' := fun m m' i h1 h2 => by
    obtain ⟨a, h1⟩ := List.getElem?_eq_some_iff.1 h1
    obtain ⟨b, h2⟩ := List.getElem?_eq_some_iff.1 h2
    exact (List.getElem_inj hJ).1 (h1.trans h2.symm)
  have hsim0 : Sim w ι₀ H₀.length H₀ := by
    refine ⟨by simp [ι₀, hJl], fun m o k ho hk => ?_, fun m m' k k' b hm hm' hk hk' => ?_, fun k b hk hb => ?_⟩
    · obtain ⟨i, h1, h2⟩ := hι₀ m k hk
      obtain ⟨o', k', h3, h4, h5, h6⟩ := hJget m i h1
      rw [ho] at h3; cases h3
      rw [h2] at h5; cases h5
      exact h6.of_tt (hT o (List.mem_of_getElem? ho))
    · obtain ⟨i, h1, h2⟩ := hι₀ m k hm
      obtain ⟨i', h3, h4⟩ := hι₀ m' k' hm'
      have := hsim.apart _ _ _ _ b h2 h4 hk hk'
      subst this
      exact hJinj m m' i h1 h3
    · obtain ⟨i, _, hi⟩ := hsub k hk
      exact hsim.low k b (List.mem_of_getElem? hi) hb
  obtain ⟨hl0, ha0⟩ := fzL_ra (n₀ := H₀.length) hsim hsub hz hl ha
  refine (h.2 w ι₀ cargs hsim0 hl0 ha0).mono fun e w' ⟨r, H₀', ι₀', v, he, hq, hs', hr', hx, hle⟩ => ?_
  obtain ⟨hport, htree, htab⟩ := hQ r H₀' hq
  have hιlen : ι₀'.length = H₀'.length := hs'.len
  have hsame : ∀ (m i : Nat), J[m]? = some i → ∃ k k', ι[i]? = some k ∧ ι₀'[m]? = some k' ∧ (∀ b, k.at b → k'.at b) ∧ ∀ o' ι1 n1, H₀'[m]? = some o' → RO w' ι1 n1 o' k := fun m i hm => by
    obtain ⟨o, k, h1, h2, h3, h4⟩ := hJget m i hm
    have h5 : ι₀[m]? = some k := by simp [ι₀, hm, List.getD, h3]
    obtain ⟨k', h6, h7⟩ := hx.ev m k h5
    have ho := hT o (List.mem_of_getElem? h1)
    cases o with
    | tree v d =>
      obtain ⟨B, B₀, rfl, _, _⟩ := h4.tree_inv
      cases h7
      exact ⟨_, _, h3, h6, fun b hb => hb, fun o' ι1 n1 ho' => (hs'.obj m o' _ ho' h6).of_tt (htree o' (List.mem_of_getElem? ho'))⟩
    | tab g o =>
      have ht := htab m g o h1
      have hr := hs'.obj m _ _ ht h6
      obtain ⟨q, E, sz, rfl⟩ := h4.tab_inv
      obtain ⟨q', E', sz', rfl⟩ := hr.tab_inv
      refine ⟨_, _, h3, h6, fun b hb => hb, fun o' ι1 n1 ho' => ?_⟩
      rw [ht] at ho'; cases ho'
      exact ⟨⟨rfl, rfl⟩, hr.2⟩
    | _ => cases ho
  have hnew : ∀ k b, k ∈ ι₀'.drop J.length → k.at b → ∀ k' ∈ ι, ¬ k'.at b := fun k b hk hb k' hk' hb' => by
    obtain ⟨m, hm⟩ := List.mem_iff_getElem?.1 hk
    rw [List.getElem?_drop] at hm
    obtain ⟨i, hi⟩ := List.mem_iff_getElem?.1 hk'
    by_cases hiJ : i ∈ J
    · obtain ⟨m', hm'⟩ := List.mem_iff_getElem?.1 hiJ
      obtain ⟨k1, k2, h1, h2, h3, _⟩ := hsame m' i hm'
      rw [hi] at h1; cases h1
      have := hs'.apart _ _ _ _ b hm h2 hb (h3 b hb')
      have := (List.getElem?_eq_some_iff.1 hm').1
      omega
    · have hlt := hsim.low k' b hk' hb'
      refine (hx.block b hlt fun k0 hk0 hb0 => ?_).2 k (List.mem_of_mem_drop hk) hb
      obtain ⟨i0, h1, h2⟩ := hsub k0 hk0
      have := hsim.apart _ _ _ _ b hi h2 hb' hb0
      subst this
      exact hiJ h1
  have hsafe : ∀ b o, Safe w ι b o → Safe w' (ι ++ ι₀'.drop J.length) b o ∧ w'.cell? ⟨b, o, none⟩ = w.cell? ⟨b, o, none⟩ := fun b o hso => by
    obtain ⟨p, q⟩ := hx.safe b o ⟨hso.1, fun k hk => let ⟨i, _, hi⟩ := hsub k hk; hso.2 k (List.mem_of_getElem? hi)⟩
    refine ⟨⟨p.1, fun k hk => ?_⟩, q⟩
    rcases List.mem_append.1 hk with h1 | h1
    · exact hso.2 k h1
    · exact p.2 k (List.mem_of_mem_drop h1)
  have hext : Ext w ι w' (ι ++ ι₀'.drop J.length) := by
    refine ⟨hx.os, hx.tape, hx.output, hx.size, hsafe, fun b hb hk => ?_, fun i k hi => ⟨k, ?_, k.ev_refl⟩⟩
    · obtain ⟨p, q⟩ := hx.block b hb fun k hk' => let ⟨i, _, hi⟩ := hsub k hk'; hk k (List.mem_of_getElem? hi)
      refine ⟨p, fun k hk' => ?_⟩
      rcases List.mem_append.1 hk' with h1 | h1
      · exact hk k h1
      · exact q k (List.mem_of_mem_drop h1)
    · rw [List.getElem?_append_left (List.getElem?_eq_some_iff.1 hi).1]; exact hi
  have hle' : J.length ≤ H₀'.length := by rw [hJl]; exact hle
  have hplen : (putAll H J H₀').length = H.length + (H₀'.length - J.length) := putAll_len hle'
  refine ⟨r, putAll H J H₀', ι ++ ι₀'.drop J.length, v, he, ⟨H₀', hq, hle, rfl⟩, ⟨?_, fun i o k ho hk => ?_, fun i j k k' b hi hj hk hk' => ?_, fun k b hk hb => ?_⟩, hport _ _ _ _ _ _ _ hr', hext, by rw [hplen]; omega⟩
  · rw [hplen, List.length_append, List.length_drop, hsim.len, hιlen]
  · rcases putAll_get hJ hle' ho with ⟨m, h1, h2⟩ | ⟨h1, h2⟩ | ⟨m, h1, h2⟩
    · obtain ⟨k1, k2, h3, h4, _, h5⟩ := hsame m i h1
      rw [List.getElem?_append_left (List.getElem?_eq_some_iff.1 h3).1, h3] at hk
      obtain rfl := Option.some.inj hk
      exact h5 o _ _ h2
    · obtain ⟨k', h3, h4⟩ := hsim.get h2
      rw [List.getElem?_append_left (List.getElem?_eq_some_iff.1 h3).1, h3] at hk
      obtain rfl := Option.some.inj hk
      have h5 : RO w' (ι ++ ι₀'.drop J.length) H.length o k' := h4.of_blocks hext fun b hb => (hx.block b (hsim.low k' b (List.mem_of_getElem? h3) hb) fun k0 hk0 hb0 => by
        obtain ⟨i0, h6, h7⟩ := hsub k0 hk0
        have := hsim.apart _ _ _ _ b h3 h7 hb hb0
        subst this
        exact h1 h6).1
      exact RO_ground (Obs_fits_get (sim_fits hsim) h2) h5
    · subst h1
      rw [List.getElem?_append_right (by rw [hsim.len]; omega), hsim.len, Nat.add_sub_cancel_left, List.getElem?_drop] at hk
      exact (hs'.obj _ o k h2 hk).of_tt (htree o (List.mem_of_getElem? h2))
  · rcases Nat.lt_or_ge i ι.length with h1 | h1
    · rw [List.getElem?_append_left h1] at hi
      rcases Nat.lt_or_ge j ι.length with h2 | h2
      · rw [List.getElem?_append_left h2] at hj
        exact hsim.apart _ _ _ _ b hi hj hk hk'
      · rw [List.getElem?_append_right h2] at hj
        exact absurd hk (hnew k' b (List.mem_of_getElem? hj) hk' k (List.mem_of_getElem? hi))
    · rw [List.getElem?_append_right h1] at hi
      rcases Nat.lt_or_ge j ι.length with h2 | h2
      · rw [List.getElem?_append_left h2] at hj
        exact absurd hk' (hnew k b (List.mem_of_getElem? hi) hk k' (List.mem_of_getElem? hj))
      · rw [List.getElem?_append_right h2] at hj
        rw [List.getElem?_drop] at hi hj
        have := hs'.apart _ _ _ _ b hi hj hk hk'
        omega
  · rcases List.mem_append.1 hk with h1 | h1
    · exact Nat.lt_of_lt_of_le (hsim.low k b h1 hb) hx.size
    · exact hs'.low k b (List.mem_of_mem_drop h1) hb

/-! ### calls beside a variable of the library -/

end Go.AM

/-
  Functions that hand out a row of their own, where a variable of the library is told.
  Conditions: none.
-/
namespace Go.AM
set_option linter.unusedVariables false
set_option linter.unusedSimpArgs false
variable {w : World} {ι : List K} {n : Nat}
end Go.AM

/-
  Trees made beside other objects: a state told by what its own objects become, and functions that hand out trees beside the caller's objects.
  Conditions: none.
-/
namespace Go.AM
set_option linter.unusedVariables false
set_option linter.unusedSimpArgs false

/-- an own object, told without regard to others -/
def Ob.lf : Ob → Ob
  | .cells _ => .dead
  | .map _ => .dead
  | o => o
def C.lf : C → C
  | .d x => .d x
  | .own (.l i) p rows => .own (.l i) p rows
  | .own (.e _) _ rows => .d (.sl rows)
  | .full rows => .full rows
  | .fsl (.l i) len sz => .fsl (.l i) len sz
  | .psl (.l i) lo n sz => .psl (.l i) lo n sz
  | _ => .u
def A.lf : A → A
  | .c x => .c x.lf
  | .agg cs => .agg (cs.map C.lf)
  | _ => .u
def A.lft : A → A
  | .tup l => .tup (l.map A.lf)
  | a => a.lf
section
variable {w : World} {ι : List K} {n : Nat} {ext loc : Heap}
theorem safe_drop {b o : Nat} (m : Nat) (h : Safe w ι b o) : Safe w (ι.drop m) b o := ⟨h.1, fun k hk => h.2 k (List.mem_of_mem_drop hk)⟩
theorem rd_drop {x : D} {v : Value} (m : Nat) (h : RD w (Safe w ι) x v) : RD w (Safe w (ι.drop m)) x v := h.mono fun b o hs => ⟨safe_drop m hs, rfl⟩
/-- the own objects alone -/
theorem sim_lf (hs : Sim w ι n (ext ++ loc)) : Sim w (ι.drop ext.length) 0 (loc.map Ob.lf) := by
  have hl := hs.len
  rw [List.length_append] at hl
  refine ⟨by simp; omega, fun i o k ho hk => ?_, fun i j k k' b hi hj hk hk' => ?_, fun k b hk hb => hs.low k b (List.mem_of_mem_drop hk) hb⟩
  · rw [List.getElem?_map, Option.map_eq_some_iff] at ho
    obtain ⟨o', h1, rfl⟩ := ho
    rw [List.getElem?_drop] at hk
    have h2 := hs.obj (ext.length + i) o' k (by rw [List.getElem?_append_right (by omega), Nat.add_sub_cancel_left]; exact h1) hk
    match o', k, h2 with
    | .cells cs, k, _ => cases k <;> trivial
    | .map m, k, _ => cases k <;> trivial
    | .rows rs, .rows b sz _, ⟨vs, el, a1, a2, a3, a4⟩ => exact ⟨vs, el, a1, a2, a3, fun i r hi => ⟨(a4 i r hi).1, fun j x hj => let ⟨y, p, q⟩ := (a4 i r hi).2 j x hj; ⟨y, p, rd_drop _ q⟩⟩⟩
    | .grow p s, .grow q none, h => exact h
    | .grow p s, .grow q (some _), h => exact h
    | .tree v d, .tree B, h => exact h
    | .tab g o, .grow q (some _), h => exact h
    | .dead, k, _ => cases k <;> trivial
  · rw [List.getElem?_drop] at hi hj
    have := hs.apart _ _ _ _ b hi hj hk hk'
    omega
theorem rc_lf {c : C} {v : Value} (h : RC w ι n c v) : RC w (ι.drop n) 0 c.lf v := by
  have hg : ∀ (i : Nat) k, ι[idx n (.l i)]? = some k → (ι.drop n)[idx 0 (.l i)]? = some k := fun i k hk => by
    rw [List.getElem?_drop]; simpa [idx] using hk
  have hu := h.oneCell
  cases h with
  | d h => exact .d (rd_drop _ h)
  | @own r pos rows _ h1 h2 =>
    cases r with
    | e b => exact .d (rd_drop _ h1)
    | l i => obtain ⟨q, p, h3, h4⟩ := h2; exact .own (rd_drop _ h1) ⟨q, p, hg _ _ h3, h4⟩
  | full h => exact .full (rd_drop _ h)
  | @fsl r len b sz cap h1 h2 =>
    cases r with
    | e b => exact .u hu
    | l i => exact .fsl (hg _ _ h1) h2
  | @psl r lo m b sz len off cap h1 h2 h3 h4 =>
    cases r with
    | e b => exact .u hu
    | l i => exact .psl (hg _ _ h1) h2 h3 h4
  | ptr _ => exact .u hu
  | el _ => exact .u hu
  | rel _ => exact .u hu
  | map _ => exact .u hu
  | fn _ _ => exact .u hu
  | u h => exact .u h
theorem rcs_lf {cs : List C} {vs : List Value} (h : RCs w ι n cs vs) : RCs w (ι.drop n) 0 (cs.map C.lf) vs :=
  ⟨by simpa using h.1, fun i c v hc hv => by
    rw [List.getElem?_map, Option.map_eq_some_iff] at hc
    obtain ⟨c', h1, rfl⟩ := hc
    exact rc_lf (h.2 i c' v h1 hv)⟩
theorem ra_lf {a : A} {v : Value} (h : RA w ι n a v) : RA w (ι.drop n) 0 a.lf v := by
  cases h with
  | u => exact .u
  | c h => exact .c (rc_lf h)
  | agg h => exact .agg (rcs_lf h)
  | tup _ _ => exact .u
  | gd _ _ => exact .u
theorem ra_lft {a : A} {v : Value} (h : RA w ι n a v) : RA w (ι.drop n) 0 a.lft v := by
  cases h with
  | tup h1 h2 =>
    refine .tup (by simpa using h1) fun i a v ha hv => ?_
    rw [List.getElem?_map, Option.map_eq_some_iff] at ha
    obtain ⟨a', h3, rfl⟩ := ha
    exact ra_lf (h2 i a' v h3 hv)
  | u => exact .u
  | c h => exact .c (rc_lf h)
  | agg h => exact .agg (rcs_lf h)
  | gd _ _ => exact .u
theorem outC_lf {v : Value} {c c' : C} {H : Heap} {I : List Nat} (h : OutC loc v c c' H I) : OutC loc v c.lf c' H I := by
  cases h with
  | leaf h => exact .leaf h
  | u => exact .u
  | tree h => exact .tree h
  | nil => exact .nil
  | full => exact .full
  | @ownNil r pos => cases r with
    | e b => exact .nil
    | l i => exact .ownNil
  | own h1 h2 h3 h4 h5 => exact .own h1 h2 h3 h4 h5
  | leafs h1 h2 => exact .leafs h1 h2
  | part h1 h2 => exact .part h1 h2
  | fsl h1 h2 h3 h4 => exact .fsl h1 h2 h3 h4
theorem outCs_lf {kv : Nat → Value} : ∀ {cs cs' : List C} {p : Nat} {H : Heap} {I : List Nat}, OutCs loc kv p cs cs' H I → OutCs loc kv p (cs.map C.lf) cs' H I
  | [], _, _, _, _, h => by cases h; exact .nil
  | c :: l, _, _, _, _, h => by cases h with | cons h1 h2 => exact .cons (outC_lf h1) (outCs_lf h2)
theorem outA1_lf {kv : Nat → Value} {a a' : A} {H : Heap} {I : List Nat} (h : OutA1 loc kv a a' H I) : OutA1 loc kv a.lf a' H I := by
  cases h with
  | c h => exact .c (outC_lf h)
  | agg h => exact .agg (outCs_lf h)
theorem outAs_lf {kv : Nat → Nat → Value} : ∀ {l l' : List A} {t : Nat} {H : Heap} {I : List Nat}, OutAs loc kv t l l' H I → OutAs loc kv t (l.map A.lf) l' H I
  | [], _, _, _, _, h => by cases h; exact .nil
  | c :: l, _, _, _, _, h => by cases h with | cons h1 h2 => exact .cons (outA1_lf h1) (outAs_lf h2)
theorem outA_lf {kv : Nat → Nat → Value} {a a' : A} {H : Heap} {I : List Nat} (h : OutA loc kv a a' H I) : OutA loc kv a.lft a' H I := by
  cases h with
  | one h => cases h with
    | c h => exact .one (.c (outC_lf h))
    | agg h => exact .one (.agg (outCs_lf h))
  | tup h => exact .tup (outAs_lf h)
/-- trees among own objects -/
theorem pieces_trees {w : World} {ι : List K} {n : Nat} {loc : Heap} (hs : Sim w ι n loc) : ∀ {J : List Nat} {T : Heap}, J.map (fun j => loc[j]?) = T.map some → T.all Ob.isTreeB = true → Pieces w ι J T
  | [], [], _, _ => .nil
  | [], o :: T, h, _ => by simp at h
  | j :: J, [], h, _ => by simp at h
  | j :: J, o :: T, h, ht => by
    simp only [List.map_cons, List.cons.injEq] at h
    simp only [List.all_cons, Bool.and_eq_true] at ht
    have ih := pieces_trees hs h.2 ht.2
    cases o with
    | tree v d => exact Pieces.cons (I := [j]) (piece_tree hs h.1) ih
    | _ => cases ht.1
/-- what is handed out, beside the caller's objects -/
theorem out_beside (hs : Sim w ι n (ext ++ loc)) {a : A} {v : Value} (hr : RA w ι ext.length a v) : ∃ kv : Nat → Nat → Value, ∀ (a' : A) (H : Heap) (I : List Nat) (T : Heap) (J : List Nat), OutA (loc.map Ob.lf) kv a a' H I → J.map (fun j => loc[j]?) = T.map some → T.all Ob.isTreeB = true → (J ++ I).Nodup →
    (∀ w' ι' n', RA w' ι' n' a' v) ∧ ∃ ι3 : List K, ι3.length = (T ++ H).length ∧ (∀ (i : Nat) o k, (T ++ H)[i]? = some o → ι3[i]? = some k → ∀ ι₁ n₁, RO w ι₁ n₁ o k) ∧ (∀ (i j : Nat) k k' b, ι3[i]? = some k → ι3[j]? = some k' → k.at b → k'.at b → i = j) ∧
      ∀ (i : Nat) k b, ι3[i]? = some k → k.at b → ∃ (j : Nat) (k' : K), j ∈ J ++ I ∧ ι[ext.length + j]? = some k' ∧ k'.at b := by
  have hs0 := sim_lf hs
  obtain ⟨kv, hkv⟩ := outA_ra hs0 (ra_lft hr)
  refine ⟨kv, fun a' H I T J ho hJ hT hnd => ?_⟩
  have hndI : I.Nodup := (List.nodup_append.1 hnd).2.1
  obtain ⟨hp, hra⟩ := hkv a' H I (outA_lf ho) hndI
  have hJ2 : J.map (fun j => (loc.map Ob.lf)[j]?) = T.map some := by
    have : (fun (j : Nat) => (loc.map Ob.lf)[j]?) = (Option.map Ob.lf) ∘ fun (j : Nat) => loc[j]? := by funext j; simp
    rw [this, ← List.map_map, hJ, List.map_map]
    refine List.map_congr_left fun o ho => ?_
    have := List.all_eq_true.1 hT o ho
    cases o <;> first | rfl | cases this
  obtain ⟨ι3, h4, h5, h6, h7⟩ := ((pieces_trees hs0 hJ2 hT).app hp).sim hs0 hnd
  refine ⟨fun w' ι' n' => hra w' ι' n', ι3, h4, h5, h6, fun i k b hi hk => ?_⟩
  obtain ⟨j, k', a1, a2, a3⟩ := h7 i k b hi hk
  rw [List.getElem?_drop] at a2
  exact ⟨j, k', a1, a2, a3⟩
theorem get_take_app {ι ι3 : List K} {m i : Nat} (hi : i < m) (hl : m ≤ ι.length) : (ι.take m ++ ι3)[i]? = ι[i]? := by
  rw [List.getElem?_append_left (by simp; omega), List.getElem?_take, if_pos hi]
/-- the caller's objects and trees in place of the own ones -/
theorem sim_beside {ι3 : List K} {H : Heap} {I : List Nat} {n0 : Nat} (hs : Sim w ι n0 (ext ++ loc)) (hext : ∀ (i : Nat) o k, ext[i]? = some o → ι[i]? = some k → RO w (ι.take ext.length ++ ι3) n o k)
    (h4 : ι3.length = H.length) (h5 : ∀ (i : Nat) o k, H[i]? = some o → ι3[i]? = some k → ∀ ι₁ n₁, RO w ι₁ n₁ o k) (h6 : ∀ (i j : Nat) k k' b, ι3[i]? = some k → ι3[j]? = some k' → k.at b → k'.at b → i = j)
    (h7 : ∀ (i : Nat) k b, ι3[i]? = some k → k.at b → ∃ (j : Nat) (k' : K), j ∈ I ∧ ι[ext.length + j]? = some k' ∧ k'.at b) : Sim w (ι.take ext.length ++ ι3) n (ext ++ H) := by
  have hl := hs.len
  rw [List.length_append] at hl
  have htl : (ι.take ext.length).length = ext.length := by simp; omega
  have hlo : ∀ i k, i < ext.length → (ι.take ext.length ++ ι3)[i]? = some k → ι[i]? = some k := fun i k hi hk => by rw [get_take_app hi (by omega)] at hk; exact hk
  have hhi : ∀ i k, ¬ i < ext.length → (ι.take ext.length ++ ι3)[i]? = some k → ι3[i - ext.length]? = some k := fun i k hi hk => by rw [List.getElem?_append_right (by omega), htl] at hk; exact hk
  refine ⟨by simp [h4]; omega, fun i o k ho hk => ?_, fun i j k k' b hi hj hk hk' => ?_, fun k b hk hb => ?_⟩
  · by_cases hi : i < ext.length
    · rw [List.getElem?_append_left hi] at ho
      exact hext i o k ho (hlo i k hi hk)
    · rw [List.getElem?_append_right (by omega)] at ho
      exact h5 _ o k ho (hhi i k hi hk) _ _
  · by_cases hi' : i < ext.length
    · have q1 := hlo i k hi' hi
      by_cases hj' : j < ext.length
      · exact hs.apart _ _ _ _ b q1 (hlo j k' hj' hj) hk hk'
      · obtain ⟨x, k2, _, q2, q3⟩ := h7 _ k' b (hhi j k' hj' hj) hk'
        have := hs.apart _ _ _ _ b q1 q2 hk q3
        omega
    · obtain ⟨x, k2, _, q2, q3⟩ := h7 _ k b (hhi i k hi' hi) hk
      by_cases hj' : j < ext.length
      · have := hs.apart _ _ _ _ b q2 (hlo j k' hj' hj) q3 hk'
        omega
      · have := h6 _ _ _ _ b (hhi i k hi' hi) (hhi j k' hj' hj) hk hk'
        omega
  · rcases List.mem_append.1 hk with h | h
    · exact hs.low k b (List.mem_of_mem_take h) hb
    · obtain ⟨i, hi⟩ := List.mem_iff_getElem?.1 h
      obtain ⟨x, k2, _, q2, q3⟩ := h7 i k b hi hb
      exact hs.low k2 b (List.mem_of_getElem? q2) q3
end
def Ob.isRT : Ob → Bool
  | .tree _ _ => true
  | .rows _ => true
  | _ => false
def C.down (m : Nat) : C → C
  | .fsl (.l i) len sz => if m ≤ i then .fsl (.l (i - m)) len sz else .u
  | .d x => .d x
  | .full rows => .full rows
  | _ => .u
theorem rc_down {w : World} {ι : List K} {n m : Nat} {c : C} {v : Value} (h : RC w ι n c v) : RC w ι (n + m) (c.down m) v := by
  have hu := h.oneCell
  cases h with
  | d h => exact .d h
  | full h => exact .full h
  | @fsl r len b sz cap h1 h2 =>
    cases r with
    | e b => exact .u hu
    | l i =>
      simp only [C.down]
      split
      · rename_i hle
        refine .fsl ?_ h2
        rw [show idx (n + m) (.l (i - m)) = idx n (.l i) by simp only [idx]; omega]
        exact h1
      · exact .u hu
  | own _ _ => exact .u hu
  | psl _ _ _ _ => exact .u hu
  | ptr _ => exact .u hu
  | el _ => exact .u hu
  | rel _ => exact .u hu
  | map _ => exact .u hu
  | fn _ _ => exact .u hu
  | u h => exact .u h
theorem set3 {ext l1 l2 : Heap} {p : Nat} (h : p < l1.length) (x : Ob) : ext ++ l1.set p x ++ l2 = (ext ++ l1 ++ l2).set (ext.length + p) x := by
  rw [List.set_append_left _ _ (by simp; omega), List.set_append_right _ _ (by omega), Nat.add_sub_cancel_left]
/-- own rows in a cell become a tree -/
theorem St.leTo_cell {sl : List A} {ext l1 l2 : Heap} {X : St → Prop} (p q : Nat) (cs : List C) (c : C) (hp : l1[p]? = some (.cells cs)) (hq : cs[q]? = some c) (hsl : As.lo ext.length l1.length sl) (hob : Obs.lo ext.length l1.length (l1.set p (.cells (cs.set q .u))))
    (h : ∀ v, ∃ c' H I T J, OutC (l2.map Ob.lf) v (c.down l1.length) c' H I ∧ J.map (fun j => l2[j]?) = T.map some ∧ T.all Ob.isTreeB = true ∧ (J ++ I).Nodup ∧ (∀ j ∈ I, ∃ o, l2[j]? = some o ∧ o.isRT = true) ∧ X ⟨sl, ext, l1.set p (.cells (cs.set q c')) ++ (T ++ H)⟩) : St.leTo ⟨sl, ext, l1 ++ l2⟩ X := by
  intro w ι act hs
  have hplt := (List.getElem?_eq_some_iff.1 hp).1
  have hqlt := (List.getElem?_eq_some_iff.1 hq).1
  have hsim := hs.sim
  simp only at hsim
  have hl := hsim.len
  rw [List.length_append, List.length_append] at hl
  obtain ⟨kp, hkp⟩ : ∃ kp, ι[ext.length + p]? = some kp := ⟨ι[ext.length + p]'(by omega), List.getElem?_eq_getElem (by omega)⟩
  have hgp : (ext ++ (l1 ++ l2))[ext.length + p]? = some (.cells cs) := by
    rw [List.getElem?_append_right (by omega), Nat.add_sub_cancel_left, List.getElem?_append_left hplt]; exact hp
  have hro := hsim.obj _ _ _ hgp hkp
  obtain ⟨b, rfl⟩ : ∃ b, kp = .blk b := by cases kp <;> first | exact ⟨_, rfl⟩ | exact hro.elim
  obtain ⟨vs, el, hv1, hv2⟩ := hro
  have hvl := hv2.1
  obtain ⟨v, hv⟩ : ∃ v, vs.toList[q]? = some v := ⟨vs.toList[q]'(by omega), List.getElem?_eq_getElem (by omega)⟩
  have hrc := hv2.2 q c v hq hv
  have hsim' : Sim w ι ext.length ((ext ++ l1) ++ l2) := by rw [List.append_assoc]; exact hsim
  have hra : RA w ι (ext ++ l1).length (.c (c.down l1.length)) v := .c (by rw [List.length_append]; exact rc_down hrc)
  obtain ⟨kv, hkv⟩ := out_beside hsim' hra
  obtain ⟨c', H, I, T, J, ho, hJ, hT, hnd, hI, hX⟩ := h (kv 0 0)
  obtain ⟨hra', ι3, h4, h5, h6, h7⟩ := hkv (.c c') H I T J (.one (.c ho)) hJ hT hnd
  have hrc' : ∀ ι' n', RC w ι' n' c' v := fun ι' n' => by have := hra' w ι' n'; cases this with | c h => exact h
  have hlen1 : (ext ++ l1).length = ext.length + l1.length := by simp
  rw [hlen1] at h7
  have hRT : ∀ j, j ∈ J ++ I → ∃ o, l2[j]? = some o ∧ o.isRT = true := fun j hj => by
    rcases List.mem_append.1 hj with hj | hj
    · obtain ⟨i, hi⟩ := List.mem_iff_getElem?.1 hj
      have hm : (J.map fun j => l2[j]?)[i]? = some (l2[j]?) := by simp [hi]
      rw [hJ, List.getElem?_map, Option.map_eq_some_iff] at hm
      obtain ⟨o, h1, h2⟩ := hm
      refine ⟨o, h2.symm, ?_⟩
      have := List.all_eq_true.1 hT o (List.mem_of_getElem? h1)
      cases o <;> first | rfl | cases this
    · exact hI j hj
  have hsafe : ∀ b o, Safe w ι b o → Safe w (ι.take (ext.length + l1.length) ++ ι3) b o ∧ w.cell? ⟨b, o, none⟩ = w.cell? ⟨b, o, none⟩ := fun b o hso => ⟨⟨hso.1, fun k hk hown => by
    rcases List.mem_append.1 hk with h1 | h1
    · exact hso.2 k (List.mem_of_mem_take h1) hown
    · obtain ⟨i, hi⟩ := List.mem_iff_getElem?.1 h1
      obtain ⟨j, k', a1, a2, a3⟩ := h7 i k b hi (AM.K.at_of_owns hown)
      refine hso.2 k' (List.mem_of_getElem? a2) ?_
      obtain ⟨o', b1, b2⟩ := hRT j a1
      have hob := hsim.obj (ext.length + l1.length + j) o' k' (by rw [← List.append_assoc, List.getElem?_append_right (by simp), show ext.length + l1.length + j - (ext ++ l1).length = j by simp]; exact b1) a2
      match o', k', hob with
      | .rows rs, .rows b' sz len, _ => exact a3
      | .tree v d, .tree B, _ => exact a3⟩, rfl⟩
  have hi0 : ∀ (r : Ref) k, r.lo ext.length l1.length → ι[idx ext.length (r.ren (List.range l1.length))]? = some k → (ι.take (ext.length + l1.length) ++ ι3)[idx ext.length r]? = some k := fun r k hr hk => by
    rw [Ref.ren_range hr] at hk
    have hlt : idx ext.length r < ext.length + l1.length := by
      cases r with
      | e b => have : b < ext.length := hr; simp only [idx]; omega
      | l i => have : i < l1.length := hr; simp only [idx]; omega
    rw [get_take_app hlt (by omega)]; exact hk
  have hset : ext ++ (l1.set p (.cells (cs.set q c')) ++ (T ++ H)) = (ext ++ l1.set p (.cells (cs.set q c'))) ++ (T ++ H) := by rw [List.append_assoc]
  refine ⟨_, hX, rfl, ι.take (ext.length + l1.length) ++ ι3, ⟨?_, hs.size, fun i x v' hx hv' => ?_, hs.fit, hs.defers⟩, fun w₀ ι₀ hle hx => ?_⟩
  · show Sim w (ι.take (ext.length + l1.length) ++ ι3) ext.length (ext ++ (l1.set p (.cells (cs.set q c')) ++ (T ++ H)))
    rw [hset]
    have hl1' : (ext ++ l1.set p (.cells (cs.set q c'))).length = ext.length + l1.length := by simp
    have hq2 := sim_beside (n := ext.length) (ext := ext ++ l1.set p (.cells (cs.set q c'))) (loc := l2) (H := T ++ H) (ι3 := ι3) (I := J ++ I) (n0 := ext.length) (ι := ι) (w := w) ?_ ?_ h4 h5 h6 (fun i k b hi hk => by rw [hl1']; exact h7 i k b hi hk)
    · rw [hl1'] at hq2; exact hq2
    · refine ⟨by rw [hsim'.len]; simp only [List.length_append, List.length_set], fun i o k ho hk => ?_, hsim'.apart, hsim'.low⟩
      by_cases hip : i = ext.length + p
      · subst hip
        rw [List.append_assoc, List.getElem?_append_right (by omega), Nat.add_sub_cancel_left, List.getElem?_append_left (by simpa using hplt), List.getElem?_set_self hplt] at ho
        cases ho
        rw [hkp] at hk; cases hk
        refine ⟨vs, el, hv1, by simpa using hvl, fun i c2 v2 hc hv2' => ?_⟩
        by_cases hiq : i = q
        · subst hiq
          rw [List.getElem?_set_self hqlt] at hc
          cases hc
          rw [hv] at hv2'; cases hv2'
          exact hrc' _ _
        · rw [List.getElem?_set_ne (by omega)] at hc
          exact hv2.2 i c2 v2 hc hv2'
      · refine hsim'.obj i o k ?_ hk
        rw [← ho, set3 hplt, List.getElem?_set_ne (by omega)]
    · intro i o k ho hk
      by_cases hlt : i < ext.length
      · rw [List.getElem?_append_left hlt] at ho
        have hlo2 : o.lo ext.length l1.length := Ob_lo_of_fits (Obs_fits_get hs.fit ho)
        rw [hl1']
        exact RO_ren (ks := List.range l1.length) hsafe hi0 hlo2 (by rw [Ob.ren_range hlo2]; exact hsim.obj i o k (by rw [List.getElem?_append_left hlt]; exact ho) hk)
      · rw [List.getElem?_append_right (by omega)] at ho
        rw [hl1']
        by_cases hip : i - ext.length = p
        · have hi2 : i = ext.length + p := by omega
          subst hi2
          rw [Nat.add_sub_cancel_left, List.getElem?_set_self hplt] at ho
          cases ho
          rw [hkp] at hk; cases hk
          have hcl : (Ob.cells (cs.set q .u)).lo ext.length l1.length := Obs_lo_get hob (by rw [List.getElem?_set_self hplt])
          refine ⟨vs, el, hv1, by simpa using hvl, fun i c2 v2 hc hv2' => ?_⟩
          by_cases hiq : i = q
          · subst hiq
            rw [List.getElem?_set_self hqlt] at hc
            cases hc
            rw [hv] at hv2'; cases hv2'
            exact hrc' _ _
          · rw [List.getElem?_set_ne (by omega)] at hc
            have hc2 : c2.lo ext.length l1.length := Cs_lo_get (i := i) hcl (by rw [List.getElem?_set_ne (by omega)]; exact hc)
            exact RC_ren (ks := List.range l1.length) hsafe hi0 hc2 (by rw [C.ren_range hc2]; exact hv2.2 i c2 v2 hc hv2')
        · rw [List.getElem?_set_ne (by omega)] at ho
          have hlt2 := (List.getElem?_eq_some_iff.1 ho).1
          have hlo2 : o.lo ext.length l1.length := Obs_lo_get (i := i - ext.length) hob (by rw [List.getElem?_set_ne (by omega)]; exact ho)
          exact RO_ren (ks := List.range l1.length) hsafe hi0 hlo2 (by rw [Ob.ren_range hlo2]; exact hsim.obj i o k (by rw [List.getElem?_append_right (by omega), List.getElem?_append_left hlt2]; exact ho) hk)
  · have hxl := As_lo_get hsl hx
    exact RA_ren (ks := List.range l1.length) hsafe hi0 (hs.slots i x v' hx hv') x (A.ren_range hxl).symm hxl
  · refine ⟨hx.os, hx.tape, hx.output, hx.size, fun b o hso => ?_, fun b hb hk => ?_, fun i k hi => ?_⟩
    · obtain ⟨q1, q2⟩ := hx.safe b o hso
      exact ⟨(hsafe b o q1).1, q2⟩
    · obtain ⟨q1, q2⟩ := hx.block b hb hk
      refine ⟨q1, fun k hk hat => ?_⟩
      rcases List.mem_append.1 hk with h1 | h1
      · exact q2 k (List.mem_of_mem_take h1) hat
      · obtain ⟨i, hi⟩ := List.mem_iff_getElem?.1 h1
        obtain ⟨j, k', _, a2, a3⟩ := h7 i k b hi hat
        exact q2 k' (List.mem_of_getElem? a2) a3
    · obtain ⟨k', q1, q2⟩ := hx.ev i k hi
      have hlt : i < ext.length + l1.length := by
        have := (List.getElem?_eq_some_iff.1 hi).1
        have hle : ι₀.length ≤ ext.length := hle
        omega
      exact ⟨k', by rw [get_take_app hlt (by omega)]; exact q1, q2⟩
/-! ### functions that hand out trees beside the caller's objects -/
def C.leafB : C → Bool
  | .d x => x.leaf
  | .full [] => true
  | .u => true
  | _ => false
/-- what bears no memory but its own -/
def Ob.freeB : Ob → Bool
  | .tree _ _ => true
  | .tab _ _ => true
  | .grow _ _ => true
  | .cells cs => cs.all C.leafB
  | .rows rs => rs.all fun r => r.all D.leaf
  | _ => false
/-- how an object may go on -/
def Ob.goes : Ob → Ob → Prop
  | .tree _ _, .tree _ _ => True
  | .tab g o, x => x = .tab g o
  | .grow p s, x => x = .grow p s
  | .cells _, .cells cs => cs.all C.leafB = true
  | .rows _, .rows rs => (rs.all fun r => r.all D.leaf) = true
  | _, _ => False
def Goes (H H' : Heap) : Prop := H'.length = H.length ∧ ∀ (i : Nat) o o', H[i]? = some o → H'[i]? = some o' → o.goes o'
theorem goes_self {o : Ob} (h : o.freeB = true) : o.goes o := by cases o <;> first | trivial | rfl | exact h | cases h
theorem goes_free {o o' : Ob} (h : o.goes o') : o'.freeB = true := by
  cases o <;> cases o' <;> first | rfl | exact h | exact h.elim | (cases h; done) | (cases h; rfl)
theorem Goes.refl {H : Heap} (h : H.all Ob.freeB = true) : Goes H H := ⟨rfl, fun i o o' h1 h2 => by
  rw [h1] at h2; cases h2
  exact goes_self (List.all_eq_true.1 h o (List.mem_of_getElem? h1))⟩
theorem Goes.set {H : Heap} (h : H.all Ob.freeB = true) (a : Nat) {o' : Ob} (ho : ∀ o, H[a]? = some o → o.goes o') : Goes H (H.set a o') := ⟨by simp, fun i o o2 h1 h2 => by
  by_cases hia : i = a
  · subst hia
    rw [List.getElem?_set_self (List.getElem?_eq_some_iff.1 h1).1] at h2
    cases h2
    exact ho o h1
  · rw [List.getElem?_set_ne (by omega), h1] at h2
    cases h2
    exact goes_self (List.all_eq_true.1 h o (List.mem_of_getElem? h1))⟩
theorem RO.of_free {w : World} {ι ι' : List K} {n n' : Nat} {o : Ob} {k : K} (ht : o.freeB = true) (h : RO w ι n o k) : RO w ι' n' o k := by
  match o, k, h with
  | .tree v d, .tree B, h => exact h
  | .tab g o, .grow q (some _), h => exact h
  | .grow p s, .grow q none, h => exact h
  | .grow p s, .grow q (some _), h => exact h
  | .cells cs, .blk b, ⟨vs, el, h1, h2⟩ =>
    refine ⟨vs, el, h1, h2.1, fun i c v hc hv => ?_⟩
    have hl := List.all_eq_true.1 ht c (List.mem_of_getElem? hc)
    have hr := h2.2 i c v hc hv
    cases c with
    | d x => cases hr with | d hr => exact .d (hr.of_leaf hl)
    | u => cases hr with | u hr => exact .u hr
    | full rows =>
      cases rows with
      | nil => cases hr with | full hr => exact .full (hr.of_leaf rfl)
      | cons r l => cases hl
    | _ => cases hl
  | .rows rs, .rows b sz _, ⟨vs, el, h1, h2, h3, h4⟩ =>
    refine ⟨vs, el, h1, h2, h3, fun i r hi => ⟨(h4 i r hi).1, fun j x hj => ?_⟩⟩
    obtain ⟨y, p, q⟩ := (h4 i r hi).2 j x hj
    exact ⟨y, p, q.of_leaf (List.all_eq_true.1 (List.all_eq_true.1 ht r (List.mem_of_getElem? hi)) x (List.mem_of_getElem? hj))⟩
theorem goes_at {w w' : World} {ι ι' : List K} {n n' : Nat} {o o' : Ob} {k k' : K} (hg : o.goes o') (h : RO w ι n o k) (h' : RO w' ι' n' o' k') (hev : k.ev k') {b : Nat} (hb : k.at b) : k'.at b := by
  cases o with
  | tree v d =>
    obtain ⟨B, B₀, rfl, _, _⟩ := h.tree_inv
    cases hev; exact hb
  | tab g x =>
    have : o' = .tab g x := hg
    subst this
    obtain ⟨q, E, sz, rfl⟩ := h.tab_inv
    obtain ⟨q', E', sz', rfl⟩ := h'.tab_inv
    exact hb
  | grow p s =>
    have : o' = .grow p s := hg
    subst this
    match k, k', h, h', hev with
    | .grow q pp, .grow q' pp', h, h', ⟨q2, pp2, e, h1, h2⟩ =>
      cases e
      have e1 : p = q := by
        cases pp with
        | none => exact h
        | some x => obtain ⟨b, E, lim, s⟩ := x; exact h.1.1
      have e2 : p = q' := by
        cases pp' with
        | none => exact h'
        | some x => obtain ⟨b, E, lim, s⟩ := x; exact h'.1.1
      have e3 := h2 (by omega)
      subst e3
      cases pp <;> exact hb
    | .grow q none, .x, _, h', _ => exact h'.elim
    | .grow q none, .blk _, _, h', _ => exact h'.elim
    | .grow q none, .rows _ _ _, _, h', _ => exact h'.elim
    | .grow q none, .tree _, _, h', _ => exact h'.elim
    | .grow q (some _), .x, _, h', _ => exact h'.elim
    | .grow q (some _), .blk _, _, h', _ => exact h'.elim
    | .grow q (some _), .rows _ _ _, _, h', _ => exact h'.elim
    | .grow q (some _), .tree _, _, h', _ => exact h'.elim
  | cells cs =>
    cases k with
    | blk b' => cases hev; exact hb
    | _ => exact h.elim
  | rows rs =>
    cases k with
    | rows b' sz len => cases hev; exact hb
    | _ => exact h.elim
  | map m => cases o' <;> exact hg.elim
  | dead => cases o' <;> exact hg.elim
/-- the end of a function that hands out trees, beside the caller's objects -/
def FinG (H : Heap) (rs : List Rv) (Q : A → Heap → Prop) : Ex → St → Prop
  | .exit _, _ => False
  | _, st => ∃ st', St.le st st' ∧ r_ st' rs ∧ Goes H st'.ext ∧ ∃ r, resRaw st' rs = some r ∧ ∀ kv, ∃ r' H' I T J, OutA (st'.loc.map Ob.lf) kv r r' H' I ∧ J.map (fun j => st'.loc[j]?) = T.map some ∧ T.all Ob.isTreeB = true ∧ (J ++ I).Nodup ∧ Q r' (st'.ext ++ (T ++ H'))
theorem finG_ret {H : Heap} {rs : List Rv} {Q : A → Heap → Prop} {st : St} (r : A) (hok : r_ st rs) (hg : Goes H st.ext) (hr : resRaw st rs = some r) (h : ∀ kv, ∃ r' H' I T J, OutA (st.loc.map Ob.lf) kv r r' H' I ∧ J.map (fun j => st.loc[j]?) = T.map some ∧ T.all Ob.isTreeB = true ∧ (J ++ I).Nodup ∧ Q r' (st.ext ++ (T ++ H'))) : FinG H rs Q .ret st :=
  ⟨st, St.le_refl _, hok, hg, r, hr, h⟩
/-- what is shown of the machine holds of the call: a function that hands out trees beside the caller's objects -/
theorem acallsG {P : Program} {f : FuncId} {fn : Func} {d : Cd} {rs : List Rv} {n : Nat} {args : List A} {H : Heap} {Q : A → Heap → Prop} {toks : List FuncId} {kl : List (Nat × List Nat × List Nat)}
    (hf : P.funcs[f]? = some fn) (hname : nameOk fn = true) (hc : cFunc P toks kl fn = some (d, rs, n))
    (h : Obs.fits H.length 0 H → aw P d (kq P (FinG H rs Q) []) ⟨args ++ List.replicate (n - args.length) .u, H, []⟩) : ACalls P f args H Q := by
  unfold cFunc at hc
  split at hc
  · rename_i c hb
    split at hc
    · rename_i d' rs' h1 h2
      cases hc
      refine acalls_of_run toks kl hf hb (by simpa [nameOk] using hname) h1 (FQ := FinG H rs Q) (fun i st h => h.elim) (fun e w ι w' ι1 st a' he hq hs hx hn hsim => ?_) h
      have hq' : ∃ st', St.le st st' ∧ r_ st' rs ∧ Goes H st'.ext ∧ ∃ r, resRaw st' rs = some r ∧ ∀ kv, ∃ r' H' I T J, OutA (st'.loc.map Ob.lf) kv r r' H' I ∧ J.map (fun j => st'.loc[j]?) = T.map some ∧ T.all Ob.isTreeB = true ∧ (J ++ I).Nodup ∧ Q r' (st'.ext ++ (T ++ H')) := by
        rcases he with rfl | rfl
        · exact hq
        · exact hq
      obtain ⟨st', hle, hok, hgo, r, hr, hout⟩ := hq'
      obtain ⟨ι2, hs2, hx2⟩ := hle.2 w' ι1 a' hs
      have hιl : ι.length ≤ st.ext.length := by rw [hsim.len, hn]; exact Nat.le_refl _
      have hx3 := hx2 w ι hιl hx
      have hel : st'.ext.length = H.length := hle.1.trans hn
      have hsm := hs2.sim
      have hl2 := hsm.len
      rw [List.length_append] at hl2
      refine ⟨hs2.defers, ?_⟩
      have hmap : ∀ vs : List Value, (fn.results.toList.mapM (oneRv a'.tmps)).run P w' = .ok vs w' →
          (results fn a'.tmps).run P w' = .ok (if h : vs.toArray.size = 1 then vs.toArray[0] else .tuple vs.toArray) w' := fun vs hvs => by
        rw [results_eq, Sem.run_bind, Array.mapM_eq_mapM_toList, Sem.run_map, hvs]
        rfl
      have kat : ∀ k0 b, k0 ∈ ι → k0.at b → ∃ (i : Nat) (k2 : K), i < st'.ext.length ∧ ι2[i]? = some k2 ∧ k2.at b := fun k0 b hk0 hb => by
        obtain ⟨i, hi⟩ := List.mem_iff_getElem?.1 hk0
        have hlt : i < H.length := by have := (List.getElem?_eq_some_iff.1 hi).1; rw [hsim.len] at this; exact this
        obtain ⟨k2, h3, h4⟩ := hx3.ev i k0 hi
        have ho := List.getElem?_eq_getElem hlt
        have ho' : st'.ext[i]? = some (st'.ext[i]'(by omega)) := List.getElem?_eq_getElem (by omega)
        exact ⟨i, k2, by omega, h3, goes_at (hgo.2 i _ _ ho ho') (hsim.obj i _ k0 ho hi) (hsm.obj i _ k2 (by rw [List.getElem?_append_left (by omega)]; exact ho') h3) h4 hb⟩
      have fin : ∀ v, RA w' ι2 st'.ext.length r v → ∃ r' H' ι' v', Ending.returned v = .returned v' ∧ Q r' H' ∧ Sim w' ι' H'.length H' ∧ RA w' ι' H'.length r' v' ∧ Ext w ι w' ι' ∧ H.length ≤ H'.length := fun v hv => by
        obtain ⟨kv, hkv⟩ := out_beside hsm hv
        obtain ⟨r', H', I, T, J, ho, hJ, hT, hnd, hQ⟩ := hout kv
        obtain ⟨hra, ι3, h4, h5, h6, h7⟩ := hkv r' H' I T J ho hJ hT hnd
        have hin3 : ∀ k b, k ∈ ι3 → k.at b → ∃ (j : Nat) (k' : K), ι2[st'.ext.length + j]? = some k' ∧ k'.at b := fun k b hk hb => by
          obtain ⟨i, hi⟩ := List.mem_iff_getElem?.1 hk
          obtain ⟨j, k', _, a2, a3⟩ := h7 i k b hi hb
          exact ⟨j, k', a2, a3⟩
        refine ⟨r', st'.ext ++ (T ++ H'), ι2.take st'.ext.length ++ ι3, v, rfl, hQ, ?_, hra _ _ _, ?_, by simp; omega⟩
        · refine sim_beside hsm (fun i o k ho hk => ?_) h4 h5 h6 h7
          have hlt : i < H.length := by have := (List.getElem?_eq_some_iff.1 ho).1; omega
          exact (hsm.obj i o k (by rw [List.getElem?_append_left (by omega)]; exact ho) hk).of_free (goes_free (hgo.2 i _ _ (List.getElem?_eq_getElem hlt) ho))
        · refine ⟨hx3.os, hx3.tape, hx3.output, hx3.size, fun b o hso => ?_, fun b hb hk => ?_, fun i k hi => ?_⟩
          · obtain ⟨q1, q2⟩ := hx3.safe b o hso
            refine ⟨⟨q1.1, fun k hk hown => ?_⟩, q2⟩
            rcases List.mem_append.1 hk with h8 | h8
            · exact q1.2 k (List.mem_of_mem_take h8) hown
            · obtain ⟨j, k', a2, a3⟩ := hin3 k b h8 (AM.K.at_of_owns hown)
              by_cases hall : ∀ k ∈ ι, ¬ k.at b
              · exact (hx3.block b hso.1 hall).2 k' (List.mem_of_getElem? a2) a3
              · obtain ⟨k0, hk0, hat⟩ : ∃ k0 ∈ ι, k0.at b := Classical.byContradiction fun hne => hall fun k hk hat => hne ⟨k, hk, hat⟩
                obtain ⟨i, k2, b1, b2, b3⟩ := kat k0 b hk0 hat
                have := hsm.apart _ _ _ _ b b2 a2 b3 a3
                omega
          · obtain ⟨q1, q2⟩ := hx3.block b hb hk
            refine ⟨q1, fun k hk hat => ?_⟩
            rcases List.mem_append.1 hk with h8 | h8
            · exact q2 k (List.mem_of_mem_take h8) hat
            · obtain ⟨j, k', a2, a3⟩ := hin3 k b h8 hat
              exact q2 k' (List.mem_of_getElem? a2) a3
          · obtain ⟨k', q1, q2⟩ := hx3.ev i k hi
            have hlt : i < st'.ext.length := by
              have := (List.getElem?_eq_some_iff.1 hi).1
              rw [hsim.len] at this
              omega
            exact ⟨k', by rw [get_take_app hlt (by omega)]; exact q1, q2⟩
      unfold resRaw at hr
      split at hr
      · rename_i x hx1
        cases hr
        obtain ⟨vs, h3, h4, h5⟩ := resRaws_ra (P := P) hs2 h2 hok hx1
        obtain ⟨v, rfl⟩ := List.length_eq_one_iff.1 h4
        have h6 := h5 0 r v rfl rfl
        exact ⟨v, by simpa using hmap _ h3, fin v h6⟩
      · rename_i xs hne hx1
        cases hr
        obtain ⟨vs, h3, h4, h5⟩ := resRaws_ra (P := P) hs2 h2 hok hx1
        have hn1 : ¬ vs.toArray.size = 1 := by
          intro e
          simp [h4] at e
          obtain ⟨y, rfl⟩ := List.length_eq_one_iff.1 e
          exact hne y rfl
        exact ⟨.tuple vs.toArray, by rw [hmap _ h3, dif_neg hn1], fin _ (.tup h4 h5)⟩
      · cases hr
    · cases hc
  · cases hc
/-! ### trees, grouped anew -/
/-- lists of trees: the first can be told as the second -/
def Regroup (l2 l3 : Heap) : Prop := l3.all Ob.isTreeB = true ∧ ∀ (w : World) (ι : List K), Sim w ι 0 l2 → ∃ ι', Sim w ι' 0 l3 ∧ ∀ k b, k ∈ ι' → k.at b → ∃ k', k' ∈ ι ∧ k'.at b
theorem Regroup.of {l2 l3 : Heap} (ht : l3.all Ob.isTreeB = true) (h : ∀ (w : World) (ι : List K), Sim w ι 0 l2 → ∃ I, I.Nodup ∧ Pieces w ι I l3) : Regroup l2 l3 := ⟨ht, fun w ι hs => by
  obtain ⟨I, h1, h2⟩ := h w ι hs
  obtain ⟨ι', h4, h5, h6, h7⟩ := h2.sim hs h1
  have hin : ∀ k b, k ∈ ι' → k.at b → ∃ k', k' ∈ ι ∧ k'.at b := fun k b hk hb => by
    obtain ⟨i, hi⟩ := List.mem_iff_getElem?.1 hk
    obtain ⟨j, k', _, a2, a3⟩ := h7 i k b hi hb
    exact ⟨k', List.mem_of_getElem? a2, a3⟩
  exact ⟨ι', ⟨h4, fun i o k ho hk => h5 i o k ho hk _ _, h6, fun k b hk hb => by
    obtain ⟨k', a1, a2⟩ := hin k b hk hb
    exact hs.low k' b a1 a2⟩, hin⟩⟩
theorem Regroup.refl {l : Heap} (h : l.all Ob.isTreeB = true) : Regroup l l := ⟨h, fun w ι hs => ⟨ι, hs, fun k b hk hb => ⟨k, hk, hb⟩⟩⟩
theorem Regroup.trans {a b c : Heap} (h : Regroup a b) (k : Regroup b c) : Regroup a c := ⟨k.1, fun w ι hs => by
  obtain ⟨ι1, h1, h2⟩ := h.2 w ι hs
  obtain ⟨ι2, h3, h4⟩ := k.2 w ι1 h1
  exact ⟨ι2, h3, fun k b hk hb => by
    obtain ⟨k', a1, a2⟩ := h4 k b hk hb
    exact h2 k' b a1 a2⟩⟩
theorem RO.of_treeB {w : World} {ι ι' : List K} {n n' : Nat} {o : Ob} {k : K} (ht : o.isTreeB = true) (h : RO w ι n o k) : RO w ι' n' o k := RO.of_tree (Ob.isTree_of ht) h
theorem Regroup.app {a a' b b' : Heap} (ha : a.all Ob.isTreeB = true) (hb : b.all Ob.isTreeB = true) (h : Regroup a a') (k : Regroup b b') : Regroup (a ++ b) (a' ++ b') := ⟨by rw [List.all_append, h.1, k.1]; rfl, fun w ι hs => by
  have hl := hs.len
  rw [List.length_append] at hl
  have s1 : Sim w (ι.take a.length) 0 a := by
    refine ⟨by simp; omega, fun i o k ho hk => ?_, fun i j k k' c hi hj hc hc' => ?_, fun k c hk hc => hs.low k c (List.mem_of_mem_take hk) hc⟩
    · rw [List.getElem?_take] at hk
      split at hk
      · exact (hs.obj i o k (by rw [List.getElem?_append_left (by omega)]; exact ho) hk).of_treeB (List.all_eq_true.1 ha o (List.mem_of_getElem? ho))
      · cases hk
    · rw [List.getElem?_take] at hi hj
      split at hi
      · split at hj
        · exact hs.apart i j k k' c hi hj hc hc'
        · cases hj
      · cases hi
  have s2 : Sim w (ι.drop a.length) 0 b := by
    refine ⟨by simp; omega, fun i o k ho hk => ?_, fun i j k k' c hi hj hc hc' => ?_, fun k c hk hc => hs.low k c (List.mem_of_mem_drop hk) hc⟩
    · rw [List.getElem?_drop] at hk
      exact (hs.obj _ o k (by rw [List.getElem?_append_right (by omega), Nat.add_sub_cancel_left]; exact ho) hk).of_treeB (List.all_eq_true.1 hb o (List.mem_of_getElem? ho))
    · rw [List.getElem?_drop] at hi hj
      have := hs.apart _ _ k k' c hi hj hc hc'
      omega
  obtain ⟨ι1, h1, h2⟩ := h.2 w _ s1
  obtain ⟨ι2, h3, h4⟩ := k.2 w _ s2
  have hcross : ∀ k1 k2 c, k1 ∈ ι1 → k2 ∈ ι2 → k1.at c → k2.at c → False := fun k1 k2 c m1 m2 c1 c2 => by
    obtain ⟨z, x1, x2⟩ := h2 k1 c m1 c1
    obtain ⟨y, y1, y2⟩ := h4 k2 c m2 c2
    obtain ⟨i, hi⟩ := List.mem_iff_getElem?.1 x1
    obtain ⟨j, hj⟩ := List.mem_iff_getElem?.1 y1
    rw [List.getElem?_drop] at hj
    have hlt := (List.getElem?_eq_some_iff.1 hi).1
    rw [List.getElem?_take] at hi
    split at hi
    · have := hs.apart _ _ _ _ c hi hj x2 y2
      omega
    · cases hi
  have hl1 := h1.len
  refine ⟨ι1 ++ ι2, ⟨by simp [h1.len, h3.len], fun i o k' ho hk => ?_, fun i j k1 k2 c hi hj hc hc' => ?_, fun k' c hk hc => ?_⟩, fun k' c hk hc => ?_⟩
  · by_cases hi : i < a'.length
    · rw [List.getElem?_append_left hi] at ho
      rw [List.getElem?_append_left (by omega)] at hk
      exact (h1.obj i o k' ho hk).of_treeB (List.all_eq_true.1 h.1 o (List.mem_of_getElem? ho))
    · rw [List.getElem?_append_right (by omega)] at ho
      rw [List.getElem?_append_right (by omega), hl1] at hk
      exact (h3.obj _ o k' ho hk).of_treeB (List.all_eq_true.1 k.1 o (List.mem_of_getElem? ho))
  · by_cases hi' : i < ι1.length
    · rw [List.getElem?_append_left hi'] at hi
      by_cases hj' : j < ι1.length
      · rw [List.getElem?_append_left hj'] at hj
        exact h1.apart _ _ _ _ c hi hj hc hc'
      · rw [List.getElem?_append_right (by omega)] at hj
        exact (hcross k1 k2 c (List.mem_of_getElem? hi) (List.mem_of_getElem? hj) hc hc').elim
    · rw [List.getElem?_append_right (by omega)] at hi
      by_cases hj' : j < ι1.length
      · rw [List.getElem?_append_left hj'] at hj
        exact (hcross k2 k1 c (List.mem_of_getElem? hj) (List.mem_of_getElem? hi) hc' hc).elim
      · rw [List.getElem?_append_right (by omega)] at hj
        have := h3.apart _ _ _ _ c hi hj hc hc'
        omega
  · rcases List.mem_append.1 hk with hk | hk
    · exact h1.low k' c hk hc
    · exact h3.low k' c hk hc
  · rcases List.mem_append.1 hk with hk | hk
    · obtain ⟨z, x1, x2⟩ := h2 k' c hk hc
      exact ⟨z, List.mem_of_mem_take x1, x2⟩
    · obtain ⟨z, x1, x2⟩ := h4 k' c hk hc
      exact ⟨z, List.mem_of_mem_drop x1, x2⟩⟩
/-- the trees among own objects -/
theorem pieces_filter {w : World} {ι : List K} : ∀ (l pre : Heap), Sim w ι 0 ((pre ++ l).map Ob.lf) → ∃ I : List Nat, I.Nodup ∧ (∀ i ∈ I, pre.length ≤ i ∧ ∃ o, (pre ++ l)[i]? = some o ∧ o.isTreeB = true) ∧ Pieces w ι I (l.filter Ob.isTreeB)
  | [], pre, hs => ⟨[], List.nodup_nil, by simp, .nil⟩
  | o :: l, pre, hs => by
    obtain ⟨I, h1, h2, h3⟩ := pieces_filter l (pre ++ [o]) (by simpa using hs)
    have h2' : ∀ i ∈ I, pre.length + 1 ≤ i ∧ ∃ o', (pre ++ o :: l)[i]? = some o' ∧ o'.isTreeB = true := fun i hi => by
      obtain ⟨a, b⟩ := h2 i hi
      simp at a b
      exact ⟨a, by simpa using b⟩
    cases ht : o.isTreeB with
    | false =>
      rw [List.filter_cons_of_neg (by simp [ht])]
      exact ⟨I, h1, fun i hi => ⟨by have := (h2' i hi).1; omega, (h2' i hi).2⟩, h3⟩
    | true =>
      rw [List.filter_cons_of_pos ht]
      refine ⟨pre.length :: I, List.nodup_cons.2 ⟨fun h => by have := (h2' _ h).1; omega, h1⟩, fun i hi => ?_, ?_⟩
      · rcases List.mem_cons.1 hi with rfl | hi
        · exact ⟨Nat.le_refl _, o, by simp, ht⟩
        · exact ⟨by have := (h2' i hi).1; omega, (h2' i hi).2⟩
      · cases o with
        | tree v d => exact Pieces.cons (I := [pre.length]) (piece_tree hs (by simp [Ob.lf])) h3
        | _ => cases ht
theorem sim_trees {w : World} {ι : List K} {n : Nat} {E l2 : Heap} (hs : Sim w ι n (E ++ l2)) : ∃ ι', Sim w ι' 0 (l2.filter Ob.isTreeB) ∧ ∀ k b, k ∈ ι' → k.at b → ∃ (j : Nat) (k' : K), (∃ o, l2[j]? = some o ∧ o.isTreeB = true) ∧ ι[E.length + j]? = some k' ∧ k'.at b := by
  have s0 := sim_lf hs
  obtain ⟨I, h1, h2, h3⟩ := pieces_filter l2 [] (by simpa using s0)
  obtain ⟨ι', h4, h5, h6, h7⟩ := h3.sim s0 h1
  have hin : ∀ k b, k ∈ ι' → k.at b → ∃ (j : Nat) (k' : K), (∃ o, l2[j]? = some o ∧ o.isTreeB = true) ∧ ι[E.length + j]? = some k' ∧ k'.at b := fun k b hk hb => by
    obtain ⟨i, hi⟩ := List.mem_iff_getElem?.1 hk
    obtain ⟨j, k', a1, a2, a3⟩ := h7 i k b hi hb
    rw [List.getElem?_drop] at a2
    exact ⟨j, k', by simpa using (h2 j a1).2, a2, a3⟩
  exact ⟨ι', ⟨h4, fun i o k ho hk => h5 i o k ho hk _ _, h6, fun k b hk hb => by
    obtain ⟨j, k', _, a1, a2⟩ := hin k b hk hb
    exact hs.low k' b (List.mem_of_getElem? a1) a2⟩, hin⟩
/-- own trees told anew -/
theorem St.le_regroup {sl : List A} {ext l1 l2 l3 : Heap} (h : Regroup (l2.filter Ob.isTreeB) l3) (hsl : As.lo ext.length l1.length sl) (hob : Obs.lo ext.length l1.length l1) : St.le ⟨sl, ext, l1 ++ l2⟩ ⟨sl, ext, l1 ++ l3⟩ := by
  refine ⟨rfl, fun w ι act hs => ?_⟩
  have hsim := hs.sim
  simp only at hsim
  have hl := hsim.len
  rw [List.length_append, List.length_append] at hl
  have hsim' : Sim w ι ext.length ((ext ++ l1) ++ l2) := by rw [List.append_assoc]; exact hsim
  obtain ⟨ιF, s2, hF⟩ := sim_trees hsim'
  obtain ⟨ι3, h3, h4⟩ := h.2 w _ s2
  have h7' : ∀ (i : Nat) k b, ι3[i]? = some k → k.at b → ∃ (j : Nat) (k' : K), (∃ o, l2[j]? = some o ∧ o.isTreeB = true) ∧ ι[(ext ++ l1).length + j]? = some k' ∧ k'.at b := fun i k b hi hb => by
    obtain ⟨k', a1, a2⟩ := h4 k b (List.mem_of_getElem? hi) hb
    exact hF k' b a1 a2
  have h7 : ∀ (i : Nat) k b, ι3[i]? = some k → k.at b → ∃ (j : Nat) (k' : K), j ∈ List.range l2.length ∧ ι[(ext ++ l1).length + j]? = some k' ∧ k'.at b := fun i k b hi hb => by
    obtain ⟨j, k', ⟨o, a1, _⟩, a2, a3⟩ := h7' i k b hi hb
    exact ⟨j, k', List.mem_range.2 (List.getElem?_eq_some_iff.1 a1).1, a2, a3⟩
  have hlen1 : (ext ++ l1).length = ext.length + l1.length := by simp
  have hsafe : ∀ b o, Safe w ι b o → Safe w (ι.take (ext ++ l1).length ++ ι3) b o ∧ w.cell? ⟨b, o, none⟩ = w.cell? ⟨b, o, none⟩ := fun b o hso => ⟨⟨hso.1, fun k hk hown => by
    rcases List.mem_append.1 hk with h1 | h1
    · exact hso.2 k (List.mem_of_mem_take h1) hown
    · obtain ⟨i, hi⟩ := List.mem_iff_getElem?.1 h1
      obtain ⟨j, k', ⟨o', b1, b2⟩, a2, a3⟩ := h7' i k b hi (AM.K.at_of_owns hown)
      refine hso.2 k' (List.mem_of_getElem? a2) ?_
      have hob := hsim'.obj ((ext ++ l1).length + j) o' k' (by rw [List.getElem?_append_right (by omega), Nat.add_sub_cancel_left]; exact b1) a2
      match o', k', hob with
      | .tree v d, .tree B, _ => exact a3⟩, rfl⟩
  have hi0 : ∀ (r : Ref) k, r.lo ext.length l1.length → ι[idx ext.length (r.ren (List.range l1.length))]? = some k → (ι.take (ext ++ l1).length ++ ι3)[idx ext.length r]? = some k := fun r k hr hk => by
    rw [Ref.ren_range hr] at hk
    have hlt : idx ext.length r < (ext ++ l1).length := by
      rw [hlen1]
      cases r with
      | e b => have : b < ext.length := hr; simp only [idx]; omega
      | l i => have : i < l1.length := hr; simp only [idx]; omega
    rw [get_take_app hlt (by omega)]; exact hk
  refine ⟨ι.take (ext ++ l1).length ++ ι3, ⟨?_, hs.size, fun i x v' hx hv' => ?_, hs.fit, hs.defers⟩, fun w₀ ι₀ hle hx => ?_⟩
  · show Sim w (ι.take (ext ++ l1).length ++ ι3) ext.length (ext ++ (l1 ++ l3))
    rw [← List.append_assoc]
    refine sim_beside hsim' (fun i o k ho hk => ?_) h3.len (fun i o k ho hk ι1 n1 => (h3.obj i o k ho hk).of_treeB (List.all_eq_true.1 h.1 o (List.mem_of_getElem? ho))) h3.apart h7
    have hlo2 : o.lo ext.length l1.length := by
      by_cases hlt : i < ext.length
      · rw [List.getElem?_append_left hlt] at ho
        exact Ob_lo_of_fits (Obs_fits_get hs.fit ho)
      · rw [List.getElem?_append_right (by omega)] at ho
        exact Obs_lo_get hob ho
    exact RO_ren (ks := List.range l1.length) hsafe hi0 hlo2 (by rw [Ob.ren_range hlo2]; exact hsim'.obj i o k (by rw [List.getElem?_append_left (List.getElem?_eq_some_iff.1 ho).1]; exact ho) hk)
  · have hxl := As_lo_get hsl hx
    exact RA_ren (ks := List.range l1.length) hsafe hi0 (hs.slots i x v' hx hv') x (A.ren_range hxl).symm hxl
  · refine ⟨hx.os, hx.tape, hx.output, hx.size, fun b o hso => ?_, fun b hb hk => ?_, fun i k hi => ?_⟩
    · obtain ⟨q1, q2⟩ := hx.safe b o hso
      exact ⟨(hsafe b o q1).1, q2⟩
    · obtain ⟨q1, q2⟩ := hx.block b hb hk
      refine ⟨q1, fun k hk hat => ?_⟩
      rcases List.mem_append.1 hk with h1 | h1
      · exact q2 k (List.mem_of_mem_take h1) hat
      · obtain ⟨i, hi⟩ := List.mem_iff_getElem?.1 h1
        obtain ⟨j, k', _, a2, a3⟩ := h7 i k b hi hat
        exact q2 k' (List.mem_of_getElem? a2) a3
    · obtain ⟨k', q1, q2⟩ := hx.ev i k hi
      have hlt : i < (ext ++ l1).length := by
        have := (List.getElem?_eq_some_iff.1 hi).1
        have hle : ι₀.length ≤ ext.length := hle
        omega
      exact ⟨k', by rw [get_take_app hlt (by omega)]; exact q1, q2⟩
/-- a tree of one row and the trees that stand in it -/
theorem piece_tree_join {w : World} {ι : List K} {n : Nat} {loc : Heap} (hs : Sim w ι n loc) {i : Nat} {v : Value} {rows rows' : List (List D)} {trs : Heap} {js : List Nat} (hi : loc[i]? = some (.tree v rows)) (hlf : ∀ x ∈ rows.flatten, x.leaf = true)
    (hst : Strip rows'.flatten rows.flatten trs) (hlen : rows'.map List.length = rows.map List.length) (hj : ∀ m, m < trs.length → ∃ j, js[m]? = some j ∧ loc[j]? = trs[m]?) (hnd : (i :: js).Nodup) : Piece w ι (i :: js) rows' v := by
  obtain ⟨k, hk, ho⟩ := hs.get hi
  obtain ⟨B, B₀, rfl, hsub, hrt⟩ := ho.tree_inv
  cases hrt with
  | leaf h1 h2 =>
    have : rows = [] := by cases rows with
      | nil => rfl
      | cons r l => cases h1
    subst this
    have : rows' = [] := by simpa using hlen
    subst this
    exact ⟨_, .leaf rfl h2, fun b hb => hb.elim⟩
  | sl _ b cap sz vs el vf Bs h1 h2 h3 h4 h5 h6 h7 h8 h9 h10 =>
    have hA : Arr w (Safe w ι) rows.flatten b := ⟨vs, el, h5, h6, fun m x hm => by
      refine ⟨vf m, h7 m x hm, ?_⟩
      exact (h8 m x hm).leafs_rd (hlf x (List.mem_of_getElem? hm)) _⟩
    obtain ⟨h13, h14⟩ := lens_of hlen h4
    rw [← h13]
    exact piece_join hs hk (hsub b (.inl rfl)) hA hst (fun e => h1 (by subst e; simpa using hlen.symm)) (by omega) (by omega) h14 hj hnd
theorem Regroup.join {v : Value} {rows rows' : List (List D)} {trs : Heap} (hlf : ∀ x ∈ rows.flatten, x.leaf = true) (hst : Strip rows'.flatten rows.flatten trs) (hlen : rows'.map List.length = rows.map List.length) : Regroup (trs ++ [.tree v rows]) [.tree v rows'] :=
  .of rfl fun w ι hs => ⟨trs.length :: List.range trs.length, by
    refine List.nodup_cons.2 ⟨fun h => ?_, List.nodup_range⟩
    have := List.mem_range.1 h
    omega, .one (piece_tree_join hs (by simp) hlf hst hlen (fun m hm => ⟨m, by rw [List.getElem?_range hm], by rw [List.getElem?_append_left hm]⟩) (by
      refine List.nodup_cons.2 ⟨fun h => ?_, List.nodup_range⟩
      have := List.mem_range.1 h
      omega))⟩
end Go.AM

/-
  Calls of functions that are told of the first objects alone, and hand out trees.
  Conditions: none.
-/
namespace Go.AM
set_option linter.unusedVariables false
set_option linter.unusedSimpArgs false

/-! ### calls of functions that are told of the first objects alone -/
def Ob.tellB : Ob → Bool
  | .tree _ _ => true
  | .tab _ _ => true
  | .cells cs => cs.all C.leafB
  | _ => false
theorem tell_free {o : Ob} (h : o.tellB = true) : o.freeB = true := by cases o <;> first | exact h | rfl | cases h
theorem tells_free {H : Heap} (h : H.all Ob.tellB = true) : H.all Ob.freeB = true := by
  rw [List.all_eq_true] at h ⊢
  exact fun o ho => tell_free (h o ho)
theorem tell_k {w w' : World} {ι ι' : List K} {n n' : Nat} {o o' : Ob} {k k' : K} (ht : o.tellB = true) (hg : o.goes o') (h : RO w ι n o k) (h' : RO w' ι' n' o' k') (hev : k.ev k') {ι1 : List K} {n1 : Nat} : RO w' ι1 n1 o' k := by
  have hfr := goes_free hg
  cases o with
  | tree v d =>
    obtain ⟨B, B₀, rfl, _, _⟩ := h.tree_inv
    cases hev; exact h'.of_free hfr
  | tab g x =>
    have : o' = .tab g x := hg
    subst this
    obtain ⟨q, E, sz, rfl⟩ := h.tab_inv
    obtain ⟨q', E', sz', rfl⟩ := h'.tab_inv
    exact ⟨⟨rfl, rfl⟩, h'.2⟩
  | cells cs =>
    cases k with
    | blk b' => cases hev; exact h'.of_free hfr
    | _ => exact h.elim
  | _ => cases ht
/-- a call that is told of the first objects alone, which hands out trees -/
theorem acalls_head {P : Program} {f : FuncId} {i : Nat} {xs : List A} {H₀ L2 : Heap} {Q₀ : A → Heap → Prop} (hi : i < H₀.length) (hxs : xs.all A.portB = true) (hT : H₀.all Ob.tellB = true)
    (h : ACalls P f (.c (.ptr (.e i) 0) :: xs) H₀ Q₀) (hQ : ∀ r H', Q₀ r H' → r.portT = true ∧ ∃ E L, H' = E ++ L ∧ Goes H₀ E ∧ L.all Ob.isTreeB = true) :
    ACalls P f (.c (.ptr (.e i) 0) :: xs) (H₀ ++ L2) (fun r H' => ∃ E L, Q₀ r (E ++ L) ∧ Goes H₀ E ∧ L.all Ob.isTreeB = true ∧ H' = E ++ L2 ++ L) := by
  refine ⟨h.1, fun w ι cargs hsim hl ha => ?_⟩
  have hιl := hsim.len
  rw [List.length_append] at hιl
  have hsub : ∀ k ∈ ι.take H₀.length, ∃ j : Nat, j < H₀.length ∧ ι[j]? = some k := fun k hk => by
    obtain ⟨m, hm⟩ := List.mem_iff_getElem?.1 hk
    rw [List.getElem?_take] at hm
    split at hm
    · exact ⟨m, by assumption, hm⟩
    · cases hm
  have hsim0 : Sim w (ι.take H₀.length) H₀.length H₀ := by
    refine ⟨by simp; omega, fun m o k ho hk => ?_, fun m m' k k' b hm hm' hk hk' => ?_, fun k b hk hb => hsim.low k b (List.mem_of_mem_take hk) hb⟩
    · rw [List.getElem?_take] at hk
      split at hk
      · exact (hsim.obj m o k (by rw [List.getElem?_append_left (by omega)]; exact ho) hk).of_free (tell_free (List.all_eq_true.1 hT o (List.mem_of_getElem? ho)))
      · cases hk
    · rw [List.getElem?_take] at hm hm'
      split at hm
      · split at hm'
        · exact hsim.apart m m' k k' b hm hm' hk hk'
        · cases hm'
      · cases hm
  have ha0 : ∀ (j : Nat) a v, (A.c (.ptr (.e i) 0) :: xs)[j]? = some a → cargs[j]? = some v → RA w (ι.take H₀.length) H₀.length a v := fun j a v hj hv => by
    have hr := ha j a v hj hv
    cases j with
    | zero =>
      simp at hj
      subst hj
      cases hr with
      | c hr => cases hr with
        | ptr hr =>
          refine .c (.ptr ?_)
          rw [show idx H₀.length (.e i) = i from rfl, List.getElem?_take, if_pos hi]
          exact hr
    | succ j =>
      have hb := List.all_eq_true.1 hxs a (List.mem_of_getElem? (by simpa using hj))
      exact A.port_ofB hb _ _ _ _ _ _ _ hr
  refine (h.2 w (ι.take H₀.length) cargs hsim0 hl ha0).mono fun e w' ⟨r, H₀', ι₀', v, he, hq, hs', hr', hx, hle⟩ => ?_
  obtain ⟨hport, E, L, rfl, hgo, hLt⟩ := hQ r H₀' hq
  have hEl := hgo.1
  have hιlen : ι₀'.length = (E ++ L).length := hs'.len
  rw [List.length_append] at hιlen
  have hsame : ∀ (m : Nat), m < H₀.length → ∃ k k', ι[m]? = some k ∧ ι₀'[m]? = some k' ∧ (∀ b, k.at b → k'.at b) ∧ ∀ o' ι1 n1, E[m]? = some o' → RO w' ι1 n1 o' k := fun m hm => by
    have h3 : ι[m]? = some (ι[m]'(by omega)) := List.getElem?_eq_getElem (by omega)
    have h5 : (ι.take H₀.length)[m]? = some (ι[m]'(by omega)) := by rw [List.getElem?_take, if_pos hm]; exact h3
    obtain ⟨k', h6, h7⟩ := hx.ev m _ h5
    have ho := List.getElem?_eq_getElem hm
    have hoE : E[m]? = some (E[m]'(by omega)) := List.getElem?_eq_getElem (by omega)
    have hob := hsim.obj m _ _ (by rw [List.getElem?_append_left hm]; exact ho) h3
    have hoE' := hs'.obj m _ k' (by rw [List.getElem?_append_left (by omega)]; exact hoE) h6
    have hg := hgo.2 m _ _ ho hoE
    refine ⟨_, k', h3, h6, fun b hb => goes_at hg hob hoE' h7 hb, fun o' ι1 n1 ho' => ?_⟩
    rw [hoE] at ho'; cases ho'
    exact tell_k (List.all_eq_true.1 hT _ (List.getElem_mem hm)) hg hob hoE' h7
  have hnew : ∀ k b, k ∈ ι₀'.drop H₀.length → k.at b → ∀ k' ∈ ι, ¬ k'.at b := fun k b hk hb k' hk' hb' => by
    obtain ⟨m, hm⟩ := List.mem_iff_getElem?.1 hk
    rw [List.getElem?_drop] at hm
    obtain ⟨j, hj⟩ := List.mem_iff_getElem?.1 hk'
    by_cases hjJ : j < H₀.length
    · obtain ⟨k1, k2, h1, h2, h3, _⟩ := hsame j hjJ
      rw [hj] at h1; cases h1
      have := hs'.apart _ _ _ _ b hm h2 hb (h3 b hb')
      omega
    · have hlt := hsim.low k' b hk' hb'
      refine (hx.block b hlt fun k0 hk0 hb0 => ?_).2 k (List.mem_of_mem_drop hk) hb
      obtain ⟨j0, h1, h2⟩ := hsub k0 hk0
      have := hsim.apart _ _ _ _ b hj h2 hb' hb0
      omega
  have hsafe : ∀ b o, Safe w ι b o → Safe w' (ι ++ ι₀'.drop H₀.length) b o ∧ w'.cell? ⟨b, o, none⟩ = w.cell? ⟨b, o, none⟩ := fun b o hso => by
    obtain ⟨p, q⟩ := hx.safe b o ⟨hso.1, fun k hk => let ⟨j, _, hj⟩ := hsub k hk; hso.2 k (List.mem_of_getElem? hj)⟩
    refine ⟨⟨p.1, fun k hk => ?_⟩, q⟩
    rcases List.mem_append.1 hk with h1 | h1
    · exact hso.2 k h1
    · exact p.2 k (List.mem_of_mem_drop h1)
  have hext : Ext w ι w' (ι ++ ι₀'.drop H₀.length) := by
    refine ⟨hx.os, hx.tape, hx.output, hx.size, hsafe, fun b hb hk => ?_, fun j k hj => ⟨k, ?_, k.ev_refl⟩⟩
    · obtain ⟨p, q⟩ := hx.block b hb fun k hk' => let ⟨j, _, hj⟩ := hsub k hk'; hk k (List.mem_of_getElem? hj)
      refine ⟨p, fun k hk' => ?_⟩
      rcases List.mem_append.1 hk' with h1 | h1
      · exact hk k h1
      · exact q k (List.mem_of_mem_drop h1)
    · rw [List.getElem?_append_left (List.getElem?_eq_some_iff.1 hj).1]; exact hj
  refine ⟨r, E ++ L2 ++ L, ι ++ ι₀'.drop H₀.length, v, he, ⟨E, L, hq, hgo, hLt, rfl⟩, ⟨?_, fun j o k ho hk => ?_, fun i j k k' b hi hj hk hk' => ?_, fun k b hk hb => ?_⟩, A.port_of hport _ _ _ _ _ _ _ hr', hext, by simp only [List.length_append]; omega⟩
  · simp only [List.length_append, List.length_drop]
    omega
  · rw [List.append_assoc] at ho
    by_cases h1 : j < E.length
    · rw [List.getElem?_append_left h1] at ho
      obtain ⟨k1, k2, h3, h4, _, h5⟩ := hsame j (by omega)
      rw [List.getElem?_append_left (by omega), h3] at hk
      cases hk
      exact h5 o _ _ ho
    · rw [List.getElem?_append_right (by omega)] at ho
      by_cases h2 : j - E.length < L2.length
      · rw [List.getElem?_append_left h2] at ho
        have hjo : (H₀ ++ L2)[j]? = some o := by rw [List.getElem?_append_right (by omega), ← hEl]; exact ho
        have h3 : ι[j]? = some (ι[j]'(by omega)) := List.getElem?_eq_getElem (by omega)
        rw [List.getElem?_append_left (by omega), h3] at hk
        obtain rfl := Option.some.inj hk
        have h4 := hsim.obj j o _ hjo h3
        have h5 : RO w' (ι ++ ι₀'.drop H₀.length) (H₀ ++ L2).length o (ι[j]'(by omega)) := h4.of_blocks hext fun b hb => (hx.block b (hsim.low _ b (List.mem_of_getElem? h3) hb) fun k0 hk0 hb0 => by
          obtain ⟨i0, h6, h7⟩ := hsub k0 hk0
          have := hsim.apart _ _ _ _ b h3 h7 hb hb0
          omega).1
        exact RO_ground (Obs_fits_get (sim_fits hsim) hjo) h5
      · rw [List.getElem?_append_right (by omega)] at ho
        rw [List.getElem?_append_right (by omega), List.getElem?_drop] at hk
        have hidx : H₀.length + (j - ι.length) = E.length + (j - E.length - L2.length) := by omega
        rw [hidx] at hk
        exact (hs'.obj _ o k (by rw [List.getElem?_append_right (by omega), Nat.add_sub_cancel_left]; exact ho) hk).of_treeB (List.all_eq_true.1 hLt o (List.mem_of_getElem? ho))
  · rcases Nat.lt_or_ge i ι.length with h1 | h1
    · rw [List.getElem?_append_left h1] at hi
      rcases Nat.lt_or_ge j ι.length with h2 | h2
      · rw [List.getElem?_append_left h2] at hj
        exact hsim.apart _ _ _ _ b hi hj hk hk'
      · rw [List.getElem?_append_right h2] at hj
        exact absurd hk (hnew k' b (List.mem_of_getElem? hj) hk' k (List.mem_of_getElem? hi))
    · rw [List.getElem?_append_right h1] at hi
      rcases Nat.lt_or_ge j ι.length with h2 | h2
      · rw [List.getElem?_append_left h2] at hj
        exact absurd hk' (hnew k b (List.mem_of_getElem? hi) hk k' (List.mem_of_getElem? hj))
      · rw [List.getElem?_append_right h2] at hj
        rw [List.getElem?_drop] at hi hj
        have := hs'.apart _ _ _ _ b hi hj hk hk'
        omega
  · rcases List.mem_append.1 hk with h1 | h1
    · exact Nat.lt_of_lt_of_le (hsim.low k b h1 hb) hx.size
    · exact hs'.low k b (List.mem_of_mem_drop h1) hb
/-- such a call at a state of the machine -/
theorem call_head {P : Program} {f : FuncId} {i : Nat} {xs : List A} {sl : List A} {ext loc H₂ : Heap} {Q₀ : A → Heap → Prop} {K : A → St → Prop} (hi : i < ext.length) (hxs : xs.all A.portB = true) (hT : ext.all Ob.tellB = true) (hf : Obs.fits ext.length 0 ext)
    (h : ACalls P f (.c (.ptr (.e i) 0) :: xs) ext Q₀) (hQ : ∀ r H', Q₀ r H' → r.portT = true ∧ ∃ E L, H' = E ++ L ∧ Goes ext E ∧ L.all Ob.isTreeB = true) (hH : H₂ = ext ++ loc.map (Ob.re ext.length))
    (hk : ∀ r E L, Q₀ r (E ++ L) → Goes ext E → L.all Ob.isTreeB = true → K r ⟨sl, E, loc ++ L⟩ ∧ Obs.fits E.length 0 E) : ACalls P f (.c (.ptr (.e i) 0) :: xs) H₂ (CallK K ⟨sl, ext, loc⟩) := by
  subst hH
  refine (acalls_head hi hxs hT h hQ).mono fun r H' ⟨E, L, h1, h2, h3, h4⟩ => ?_
  obtain ⟨h5, h6⟩ := hk r E L h1 h2 h3
  refine ⟨E, loc ++ L, r, ?_, h2.1, by simp, by rw [← h2.1]; exact h6, ?_, h5⟩
  · rw [h4, List.map_append, trees_re h3, List.append_assoc]
  · exact (A.re_of (hQ r _ h1).1 _).symm
/-- a call of a function that looks at no object and hands out trees -/
theorem call_none {P : Program} {f : FuncId} {args args₀ : List A} {sl : List A} {ext loc H : Heap} {Q₀ : A → Heap → Prop} {K : A → St → Prop} (hc : ACalls P f args₀ [] Q₀) (hQ : ∀ r H', Q₀ r H' → Handed r H')
    (hH : H = ext ++ loc.map (Ob.re ext.length)) (hz : FzL H [] args args₀) (hf : Obs.fits ext.length 0 ext) (hk : ∀ r L, Q₀ r L → K r ⟨sl, ext, loc ++ L⟩) : ACalls P f args H (CallK K ⟨sl, ext, loc⟩) := by
  refine (acalls_frame (J := []) (H₀ := []) List.nodup_nil rfl (by simp) hz hc (fun r H' h => ⟨A.port_of (hQ r H' h).1, fun o ho => Ob.isTree_of (List.all_eq_true.1 (hQ r H' h).2 o ho)⟩)).mono fun r H' ⟨L, h1, _, h3⟩ => ?_
  refine ⟨ext, loc ++ L, r, ?_, rfl, by simp, hf, (A.re_of (hQ r L h1).1 _).symm, hk r L h1⟩
  rw [h3, hH, List.map_append, trees_re (hQ r L h1).2]
  simp [putAll]
end Go.AM
