/-
  What a proof about the abstract machine uses: calls, and states that tell less.
  Conditions: none.
-/
import Derived.Test.YtcapnainldlnjaaGreatAbsH
namespace Go.AM
set_option linter.unusedVariables false
set_option linter.unusedSimpArgs false

theorem ACalls.mono {P : Program} {f : FuncId} {args : List A} {H : Heap} {Q Q' : A → Heap → Prop} (h : ACalls P f args H Q) (hq : ∀ r H', Q r H' → Q' r H') : ACalls P f args H Q' :=
  ⟨h.1, fun w ι cargs h1 h2 h3 => (h.2 w ι cargs h1 h2 h3).mono fun e w' ⟨r, H', ι', v, h4, h5, h6⟩ => ⟨r, H', ι', v, h4, hq r H' h5, h6⟩⟩

/-- a call that leaves the objects as they were -/
theorem call_same {P : Program} {f : FuncId} {args : List A} {sl : List A} {ext loc H : Heap} {K : A → St → Prop} {r : A}
    (hc : ACalls P f args H (fun r' H' => H' = H ∧ r' = r)) (hH : H = ext ++ loc.map (Ob.re ext.length)) (hr : A.re ext.length r = r) (hf : Obs.fits ext.length 0 ext) (hk : K r ⟨sl, ext, loc⟩) :
    ACalls P f args H (CallK K ⟨sl, ext, loc⟩) :=
  hc.mono fun r' H' ⟨h1, h2⟩ => ⟨ext, loc, r, h1.trans hH, rfl, Nat.le_refl _, hf, h2.trans hr.symm, hk⟩

/-- .. and whose result is known by a property alone -/
theorem call_some {P : Program} {f : FuncId} {args : List A} {sl : List A} {ext loc H : Heap} {K : A → St → Prop} {R : A → Prop}
    (hc : ACalls P f args H (fun r H' => H' = H ∧ R r)) (hH : H = ext ++ loc.map (Ob.re ext.length)) (hr : ∀ r, R r → A.re ext.length r = r) (hf : Obs.fits ext.length 0 ext) (hk : ∀ r, R r → K r ⟨sl, ext, loc⟩) :
    ACalls P f args H (CallK K ⟨sl, ext, loc⟩) :=
  hc.mono fun r' H' ⟨h1, h2⟩ => ⟨ext, loc, r', h1.trans hH, rfl, Nat.le_refl _, hf, (hr r' h2).symm, hk r' h2⟩

theorem St.le_refl (s : St) : St.le s s := ⟨rfl, fun w ι a h => ⟨ι, h, fun _ _ _ hx => hx⟩⟩

theorem St.le_trans {a b c : St} (h : St.le a b) (k : St.le b c) : St.le a c :=
  ⟨k.1.trans h.1, fun w ι x hx => by
    obtain ⟨ι', h1, h2⟩ := h.2 w ι x hx
    obtain ⟨ι'', h3, h4⟩ := k.2 w ι' x h1
    exact ⟨ι'', h3, fun w₀ ι₀ hl hx => h4 w₀ ι₀ (by rw [h.1]; exact hl) (h2 w₀ ι₀ hl hx)⟩⟩

/-- a slot told by less -/
inductive A.le : A → A → Prop
  | refl (a : A) : A.le a a
  | u (a : A) : A.le a .u
  | pure (a : A) : A.le a a.pure

theorem C.pure_RC {w : World} {ι : List K} {n : Nat} {c : C} {v : Value} (h : RC w ι n c v) : RC w ι n c.pure v := by
  cases h with
  | own h1 _ => exact .d h1
  | full h1 => exact .d h1
  | d h1 => exact .d h1
  | ptr h1 => exact .ptr h1
  | el h1 => exact .el h1
  | fsl h1 h2 => exact .fsl h1 h2
  | psl h1 h2 h3 h4 => exact .psl h1 h2 h3 h4
  | csl h1 h2 h3 h4 => exact .csl h1 h2 h3 h4
  | rel h1 => exact .rel h1
  | map h1 => exact .map h1
  | fn h1 h2 => exact .fn h1 h2
  | u h1 => exact .u h1

theorem A.le_RA {w : World} {ι : List K} {n : Nat} {a b : A} {v : Value} (hl : A.le a b) (h : RA w ι n a v) : RA w ι n b v := by
  cases hl with
  | refl => exact h
  | u => exact .u
  | pure =>
    cases h with
    | u => exact .u
    | c h1 => exact .c (C.pure_RC h1)
    | agg h1 =>
      refine .agg ⟨by simp [h1.1], fun i c v hi hv => ?_⟩
      simp only [List.getElem?_map, Option.map_eq_some_iff] at hi
      obtain ⟨c', h2, rfl⟩ := hi
      exact C.pure_RC (h1.2 i c' v h2 hv)
    | tup h1 h2 => exact .tup h1 h2
    | gd h1 h2 => exact .gd h1 h2

def Sl.le : List A → List A → Prop
  | [], [] => True
  | a :: l, b :: r => A.le a b ∧ Sl.le l r
  | _, _ => False

theorem Sl.le_get : ∀ {l r : List A}, Sl.le l r → l.length = r.length ∧ ∀ (i : Nat) b, r[i]? = some b → ∃ a, l[i]? = some a ∧ A.le a b
  | [], [], _ => ⟨rfl, fun i b h => by simp at h⟩
  | a :: l, b :: r, ⟨h1, h2⟩ => by
    obtain ⟨h3, h4⟩ := Sl.le_get h2
    refine ⟨by simp [h3], fun i c hc => ?_⟩
    match i with
    | 0 => simp at hc; subst hc; exact ⟨a, rfl, h1⟩
    | i + 1 => exact h4 i c (by simpa using hc)

/-- slots told by less -/
theorem St.le_slots {sl sl' : List A} {ext loc : Heap} (h : Sl.le sl sl') : St.le ⟨sl, ext, loc⟩ ⟨sl', ext, loc⟩ := by
  obtain ⟨h1, h2⟩ := Sl.le_get h
  refine ⟨rfl, fun w ι a hs => ⟨ι, ⟨hs.sim, by rw [hs.size]; exact h1, fun i x v hi hv => ?_, hs.fit, hs.defers⟩, fun _ _ _ hx => hx⟩⟩
  obtain ⟨y, h3, h4⟩ := h2 i x hi
  exact A.le_RA h4 (hs.slots i y v h3 hv)

/-- objects told by nothing more -/
inductive Ob.le : Ob → Ob → Prop
  | refl (o : Ob) : Ob.le o o
  | dead (o : Ob) : Ob.le o .dead
  | pure (cs : List C) : Ob.le (.cells cs) (.cells (cs.map C.pure))

theorem Ob.le_RO {w : World} {ι : List K} {n : Nat} {o o' : Ob} {k : K} (h : Ob.le o o') (hr : RO w ι n o k) : RO w ι n o' k := by
  cases h with
  | refl => exact hr
  | dead => unfold RO; split <;> trivial
  | pure cs =>
    cases k with
    | blk b =>
      obtain ⟨vs, el, h1, h2, h3⟩ := hr
      refine ⟨vs, el, h1, by simp [h2], fun i c v hi hv => ?_⟩
      simp only [List.getElem?_map, Option.map_eq_some_iff] at hi
      obtain ⟨c', h4, rfl⟩ := hi
      exact C.pure_RC (h3 i c' v h4 hv)
    | _ => exact hr.elim

def Obs.le : Heap → Heap → Prop
  | [], [] => True
  | a :: l, b :: r => Ob.le a b ∧ Obs.le l r
  | _, _ => False

theorem Obs.le_refl : ∀ l : Heap, Obs.le l l
  | [] => trivial
  | a :: l => ⟨.refl a, Obs.le_refl l⟩

theorem Obs.le_append : ∀ {a b c d : Heap}, Obs.le a b → Obs.le c d → Obs.le (a ++ c) (b ++ d)
  | [], [], _, _, _, h => h
  | _ :: _, _ :: _, _, _, ⟨h1, h2⟩, h => ⟨h1, Obs.le_append h2 h⟩

theorem Obs.le_get : ∀ {l r : Heap}, Obs.le l r → l.length = r.length ∧ ∀ (i : Nat) b, r[i]? = some b → ∃ a, l[i]? = some a ∧ Ob.le a b
  | [], [], _ => ⟨rfl, fun i b h => by simp at h⟩
  | a :: l, b :: r, ⟨h1, h2⟩ => by
    obtain ⟨h3, h4⟩ := Obs.le_get h2
    refine ⟨by simp [h3], fun i c hc => ?_⟩
    match i with
    | 0 => simp at hc; subst hc; exact ⟨a, rfl, h1⟩
    | i + 1 => exact h4 i c (by simpa using hc)

/-- slots and own objects told by less -/
theorem St.le_more {sl sl' : List A} {ext loc loc' : Heap} (h : Sl.le sl sl') (ho : Obs.le loc loc') : St.le ⟨sl, ext, loc⟩ ⟨sl', ext, loc'⟩ := by
  obtain ⟨h1, h2⟩ := Sl.le_get h
  obtain ⟨h3, h4⟩ := Obs.le_get (Obs.le_append (Obs.le_refl ext) ho)
  refine ⟨rfl, fun w ι a hs => ⟨ι, ⟨⟨by rw [hs.sim.len]; exact h3, fun i o k ho hk => ?_, hs.sim.apart, hs.sim.low⟩, by rw [hs.size]; exact h1, fun i x v hi hv => ?_, hs.fit, hs.defers⟩, fun _ _ _ hx => hx⟩⟩
  · obtain ⟨y, h5, h6⟩ := h4 i o ho
    have := hs.sim.obj i y k h5 hk
    exact Ob.le_RO h6 this
  · obtain ⟨y, h5, h6⟩ := h2 i x hi
    exact A.le_RA h6 (hs.slots i y v h5 hv)

/-- a quiet call -/
theorem qcall_pure {P : Program} {f : FuncId} {as : List A} {K : A → St → Prop} {st : St} {r : A} (hc : ∀ H, ACalls P f as H (fun r' H' => H' = H ∧ r' = r)) (hf : Obs.fits st.ext.length 0 st.ext) (hr : A.re st.ext.length r = r)
    (hk : K r st) : QCallK P f as st K := ⟨hf, r, hr, fun st' _ => hc _, hk⟩

theorem row_nat {rows : List (List D)} {i sz : Nat} {K : A → St → Prop} {st : St} (row : List D) (hr : rows[i]? = some row) (hl : row.length = sz) (hk : K (.c (.el row 0)) st) : RowK true rows (i : Int) sz K st :=
  ⟨fun _ => by omega, row, fun _ => ⟨by simpa using hr, hl⟩, hk⟩
theorem row_int {rows : List (List D)} {i : Int} {sz : Nat} {K : A → St → Prop} {st : St} (row : List D) (h0 : 0 ≤ i) (hr : rows[i.toNat]? = some row) (hl : row.length = sz) (hk : K (.c (.el row 0)) st) : RowK true rows i sz K st :=
  ⟨fun _ => h0, row, fun _ => ⟨hr, hl⟩, hk⟩
/-- a row of a list of things -/
theorem row_of {α : Type} {g : α → List D} {l : List α} {i sz : Nat} {K : A → St → Prop} {st : St} (h : i < l.length) (hl : (g l[i]).length = sz) (hk : K (.c (.el (g l[i]) 0)) st) : RowK true (l.map g) (i : Int) sz K st :=
  row_nat (g l[i]) (by simp [h]) hl hk
theorem byte_nat {s : List UInt8} {i : Nat} {K : A → St → Prop} {st : St} (h : i < s.length) (hk : K (.c (.d (.int .u8 s[i].toNat))) st) : ByteK true s (i : Int) K st :=
  ⟨s[i], fun _ => ⟨by omega, by simp [h]⟩, hk⟩
theorem byte_int {s : List UInt8} {i : Int} {K : A → St → Prop} {st : St} (b : UInt8) (h0 : 0 ≤ i) (h : s[i.toNat]? = some b) (hk : K (.c (.d (.int .u8 b.toNat))) st) : ByteK true s i K st :=
  ⟨b, fun _ => ⟨h0, h⟩, hk⟩
/-! ### loops -/

def setAll (sl : List A) : List (Nat × A) → List A
  | [] => sl
  | (i, a) :: l => setAll (sl.set i a) l

def LI {σ : Type} (J : σ → St) (Inv : σ → Prop) (μ : σ → Nat) (s : St) (m : Nat) : Prop := ∃ x, s = J x ∧ Inv x ∧ m = μ x

/-- a loop whose states at its head differ in some slots and objects alone -/
theorem loop_set {P : Program} {F : Ex → St → Prop} {fs : List Fr} {c : Cd} {sl : List A} {ext loc : Heap} {σ : Type} (upd : σ → List (Nat × A)) (E L : σ → Heap) (Inv : σ → Prop) (μ : σ → Nat) (x₀ : σ)
    (h0 : (⟨sl, ext, loc⟩ : St) = ⟨setAll sl (upd x₀), E x₀, L x₀⟩) (hi : Inv x₀)
    (hstep : ∀ x, Inv x → aw P c (kq P F (.loop (LI (fun x => ⟨setAll sl (upd x), E x, L x⟩) Inv μ) (μ x) :: fs)) ⟨setAll sl (upd x), E x, L x⟩) : aw P (.loop c) (kq P F fs) ⟨sl, ext, loc⟩ :=
  ⟨LI (fun x => ⟨setAll sl (upd x), E x, L x⟩) Inv μ, μ x₀, _, by rw [h0]; exact St.le_refl _, ⟨x₀, rfl, hi, rfl⟩, fun s m ⟨x, h1, h2, h3⟩ => by subst h1; subst h3; exact hstep x h2⟩

theorem loop_back {σ : Type} {J : σ → St} {Inv : σ → Prop} {μ : σ → Nat} {m : Nat} {s : St} (x : σ) (h : s = J x) (hi : Inv x) (hm : μ x < m) : LB (LI J Inv μ) m s :=
  ⟨J x, μ x, by rw [h]; exact St.le_refl _, ⟨x, rfl, hi, rfl⟩, hm⟩

/-- .. where more is known at the loop's end than at its head -/
theorem loop_less {σ : Type} {J : σ → St} {Inv : σ → Prop} {μ : σ → Nat} {m : Nat} {s : St} (x : σ) (h : St.le s (J x)) (hi : Inv x) (hm : μ x < m) : LB (LI J Inv μ) m s :=
  ⟨J x, μ x, h, ⟨x, rfl, hi, rfl⟩, hm⟩

section
variable {P : Program} {t : TypeId} {row : List D}
theorem HasTy.bool_inv (h : HasTy P t row) (hu : P.underlying t = some .bool) : ∃ b, row = [.bool b] := by
  cases h with
  | bool b _ => exact ⟨b, rfl⟩
  | int _ h1 => rw [hu] at h1; cases h1
  | str _ h1 => rw [hu] at h1; cases h1
  | sl _ h1 => rw [hu] at h1; cases h1
  | st _ h1 => rw [hu] at h1; cases h1
theorem HasTy.int_inv {k : IntKind} (h : HasTy P t row) (hu : P.underlying t = some (.int k)) : ∃ n, row = [.int k n] ∧ inR k n := by
  cases h with
  | bool b h1 => rw [hu] at h1; cases h1
  | int n h1 h2 => rw [hu] at h1; cases h1; exact ⟨n, rfl, h2⟩
  | str _ h1 => rw [hu] at h1; cases h1
  | sl _ h1 => rw [hu] at h1; cases h1
  | st _ h1 => rw [hu] at h1; cases h1
theorem HasTy.str_inv (h : HasTy P t row) (hu : P.underlying t = some .string) : ∃ s, row = [.str s] ∧ s.length ≤ reachBytes := by
  cases h with
  | bool b h1 => rw [hu] at h1; cases h1
  | int _ h1 => rw [hu] at h1; cases h1
  | str s h1 h2 => exact ⟨s, rfl, h2⟩
  | sl _ h1 => rw [hu] at h1; cases h1
  | st _ h1 => rw [hu] at h1; cases h1
theorem HasTy.sl_inv {e : TypeId} (h : HasTy P t row) (hu : P.underlying t = some (.slice e)) :
    ∃ rows, row = [.sl rows] ∧ rows.length * P.bytesOf e ≤ reachBytes ∧ (∀ r ∈ rows, r.length = P.cellsOf e) ∧ ∀ r ∈ rows, HasTy P e r := by
  cases h with
  | bool b h1 => rw [hu] at h1; cases h1
  | int _ h1 => rw [hu] at h1; cases h1
  | str _ h1 => rw [hu] at h1; cases h1
  | sl rows h1 h2 h3 h4 => rw [hu] at h1; cases h1; exact ⟨rows, rfl, h2, h3, h4⟩
  | st _ h1 => rw [hu] at h1; cases h1
theorem HasTys.cons {ts : List TypeId} {rows : List (List D)} (h : HasTys P (t :: ts) rows) : ∃ r rs, rows = r :: rs ∧ HasTy P t r ∧ HasTys P ts rs := by
  match rows, h with
  | r :: rs, ⟨h1, h2⟩ => exact ⟨r, rs, rfl, h1, h2⟩
theorem HasTys.nil {rows : List (List D)} (h : HasTys P [] rows) : rows = [] := by
  match rows, h with
  | [], _ => rfl
end

/-- short forms of steps and numbers, for codes that are printed -/
def oa (d s : Nat) : Step := ⟨some d, .mv (.t s), none⟩
def oc (d : Nat) (p : AOp) : Step := ⟨some d, p, none⟩
def ki (n : Int) : Opd := .k (.c (.d (.int .i64 n)))
end Go.AM
