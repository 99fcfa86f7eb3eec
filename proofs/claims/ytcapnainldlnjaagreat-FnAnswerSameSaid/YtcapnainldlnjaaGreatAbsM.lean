/-
  The abstract machine: code and functions: what is shown of the machine holds of the call.
  Conditions: none.
-/
import Derived.Test.YtcapnainldlnjaaGreatAbsL
namespace Go.AM
set_option linter.unusedVariables false
set_option linter.unusedSimpArgs false

/-! ### code -/

def lookKill (kl : List (Nat × List Nat × List Nat)) (id : Nat) : List Nat × List Nat :=
  match kl with
  | [] => ([], [])
  | (i, l) :: r => if i = id then l else lookKill r id

/-- steps in another order -/
def permute (ord : List Nat) (steps : List Step) : Option (List Step) :=
  match ord with
  | [] => some []
  | i :: l => match steps[i]?, permute l steps with
    | some s, some r => some (s :: r)
    | _, _ => none

def regCode (P : Program) (toks : List FuncId) (kl : List (Nat × List Nat × List Nat)) (id : Nat) (ops : Array Oper) (draw : Bool) : Option Cd :=
  match cSteps P toks ops ops.toList with
  | some s => if draw then (match permute (lookKill kl id).2 s with
      | some s' => if drawOk ops (lookKill kl id).2 s' && P.follows .mixedOrders then some (.region s' (lookKill kl id).1) else none
      | none => none) else some (.region s (lookKill kl id).1)
  | none => none

def cCode (P : Program) (toks : List FuncId) (kl : List (Nat × List Nat × List Nat)) : Code → Option Cd
  | .skip => some .skip
  | .region id ops draw => (regCode P toks kl id ops draw).map fun d => if toks.contains (id + weakBase) then .weak d else d
  | .seq x y => match cCode P toks kl x, cCode P toks kl y with
    | some a, some b => some (.seq a b)
    | _, _ => none
  | .cond c x y => match cOpd c, cCode P toks kl x, cCode P toks kl y with
    | some c, some a, some b => some (.cond c a b)
    | _, _, _ => none
  | .block id c => (cCode P toks kl c).map (.block id)
  | .loop c => (cCode P toks kl c).map .loop
  | .exit id => some (.exit id)
  | .ret => some .ret
  | _ => none

/-- exits of the model, told -/
def ExQ (q : Ex → St → Prop) (w₀ : World) (ι₀ : List K) (n : Nat) : Exit → Act → World → Prop
  | .normal, a, w => ∃ ι st, q .normal st ∧ SimSt w ι st a ∧ Ext w₀ ι₀ w ι ∧ st.ext.length = n
  | .exit i, a, w => ∃ ι st, q (.exit i) st ∧ SimSt w ι st a ∧ Ext w₀ ι₀ w ι ∧ st.ext.length = n
  | .ret, a, w => ∃ ι st, q .ret st ∧ SimSt w ι st a ∧ Ext w₀ ι₀ w ι ∧ st.ext.length = n
  | _, _, _ => False

theorem wp_loop_rel {P : Program} {c : Code} {Q : Exit → Act → World → Prop} (R : Nat → Act → World → Prop) {m : Nat} {a : Act} {w : World} (h₀ : R m a w)
    (round : ∀ m a w, R m a w → c.wp P (Exit.then (fun a' w' => ∃ m', m' < m ∧ R m' a' w') Q) a w) : (Code.loop c).wp P Q a w := by
  intro b k cs
  have key : ∀ n a w, R n a w →
      ∃ e a' w', Q e a' w' ∧ Arrives P (lone (b.at a (.code c :: .inLoop c :: k)) cs w) b k cs e a' w' := by
    intro n
    induction n using Nat.strongRecOn with
    | _ n ih =>
      intro a w hI
      obtain ⟨e, a₁, w₁, hq, harr⟩ := round n a w hI b (.inLoop c :: k) cs
      cases e with
      | normal =>
        obtain ⟨m', hlt, hI₁⟩ := hq
        obtain ⟨e₂, a₂, w₂, hq₂, harr₂⟩ := ih m' hlt a₁ w₁ hI₁
        exact ⟨e₂, a₂, w₂, hq₂, .of_steps (Steps.trans harr (.one step_inLoop)) harr₂⟩
      | exit id => exact ⟨_, a₁, w₁, hq, .pass (x := .inLoop c) rfl (fun _ _ => .inl (by simp)) harr⟩
      | goto l => exact ⟨_, a₁, w₁, hq, .pass (x := .inLoop c) rfl (fun _ _ => .inl (by simp)) harr⟩
      | ret => exact ⟨_, a₁, w₁, hq, .pass (x := .inLoop c) rfl (fun _ _ => .inl (by simp)) harr⟩
      | panic ch => exact ⟨_, a₁, w₁, hq, .pass (x := .inLoop c) rfl (fun _ _ => .inl (by simp)) harr⟩
      | outgrown => exact ⟨_, a₁, w₁, hq, .pass (x := .inLoop c) rfl (fun _ _ => .inl (by simp)) harr⟩
  obtain ⟨e, a', w', hq, harr⟩ := key _ a w h₀
  exact ⟨e, a', w', hq, .of_steps (.one step_loop) harr⟩

theorem permute_get {steps : List Step} : ∀ {ord : List Nat} {s' : List Step}, permute ord steps = some s' → s'.length = ord.length ∧ ∀ p, p < ord.length → s'[p]? = steps[ord.getD p 0]?
  | [], s', h => by simp [permute] at h; subst h; exact ⟨rfl, fun p hp => by simp at hp⟩
  | i :: l, s', h => by
    simp only [permute] at h
    split at h
    · rename_i s r h1 h2
      cases h
      obtain ⟨h3, h4⟩ := permute_get h2
      refine ⟨by simp [h3], fun p hp => ?_⟩
      match p with
      | 0 => simp [h1]
      | p + 1 => simpa using h4 p (by simpa using hp)
    · cases h

theorem code_wp {P : Program} {toks : List FuncId} {kl : List (Nat × List Nat × List Nat)} {w₀ : World} {ι₀ : List K} {n : Nat} (hι₀ : ι₀.length ≤ n) : ∀ (c : Code) (d : Cd) (q : Ex → St → Prop) (w : World) (ι : List K) (st : St) (a : Act), cCode P toks kl c = some d →
    SimSt w ι st a → Ext w₀ ι₀ w ι → st.ext.length = n → aw P d q st → c.wp P (ExQ q w₀ ι₀ n) a w := by
  intro c
  induction c with
  | skip =>
    intro d q w ι st a hc hs hx hn h
    simp [cCode] at hc; subst hc
    exact wp_skip ⟨ι, st, h, hs, hx, hn⟩
  | region id ops draw =>
    intro d q w ι st a hc hs hx hn h
    simp only [cCode, Option.map_eq_some_iff] at hc
    obtain ⟨d', hc, rfl⟩ := hc
    have key : ∀ (ι : List K) (st : St), SimSt w ι st a → Ext w₀ ι₀ w ι → st.ext.length = n → aw P d' q st → (Code.region id ops draw).wp P (ExQ q w₀ ι₀ n) a w := by
      clear h hs hx hn
      intro ι st hs hx hn h
      unfold regCode at hc
      split at hc
      · rename_i steps h1
        split at hc
        · rename_i hdr
          split at hc
          · rename_i s' hperm
            split at hc
            · rename_i hok
              cases hc
              simp only [Bool.and_eq_true] at hok
              have hdr : draw = true := by simpa using hdr
              subst hdr
              refine wp_region_any hok.2 ?_
              have hd := drawOk_spec hok.1
              obtain ⟨hsl, hsg⟩ := cSteps_get h1
              obtain ⟨hpl, hpg⟩ := permute_get hperm
              have hno : ∀ i, ¬ LstP (lookKill kl id).2 (Array.replicate ops.size false) i := fun i => by
                rintro ⟨_, h⟩
                revert h
                generalize (lookKill kl id).2.getD i 0 = i
                unfold Lst
                simp only [Array.getD_eq_getD_getElem?]
                rcases Nat.lt_or_ge i ops.size with h | h
                · rw [Array.getElem?_eq_getElem (by simpa using h)]; simp
                · rw [Array.getElem?_eq_none (by simpa using h)]; simp
              refine any_wp (w₀ := w₀) (ι₀ := ι₀) (n := n) hd (toks := toks) (fun p o hp ho => ?_) (q := q .normal) (kill := (lookKill kl id).1) (fun w ι st a h1 h2 h3 h4 => ⟨ι, st, h1, h2, h3, h4⟩) _ _ _ ι st a
                (place_next (c := 0) (V := fun _ => .u) (τ := fun _ => st.sl) (σ := st.sl) hd (by omega) (by simp [hd.size]) (fun j _ hj => absurd hj (hno j)) (fun i hi => by omega) (fun i _ => hno i) (by rw [List.drop_zero]; exact h) rfl
                  (fun i hi => by omega) (fun i s hi => by omega) ⟨rfl, fun t => ⟨fun i hi => by omega, fun _ => rfl⟩⟩) (hs.drewN _) (hx.trans (Ext.drewN w ι _)) hn ?_
              · obtain ⟨s, h3, h4⟩ := hsg ((lookKill kl id).2.getD p 0) o (by simpa using ho)
                exact ⟨s, by rw [hpg p (by omega), h3], h4⟩
              · unfold cnt
                rw [← hd.size]
                exact Nat.le_trans List.countP_le_length (by simp)
            · cases hc
          · cases hc
        · rename_i hd
          cases hc
          have hd : draw = false := by simpa using hd
          subst hd
          refine wp_region ?_
          have := region_wp (P := P) (toks := toks) (ops := ops) (Q := ExQ q w₀ ι₀ n) (q := q .normal) (w₀ := w₀) (ι₀ := ι₀) (n := n) (kill := (lookKill kl id).1) (fun w ι st a h1 h2 h3 h4 => ⟨ι, st, h1, h2, h3, h4⟩) ops.toList 0 steps w ι st a (by simp) h1 hs hx hn h
          rw [List.range_eq_range']
          simpa using this
      · cases hc
    split at h
    · obtain ⟨X, hle, h⟩ := h
      obtain ⟨st', hX, hl', ι', hs', hx'⟩ := hle w ι a hs
      exact key ι' st' hs' (hx' _ _ (by rw [hn]; exact hι₀) hx) (hl'.trans hn) (h st' hX)
    · exact key ι st hs hx hn h
  | seq x y ihx ihy =>
    intro d q w ι st a hc hs hx hn h
    simp only [cCode] at hc
    split at hc
    · rename_i dx dy h1 h2
      cases hc
      refine wp_seq (wp_mono (ihx dx _ w ι st a h1 hs hx hn h) ?_)
      intro e a' w' he
      cases e with
      | normal =>
        obtain ⟨ι', st', h3, h4, h5, h6⟩ := he
        exact ihy dy q w' ι' st' a' h2 h4 h5 h6 h3
      | exit i => exact he
      | ret => exact he
      | goto l => exact he.elim
      | panic c => exact he.elim
      | outgrown => exact he.elim
    · cases hc
  | cond c x y ihx ihy =>
    intro d q w ι st a hc hs hx hn h
    simp only [cCode] at hc
    split at hc
    · rename_i c' dx dy h1 h2 h3
      cases hc
      simp only [aw] at h
      split at h
      · rename_i t ht
        obtain ⟨h4, h5, h6⟩ := h
        have hcv := val_ra hs h1 h4
        have hb : (c'.ev st.sl).val = .c (.d (.bool t)) := by
          unfold g_ at ht; split at ht
          · cases ht; assumption
          · cases ht
        rw [hb] at hcv
        refine wp_cond_split (t := t) hcv.bool_inv (fun e => ihx dx q w ι st a h2 hs hx hn (h5 e)) (fun e => ihy dy q w ι st a h3 hs hx hn (h6 e))
      · exact h.elim
    · cases hc
  | block id c ih =>
    intro d q w ι st a hc hs hx hn h
    simp only [cCode, Option.map_eq_some_iff] at hc
    obtain ⟨dc, h1, rfl⟩ := hc
    refine wp_block (wp_mono (ih dc _ w ι st a h1 hs hx hn h) ?_)
    intro e a' w' he
    cases e with
    | normal => exact he
    | exit i =>
      obtain ⟨ι', st', h3, h4, h5, h6⟩ := he
      simp only [Exit.inBlock]
      split
      · rename_i e; subst e
        simp only [↓reduceIte] at h3
        exact ⟨ι', st', h3, h4, h5, h6⟩
      · rename_i hne
        simp only [hne, ↓reduceIte] at h3
        exact ⟨ι', st', h3, h4, h5, h6⟩
    | ret => exact he
    | goto l => exact he.elim
    | panic c => exact he.elim
    | outgrown => exact he.elim
  | loop c ih =>
    intro d q w ι st a hc hs hx hn h
    simp only [cCode, Option.map_eq_some_iff] at hc
    obtain ⟨dc, h1, rfl⟩ := hc
    obtain ⟨I, m₀, s₀, hle, hI, hb⟩ := h
    obtain ⟨ι', hs', hx'⟩ := hle.2 w ι a hs
    refine wp_loop_rel (fun m a w => ∃ ι s, I s m ∧ SimSt w ι s a ∧ Ext w₀ ι₀ w ι ∧ s.ext.length = n) (m := m₀) ⟨ι', s₀, hI, hs', hx' _ _ (by rw [hn]; exact hι₀) hx, hle.1.trans hn⟩ ?_
    rintro m a w ⟨ι, s, hI, hs, hx, hn⟩
    refine wp_mono (ih dc _ w ι s a h1 hs hx hn (hb s m hI)) ?_
    intro e a' w' he
    cases e with
    | normal =>
      obtain ⟨ι1, s1, ⟨s2, m', h2, h3, h4⟩, h5, h6, h7⟩ := he
      obtain ⟨ι2, h8, h9⟩ := h2.2 w' ι1 a' h5
      exact ⟨m', h4, ι2, s2, h3, h8, h9 _ _ (by rw [h7]; exact hι₀) h6, h2.1.trans h7⟩
    | exit i => exact he
    | ret => exact he
    | goto l => exact he.elim
    | panic c => exact he.elim
    | outgrown => exact he.elim
  | exit id =>
    intro d q w ι st a hc hs hx hn h
    simp [cCode] at hc; subst hc
    exact wp_exit ⟨ι, st, h, hs, hx, hn⟩
  | ret =>
    intro d q w ι st a hc hs hx hn h
    simp [cCode] at hc; subst hc
    exact wp_ret ⟨ι, st, h, hs, hx, hn⟩
  | _ => intro d q w ι st a hc; simp [cCode] at hc


/-! ### functions -/

def cRv (P : Program) : ResultVar → Option Rv
  | .tmp t => some (.tmp t)
  | .cell a t => (aggOf P t).map fun n => .cell a n
def cRvs (P : Program) : List ResultVar → Option (List Rv)
  | [] => some []
  | r :: l => match cRv P r, cRvs P l with
    | some x, some y => some (x :: y)
    | _, _ => none

theorem drop_K {ι : List K} {n i : Nat} {k : K} (h : ι[i]? = some k) (hi : i < n) : (ι.take n)[i]? = some k := by
  rw [List.getElem?_take, if_pos hi]; exact h

/-- the objects behind are let go -/
theorem Ext.take {w : World} {ι : List K} (n : Nat) (m : Nat) (hm : ι.length = m) : ∀ b o, Safe w ι b o → Safe w (ι.take n) b o ∧ w.cell? ⟨b, o, none⟩ = w.cell? ⟨b, o, none⟩ :=
  fun b o h => ⟨⟨h.1, fun k hk => h.2 k (List.mem_of_mem_take hk)⟩, rfl⟩

theorem RC_take {w : World} {ι : List K} {n q : Nat} {c : C} {v : Value} (hf : c.fits n 0) (h : RC w ι n c v) : RC w (ι.take n) n c v := by
  have hs := Ext.take (w := w) (ι := ι) n _ rfl
  have hi : ∀ {r : Ref}, r.fits n 0 → idx n r < n := fun {r} hr => by
    cases r with
    | e b => simpa [idx, Ref.fits] using hr
    | l i => exact absurd hr (Nat.not_lt_zero i)
  cases h with
  | d h => exact .d (h.mono hs)
  | ptr h => exact .ptr (drop_K h (hi hf))
  | el h => exact .el (h.mono hs)
  | own h1 h2 => obtain ⟨q, p, h3, h4, h5⟩ := h2; exact .own (h1.mono hs) ⟨q, p, drop_K h3 (hi hf), h4, h5⟩
  | full h => exact .full (h.mono hs)
  | fsl h h' => exact .fsl (drop_K h (hi hf)) h'
  | psl h h1 h2 h3 => exact .psl (drop_K h (hi hf)) h1 h2 h3
  | csl h h1 h2 h3 => exact .csl (drop_K h (hi hf)) h1 h2 h3
  | rel h => exact .rel (drop_K h (hi hf))
  | map h => exact .map (drop_K h (hi hf))
  | fn h1 h2 =>
    refine .fn h1 fun i r o hio => ?_
    obtain ⟨b, h3, h4⟩ := h2 i r o hio
    exact ⟨b, drop_K h3 (hi (hf (r, o) (List.mem_of_getElem? hio))), h4⟩
  | u h => exact .u h

theorem RO_take {w : World} {ι : List K} {n : Nat} {o : Ob} {k : K} (hf : o.fits n 0) (h : RO w ι n o k) : RO w (ι.take n) n o k := by
  have hs := Ext.take (w := w) (ι := ι) n _ rfl
  match o, k, h with
  | .cells cs, .blk b, ⟨vs, el, h1, h2⟩ => exact ⟨vs, el, h1, h2.1, fun i c v hc hv => RC_take (q := n) (Cs_fits_get hf hc) (h2.2 i c v hc hv)⟩
  | .rows rs, .rows b sz _, ⟨vs, el, h1, h2, h3, h4⟩ => exact ⟨vs, el, h1, h2, h3, fun i r hi => ⟨(h4 i r hi).1, fun j x hj => let ⟨y, p, q⟩ := (h4 i r hi).2 j x hj; ⟨y, p, q.mono hs⟩⟩⟩
  | .grow p s, .grow q none, h => exact h
  | .grow p s, .grow q (some _), h => exact h
  | .map m, .blk b, ⟨es, clock, h1, h2, h3, h4⟩ =>
    refine ⟨es, clock, h1, h2, h3, fun i k row e hi he => ?_⟩
    obtain ⟨a1, a2, a3⟩ := h4 i k row e hi he
    refine ⟨a1, a2, ?_⟩
    rcases a3 with ⟨x, v, p, q, r⟩ | ⟨vs, p, q, r⟩
    · exact .inl ⟨x, v, p, q, r.mono hs⟩
    · exact .inr ⟨vs, p, q, fun j x y a b => (r j x y a b).mono hs⟩
  | .tree v d, .tree B, h => exact h
  | .tab g o, .grow q (some _), h => exact h
  | .dead, k, _ => cases k <;> trivial

theorem RA_take {w : World} {ι : List K} {n : Nat} {x : A} {v : Value} (h : RA w ι n x v) : x.fits n 0 → RA w (ι.take n) n x v := by
  induction h with
  | u => exact fun _ => .u
  | c h => exact fun hf => .c (RC_take (q := n) hf h)
  | agg h => exact fun hf => .agg ⟨h.1, fun i c v hc hv => RC_take (q := n) (Cs_fits_get hf hc) (h.2 i c v hc hv)⟩
  | @tup as vs h1 h2 ih =>
    intro hf
    refine .tup h1 fun i x v hx hv => ih i x v hx hv ?_
    have : ∀ (l : List A) (i : Nat) x, As.fits n 0 l → l[i]? = some x → x.fits n 0 := by
      intro l
      induction l with
      | nil => intro i x _ h; simp at h
      | cons y l ih2 =>
        intro i x hf hx
        cases i with
        | zero => simp at hx; subst hx; exact hf.1
        | succ i => exact ih2 i x hf.2 (by simpa using hx)
    exact this as i x hf hx
  | gd h1 h2 ih => exact fun hf => .gd (fun g => ih g hf) h2

/-- what is read of a state when its own objects are let go -/
theorem thawC_ra {w : World} {ι : List K} {st : St} {a : Act} (hs : SimSt w ι st a) {c : C} {v : Value} (h : RC w ι st.ext.length c v) (hf : (c.thaw st).fits st.ext.length 0) : RC w (ι.take st.ext.length) st.ext.length (c.thaw st) v := by
  have hsafe := Ext.take (w := w) (ι := ι) st.ext.length _ rfl
  cases h with
  | @own r pos rows _ h1 h2 =>
    cases r with
    | e b => exact RC_take (q := 0) hf (.own h1 h2)
    | l i => exact .d (h1.mono hsafe)
  | full h1 => exact .d (h1.mono hsafe)
  | @fsl r len b sz cap hk hcap =>
    cases r with
    | e b => exact RC_take (q := 0) hf (.fsl hk hcap)
    | l i =>
      simp only [C.thaw]
      split
      · rename_i rs hg
        obtain ⟨hh, _⟩ := getOb_heap (st := st) (r := .l i) hg (by simp)
        obtain ⟨vs, el, h3, h4, ⟨h5, h5'⟩, h6⟩ := hs.sim.obj _ _ _ hh hk
        subst h5'
        refine .d (RD.sl_iff.2 (.inr ⟨b, 0, sz, rfl, rfl, hcap, h5, fun i r hi => ⟨(h6 i r hi).1, fun j x hj => ?_⟩⟩))
        obtain ⟨y, p, q⟩ := (h6 i r hi).2 j x hj
        refine ⟨y, by simp [World.cell?, h3, p], ⟨(Array.getElem?_eq_some_iff.1 h3).1, fun k hk' ho => ?_⟩, q.mono hsafe⟩
        obtain ⟨i', hi'⟩ := List.mem_iff_getElem?.1 hk'
        have hlt : i' < st.ext.length := by
          have := (List.getElem?_eq_some_iff.1 hi').1
          simp at this; omega
        rw [List.getElem?_take, if_pos hlt] at hi'
        have := hs.sim.apart _ _ _ k b hk hi' rfl (K.at_of_owns ho)
        simp [idx] at this
        omega
      · exact .u rfl
  | @psl r lo m b sz len off cap hk hlo hcap hoff =>
    cases r with
    | e b => exact RC_take (q := 0) hf (.psl hk hlo hcap hoff)
    | l i =>
      simp only [C.thaw]
      split
      · rename_i rs hg
        obtain ⟨hh, _⟩ := getOb_heap (st := st) (r := .l i) hg (by simp)
        obtain ⟨vs, el, h3, h4, ⟨h5, h5'⟩, h6⟩ := hs.sim.obj _ _ _ hh hk
        subst h5'
        have hml : m = ((rs.drop lo).take m).length := by simp; omega
        refine .d (RD.sl_iff.2 (.inr ⟨b, off, sz, rfl, hml, by omega, by omega, fun i r hi => ?_⟩))
        have him : i < m := by have := (List.getElem?_eq_some_iff.1 hi).1; omega
        have hi : rs[lo + i]? = some r := by rw [List.getElem?_take, if_pos him, List.getElem?_drop] at hi; exact hi
        refine ⟨(h6 _ r hi).1, fun j x hj => ?_⟩
        obtain ⟨y, p, q⟩ := (h6 _ r hi).2 j x hj
        have hpl : off + i * sz + j = (lo + i) * sz + j := by rw [hoff (by omega), Nat.add_mul]
        rw [hpl]
        refine ⟨y, by simp [World.cell?, h3, p], ⟨(Array.getElem?_eq_some_iff.1 h3).1, fun k hk' ho => ?_⟩, q.mono hsafe⟩
        obtain ⟨i', hi'⟩ := List.mem_iff_getElem?.1 hk'
        have hlt : i' < st.ext.length := by
          have := (List.getElem?_eq_some_iff.1 hi').1
          simp at this; omega
        rw [List.getElem?_take, if_pos hlt] at hi'
        have := hs.sim.apart _ _ _ k b hk hi' rfl (K.at_of_owns ho)
        simp [idx] at this
        omega
      · exact .u rfl
  | d h1 => exact RC_take (q := 0) hf (.d h1)
  | ptr h1 => exact RC_take (q := 0) hf (.ptr h1)
  | el h1 => exact RC_take (q := 0) hf (.el h1)
  | rel h1 => exact RC_take (q := 0) hf (.rel h1)
  | csl h1 h2 h3 h4 => exact RC_take (q := 0) hf (.csl h1 h2 h3 h4)
  | map h1 => exact RC_take (q := 0) hf (.map h1)
  | fn h1 h2 => exact RC_take (q := 0) hf (.fn h1 h2)
  | u h1 => exact .u h1


theorem thawA_ra {w : World} {ι : List K} {st : St} {a : Act} (hs : SimSt w ι st a) {x : A} {v : Value} (h : RA w ι st.ext.length x v) (hf : (x.thaw st).fits st.ext.length 0) : RA w (ι.take st.ext.length) st.ext.length (x.thaw st) v := by
  cases h with
  | u => exact .u
  | c h => exact .c (thawC_ra hs h hf)
  | @agg cs vs h =>
    refine .agg ⟨by simp [h.1], fun i c v hc hv => ?_⟩
    have hfc := Cs_fits_get hf hc
    simp only [List.getElem?_map, Option.map_eq_some_iff] at hc
    obtain ⟨c', h1, rfl⟩ := hc
    exact thawC_ra hs (h.2 i c' v h1 hv) hfc
  | tup h1 h2 => exact RA_take (.tup h1 h2) hf
  | gd h1 h2 => exact RA_take (.gd h1 h2) hf

/-- one result, as the model reads it -/
def oneRv (tmps : Array Value) : ResultVar → Sem Value
  | .tmp t => pure (tmps.getD t undef)
  | .cell b t => do loadVar t (← asAddr (tmps.getD b undef))

theorem results_eq (fn : Func) (tmps : Array Value) : results fn tmps = (do let vs ← fn.results.mapM (oneRv tmps); pure (if h : vs.size = 1 then vs[0] else .tuple vs)) := by
  unfold results
  congr 1

theorem resOne_ra {P : Program} {w : World} {ι : List K} {st : St} {a : Act} (hs : SimSt w ι st a) {rv : ResultVar} {r : Rv} {x : A} (hc : cRv P rv = some r) (hok : s_ st r) (hr : v_ st r = some x) (hf : x.fits st.ext.length 0) :
    ∃ v, (oneRv a.tmps rv).run P w = .ok v w ∧ RA w (ι.take st.ext.length) st.ext.length x v := by
  cases rv with
  | tmp t =>
    simp only [cRv, Option.some.injEq] at hc
    subst hc
    simp only [v_, Option.some.injEq] at hr
    subst hr
    exact ⟨_, rfl, thawA_ra hs ((hs.eval t).val hok) hf⟩
  | cell b t =>
    simp only [cRv, Option.map_eq_some_iff] at hc
    obtain ⟨n, h1, rfl⟩ := hc
    simp only [v_] at hr
    split at hr
    · rename_i p hp
      simp only [Option.map_eq_some_iff] at hr
      obtain ⟨y, h2, rfl⟩ := hr
      have hv := (hs.eval b).val hok
      rw [hp] at hv
      obtain ⟨ad, z, h3, h4, h5⟩ := load_ra (P := P) h1 hs hv.c_inv h2
      have h3' : a.tmps.getD b undef = .pointer (some ad) := h3
      exact ⟨z, by simp [oneRv, h3', asAddr, h4], thawA_ra hs h5 hf⟩
    · cases hr

theorem resList_ra {P : Program} {w : World} {ι : List K} {st : St} {a : Act} (hs : SimSt w ι st a) : ∀ {l : List ResultVar} {rs : List Rv} {xs : List A}, cRvs P l = some rs → r_ st rs → u_ st rs = some xs → As.fits st.ext.length 0 xs →
    ∃ vs : List Value, (l.mapM (oneRv a.tmps)).run P w = .ok vs w ∧ vs.length = xs.length ∧
      ∀ (i : Nat) x v, xs[i]? = some x → vs[i]? = some v → RA w (ι.take st.ext.length) st.ext.length x v
  | [], rs, xs, hc, _, hr, _ => by
    simp [cRvs] at hc
    subst hc
    simp [u_] at hr
    subst hr
    exact ⟨[], by simp, rfl, fun i x v h => by simp at h⟩
  | rv :: l, rs, xs, hc, hok, hr, hf => by
    simp only [cRvs] at hc
    split at hc
    · rename_i r rs' h1 h2
      cases hc
      simp only [r_] at hok
      simp only [u_] at hr
      split at hr
      · rename_i x xs' h3 h4
        cases hr
        obtain ⟨v, h5, h6⟩ := resOne_ra (P := P) hs h1 hok.1 h3 hf.1
        obtain ⟨vs, h7, h8, h9⟩ := resList_ra hs h2 hok.2 h4 hf.2
        refine ⟨v :: vs, ?_, by simp [h8], fun i y u hy hu => ?_⟩
        · simp only [List.mapM_cons, Sem.run_bind, h5, Result.andThen_ok, h7, Sem.run_pure]
        · cases i with
          | zero => simp at hy hu; subst hy; subst hu; exact h6
          | succ i => simp at hy hu; exact h9 i y u hy hu
      · cases hr
    · cases hc

theorem sim_fits {w : World} {ι : List K} {H : Heap} (hsim : Sim w ι H.length H) : Obs.fits H.length 0 H := by
  have key : ∀ (l : List Ob), (∀ o ∈ l, ∃ k, RO w ι H.length o k) → Obs.fits H.length 0 l := by
    intro l
    induction l with
    | nil => intro _; trivial
    | cons o l ih =>
      intro h
      refine ⟨?_, ih fun o ho => h o (List.mem_cons_of_mem _ ho)⟩
      obtain ⟨k, hk⟩ := h o (List.mem_cons_self ..)
      cases o with
      | cells cs =>
        cases k with
        | blk b =>
          obtain ⟨vs, el, h1, h2⟩ := hk
          have hi : ∀ {r : Ref} {k : K}, ι[idx H.length r]? = some k → r.fits H.length 0 := fun {r k} hr => by
            have := (List.getElem?_eq_some_iff.1 hr).1
            rw [hsim.len] at this
            cases r with
            | e b => simpa [idx, Ref.fits] using this
            | l i => simp only [idx] at this; omega
          have key2 : ∀ (l : List C), (∀ c ∈ l, ∃ v, RC w ι H.length c v) → Cs.fits H.length 0 l := by
            intro l
            induction l with
            | nil => intro _; trivial
            | cons c l ih2 =>
              intro h
              refine ⟨?_, ih2 fun c hc => h c (List.mem_cons_of_mem _ hc)⟩
              obtain ⟨v, hv⟩ := h c (List.mem_cons_self ..)
              cases hv with
              | ptr g => exact hi g
              | own _ g => obtain ⟨_, _, g, _⟩ := g; exact hi g
              | fsl g _ => exact hi g
              | psl g _ _ _ => exact hi g
              | csl g _ _ _ => exact hi g
              | rel g => exact hi g
              | map g => exact hi g
              | fn h1 h2 =>
                rintro ⟨r, o⟩ hx
                obtain ⟨i, hio⟩ := List.mem_iff_getElem?.1 hx
                obtain ⟨b, h3, _⟩ := h2 i r o hio
                exact hi h3
              | _ => trivial
          refine key2 cs fun c hc => ?_
          obtain ⟨i, hic⟩ := List.mem_iff_getElem?.1 hc
          have hlt : i < vs.toList.length := by rw [h2.1]; exact (List.getElem?_eq_some_iff.1 hic).1
          exact ⟨_, h2.2 i c _ hic (List.getElem?_eq_getElem hlt)⟩
        | _ => exact hk.elim
      | _ => trivial
  refine key H fun o ho => ?_
  obtain ⟨i, hio⟩ := List.mem_iff_getElem?.1 ho
  have hlt : i < ι.length := by rw [hsim.len]; exact (List.getElem?_eq_some_iff.1 hio).1
  exact ⟨_, hsim.obj i o _ hio (List.getElem?_eq_getElem hlt)⟩

/-- what the results of a run are -/
def EndOk (P : Program) (fn : Func) (Q : A → Heap → Prop) (H : Heap) (w : World) (ι : List K) (w' : World) (a' : Act) : Prop :=
  a'.defers = [] ∧ ∃ v, (results fn a'.tmps).run P w' = .ok v w' ∧ ∃ r H' ι' v', Ending.returned v = .returned v' ∧ Q r H' ∧ Sim w' ι' H'.length H' ∧ RA w' ι' H'.length r v' ∧ Ext w ι w' ι' ∧ H.length ≤ H'.length

/-- what is shown of the machine holds of the call -/
theorem acalls_of_run {P : Program} {f : FuncId} {fn : Func} {c : Code} {d : Cd} {args : List A} {H : Heap} {Q : A → Heap → Prop} (toks : List FuncId) (kl : List (Nat × List Nat × List Nat))
    (hf : P.funcs[f]? = some fn) (hb : fn.body = some c) (hname : fn.name ≠ "runtime.NumGoroutine") (hc : cCode P toks kl c = some d) {FQ : Ex → St → Prop}
    (hx : ∀ i st, ¬ FQ (.exit i) st) (hfin : ∀ e w ι w' ι' st a', (e = .normal ∨ e = .ret) → FQ e st → SimSt w' ι' st a' → Ext w ι w' ι' → st.ext.length = H.length → Sim w ι H.length H → EndOk P fn Q H w ι w' a')
    (h : Obs.fits H.length 0 H → aw P d FQ ⟨args ++ List.replicate (fn.ntmps - args.length) .u, H, []⟩) : ACalls P f args H Q := by
  refine ⟨⟨fn, hf, by simp [hb], hname⟩, fun w ι cargs hsim hl ha => ?_⟩
  refine calls_of_wp hf hb ?_
  have hfit : Obs.fits H.length 0 H := sim_fits hsim
  have hs0 : SimSt w ι ⟨args ++ List.replicate (fn.ntmps - args.length) .u, H, []⟩ { tmps := cargs.toArray ++ Array.replicate (fn.ntmps - cargs.toArray.size) undef, defers := [] } := by
    refine ⟨by simpa using hsim, by simp [hl], fun i x v hx hv => ?_, hfit, rfl⟩
    simp only [List.getElem?_append] at hx
    split at hx
    · rename_i hi
      have hi' : i < cargs.toArray.size := by simpa [hl] using hi
      rw [Array.getElem?_append_left hi'] at hv
      exact ha i x v hx (by simpa using hv)
    · rw [List.getElem?_replicate] at hx
      split at hx
      · cases hx; exact .u
      · cases hx
  refine wp_mono (code_wp (P := P) (w₀ := w) (ι₀ := ι) (n := H.length) (by rw [hsim.len]; exact Nat.le_refl _) c d FQ w ι _ _ hc hs0 (.refl _ _) rfl (h hfit)) ?_
  intro e a' w' he
  cases e with
  | normal =>
    obtain ⟨ι', st, h1, h2, h3, h4⟩ := he
    exact hfin _ _ _ _ _ _ _ (.inl rfl) h1 h2 h3 h4 hsim
  | ret =>
    obtain ⟨ι', st, h1, h2, h3, h4⟩ := he
    exact hfin _ _ _ _ _ _ _ (.inr rfl) h1 h2 h3 h4 hsim
  | exit i => obtain ⟨ι', st, h1, _⟩ := he; exact (hx i st h1).elim
  | goto l => exact he.elim
  | panic c => exact he.elim
  | outgrown => exact he.elim

/-- WHAT IS SHOWN OF THE MACHINE HOLDS OF THE CALL: a function that keeps none of its own objects -/
theorem acalls_of_aw {P : Program} {f : FuncId} {fn : Func} {c : Code} {d : Cd} {rs : List Rv} {args : List A} {H : Heap} {Q : A → Heap → Prop} (toks : List FuncId) (kl : List (Nat × List Nat × List Nat))
    (hf : P.funcs[f]? = some fn) (hb : fn.body = some c) (hname : fn.name ≠ "runtime.NumGoroutine") (hc : cCode P toks kl c = some d) (hr : cRvs P fn.results.toList = some rs)
    (h : Obs.fits H.length 0 H → aw P d (q_ rs Q) ⟨args ++ List.replicate (fn.ntmps - args.length) .u, H, []⟩) : ACalls P f args H Q := by
  have fin : ∀ (w : World) (ι : List K) (w' : World) (a' : Act) (ι' : List K) (st : St), Sim w ι H.length H → (r_ st rs ∧ ∃ r, t_ st rs = some r ∧ r.fits st.ext.length 0 ∧ Q r st.ext) → SimSt w' ι' st a' → Ext w ι w' ι' → st.ext.length = H.length →
      a'.defers = [] ∧ ∃ v, (results fn a'.tmps).run P w' = .ok v w' ∧ ∃ r H' ι' v', Ending.returned v = .returned v' ∧ Q r H' ∧ Sim w' ι' H'.length H' ∧ RA w' ι' H'.length r v' ∧ Ext w ι w' ι' ∧ H.length ≤ H'.length := by
    rintro w ι w' a' ι' st hsim ⟨hok, r, hr1, hr2, hq⟩ hs hx hn
    refine ⟨hs.defers, ?_⟩
    unfold t_ at hr1
    have hsim' : Sim w' (ι'.take st.ext.length) st.ext.length st.ext := by
      refine ⟨by have := hs.sim.len; simp at this ⊢; omega, fun i o k h1 h2 => ?_, fun i j k k' b h1 h2 h3 h4 => ?_, fun k b hk hat => hs.sim.low k b (List.mem_of_mem_take hk) hat⟩
      · have hi : i < st.ext.length := (List.getElem?_eq_some_iff.1 h1).1
        rw [List.getElem?_take, if_pos hi] at h2
        exact RO_take (Obs_fits_get hs.fit h1) (hs.sim.obj i o k (by rw [List.getElem?_append_left hi]; exact h1) h2)
      · rw [List.getElem?_take] at h1 h2
        split at h1
        · split at h2
          · exact hs.sim.apart i j k k' b h1 h2 h3 h4
          · cases h2
        · cases h1
    have hx' : Ext w ι w' (ι'.take st.ext.length) := by
      refine ⟨hx.os, hx.tape, hx.output, hx.size, fun b o hso => ?_, fun b hb hk => ?_, fun i k hi => ?_⟩
      · obtain ⟨p, q⟩ := hx.safe b o hso
        exact ⟨⟨p.1, fun k hk => p.2 k (List.mem_of_mem_take hk)⟩, q⟩
      · obtain ⟨p, q⟩ := hx.block b hb hk
        exact ⟨p, fun k hk => q k (List.mem_of_mem_take hk)⟩
      · obtain ⟨k', p, q⟩ := hx.ev i k hi
        have hlt : i < st.ext.length := by
          have := (List.getElem?_eq_some_iff.1 hi).1
          rw [hsim.len] at this; omega
        exact ⟨k', drop_K p hlt, q⟩
    have hmap : ∀ vs : List Value, (fn.results.toList.mapM (oneRv a'.tmps)).run P w' = .ok vs w' →
        (results fn a'.tmps).run P w' = .ok (if h : vs.toArray.size = 1 then vs.toArray[0] else .tuple vs.toArray) w' := fun vs hvs => by
      rw [results_eq, Sem.run_bind, Array.mapM_eq_mapM_toList, Sem.run_map, hvs]
      rfl
    split at hr1
    · rename_i x hx1
      cases hr1
      obtain ⟨vs, h1, h2, h3⟩ := resList_ra (P := P) hs hr hok hx1 ⟨hr2, trivial⟩
      obtain ⟨v, rfl⟩ := List.length_eq_one_iff.1 h2
      refine ⟨v, by simpa using hmap _ h1, r, st.ext, ι'.take st.ext.length, v, rfl, hq, hsim', h3 0 r v rfl rfl, hx', by omega⟩
    · rename_i xs hne hx1
      cases hr1
      obtain ⟨vs, h1, h2, h3⟩ := resList_ra (P := P) hs hr hok hx1 hr2
      have hn1 : ¬ vs.toArray.size = 1 := by
        intro e
        simp [h2] at e
        obtain ⟨y, rfl⟩ := List.length_eq_one_iff.1 e
        exact hne y rfl
      refine ⟨.tuple vs.toArray, by rw [hmap _ h1, dif_neg hn1], .tup xs, st.ext, ι'.take st.ext.length, _, rfl, hq, hsim', .tup h2 h3, hx', by omega⟩
    · cases hr1
  refine acalls_of_run toks kl hf hb hname hc (fun i st h => h.elim) (fun e w ι w' ι' st a' he h1 h2 h3 h4 h5 => ?_) h
  rcases he with rfl | rfl
  · exact fin w ι w' a' ι' st h5 h1 h2 h3 h4
  · exact fin w ι w' a' ι' st h5 h1 h2 h3 h4

/-- a function, translated -/
def cFunc (P : Program) (toks : List FuncId) (kl : List (Nat × List Nat × List Nat)) (fn : Func) : Option (Cd × List Rv × Nat) :=
  match fn.body with
  | some c => match cCode P toks kl c, cRvs P fn.results.toList with
    | some d, some rs => some (d, rs, fn.ntmps)
    | _, _ => none
  | none => none

/-- a function's name is no name that the model knows -/
def nameOk (fn : Func) : Bool := fn.name != "runtime.NumGoroutine"

theorem acalls {P : Program} {f : FuncId} {fn : Func} {d : Cd} {rs : List Rv} {n : Nat} {args : List A} {H : Heap} {Q : A → Heap → Prop} {toks : List FuncId} {kl : List (Nat × List Nat × List Nat)}
    (hf : P.funcs[f]? = some fn) (hname : nameOk fn = true) (hc : cFunc P toks kl fn = some (d, rs, n))
    (h : Obs.fits H.length 0 H → aw P d (kq P (q_ rs Q) []) ⟨args ++ List.replicate (n - args.length) .u, H, []⟩) : ACalls P f args H Q := by
  unfold cFunc at hc
  split at hc
  · rename_i c hb
    split at hc
    · rename_i d' rs' h1 h2
      cases hc
      exact acalls_of_aw toks kl hf hb (by simpa [nameOk] using hname) h1 h2 h
    · cases hc
  · cases hc

end Go.AM
