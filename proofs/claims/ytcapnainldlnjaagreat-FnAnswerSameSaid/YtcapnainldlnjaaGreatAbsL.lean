/-
  Regions whose order the compiler may choose: what one order meets, every order meets.
  Conditions: the check 'drawOk'; the program follows mixed orders.
-/
import Derived.Test.YtcapnainldlnjaaGreatAbsK
namespace Go.AM
set_option linter.unusedVariables false
set_option linter.unusedSimpArgs false

theorem drop_cons {α : Type} {l : List α} {i : Nat} {x : α} (h : l[i]? = some x) : l.drop i = x :: l.drop (i + 1) := by
  obtain ⟨hi, rfl⟩ := List.getElem?_eq_some_iff.1 h
  exact List.drop_eq_getElem_cons hi

/-- what is known of a pure step that has a value and may be run later -/
def Fact (P : Program) (s : Step) (τ : List A) (V : A) (ext loc : Heap) : Prop :=
  ∀ (sl' : List A) (ext' loc' : Heap) (k' : St → Prop), Later s.op ext loc ext' loc' → (∀ x ∈ s.op.opds, x.ev sl' = x.ev τ) → (∀ g w, s.guard = some (g, w) → sl'.getD g .u = τ.getD g .u) →
    k' ⟨d_ sl' s.dst V, ext', loc'⟩ → awStep P ⟨sl', ext', loc'⟩ k' s

/-- what a stretch of pure steps gives, step by step -/
theorem stretch {P : Program} {q : St → Prop} {kill : List Nat} {steps : List Step} {c : Nat} {σ : List A} {ext loc : Heap} (h : awOps P q kill (steps.drop c) ⟨σ, ext, loc⟩) :
    ∀ (m : Nat), c + m ≤ steps.length → (∀ i, c ≤ i → i < c + m → isPure steps i = true) →
    ∃ (V : Nat → A) (τ : Nat → List A), τ c = σ ∧ awOps P q kill (steps.drop (c + m)) ⟨τ (c + m), ext, loc⟩ ∧
      (∀ i, c ≤ i → i < c + m → τ (i + 1) = d_ (τ i) (dstOf steps i) (V i)) ∧
      ∀ i s, c ≤ i → i < c + m → steps[i]? = some s → Fact P s (τ i) (V i) ext loc := by
  intro m
  induction m with
  | zero => exact fun _ _ => ⟨fun _ => .u, fun _ => σ, rfl, h, fun i h1 h2 => by omega, fun i s h1 h2 => by omega⟩
  | succ m ih =>
    intro hm hp
    obtain ⟨V, τ, h1, h2, h3, h4⟩ := ih (by omega) (fun i h5 h6 => hp i h5 (by omega))
    have hlt : c + m < steps.length := by omega
    have hs := List.getElem?_eq_getElem hlt
    have hpe := hp (c + m) (by omega) (by omega)
    have hpe' : (steps[c + m]).op.pure = true := by simpa [isPure, hs] using hpe
    rw [drop_cons hs, awOps_step] at h2
    obtain ⟨v, h5, h6⟩ := awStep_split hpe' h2
    let V' : Nat → A := fun i => if i = c + m then v else V i
    let τ' : Nat → List A := fun i => if i = c + m + 1 then d_ (τ (c + m)) (dstOf steps (c + m)) v else τ i
    have hd : dstOf steps (c + m) = (steps[c + m]).dst := by simp [dstOf, hs]
    refine ⟨V', τ', ?_, ?_, fun i h7 h8 => ?_, fun i s h7 h8 h9 => ?_⟩
    · simp only [τ']; rw [if_neg (by omega)]; exact h1
    · simp only [τ']
      rw [if_pos (by omega), hd]
      rw [show c + (m + 1) = c + m + 1 by omega]; exact h5
    · simp only [τ', V']
      rcases Nat.lt_or_ge i (c + m) with h9 | h9
      · rw [if_neg (by omega), if_neg (by omega), if_neg (by omega)]; exact h3 i h7 h9
      · have : i = c + m := by omega
        subst this
        rw [if_pos rfl, if_neg (by omega), if_pos rfl]
    · simp only [τ', V']
      rcases Nat.lt_or_ge i (c + m) with h13 | h13
      · rw [if_neg (by omega), if_neg (by omega)]
        exact h4 i s h7 h13 h9
      · have : i = c + m := by omega
        subst this
        rw [if_neg (by omega), if_pos rfl]
        rw [hs] at h9
        cases h9
        exact h6

/-- the slots in the order of the steps -/
theorem mix_text {ops : Array Oper} {ord : List Nat} {steps : List Step} (hd : DrawOk ops ord steps) {e : Nat} {V : Nat → A} {σ : List A} {τ : Nat → List A} (he : e ≤ steps.length)
    (h0 : τ 0 = σ) (h1 : ∀ i, i < e → τ (i + 1) = d_ (τ i) (dstOf steps i) (V i)) : ∀ (m : Nat), m ≤ e → Mix steps e V σ (fun j => j < m) (τ m) := by
  intro m
  induction m with
  | zero => exact fun _ => ⟨by rw [h0], fun t => ⟨fun i h2 h3 h4 => by omega, fun _ => by rw [h0]⟩⟩
  | succ m ih =>
    intro hm
    have h2 := (ih (by omega)).add hd he (i := m) (by omega)
    rw [h1 _ (by omega)]
    refine h2.cong fun i _ => ?_
    show i < m ∨ i = m ↔ i < m + 1
    omega

def Lst (listed : Array Bool) (i : Nat) : Prop := listed.getD i false = true
/-- .. told by its place -/
def LstP (ord : List Nat) (listed : Array Bool) (p : Nat) : Prop := p < ord.length ∧ Lst listed (ord.getD p 0)

/-- a place of the run: a stretch [c, e) under way -/
structure Place (P : Program) (q : St → Prop) (kill : List Nat) (ops : Array Oper) (ord : List Nat) (steps : List Step) (listed : Array Bool) (st : St) : Prop where
  size : listed.size = steps.length
  closed : Closed (afP ops ord) steps.length (LstP ord listed)
  at_ : ∃ (c e : Nat) (V : Nat → A) (τ : Nat → List A) (σ : List A), c ≤ e ∧ e ≤ steps.length ∧ (∀ i, i < c → LstP ord listed i ∨ isPure steps i = true) ∧ (∀ i, e ≤ i → ¬ LstP ord listed i) ∧ (∀ i, c ≤ i → i < e → isPure steps i = true) ∧
    (e = steps.length ∨ isPure steps e = false) ∧ awOps P q kill (steps.drop e) ⟨τ e, st.ext, st.loc⟩ ∧ τ 0 = σ ∧ (∀ i, i < e → τ (i + 1) = d_ (τ i) (dstOf steps i) (V i)) ∧
    (∀ i s, i < e → steps[i]? = some s → ¬ LstP ord listed i → Fact P s (τ i) (V i) st.ext st.loc) ∧
    Mix steps e V σ (LstP ord listed) st.sl

/-- where the next stretch ends -/
theorem next_end {steps : List Step} (c : Nat) (hc : c ≤ steps.length) : ∃ m, c + m ≤ steps.length ∧ (∀ i, c ≤ i → i < c + m → isPure steps i = true) ∧ (c + m = steps.length ∨ isPure steps (c + m) = false) := by
  generalize hk : steps.length - c = k
  induction k generalizing c with
  | zero => exact ⟨0, by omega, fun i h1 h2 => by omega, .inl (by omega)⟩
  | succ k ih =>
    cases hp : isPure steps c with
    | false => exact ⟨0, by omega, fun i h1 h2 => by omega, .inr hp⟩
    | true =>
      obtain ⟨m, h1, h2, h3⟩ := ih (c + 1) (by omega) (by omega)
      refine ⟨m + 1, by omega, fun i h4 h5 => ?_, ?_⟩
      · rcases Nat.lt_or_ge c i with h6 | h6
        · exact h2 i h6 (by omega)
        · have : i = c := by omega
          subst this; exact hp
      · rw [show c + (m + 1) = c + 1 + m by omega]; exact h3

/-- the next stretch -/
theorem place_next {P : Program} {q : St → Prop} {kill : List Nat} {ops : Array Oper} {ord : List Nat} {steps : List Step} {listed : Array Bool} {st : St} {c : Nat} {V : Nat → A} {τ : Nat → List A} {σ : List A} (hd : DrawOk ops ord steps) (hc : c ≤ steps.length)
    (hsz : listed.size = steps.length) (hcl : Closed (afP ops ord) steps.length (LstP ord listed)) (h1 : ∀ i, i < c → LstP ord listed i ∨ isPure steps i = true) (h2 : ∀ i, c ≤ i → ¬ LstP ord listed i)
    (h : awOps P q kill (steps.drop c) ⟨τ c, st.ext, st.loc⟩) (h0 : τ 0 = σ) (hτ : ∀ i, i < c → τ (i + 1) = d_ (τ i) (dstOf steps i) (V i))
    (hf : ∀ i s, i < c → steps[i]? = some s → ¬ LstP ord listed i → Fact P s (τ i) (V i) st.ext st.loc) (hm : Mix steps c V σ (LstP ord listed) st.sl) : Place P q kill ops ord steps listed st := by
  obtain ⟨m, hm1, hm2, hm3⟩ := next_end (steps := steps) c hc
  obtain ⟨V', τ', h3, h4, h5, h6⟩ := stretch (σ := τ c) (ext := st.ext) (loc := st.loc) h m hm1 hm2
  refine ⟨hsz, hcl, c, c + m, fun i => if i < c then V i else V' i, fun i => if i ≤ c then τ i else τ' i, σ, by omega, hm1, h1, fun i hi => h2 i (by omega), hm2, hm3, ?_, ?_, fun i hi => ?_, fun i s hi hs hl => ?_, ?_⟩
  · by_cases h7 : m = 0
    · subst h7; simpa using h
    · simp only; rw [if_neg (by omega)]; exact h4
  · simpa using h0
  · simp only
    rcases Nat.lt_or_ge i c with h7 | h7
    · rw [if_pos (show i + 1 ≤ c by omega), if_pos (show i ≤ c by omega), if_pos h7]; exact hτ i h7
    · rw [if_neg (show ¬ i + 1 ≤ c by omega), if_neg (show ¬ i < c by omega), h5 i h7 hi]
      rcases Nat.lt_or_ge c i with h8 | h8
      · rw [if_neg (show ¬ i ≤ c by omega)]
      · have : i = c := by omega
        subst this
        rw [if_pos (Nat.le_refl _), h3]
  · simp only
    rcases Nat.lt_or_ge i c with h7 | h7
    · rw [if_pos (show i ≤ c by omega), if_pos h7]; exact hf i s h7 hs hl
    · rw [if_neg (show ¬ i < c by omega)]
      have := h6 i s h7 hi hs
      rcases Nat.lt_or_ge c i with h8 | h8
      · rw [if_neg (show ¬ i ≤ c by omega)]; exact this
      · have : i = c := by omega
        subst this
        rw [if_pos (Nat.le_refl _), ← h3]; assumption
  · refine hm.more (by omega) (fun i hi => ?_) h2
    simp only [if_pos hi]

theorem Lst_set {listed : Array Bool} {i j : Nat} (hi : i < listed.size) : Lst (listed.setIfInBounds i true) j ↔ Lst listed j ∨ j = i := by
  unfold Lst
  simp only [Array.getD_eq_getD_getElem?, Array.getElem?_setIfInBounds]
  by_cases h : i = j
  · subst h; simp [hi]
  · simp [h, Ne.symm h]

def cnt (listed : Array Bool) (n : Nat) : Nat := (List.range n).countP fun i => !listed.getD i false

theorem cnt_zero {listed : Array Bool} {n : Nat} (h : cnt listed n = 0) (i : Nat) (hi : i < n) : Lst listed i := by
  have := List.countP_eq_zero.1 h i (List.mem_range.2 hi)
  simpa [Lst] using this

theorem countP_lt {α : Type} {p p' : α → Bool} : ∀ {l : List α} {x : α}, (∀ y ∈ l, p' y = true → p y = true) → x ∈ l → p x = true → p' x = false → l.countP p' < l.countP p
  | y :: l, x, h, hx, h1, h2 => by
    have hle : l.countP p' ≤ l.countP p := List.countP_mono_left fun z hz => h z (by simp [hz])
    rcases List.mem_cons.1 hx with rfl | hx
    · rw [List.countP_cons_of_pos h1, List.countP_cons_of_neg (by simp [h2])]; omega
    · have ih := countP_lt (fun z hz => h z (by simp [hz])) hx h1 h2
      have hy := h y (by simp)
      cases e : p' y with
      | true => rw [List.countP_cons_of_pos e, List.countP_cons_of_pos (hy e)]; omega
      | false =>
        rw [List.countP_cons_of_neg (by simp [e])]
        cases e2 : p y with
        | true => rw [List.countP_cons_of_pos e2]; omega
        | false => rw [List.countP_cons_of_neg (by simp [e2])]; exact ih

theorem cnt_set {listed : Array Bool} {n i : Nat} (hsz : listed.size = n) (hi : i < n) (hl : ¬ Lst listed i) : cnt (listed.setIfInBounds i true) n < cnt listed n := by
  refine countP_lt (x := i) (fun j _ hj => ?_) (List.mem_range.2 hi) (by simpa [Lst] using hl) ?_
  · have h2 : ¬ Lst (listed.setIfInBounds i true) j := by simpa [Lst] using hj
    rw [Lst_set (by omega)] at h2
    have : ¬ Lst listed j := fun h => h2 (.inl h)
    simpa [Lst] using this
  · have : Lst (listed.setIfInBounds i true) i := (Lst_set (by omega)).2 (.inr rfl)
    unfold Lst at this
    simp [this]

theorem cSteps_get {P : Program} {toks : List FuncId} {ops : Array Oper} : ∀ {l : List Oper} {steps : List Step}, cSteps P toks ops l = some steps →
    steps.length = l.length ∧ ∀ (i : Nat) o, l[i]? = some o → ∃ s, steps[i]? = some s ∧ cStep P toks ops o = some s
  | [], steps, h => by simp [cSteps] at h; subst h; exact ⟨rfl, fun i o h => by simp at h⟩
  | o :: l, steps, h => by
    simp only [cSteps] at h
    split at h
    · rename_i s r h1 h2
      cases h
      obtain ⟨h3, h4⟩ := cSteps_get h2
      refine ⟨by simp [h3], fun i o' hi => ?_⟩
      match i with
      | 0 => simp at hi; subst hi; exact ⟨s, rfl, h1⟩
      | i + 1 => exact h4 i o' (by simpa using hi)
    · cases h

theorem ev_agree {s : Step} {sl sl' : List A} (h : ∀ t ∈ s.looks, sl'[t]? = sl[t]?) : (∀ x ∈ s.op.opds, x.ev sl' = x.ev sl) ∧ ∀ g w, s.guard = some (g, w) → sl'.getD g .u = sl.getD g .u := by
  refine ⟨fun x hx => ?_, fun g w hg => ?_⟩
  · cases x with
    | k a => rfl
    | t i =>
      have := h i (by simp only [Step.looks, List.mem_append, List.mem_filterMap]; exact .inl ⟨.t i, hx, rfl⟩)
      simp only [Opd.ev, List.getD, this]
  · have := h g (by simp [Step.looks, hg])
    simp only [List.getD, this]

theorem LstP_set {ops : Array Oper} {ord : List Nat} {steps : List Step} (hd : DrawOk ops ord steps) {listed : Array Bool} (hsz : listed.size = steps.length) {p j : Nat} (hp : p < steps.length) :
    LstP ord (listed.setIfInBounds (ord.getD p 0) true) j ↔ LstP ord listed j ∨ j = p := by
  obtain ⟨h1, h2⟩ := hd.perm p hp
  unfold LstP
  rw [Lst_set (by omega)]
  constructor
  · rintro ⟨h3, h4 | h4⟩
    · exact .inl ⟨h3, h4⟩
    · have h5 := hd.perm j (by rw [← hd.len]; exact h3)
      refine .inr ?_
      rw [← h5.2, h4, h2]
  · rintro (⟨h3, h4⟩ | rfl)
    · exact ⟨h3, .inl h4⟩
    · exact ⟨by rw [hd.len]; exact hp, .inr rfl⟩

theorem AOp.loadL_pure {op : AOp} (h : op.isLoadL = true) : op.pure = true := by cases op <;> first | rfl | (simp [AOp.isLoadL] at h)
theorem AOp.loadL_robust {op : AOp} (h : op.isLoadL = true) : op.robust = false := by cases op <;> first | rfl | (simp [AOp.isLoadL] at h)

theorem awOp_iff {P : Program} {st : St} {G : Bool} {op : AOp} {K K' : A → St → Prop} (hk : ∀ v st', K v st' ↔ K' v st') (h : c_ P st G K op) : c_ P st G K' op := by
  have : K = K' := by funext v st'; exact propext (hk v st')
  rw [← this]; exact h

/-- what a barrier leaves as it was -/
theorem step_bar {P : Program} {st : St} {k : St → Prop} {s : Step} {steps : List Step} {p : Nat} (hss : steps[p]? = some s) (h : awStep P st k s) :
    awStep P st (fun st' => k st' ∧ (∀ s', steps[p]? = some s' → (s'.op.grows && s'.guard.isNone) = true → Grown st.ext st.loc st'.ext st'.loc) ∧ (∀ s', steps[p]? = some s' → (s'.op.isCallL && s'.guard.isNone) = true → LocSame st.loc st'.loc ∧ (s'.op.isHead = true → HeadSame st.ext st'.ext))) s := by
  by_cases hg : s.guard = none
  · by_cases h1 : s.op.grows = true
    · unfold awStep at h ⊢
      simp only [hg] at h ⊢
      refine awOp_iff (fun v st' => ⟨fun ⟨a, b⟩ => ⟨a, fun _ _ _ => b, fun s' e hc => ?_⟩, fun ⟨a, b, _⟩ => ⟨a, b s hss (by simp [h1, hg])⟩⟩) (awOp_grown h1 h)
      rw [hss] at e; cases e
      exact ⟨b.same, fun _ => b.head⟩
    · by_cases h2 : s.op.isCallL = true
      · unfold awStep at h ⊢
        simp only [hg] at h ⊢
        refine awOp_iff (fun v st' => ⟨fun ⟨a, b⟩ => ⟨a, fun s' e hc => ?_, fun s' e _ => ?_⟩, fun ⟨a, _, b⟩ => ⟨a, b s hss (by simp [h2, hg])⟩⟩) (awOp_kept h2 h)
        · rw [hss] at e; cases e
          simp [h1] at hc
        · rw [hss] at e; cases e
          exact b
      · have : (fun st' : St => k st' ∧ (∀ s', steps[p]? = some s' → (s'.op.grows && s'.guard.isNone) = true → Grown st.ext st.loc st'.ext st'.loc) ∧ (∀ s', steps[p]? = some s' → (s'.op.isCallL && s'.guard.isNone) = true → LocSame st.loc st'.loc ∧ (s'.op.isHead = true → HeadSame st.ext st'.ext))) = k := by
          funext st'
          refine propext ⟨fun h => h.1, fun h => ⟨h, fun s' e hc => ?_, fun s' e hc => ?_⟩⟩
          · rw [hss] at e; cases e; simp [h1] at hc
          · rw [hss] at e; cases e; simp [h2] at hc
        rw [this]; exact h
  · have : (fun st' : St => k st' ∧ (∀ s', steps[p]? = some s' → (s'.op.grows && s'.guard.isNone) = true → Grown st.ext st.loc st'.ext st'.loc) ∧ (∀ s', steps[p]? = some s' → (s'.op.isCallL && s'.guard.isNone) = true → LocSame st.loc st'.loc ∧ (s'.op.isHead = true → HeadSame st.ext st'.ext))) = k := by
      funext st'
      refine propext ⟨fun h => h.1, fun h => ⟨h, fun s' e hc => ?_, fun s' e hc => ?_⟩⟩
      · rw [hss] at e; cases e; simp [hg] at hc
      · rw [hss] at e; cases e; simp [hg] at hc
    rw [this]; exact h

theorem any_wp {P : Program} {toks : List FuncId} {ops : Array Oper} {ord : List Nat} {steps : List Step} {kill : List Nat} {Q : Exit → Act → World → Prop} {q : St → Prop} {w₀ : World} {ι₀ : List AM.K} {n : Nat}
    (hd : DrawOk ops ord steps) (hsteps : ∀ (p : Nat) o, p < steps.length → ops[ord.getD p 0]? = some o → ∃ s, steps[p]? = some s ∧ cStep P toks ops o = some s)
    (hq : ∀ w ι st a, q st → SimSt w ι st a → Ext w₀ ι₀ w ι → st.ext.length = n → Q .normal a w) :
    ∀ (fuel : Nat) (listed : Array Bool) (w : World) (ι : List AM.K) (st : St) (a : Act), Place P q kill ops ord steps listed st → SimSt w ι st a → Ext w₀ ι₀ w ι → st.ext.length = n → cnt listed steps.length ≤ fuel →
      wpAny P .any ops Q fuel listed a w := by
  have place : ∀ i, i < steps.length → ∃ p, p < steps.length ∧ ord.getD p 0 = i := fun i hi => by
    have h := hd.all i hi
    refine ⟨ord.idxOf i, by rw [← hd.len]; exact List.idxOf_lt_length_iff.2 h, ?_⟩
    have := List.getElem_idxOf (List.idxOf_lt_length_iff.2 h)
    rw [List.getD, List.getElem?_eq_getElem (List.idxOf_lt_length_iff.2 h)]
    simp
  have done : ∀ (listed : Array Bool) (w : World) (ι : List AM.K) (st : St) (a : Act), Place P q kill ops ord steps listed st → SimSt w ι st a → Ext w₀ ι₀ w ι → st.ext.length = n → (∀ i, i < steps.length → Lst listed i) → Q .normal a w := by
    intro listed w ι st a hp hs hx hn hall
    obtain ⟨c, e, V, τ, σ, h1, h2, h3, h4, h5, h6, h7, h0, h8, h9, h10⟩ := hp.at_
    have hallP : ∀ p, p < steps.length → LstP ord listed p := fun p hp => ⟨by rw [hd.len]; exact hp, hall _ (hd.perm p hp).1⟩
    have he : e = steps.length := by
      rcases Nat.lt_or_ge e steps.length with h | h
      · exact absurd (hallP e h) (h4 e (Nat.le_refl _))
      · omega
    have ht := mix_text hd h2 h0 h8 e (Nat.le_refl _)
    have heq : τ e = st.sl := by
      apply List.ext_getElem?
      intro t
      exact ht.agree h10 fun j h12 _ => ⟨fun _ => hallP j (by omega), fun _ => h12⟩
    rw [heq, he, List.drop_length] at h7
    simp only [awOps] at h7
    exact hq w ι _ a h7 (hs.kills kill st.sl) hx hn
  have none_ready : ∀ (listed : Array Bool), listed.size = steps.length → Region.ready .any ops listed = [] → ∀ i, i < steps.length → Lst listed i := by
    intro listed hsz hr
    have key : ∀ p, p < steps.length → LstP ord listed p := by
      intro p
      induction p using Nat.strongRecOn with
      | ind p ih =>
        intro hp
        by_cases hl : LstP ord listed p
        · exact hl
        · exfalso
          have hio : ord.getD p 0 < ops.size := by rw [hd.size]; exact (hd.perm p hp).1
          have : ord.getD p 0 ∈ Region.ready .any ops listed := mem_ready.2 ⟨by
            have hl' : ¬ Lst listed (ord.getD p 0) := fun h => hl ⟨by rw [hd.len]; exact hp, h⟩
            unfold Lst at hl'
            generalize ord.getD p 0 = i at hl' hio
            simp only [Array.getD_eq_getD_getElem?] at hl' ⊢
            rw [Array.getElem?_eq_getElem (by rw [hsz, ← hd.size]; exact hio)] at hl' ⊢
            simpa using hl', ops[ord.getD p 0], Array.getElem?_eq_getElem hio, fun e he hb => by
              have hm : e.on ∈ aft ops (ord.getD p 0) := by
                unfold aft
                rw [Array.getElem?_eq_getElem hio]
                simp only [List.mem_map, List.mem_filter]
                exact ⟨e, ⟨by simpa using he, hb⟩, rfl⟩
              have hm2 : ord.idxOf e.on ∈ afP ops ord p := List.mem_map.2 ⟨_, hm, rfl⟩
              have hlow := hd.low p _ hp hm2
              have h3 := ih _ hlow (by omega)
              have h4 := List.getElem_idxOf (x := e.on) (xs := ord) (by rw [hd.len]; omega)
              have h5 := h3.2
              rw [List.getD, List.getElem?_eq_getElem (by rw [hd.len]; omega)] at h5
              simp only [h4, Option.getD_some] at h5
              exact h5⟩
          rw [hr] at this
          cases this
    intro i hi
    obtain ⟨p, hp, rfl⟩ := place i hi
    exact (key p hp).2
  intro fuel
  induction fuel with
  | zero =>
    intro listed w ι st a hp hs hx hn hc
    have hall := cnt_zero (n := steps.length) (listed := listed) (by omega)
    refine ⟨?_, done listed w ι st a hp hs hx hn hall⟩
    apply List.eq_nil_iff_forall_not_mem.2
    intro j hj
    obtain ⟨h1, o, h2, _⟩ := mem_ready.1 hj
    have hjl := (Array.getElem?_eq_some_iff.1 h2).1
    have hsz2 := hd.size
    have := hall j (by omega)
    unfold Lst at this
    have hsz := hp.size
    simp only [Array.getD_eq_getD_getElem?] at this h1
    rw [Array.getElem?_eq_getElem (by omega)] at this h1
    simp at this h1
    rw [this] at h1
    cases h1
  | succ fuel ih =>
    intro listed w ι st a hp hs hx hn hc
    have hsz := hp.size
    refine ⟨fun hr => done listed w ι st a hp hs hx hn (none_ready listed hsz hr), fun i hi => ?_⟩
    obtain ⟨hun, o, ho, hedge⟩ := mem_ready.1 hi
    have hil : i < steps.length := by rw [← hd.size]; exact (Array.getElem?_eq_some_iff.1 ho).1
    have hnl : ¬ Lst listed i := by
      unfold Lst
      simp only [Array.getD_eq_getD_getElem?] at hun ⊢
      rw [Array.getElem?_eq_getElem (by omega)] at hun ⊢
      simp at hun ⊢
      exact hun
    obtain ⟨p, hpl, rfl⟩ := place i hil
    have hnlP : ¬ LstP ord listed p := fun h => hnl h.2
    have haft : ∀ k ∈ afP ops ord p, LstP ord listed k := fun k hk => by
      have hkl := hd.low p k hpl hk
      obtain ⟨j, hj, rfl⟩ := List.mem_map.1 hk
      unfold aft at hj
      rw [ho] at hj
      simp only [List.mem_map, List.mem_filter] at hj
      obtain ⟨e, ⟨h1, h2⟩, rfl⟩ := hj
      have h3 := hedge e (by simpa using h1) h2
      have h4 : ord.idxOf e.on < ord.length := by rw [hd.len]; omega
      refine ⟨h4, ?_⟩
      have h5 := List.getElem_idxOf (x := e.on) (xs := ord) h4
      rw [List.getD, List.getElem?_eq_getElem h4, h5]
      exact h3
    obtain ⟨s, hss, hcs⟩ := hsteps p o hpl ho
    have hset : ∀ j, LstP ord (listed.setIfInBounds (ord.getD p 0) true) j ↔ LstP ord listed j ∨ j = p := fun j => LstP_set hd hsz hpl
    have hcl' : Closed (afP ops ord) steps.length (LstP ord (listed.setIfInBounds (ord.getD p 0) true)) := fun j hjl hj k hk => by
      rw [hset] at hj ⊢
      rcases hj with hj | rfl
      · exact .inl (hp.closed j hjl hj k hk)
      · exact .inl (haft k hk)
    have hcnt : cnt (listed.setIfInBounds (ord.getD p 0) true) steps.length ≤ fuel := by
      have := cnt_set hsz hil hnl
      omega
    have hsd : dstOf steps p = s.dst := by simp [dstOf, hss]
    have hsl : looksOf steps p = s.looks := by simp [looksOf, hss]
    obtain ⟨c, e, V, τ, σ, h1, h2, h3, h4, h5, h6, h7, h0, h8, h9, h10⟩ := hp.at_
    rcases Nat.lt_trichotomy p e with hie | rfl | hie
    · -- a step of the stretch, or one that was left behind
      have ht := mix_text hd h2 h0 h8 p (by omega)
      have hag := ev_agree (s := s) (sl := τ p) (sl' := st.sl) fun t htl => by
        refine h10.agree ht fun j h12 h13 => ?_
        by_cases hji : j = p
        · subst hji; exact ⟨fun h => absurd h hnlP, fun h => absurd h (Nat.lt_irrefl _)⟩
        · rcases hd.looks p j t hpl (by omega) hji h13 (by rw [hsl]; exact htl) with ha | ha
          · exact ⟨fun _ => ha.lt hd hpl, fun _ => ha.ready hd hp.closed hpl haft⟩
          · exact ⟨fun h => absurd (ha.closed hd hp.closed (by omega) h) hnlP, fun h => by have := ha.lt hd (by omega); omega⟩
      refine step_wp (k := fun st' => st' = ⟨d_ st.sl s.dst (V p), st.ext, st.loc⟩) ho hcs hs (h9 p s hie hss hnlP st.sl st.ext st.loc _ (.inr (.inl (Grown.refl _ _))) hag.1 hag.2 rfl) fun w' ι' st' a' hst' hs' hx' hn' => ?_
      refine ih _ w' ι' st' a' ?_ hs' (hx.trans hx') (by omega) hcnt
      subst hst'
      refine ⟨by simp [hsz], hcl', c, e, V, τ, σ, h1, h2, fun j hj => ?_, fun j hj => ?_, h5, h6, h7, h0, h8, fun j s' hj hjs hjl => h9 j s' hj hjs fun h => hjl ((hset j).2 (.inl h)), ?_⟩
      · rcases h3 j hj with h | h
        · exact .inl ((hset j).2 (.inl h))
        · exact .inr h
      · rw [hset]
        rintro (h | h)
        · exact h4 j hj h
        · omega
      · have := h10.add hd h2 hie
        rw [hsd] at this
        exact this.cong fun j _ => (hset j).symm
    · -- the step behind the stretch
      have hnp : isPure steps p = false := h6.resolve_left (by omega)
      have hnp' : s.op.pure = false := by simpa [isPure, hss] using hnp
      have ht := mix_text hd h2 h0 h8 p (by omega)
      have hag := ev_agree (s := s) (sl := τ p) (sl' := st.sl) fun t htl => by
        refine h10.agree ht fun j h12 h13 => ?_
        rcases hd.looks p j t hpl (by omega) (by omega) h13 (by rw [hsl]; exact htl) with ha | ha
        · exact ⟨fun _ => h12, fun _ => ha.ready hd hp.closed hpl haft⟩
        · have := ha.lt hd (by omega); omega
      rw [drop_cons hss, awOps_step] at h7
      have h7' := awStep_agree (st := ⟨τ p, st.ext, st.loc⟩) (sl' := st.sl) hnp' hag.1 hag.2 h7
      have h7a := step_bar hss h7'
      refine step_wp ho hcs hs h7a fun w' ι' st' a' hst' hs' hx' hn' => ?_
      refine ih _ w' ι' st' a' ?_ hs' (hx.trans hx') (by omega) hcnt
      obtain ⟨⟨v, hv1, hv2⟩, hva, hvc⟩ := hst'
      refine place_next (c := p + 1) (V := fun i => if i = p then v else V i) (τ := fun i => if i = p + 1 then d_ (τ p) s.dst v else τ i) (σ := σ) hd (by omega) (by simp [hsz]) hcl' (fun j hj => ?_) (fun j hj => ?_) ?_ ?_ (fun j hj => ?_) (fun j s' hj hjs hjl => ?_) ?_
      · rcases Nat.lt_or_ge j p with h | h
        · rcases hd.ahead p j h hpl hnp with hr | hr | hr | ha
          · refine .inr ?_
            unfold isRobust at hr
            unfold isPure
            split at hr
            · rename_i s' hs'; exact AOp.robust_pure hr
            · cases hr
          · exact .inr hr.2
          · refine .inr ?_
            have hr := hr.1.2
            unfold isLoadL at hr
            unfold isPure
            split at hr
            · rename_i s' hs'; exact AOp.loadL_pure hr
            · cases hr
          · exact .inl ((hset j).2 (.inl (ha.ready hd hp.closed hpl haft)))
        · exact .inl ((hset j).2 (.inr (by omega)))
      · rw [hset]
        rintro (h | h)
        · exact h4 j (by omega) h
        · omega
      · rw [if_pos rfl]; exact hv2
      · rw [if_neg (by omega)]; exact h0
      · rcases Nat.lt_or_ge j p with h | h
        · rw [if_neg (show ¬ j + 1 = p + 1 by omega), if_neg (show ¬ j = p + 1 by omega), if_neg (show ¬ j = p by omega)]; exact h8 j h
        · have : j = p := by omega
          subst this
          rw [if_pos rfl, if_neg (show ¬ j = j + 1 by omega), if_pos rfl, hsd]
      · have hjp : j ≠ p := fun e => hjl ((hset j).2 (.inr e))
        have hjn : ¬ LstP ord listed j := fun h => hjl ((hset j).2 (.inl h))
        rw [if_neg (show ¬ j = p + 1 by omega), if_neg hjp]
        have hold := h9 j s' (by omega) hjs hjn
        intro sl' ext' loc' k' hr a1 a2 a3
        rcases hd.ahead p j (by omega) hpl hnp with hrb | hrb | hrb | ha
        · exact hold sl' ext' loc' k' (.inl (by simpa [isRobust, hjs] using hrb)) a1 a2 a3
        · refine hold sl' ext' loc' k' ?_ a1 a2 a3
          have hva := hva s hss (by simpa [isAlloc, hss] using hrb.1)
          rcases hr with hr | hr | hr
          · exact .inl hr
          · exact .inr (.inl (hva.trans hr))
          · exact .inr (.inr ⟨hr.1, hva.same.trans hr.2.1, fun e => hva.head.trans (hr.2.2 e)⟩)
        · refine hold sl' ext' loc' k' (.inr (.inr ?_)) a1 a2 a3
          have hvc := hvc s hss (by simpa [isCallL, hss] using hrb.1.1)
          have hlj : s'.op.isLoadL = true := by simpa [isLoadL, hjs] using hrb.1.2
          have hhd : s'.op.isHead = true → s.op.isHead = true := fun e => by have := hrb.2 (by simpa [isHead, hjs] using e); simpa [isHead, hss] using this
          rcases hr with hr | hr | hr
          · rw [AOp.loadL_robust hlj] at hr; cases hr
          · exact ⟨hlj, hvc.1.trans hr.same, fun e => (hvc.2 (hhd e)).trans hr.head⟩
          · exact ⟨hlj, hvc.1.trans hr.2.1, fun e => (hvc.2 (hhd e)).trans (hr.2.2 e)⟩
        · exact absurd (ha.ready hd hp.closed hpl haft) hjn
      · have hm1 : Mix steps (p + 1) (fun i => if i = p then v else V i) σ (LstP ord listed) st.sl := h10.more (by omega) (fun i hi => by rw [if_neg (by omega)]) h4
        have := hm1.add hd (by omega) (i := p) (by omega)
        simp only [if_true, hsd] at this
        rw [← hv1] at this
        exact this.cong fun j _ => (hset j).symm
    · -- behind the step that stands behind the stretch: not ready
      exfalso
      have hnp : isPure steps e = false := h6.resolve_left (by omega)
      obtain ⟨j, h11, h12⟩ := hd.behind e p hie hpl hnp
      exact h4 j h12 (haft j h11)

end Go.AM
