/-
  Steps by themselves: what one step of the abstract machine asks, its soundness, and steps whose value does not hang on the order.
  Conditions: none.
-/
import Derived.Test.YtcapnainldlnjaaGreatAbsG
namespace Go.AM
set_option linter.unusedVariables false
set_option linter.unusedSimpArgs false

/-- one step -/
def awStep (P : Program) (st : St) (k : St → Prop) (s : Step) : Prop :=
  match s.guard with
  | none => c_ P st true (fun a st' => k ⟨d_ st'.sl s.dst a, st'.ext, st'.loc⟩) s.op
  | some (g, w) =>
    match f_ w (st.sl.getD g .u) with
    | none => False
    | some G =>
      if s.op.total then c_ P st G (fun a st' => k ⟨d_ st'.sl s.dst (.gd G a), st'.ext, st'.loc⟩) s.op
      else
        (G = true → c_ P ⟨st.sl.set g (p_ w (st.sl.getD g .u)), st.ext, st.loc⟩ true (fun a st' => k ⟨d_ st'.sl s.dst a, st'.ext, st'.loc⟩) s.op) ∧
        (G = false → k ⟨d_ (st.sl.set g (p_ (!w) (st.sl.getD g .u))) s.dst .u, st.ext, st.loc⟩)

theorem awOps_step {P : Program} {q : St → Prop} {kill : List Nat} {s : Step} {rest : List Step} {st : St} : awOps P q kill (s :: rest) st ↔ awStep P st (awOps P q kill rest) s := by
  simp only [awOps, awStep]
  cases s.guard <;> exact Iff.rfl

def AOp.pure : AOp → Bool
  | .mv _ | .pick .. | .build .. | .buildSlice .. | .load .. | .nilCheck _ | .bin .. | .binB .. | .isNil .. | .errNil .. | .imax .. | .eqAgg .. | .un .. | .cvInt .. | .cvStr _ | .cvB2S _ | .cvS2B _ | .len .. | .fieldAddr .. | .field .. | .indexAddr .. | .indexArr ..
  | .index .. | .slice .. | .extract .. | .mkFunc .. | .qcall .. | .loadI .. | .loadL .. | .mapGet .. | .loadG .. => true
  | _ => false

/-- a load off an own object -/
def AOp.isLoadL : AOp → Bool
  | .loadL .. => true
  | _ => false
def AOp.isCallL : AOp → Bool
  | .callL .. => true
  | _ => false
/-- .. off a first cell, and calls that leave first cells -/
def AOp.isHead : AOp → Bool
  | .loadL hd .. => hd
  | .callL hd .. => hd
  | _ => false

/-- a pure operation that looks at no object -/
def AOp.robust : AOp → Bool
  | .mv _ | .pick .. | .build .. | .buildSlice .. | .nilCheck _ | .bin .. | .binB .. | .isNil .. | .errNil .. | .imax .. | .eqAgg .. | .un .. | .cvInt .. | .cvStr _ | .cvB2S _ | .cvS2B _ | .fieldAddr .. | .field .. | .indexAddr .. | .indexArr ..
  | .index .. | .slice .. | .extract .. | .mkFunc .. | .loadI .. => true
  | .len k _ => k != 2
  | _ => false

/-- states behind which a pure operation gives what it gave -/
def Later (op : AOp) (ext loc ext' loc' : Heap) : Prop := op.robust = true ∨ Grown ext loc ext' loc' ∨ (op.isLoadL = true ∧ LocSame loc loc' ∧ (op.isHead = true → HeadSame ext ext'))

theorem AOp.robust_pure {op : AOp} (h : op.robust = true) : op.pure = true := by cases op <;> first | rfl | (simp [AOp.robust] at h)

def AOp.opds : AOp → List Opd
  | .mv x | .nilCheck x | .isNil _ x | .errNil _ x | .un _ x | .cvInt _ x | .cvStr x | .cvB2S x | .cvS2B x | .len _ x | .fieldAddr _ x | .field _ _ x | .extract _ x | .load _ x | .loadG _ x | .loadI _ x | .loadL _ _ x | .box x => [x]
  | .pick a b c => [a, b, c]
  | .imax a b => [a, b]
  | .build _ ps => ps.map fun p => p.2.2
  | .buildSlice _ _ _ ps => ps.map fun p => p.2
  | .buildSliceF _ _ _ ps => ps.map fun p => p.2
  | .bin _ x y | .binB _ x y | .eqAgg _ _ x y | .indexAddr _ x y | .indexArr _ _ x y | .index x y => [x, y]
  | .slice _ x lo hi mx => x :: (lo.toList ++ hi.toList ++ mx.toList)
  | .mkFunc _ caps => caps
  | .qcall _ args => args
  | .alloc _ => []
  | .store _ a x => [a, x]
  | .append _ _ s x => [s, x]
  | .mkSlice _ n => [n]
  | .call _ _ args => args
  | .callL _ _ _ args => args
  | .callv f args => f :: args
  | .nilSl _ x => [x]
  | .appendF _ s x => [s, x]
  | .appendP _ s x => [s, x]
  | .appendZ _ s x => [s, x]
  | .appendO _ s x => [s, x]
  | .mkMap => []
  | .mapGet _ _ _ x k => [x, k]
  | .mapSet x k v => [x, k, v]
  | .clear _ x => [x]
  | .bot => []

theorem partsA_congr {s s' : List A} : ∀ {ps : List (Nat × Nat × Opd)}, (∀ x ∈ ps.map (fun p => p.2.2), x.ev s' = x.ev s) → E_ s' ps = E_ s ps ∧ ∀ G, F_ G s' ps ↔ F_ G s ps
  | [], _ => ⟨rfl, fun _ => Iff.rfl⟩
  | (a, b, x) :: l, h => by
    have h1 := h x (by simp)
    obtain ⟨h2, h3⟩ := partsA_congr (ps := l) (fun y hy => h y (by simp only [List.map_cons, List.mem_cons]; exact .inr hy))
    exact ⟨by simp only [E_, h1, h2], fun G => by simp only [F_, h1, h3 G]⟩
theorem parts2A_congr {s s' : List A} : ∀ {ps : List (Nat × Opd)}, (∀ x ∈ ps.map (fun p => p.2), x.ev s' = x.ev s) → G_ s' ps = G_ s ps ∧ ∀ G, H_ G s' ps ↔ H_ G s ps
  | [], _ => ⟨rfl, fun _ => Iff.rfl⟩
  | (a, x) :: l, h => by
    have h1 := h x (by simp)
    obtain ⟨h2, h3⟩ := parts2A_congr (ps := l) (fun y hy => h y (by simp only [List.map_cons, List.mem_cons]; exact .inr hy))
    exact ⟨by simp only [G_, h1, h2], fun G => by simp only [H_, h1, h3 G]⟩
theorem evs_congr {s s' : List A} : ∀ {l : List Opd}, (∀ x ∈ l, x.ev s' = x.ev s) → evs s' l = evs s l ∧ ∀ G, oks G s' l ↔ oks G s l
  | [], _ => ⟨rfl, fun _ => Iff.rfl⟩
  | x :: l, h => by
    have h1 := h x (by simp)
    obtain ⟨h2, h3⟩ := evs_congr (l := l) (fun y hy => h y (by simp [hy]))
    exact ⟨by simp only [evs, h1, h2], fun G => by simp only [oks, h1, h3 G]⟩
theorem optInt_congr {s s' : List A} {d : Int} {o : Option Opd} (h : ∀ x ∈ o.toList, x.ev s' = x.ev s) : K_ s' d o = K_ s d o ∧ ∀ G, L_ G s' o ↔ L_ G s o := by
  cases o with
  | none => exact ⟨rfl, fun _ => Iff.rfl⟩
  | some x => have := h x (by simp); exact ⟨by simp only [K_, this], fun G => by simp only [L_, this]⟩
theorem optInts_congr {s s' : List A} {o : Option Opd} (h : ∀ x ∈ o.toList, x.ev s' = x.ev s) : o.map (K_ s' 0 ∘ some) = o.map (K_ s 0 ∘ some) := by
  cases o with
  | none => rfl
  | some x => have := h x (by simp); simp [K_, this]

theorem sliceA_split {G : Bool} {K : A → Prop} {sz : Nat} {lo : Int} {hi mx : Option Int} {c : C} (h : M_ G K sz lo hi mx c) : ∃ v, K v ∧ ∀ K' : A → Prop, K' v → M_ G K' sz lo hi mx c :=
  match c, hi, mx, h with
  | .d (.str _), _, _, h => ⟨_, h.2.2.2, fun _ hk => ⟨h.1, h.2.1, h.2.2.1, hk⟩⟩
  | .d (.sl _), none, none, h => ⟨_, h.2.2.2, fun _ hk => ⟨h.1, h.2.1, h.2.2.1, hk⟩⟩
  | .d (.sl _), some _, none, h => ⟨_, h.2.2.2, fun _ hk => ⟨h.1, h.2.1, h.2.2.1, hk⟩⟩
  | .d (.sl _), some _, some _, h => ⟨_, h.2.2.2, fun _ hk => ⟨h.1, h.2.1, h.2.2.1, hk⟩⟩
  | .d (.sl _), none, some _, h => h.2.2.elim
  | .own _ _ _, none, none, h => ⟨_, h.2.2.2, fun _ hk => ⟨h.1, h.2.1, h.2.2.1, hk⟩⟩
  | .own _ _ _, some _, none, h => ⟨_, h.2.2.2, fun _ hk => ⟨h.1, h.2.1, h.2.2.1, hk⟩⟩
  | .own _ _ _, some _, some _, h => ⟨_, h.2.2.2, fun _ hk => ⟨h.1, h.2.1, h.2.2.1, hk⟩⟩
  | .own _ _ _, none, some _, h => h.2.2.elim
  | .full _, none, none, h => ⟨_, h.2.2.2, fun _ hk => ⟨h.1, h.2.1, h.2.2.1, hk⟩⟩
  | .full _, some _, none, h => ⟨_, h.2.2.2, fun _ hk => ⟨h.1, h.2.1, h.2.2.1, hk⟩⟩
  | .full _, some _, some _, h => ⟨_, h.2.2.2, fun _ hk => ⟨h.1, h.2.1, h.2.2.1, hk⟩⟩
  | .full _, none, some _, h => h.2.2.elim
  | .d (.bool _), _, _, h => h.elim
  | .d (.int _ _), _, _, h => h.elim
  | .d (.v _), _, _, h => h.elim
  | .ptr _ _, _, _, h => h.elim
  | .el _ _, _, _, h => h.elim
  | .fsl _ _ _, _, _, h => ⟨_, h.2.2.2, fun _ hk => ⟨h.1, h.2.1, h.2.2.1, hk⟩⟩
  | .psl _ _ _ _, _, _, h => h.elim
  | .csl _ _ _, _, _, h => h.elim
  | .rel _ _ _, _, _, h => h.elim
  | .map _, _, _, h => h.elim
  | .fn _ _, _, _, h => h.elim
  | .u, _, _, h => h.elim

/-- a pure operation gives one value, the same in every state that agrees where it looks -/
theorem awOp_split {P : Program} {st : St} {G : Bool} {K : A → St → Prop} {op : AOp} (hp : op.pure = true) (h : c_ P st G K op) :
    ∃ v, K v st ∧ ∀ (sl' : List A) (ext' loc' : Heap) (K' : A → St → Prop), Later op st.ext st.loc ext' loc' → (∀ x ∈ op.opds, x.ev sl' = x.ev st.sl) → K' v ⟨sl', ext', loc'⟩ → c_ P ⟨sl', ext', loc'⟩ G K' op := by
  cases op <;> simp only [AOp.pure, Bool.false_eq_true] at hp <;> simp only [c_, QCallK, RowK, ByteK, B2SK, OptK, StoreK] at h ⊢ <;> simp only [AOp.opds, List.mem_cons, List.not_mem_nil, or_false, forall_eq, forall_eq_or_imp]
  case mv x => exact ⟨_, h.2, fun sl' ext' loc' K' hr he hk => by rw [he]; exact ⟨h.1, hk⟩⟩
  case pick c a b =>
    split at h
    · rename_i t ht
      exact ⟨_, h.2.2.2, fun sl' ext' loc' K' hr he hk => by obtain ⟨e1, e2, e3⟩ := he; rw [e1, e2, e3, ht]; exact ⟨h.1, h.2.1, h.2.2.1, hk⟩⟩
    · rename_i ht
      exact ⟨_, h.2, fun sl' ext' loc' K' hr he hk => by obtain ⟨e1, e2, e3⟩ := he; rw [e1, ht]; exact ⟨h.1, hk⟩⟩
  case build z ps =>
    obtain ⟨h1, h2⟩ := h
    split at h2
    · rename_i cs hc
      exact ⟨_, h2, fun sl' ext' loc' K' hr he hk => by obtain ⟨e1, e2⟩ := partsA_congr he; rw [e1, hc]; exact ⟨(e2 G).2 h1, hk⟩⟩
    · exact h2.elim
  case buildSlice sz len z ps =>
    obtain ⟨h1, h2⟩ := h
    split at h2
    · rename_i cs hc
      exact ⟨_, h2, fun sl' ext' loc' K' hr he hk => by obtain ⟨e1, e2⟩ := parts2A_congr he; rw [e1, hc]; exact ⟨(e2 G).2 h1, hk⟩⟩
    · exact h2.elim
  case loadI n a =>
    split at h
    · rename_i row o hp
      obtain ⟨h1, h2⟩ := h
      split at h2
      · rename_i v hv
        exact ⟨_, h2, fun sl' ext' loc' K' hr he hk => by rw [he, hp]; simp only [hv]; exact ⟨h1, hk⟩⟩
      · exact h2.elim
    · exact h.elim
  case loadL hd n a =>
    split at h
    · rename_i i o hp
      obtain ⟨h1, hns, h2⟩ := h
      split at h2
      · rename_i v hv
        refine ⟨_, h2, fun sl' ext' loc' K' hr he hk => ?_⟩
        have hsm : LocSame st.loc loc' := by
          rcases hr with hr | hr | hr
          · simp [AOp.robust] at hr
          · exact hr.same
          · exact hr.2.1
        rw [he, hp]
        have : y_ ⟨sl', ext', loc'⟩ n (.ptr (.l i) o) = some v ∧ b0_ (z_ ⟨sl', ext', loc'⟩ (.l i)) := by
          have hg : ∀ o, z_ st (.l i) = o → o ≠ .dead → (∀ p s, o ≠ .grow p s) → z_ ⟨sl', ext', loc'⟩ (.l i) = o := fun o h1 h2 h3 => hsm i o h1 h2 h3 (by rw [← h1]; exact hns)
          simp only [y_] at hv ⊢
          split at hv
          · rename_i hgo
            rw [hg _ hgo (by simp) (by simp)]
            exact ⟨hv, by rw [← hgo]; exact hns⟩
          · cases hv
        simp only [this.1]
        exact ⟨h1, this.2, hk⟩
      · exact h2.elim
    · rename_i i o hp
      obtain ⟨⟨rfl, rfl, rfl⟩, h1, h2⟩ := h
      split at h2
      · rename_i v hv
        refine ⟨_, h2, fun sl' ext' loc' K' hr he hk => ?_⟩
        have hsm : HeadSame st.ext ext' := by
          rcases hr with hr | hr | hr
          · simp [AOp.robust] at hr
          · exact hr.head
          · exact hr.2.2 rfl
        rw [he, hp]
        have : y_ ⟨sl', ext', loc'⟩ none (.ptr (.e i) 0) = some v := by
          simp only [y_] at hv ⊢
          split at hv
          · rename_i cs hgo
            obtain ⟨cs', g1, g2⟩ := hsm i cs hgo
            have g1' : z_ ⟨sl', ext', loc'⟩ (.e i) = .cells cs' := g1
            rw [g1']
            simp only [cut] at hv ⊢
            rw [g2]; exact hv
          · cases hv
        simp only [this]
        exact ⟨by simp, h1, hk⟩
      · exact h2.elim
    · exact h.elim
  case load n a =>
    split at h
    · rename_i p hp
      obtain ⟨h1, h2⟩ := h
      split at h2
      · rename_i v hv
        refine ⟨_, h2, fun sl' ext' loc' K' hr he hk => ?_⟩
        have hgr := (hr.resolve_left (by simp [AOp.robust])).resolve_right (by simp [AOp.isLoadL])
        rw [he, hp]
        have : y_ ⟨sl', ext', loc'⟩ n p = some v := by
          have hg : ∀ r o, z_ st r = o → o ≠ .dead → (∀ p s, o ≠ .grow p s) → z_ ⟨sl', ext', loc'⟩ r = o := fun r o h1 h2 h3 => hgr.2.2 st.sl sl' r o h1 h2 h3
          cases p <;> simp only [y_] at hv ⊢ <;> first | exact hv | skip
          all_goals
            split at hv
            · rename_i hgo
              rw [hg _ _ hgo (by simp) (by simp)]
              exact hv
            · cases hv
        simp only [this]
        exact ⟨h1, hk⟩
      · exact h2.elim
    · exact h.elim
  case loadG n a =>
    split at h
    · rename_i p hp
      obtain ⟨h1, h2⟩ := h
      split at h2
      · rename_i v hv
        refine ⟨_, h2, fun sl' ext' loc' K' hr he hk => ?_⟩
        have hgr := (hr.resolve_left (by simp [AOp.robust])).resolve_right (by simp [AOp.isLoadL])
        rw [he, hp]
        have : y_ ⟨sl', ext', loc'⟩ n p = some v := by
          have hg : ∀ r o, z_ st r = o → o ≠ .dead → (∀ p s, o ≠ .grow p s) → z_ ⟨sl', ext', loc'⟩ r = o := fun r o h1 h2 h3 => hgr.2.2 st.sl sl' r o h1 h2 h3
          cases p <;> simp only [y_] at hv ⊢ <;> first | exact hv | skip
          all_goals
            split at hv
            · rename_i hgo
              rw [hg _ _ hgo (by simp) (by simp)]
              exact hv
            · cases hv
        simp only [this]
        exact ⟨h1, hk⟩
      · exact h2.elim
    · exact h.elim
  case mapGet n z ok x k =>
    split at h
    · rename_i r k' hx hk'
      obtain ⟨h1, h2, h3⟩ := h
      split at h3
      · rename_i m hm
        split at h3
        · rename_i row hrow
          refine ⟨_, h3.2, fun sl' ext' loc' K' hr he hk => ?_⟩
          have hgr := (hr.resolve_left (by simp [AOp.robust])).resolve_right (by simp [AOp.isLoadL])
          have hg := hgr.2.2 st.sl sl' r (.map m) hm (by simp) (by simp)
          rw [he.1, he.2, hx, hk']
          simp only [hg, hrow]
          exact ⟨h1, h2, h3.1, hk⟩
        · rename_i hrow
          refine ⟨_, h3, fun sl' ext' loc' K' hr he hk => ?_⟩
          have hgr := (hr.resolve_left (by simp [AOp.robust])).resolve_right (by simp [AOp.isLoadL])
          have hg := hgr.2.2 st.sl sl' r (.map m) hm (by simp) (by simp)
          rw [he.1, he.2, hx, hk']
          simp only [hg, hrow]
          exact ⟨h1, h2, hk⟩
      · exact h3.elim
    · exact h.elim
  case nilCheck x =>
    split at h
    all_goals first | (rename_i hx; exact ⟨_, h.2, fun sl' ext' loc' K' hr he hk => by rw [he, hx]; exact ⟨h.1, hk⟩⟩) | exact h.elim
  case bin op x y => exact ⟨_, h.2.2.2, fun sl' ext' loc' K' hr he hk => by obtain ⟨e1, e2⟩ := he; rw [e1, e2]; exact ⟨h.1, h.2.1, h.2.2.1, hk⟩⟩
  case binB n x y =>
    split at h
    · rename_i p q hx hy
      exact ⟨_, h.2.2, fun sl' ext' loc' K' hr he hk => by obtain ⟨e1, e2⟩ := he; rw [e1, e2, hx, hy]; exact ⟨h.1, h.2.1, hk⟩⟩
    · rename_i hno
      refine ⟨_, h.2, fun sl' ext' loc' K' hr he hk => ?_⟩
      obtain ⟨e1, e2⟩ := he
      rw [e1, e2]
      split
      · rename_i p q hx hy
        exact absurd hy (fun hy => hno p q hx hy)
      · exact ⟨h.1, hk⟩
  case isNil n x =>
    split at h
    all_goals first | (rename_i hx; exact ⟨_, h.2, fun sl' ext' loc' K' hr he hk => by rw [he, hx]; exact ⟨h.1, hk⟩⟩) | exact h.elim
  case imax x y =>
    split at h
    · rename_i hx hy; exact ⟨_, h.2.2.2, fun sl' ext' loc' K' hr he hk => by obtain ⟨e1, e2⟩ := he; rw [e1, e2, hx, hy]; exact ⟨h.1, h.2.1, h.2.2.1, hk⟩⟩
    · exact h.elim
  case errNil n x =>
    split at h
    all_goals first | (rename_i hx; exact ⟨_, h.2, fun sl' ext' loc' K' hr he hk => by rw [he, hx]; exact ⟨h.1, hk⟩⟩) | exact h.elim
  case eqAgg n ks x y =>
    split at h
    · rename_i xs ys hx hy
      obtain ⟨h1, h2, h3⟩ := h
      split at h3
      · rename_i b hb
        exact ⟨_, h3, fun sl' ext' loc' K' hr he hk => by obtain ⟨e1, e2⟩ := he; rw [e1, e2, hx, hy]; simp only [hb]; exact ⟨h1, h2, hk⟩⟩
      · exact h3.elim
    · exact h.elim
  case un op x => exact ⟨_, h.2.2, fun sl' ext' loc' K' hr he hk => by rw [he]; exact ⟨h.1, h.2.1, hk⟩⟩
  case cvInt k x =>
    split at h
    · rename_i hx; exact ⟨_, h.2, fun sl' ext' loc' K' hr he hk => by rw [he, hx]; exact ⟨h.1, hk⟩⟩
    · exact h.elim
  case cvStr x =>
    split at h
    · rename_i hx; exact ⟨_, h.2, fun sl' ext' loc' K' hr he hk => by rw [he, hx]; exact ⟨h.1, hk⟩⟩
    · exact h.elim
  case cvB2S x =>
    split at h
    · rename_i c hx
      split at h
      · rename_i rows hr
        obtain ⟨h1, s, h2, h3⟩ := h
        exact ⟨_, h3, fun sl' ext' loc' K' _ he hk => by rw [he, hx]; simp only [hr]; exact ⟨h1, s, h2, hk⟩⟩
      · exact h.elim
    · exact h.elim
  case cvS2B x =>
    split at h
    · rename_i hx; exact ⟨_, h.2.2, fun sl' ext' loc' K' hr he hk => by rw [he, hx]; exact ⟨h.1, h.2.1, hk⟩⟩
    · exact h.elim
  case len k x =>
    split at h
    · rename_i n hn
      refine ⟨_, h.2.2, fun sl' ext' loc' K' hr he hk => ?_⟩
      rw [he]
      have : n_ ⟨sl', ext', loc'⟩ k (x.ev st.sl).val = some n := by
        rw [← hn]; unfold n_; split <;> first | rfl | skip
        rename_i r hxr
        split
        · rename_i hk2
          subst hk2
          have hgr := (hr.resolve_left (by simp [AOp.robust])).resolve_right (by simp [AOp.isLoadL])
          rw [hxr] at hn
          simp only [n_, ↓reduceIte] at hn
          split at hn
          · rename_i m hgo
            rw [hgr.2.2 st.sl sl' _ _ hgo (by simp) (by simp)]
          · cases hn
        · rfl
      simp only [this]
      exact ⟨h.1, h.2.1, hk⟩
    · rename_i hn
      obtain ⟨hk2, hG, h⟩ := h
      refine ⟨_, h, fun sl' ext' loc' K' hr he hk => ?_⟩
      rw [he]
      have : n_ ⟨sl', ext', loc'⟩ k (x.ev st.sl).val = none := by
        rw [← hn]; unfold n_; split <;> first | rfl | skip
        rename_i r hxr
        rw [if_neg hk2, if_neg hk2]
      simp only [this]
      exact ⟨hk2, hG, hk⟩
  case fieldAddr off x =>
    split at h
    · rename_i v hv; exact ⟨_, h.2, fun sl' ext' loc' K' hr he hk => by rw [he]; simp only [hv]; exact ⟨h.1, hk⟩⟩
    · exact h.elim
  case field off n x =>
    split at h
    · rename_i cs hx
      obtain ⟨h1, h2⟩ := h
      split at h2
      · rename_i v hv; exact ⟨_, h2, fun sl' ext' loc' K' hr he hk => by rw [he, hx]; simp only [hv]; exact ⟨h1, hk⟩⟩
      · exact h2.elim
    · exact h.elim
  case indexAddr sz x i =>
    split at h
    · rename_i r len sz' k i' hx hy
      exact ⟨_, h.2.2.2, fun sl' ext' loc' K' hr he hk => by obtain ⟨e1, e2⟩ := he; rw [e1, e2, hx, hy]; exact ⟨h.1, h.2.1, h.2.2.1, hk⟩⟩
    · rename_i c k i' hc hx hy
      split at h
      · rename_i rows hr
        obtain ⟨h1, h2, h3, row, h4, h5⟩ := h
        refine ⟨_, h5, fun sl' ext' loc' K' hr he hk => ?_⟩
        obtain ⟨e1, e2⟩ := he
        rw [e1, e2, hx, hy]
        cases c <;> first | (exfalso; simp [C.rows?] at hr; done) | (simp only [hr]; exact ⟨h1, h2, h3, row, h4, hk⟩)
      · exact h.elim
    · exact h.elim
  case indexArr len sz x i =>
    split at h
    · rename_i hx hy
      exact ⟨_, h.2.2.2, fun sl' ext' loc' K' hr he hk => by obtain ⟨e1, e2⟩ := he; rw [e1, e2, hx, hy]; exact ⟨h.1, h.2.1, h.2.2.1, hk⟩⟩
    · exact h.elim
  case index x i =>
    split at h
    · rename_i hx hy
      obtain ⟨h1, h2, b, h3, h4⟩ := h
      exact ⟨_, h4, fun sl' ext' loc' K' hr he hk => by obtain ⟨e1, e2⟩ := he; rw [e1, e2, hx, hy]; exact ⟨h1, h2, b, h3, hk⟩⟩
    · exact h.elim
  case slice sz x lo hi mx =>
    have hcon : ∀ sl' : List A, (∀ y ∈ x :: (lo.toList ++ hi.toList ++ mx.toList), y.ev sl' = y.ev st.sl) → x.ev sl' = x.ev st.sl ∧ (K_ sl' 0 lo = K_ st.sl 0 lo ∧ ∀ G, L_ G sl' lo ↔ L_ G st.sl lo) ∧
        (hi.map (K_ sl' 0 ∘ some) = hi.map (K_ st.sl 0 ∘ some) ∧ ∀ G, L_ G sl' hi ↔ L_ G st.sl hi) ∧ (mx.map (K_ sl' 0 ∘ some) = mx.map (K_ st.sl 0 ∘ some) ∧ ∀ G, L_ G sl' mx ↔ L_ G st.sl mx) := fun sl' he => by
      have h1 : ∀ y ∈ lo.toList, y.ev sl' = y.ev st.sl := fun y hy => he y (by simp only [List.mem_cons, List.mem_append]; exact .inr (.inl (.inl hy)))
      have h2 : ∀ y ∈ hi.toList, y.ev sl' = y.ev st.sl := fun y hy => he y (by simp only [List.mem_cons, List.mem_append]; exact .inr (.inl (.inr hy)))
      have h3 : ∀ y ∈ mx.toList, y.ev sl' = y.ev st.sl := fun y hy => he y (by simp only [List.mem_cons, List.mem_append]; exact .inr (.inr hy))
      exact ⟨he x (by simp), optInt_congr h1, ⟨optInts_congr h2, (optInt_congr (d := 0) h2).2⟩, ⟨optInts_congr h3, (optInt_congr (d := 0) h3).2⟩⟩
    split at h
    · rename_i c lo' hx hl hh hm
      obtain ⟨v, h1, h2⟩ := sliceA_split h.2.2
      refine ⟨v, h1, fun sl' ext' loc' K' hr he hk => ?_⟩
      obtain ⟨e1, ⟨e2, e3⟩, ⟨e4, e5⟩, e6, e7⟩ := hcon sl' (by simpa using he)
      rw [e1, e2, e4, e6, hx, hl, hh, hm]
      exact ⟨h.1, (e3 G).2 h.2.1, h2 _ hk⟩
    · rename_i c lo' hi' hx hl hh hm
      obtain ⟨v, h1, h2⟩ := sliceA_split h.2.2.2
      refine ⟨v, h1, fun sl' ext' loc' K' hr he hk => ?_⟩
      obtain ⟨e1, ⟨e2, e3⟩, ⟨e4, e5⟩, e6, e7⟩ := hcon sl' (by simpa using he)
      rw [e1, e2, e4, e6, hx, hl, hh, hm]
      exact ⟨h.1, (e3 G).2 h.2.1, (e5 G).2 h.2.2.1, h2 _ hk⟩
    · rename_i c lo' hi' mx' hx hl hh hm
      obtain ⟨v, h1, h2⟩ := sliceA_split h.2.2.2.2
      refine ⟨v, h1, fun sl' ext' loc' K' hr he hk => ?_⟩
      obtain ⟨e1, ⟨e2, e3⟩, ⟨e4, e5⟩, e6, e7⟩ := hcon sl' (by simpa using he)
      rw [e1, e2, e4, e6, hx, hl, hh, hm]
      exact ⟨h.1, (e3 G).2 h.2.1, (e5 G).2 h.2.2.1, (e7 G).2 h.2.2.2.1, h2 _ hk⟩
    · exact h.elim
  case extract i x =>
    split at h
    · rename_i vs hx
      obtain ⟨hok, h⟩ := h
      split at h
      · rename_i v hv; exact ⟨_, h, fun sl' ext' loc' K' hr he hk => by rw [he, hx]; simp only [hv]; exact ⟨hok, hk⟩⟩
      · exact h.elim
    · exact h.elim
  case qcall f args =>
    obtain ⟨h1, h2, r, h3, h4, h5⟩ := h
    refine ⟨_, h5, fun sl' ext' loc' K' hr he hk => ?_⟩
    have hgr := (hr.resolve_left (by simp [AOp.robust])).resolve_right (by simp [AOp.isLoadL])
    obtain ⟨e1, e2⟩ := evs_congr (l := args) he
    rw [e1]
    simp only [hgr.1]
    refine ⟨(e2 G).2 h1, hgr.2.1 h2, r, h3, fun st' hst => h4 st' (hgr.trans hst), hk⟩
  case mkFunc f caps =>
    split at h
    · rename_i cs hc
      exact ⟨_, h.2, fun sl' ext' loc' K' hr he hk => by obtain ⟨e1, e2⟩ := evs_congr (l := caps) he; rw [e1, hc]; exact ⟨(e2 G).2 h.1, hk⟩⟩
    · exact h.elim

theorem set_getD_self {sl : List A} {g : Nat} : sl.set g (sl.getD g .u) = sl := by
  apply List.ext_getElem?
  intro i
  rw [List.getElem?_set]
  split
  · rename_i h
    subst h
    split
    · rename_i h; simp [List.getD, List.getElem?_eq_getElem h]
    · rename_i h; rw [List.getElem?_eq_none (by omega)]
  · rfl

theorem lit_set {sl : List A} {g : Nat} {w G : Bool} (h : f_ w (sl.getD g .u) = some G) : sl.set g (p_ (if G then w else !w) (sl.getD g .u)) = sl := by
  have : p_ (if G then w else !w) (sl.getD g .u) = sl.getD g .u := by
    generalize sl.getD g .u = x at h
    unfold f_ at h
    split at h
    · rename_i b
      cases h
      cases b <;> cases w <;> rfl
    · rfl
    · cases h
  rw [this, set_getD_self]

/-- a pure step gives one value, the same in every state that agrees where it looks -/
theorem awStep_split {P : Program} {st : St} {k : St → Prop} {s : Step} (hp : s.op.pure = true) (h : awStep P st k s) :
    ∃ V, k ⟨d_ st.sl s.dst V, st.ext, st.loc⟩ ∧ ∀ (sl' : List A) (ext' loc' : Heap) (k' : St → Prop), Later s.op st.ext st.loc ext' loc' → (∀ x ∈ s.op.opds, x.ev sl' = x.ev st.sl) → (∀ g w, s.guard = some (g, w) → sl'.getD g .u = st.sl.getD g .u) →
      k' ⟨d_ sl' s.dst V, ext', loc'⟩ → awStep P ⟨sl', ext', loc'⟩ k' s := by
  unfold awStep at h
  split at h
  · rename_i hg
    obtain ⟨v, h1, h2⟩ := awOp_split hp h
    refine ⟨v, h1, fun sl' ext' loc' k' hr he _ hk => ?_⟩
    unfold awStep
    rw [hg]
    exact h2 sl' ext' loc' _ hr he hk
  · rename_i g w hg
    split at h
    · exact h.elim
    · rename_i G hG
      split at h
      · rename_i ht
        obtain ⟨v, h1, h2⟩ := awOp_split hp h
        refine ⟨.gd G v, h1, fun sl' ext' loc' k' hr he hq hk => ?_⟩
        unfold awStep
        rw [hg]
        simp only [hq g w hg, hG, ht, ↓reduceIte]
        exact h2 sl' ext' loc' _ hr he hk
      · rename_i ht
        have hl := lit_set hG
        cases G with
        | true =>
          have h := h.1 rfl
          simp only [↓reduceIte] at hl
          rw [hl] at h
          obtain ⟨v, h1, h2⟩ := awOp_split hp h
          refine ⟨v, h1, fun sl' ext' loc' k' hr he hq hk => ?_⟩
          unfold awStep
          rw [hg]
          have hq' := hq g w hg
          have hl' : sl'.set g (p_ w (sl'.getD g .u)) = sl' := by
            have := lit_set (sl := sl') (g := g) (w := w) (G := true) (by rw [hq']; exact hG)
            simpa using this
          simp only [hq', hG, ht, Bool.false_eq_true, ↓reduceIte]
          rw [← hq', hl']
          exact ⟨fun _ => h2 sl' ext' loc' _ hr he hk, fun e => by cases e⟩
        | false =>
          have h := h.2 rfl
          simp only [Bool.false_eq_true, ↓reduceIte] at hl
          rw [hl] at h
          refine ⟨.u, h, fun sl' ext' loc' k' hr he hq hk => ?_⟩
          unfold awStep
          rw [hg]
          have hq' := hq g w hg
          have hl' : sl'.set g (p_ (!w) (sl'.getD g .u)) = sl' := by
            have := lit_set (sl := sl') (g := g) (w := w) (G := false) (by rw [hq']; exact hG)
            simpa using this
          simp only [hq', hG, ht, Bool.false_eq_true, ↓reduceIte]
          rw [← hq', hl']
          exact ⟨fun e => (by cases e), fun _ => hk⟩


/-- an operation that is not pure looks at its operands and at the objects alone -/
theorem awOp_agree {P : Program} {st : St} {G : Bool} {K : A → St → Prop} {op : AOp} (hp : op.pure = false) {sl' : List A} (he : ∀ x ∈ op.opds, x.ev sl' = x.ev st.sl) (h : c_ P st G K op) :
    c_ P ⟨sl', st.ext, st.loc⟩ G (fun v st' => st'.sl = sl' ∧ K v ⟨st.sl, st'.ext, st'.loc⟩) op := by
  obtain ⟨sl, ext, loc⟩ := st
  cases op <;> simp only [AOp.pure, Bool.true_eq_false] at hp <;> simp only [c_, QCallK, RowK, ByteK, B2SK, OptK, StoreK] at h ⊢ <;> simp only [AOp.opds, List.mem_cons, List.not_mem_nil, or_false, forall_eq, forall_eq_or_imp] at he
  case alloc z => exact ⟨rfl, h⟩
  case box x =>
    rw [he]
    split at h
    · exact ⟨h.1, rfl, h.2⟩
    · exact h
  case store n a x =>
    obtain ⟨e1, e2⟩ := he
    rw [e1, e2]
    split at h
    · rename_i p cs h1 h2
      obtain ⟨h3, h4, h5, h6⟩ := h
      refine ⟨h3, h4, h5, ?_⟩
      have : C_ ⟨sl', ext, loc⟩ cs p = (C_ ⟨sl, ext, loc⟩ cs p).map fun s => ⟨sl', s.ext, s.loc⟩ := by
        have hg : ∀ r, z_ ⟨sl', ext, loc⟩ r = z_ ⟨sl, ext, loc⟩ r := fun r => by cases r <;> rfl
        have hs : ∀ r o, B_ ⟨sl', ext, loc⟩ r o = ⟨sl', (B_ ⟨sl, ext, loc⟩ r o).ext, (B_ ⟨sl, ext, loc⟩ r o).loc⟩ := fun r o => by cases r <;> rfl
        cases p <;> simp only [C_, hg] <;> first | rfl | skip
        all_goals (repeat' split) <;> first | rfl | simp [hs]
      rw [this]
      split at h6
      · rename_i st' hst
        simp only [hst, Option.map_some]
        refine ⟨h6.1, trivial, ?_⟩
        have hsl : st'.sl = sl := by
          have hs : ∀ r o, (B_ ⟨sl, ext, loc⟩ r o).sl = sl := fun r o => by cases r <;> rfl
          cases p <;> simp only [C_] at hst <;> first | (cases hst; done) | skip
          all_goals (repeat' split at hst) <;> first | (cases hst; done) | (cases hst; exact hs _ _)
        obtain ⟨sl2, ext2, loc2⟩ := st'
        simp only at hsl
        subst hsl
        exact h6.2
      · exact h6.elim
    · exact h
  case clear z x =>
    rw [he]
    split at h
    · rename_i p h1
      obtain ⟨h3, h6⟩ := h
      refine ⟨h3, ?_⟩
      have : a0_ ⟨sl', ext, loc⟩ z p = (a0_ ⟨sl, ext, loc⟩ z p).map fun s => ⟨sl', s.ext, s.loc⟩ := by
        have hg : ∀ r, z_ ⟨sl', ext, loc⟩ r = z_ ⟨sl, ext, loc⟩ r := fun r => by cases r <;> rfl
        have hs : ∀ r o, B_ ⟨sl', ext, loc⟩ r o = ⟨sl', (B_ ⟨sl, ext, loc⟩ r o).ext, (B_ ⟨sl, ext, loc⟩ r o).loc⟩ := fun r o => by cases r <;> rfl
        cases p <;> simp only [a0_, hg] <;> first | rfl | skip
        all_goals (repeat' split) <;> first | rfl | simp [hs]
      rw [this]
      split at h6
      · rename_i st' hst
        simp only [hst, Option.map_some]
        refine ⟨h6.1, trivial, ?_⟩
        have hsl : st'.sl = sl := by
          have hs : ∀ r o, (B_ ⟨sl, ext, loc⟩ r o).sl = sl := fun r o => by cases r <;> rfl
          cases p <;> simp only [a0_] at hst <;> first | (cases hst; done) | skip
          all_goals (repeat' split at hst) <;> first | (cases hst; done) | (cases hst; exact hs _ _)
        obtain ⟨sl2, ext2, loc2⟩ := st'
        simp only at hsl
        subst hsl
        exact h6.2
      · exact h6.elim
    · exact h
  case append str sz s x =>
    obtain ⟨e1, e2⟩ := he
    rw [e1, e2]
    split at h
    · rename_i s' x' h1 h2
      obtain ⟨h3, h4, h5⟩ := h
      refine ⟨h3, h4, ?_⟩
      have hg : ∀ r, z_ ⟨sl', ext, loc⟩ r = z_ ⟨sl, ext, loc⟩ r := fun r => by cases r <;> rfl
      unfold Q_ at h5 ⊢
      split at h5
      · exact h5.elim
      · rename_i xs hxs
        simp only [hxs]
        refine ⟨h5.1, ?_⟩
        have h5 := h5.2
        split at h5
        · split at h5
          · rename_i hgo
            rw [hg, hgo]
            obtain ⟨a1, a2, a3, a4, a5⟩ := h5
            have hs : ∀ (r : Ref) (o : Ob), B_ ⟨sl', ext, loc⟩ r o = ⟨sl', (B_ ⟨sl, ext, loc⟩ r o).ext, (B_ ⟨sl, ext, loc⟩ r o).loc⟩ := fun r o => by cases r <;> rfl
            have hs2 : ∀ (r : Ref) (o : Ob), B_ ⟨sl, ext, loc⟩ r o = ⟨sl, (B_ ⟨sl, ext, loc⟩ r o).ext, (B_ ⟨sl, ext, loc⟩ r o).loc⟩ := fun r o => by cases r <;> rfl
            refine ⟨a1, a2, a3, a4, ?_, ?_⟩
            · rw [hs]
            · rw [hs]; rw [hs2] at a5; exact a5
          · exact h5.elim
        · exact ⟨h5.1, h5.2.1, rfl, h5.2.2⟩
        · exact h5.elim
    · exact h
  case mkSlice z n =>
    rw [he]
    split at h
    · exact ⟨h.1, h.2.1, h.2.2.1, rfl, h.2.2.2⟩
    · exact h
  case mkMap => exact ⟨rfl, h⟩
  case buildSliceF sz len z ps =>
    obtain ⟨e1, e2⟩ := parts2A_congr he
    obtain ⟨h1, h2⟩ := h
    rw [e1]
    split at h2
    · exact ⟨(e2 G).2 h1, rfl, h2⟩
    · exact h2.elim
  case mapSet x k v =>
    obtain ⟨e1, e2, e3⟩ := he
    rw [e1, e2, e3]
    have hg : ∀ r, z_ ⟨sl', ext, loc⟩ r = z_ ⟨sl, ext, loc⟩ r := fun r => by cases r <;> rfl
    have hs : ∀ (r : Ref) (o : Ob), B_ ⟨sl', ext, loc⟩ r o = ⟨sl', (B_ ⟨sl, ext, loc⟩ r o).ext, (B_ ⟨sl, ext, loc⟩ r o).loc⟩ := fun r o => by cases r <;> rfl
    have hs2 : ∀ (r : Ref) (o : Ob), B_ ⟨sl, ext, loc⟩ r o = ⟨sl, (B_ ⟨sl, ext, loc⟩ r o).ext, (B_ ⟨sl, ext, loc⟩ r o).loc⟩ := fun r o => by cases r <;> rfl
    split at h
    · rename_i r k' h1 h2
      refine ⟨h.1, h.2.1, h.2.2.1, ?_⟩
      have h3 := h.2.2.2
      rw [hg]
      split at h3
      · rename_i m ds h4 h5
        obtain ⟨h6, h7⟩ := h3
        rw [hs]
        refine ⟨h6, rfl, ?_⟩
        rw [hs2] at h7
        exact h7
      · exact h3.elim
    · exact h
  case nilSl neg x =>
    rw [he]
    split at h
    · rename_i c hx
      split at h
      · exact ⟨h.1, fun b hb => ⟨trivial, h.2 b hb⟩⟩
      · exact h.elim
    · exact h
  case appendF sz s x =>
    rw [he.1, he.2]
    split at h
    · split at h
      · exact ⟨h.1, h.2.1, h.2.2.1, h.2.2.2.1, fun e => ⟨trivial, h.2.2.2.2.1 e⟩, fun e => ⟨rfl, h.2.2.2.2.2 e⟩⟩
      · exact h
    · exact h
  case appendP z s x =>
    rw [he.1, he.2]
    split at h
    · split at h
      · exact ⟨h.1, h.2.1, h.2.2.1, h.2.2.2.1, fun e => ⟨trivial, h.2.2.2.2.1 e⟩, fun e g hg => ⟨rfl, h.2.2.2.2.2 e g hg⟩⟩
      · exact h
    · exact h
  case appendZ z s x =>
    rw [he.1, he.2]
    split at h
    · split at h
      · exact ⟨h.1, h.2.1, h.2.2.1, fun e => ⟨trivial, h.2.2.2.1 e⟩, fun g hg => ⟨rfl, h.2.2.2.2 g hg⟩⟩
      · exact h
    · exact h
  case appendO z s x =>
    rw [he.1, he.2]
    split at h
    · rename_i r n sz' _ _
      have hg : z_ ⟨sl', ext, loc⟩ r = z_ ⟨sl, ext, loc⟩ r := by cases r <;> rfl
      rw [hg]
      split at h
      · exact ⟨h.1, h.2.1, h.2.2.1, fun e => ⟨trivial, h.2.2.2.1 e⟩, fun e => ⟨rfl, h.2.2.2.2 e⟩⟩
      · exact h
    · exact h
  case call tok f args =>
    obtain ⟨e1, e2⟩ := evs_congr (l := args) he
    rw [e1]
    refine ⟨(e2 G).2 h.1, ?_⟩
    obtain ⟨h1, h2⟩ := h.2
    refine ⟨h1, fun w ι cargs a b c => (h2 w ι cargs a b c).mono fun e w' ⟨r, H', ι', v, a1, ⟨ext', loc', r', b1, b2, b3, b4, b5, b6⟩, a3⟩ => ⟨r, H', ι', v, a1, ⟨ext', loc', r', b1, b2, b3, b4, b5, rfl, b6⟩, a3⟩⟩
  case callL hd tok f args =>
    obtain ⟨e1, e2⟩ := evs_congr (l := args) he
    rw [e1]
    refine ⟨(e2 G).2 h.1, ?_⟩
    obtain ⟨h1, h2⟩ := h.2
    refine ⟨h1, fun w ι cargs a b c => (h2 w ι cargs a b c).mono fun e w' ⟨r, H', ι', v, a1, ⟨ext', loc', r', b1, b2, b3, b4, b5, b6⟩, a3⟩ => ⟨r, H', ι', v, a1, ⟨ext', loc', r', b1, b2, b3, b4, b5, b6.1, rfl, b6.2⟩, a3⟩⟩
  case callv f args =>
    obtain ⟨e0, he⟩ := he
    obtain ⟨e1, e2⟩ := evs_congr (l := args) he
    rw [e0, e1]
    split at h
    · refine ⟨h.1, (e2 G).2 h.2.1, ?_⟩
      obtain ⟨h1, h2⟩ := h.2.2
      refine ⟨h1, fun w ι cargs a b c => (h2 w ι cargs a b c).mono fun e w' ⟨r, H', ι', v, a1, ⟨ext', loc', r', b1, b2, b3, b4, b5, b6⟩, a3⟩ => ⟨r, H', ι', v, a1, ⟨ext', loc', r', b1, b2, b3, b4, b5, rfl, b6⟩, a3⟩⟩
    · exact h

theorem AOp.total_pure {op : AOp} (h : op.pure = false) : op.total = false := by cases op <;> first | rfl | (simp [AOp.pure] at h)

/-- operations that add to the objects -/
def AOp.grows : AOp → Bool
  | .alloc _ | .box _ | .mkSlice .. | .append .. | .appendF .. | .mkMap | .buildSliceF .. | .appendP .. | .appendZ .. | .appendO .. => true
  | _ => false

theorem grown_new {ext loc : Heap} {o : Ob} : Grown ext loc ext (loc ++ [o]) := ⟨rfl, id, fun sl sl' r q h h1 _ => by
  cases r with
  | e b => exact h
  | l i =>
    simp only [z_, List.getD] at h ⊢
    rcases Nat.lt_or_ge i loc.length with hi | hi
    · rw [List.getElem?_append_left hi]; exact h
    · rw [List.getElem?_eq_none hi] at h
      exact absurd h.symm h1⟩

theorem grown_set {sl : List A} {ext loc : Heap} {r : Ref} {p s p' s' : Nat} (hg : z_ ⟨sl, ext, loc⟩ r = .grow p s) : Grown ext loc (B_ ⟨sl, ext, loc⟩ r (.grow p' s')).ext (B_ ⟨sl, ext, loc⟩ r (.grow p' s')).loc := by
  cases r with
  | e b =>
    refine ⟨by simp [B_], fun hf => ?_, fun sl1 sl2 q o h h1 h2 => ?_⟩
    · simp only [B_]
      have : ∀ (l : Heap) (b : Nat), Obs.fits ext.length 0 l → Obs.fits ext.length 0 (l.set b ((Ob.grow p' s').re ext.length)) := by
        intro l
        induction l with
        | nil => intro b h; exact h
        | cons x l ih =>
          intro b h
          cases b with
          | zero => exact ⟨trivial, h.2⟩
          | succ b => exact ⟨h.1, ih b h.2⟩
      exact this ext b hf
    · cases q with
      | l i => exact h
      | e c =>
        simp only [z_, B_, List.getD] at h hg ⊢
        rw [List.getElem?_set]
        split
        · rename_i hbc
          subst hbc
          rw [hg] at h
          exact absurd h.symm (h2 p s)
        · exact h
  | l i =>
    refine ⟨rfl, id, fun sl1 sl2 q o h h1 h2 => ?_⟩
    cases q with
    | e c => exact h
    | l j =>
      simp only [z_, B_, List.getD] at h hg ⊢
      rw [List.getElem?_set]
      split
      · rename_i hbc
        subst hbc
        rw [hg] at h
        exact absurd h.symm (h2 p s)
      · exact h

theorem awOp_grown {P : Program} {st : St} {G : Bool} {K : A → St → Prop} {op : AOp} (hp : op.grows = true) (h : c_ P st G K op) : c_ P st G (fun v st' => K v st' ∧ Grown st.ext st.loc st'.ext st'.loc) op := by
  obtain ⟨sl, ext, loc⟩ := st
  cases op <;> simp only [AOp.grows, Bool.false_eq_true] at hp <;> simp only [c_] at h ⊢
  case alloc z => exact ⟨h, grown_new⟩
  case mkMap => exact ⟨h, grown_new⟩
  case buildSliceF sz len z ps =>
    obtain ⟨h1, h2⟩ := h
    split at h2
    · exact ⟨h1, h2, grown_new⟩
    · exact h2.elim
  case box x =>
    split at h
    · exact ⟨h.1, h.2, grown_new⟩
    · exact h
  case mkSlice z n =>
    split at h
    · exact ⟨h.1, h.2.1, h.2.2.1, h.2.2.2, grown_new⟩
    · exact h
  case append str sz s x =>
    split at h
    · obtain ⟨h3, h4, h5⟩ := h
      refine ⟨h3, h4, ?_⟩
      unfold Q_ at h5 ⊢
      split at h5
      · exact h5.elim
      · refine ⟨h5.1, ?_⟩
        have h5 := h5.2
        split at h5
        · split at h5
          · rename_i hgo
            obtain ⟨a1, a2, a3, a4, a5⟩ := h5
            exact ⟨a1, a2, a3, a4, a5, grown_set hgo⟩
          · exact h5.elim
        · exact ⟨h5.1, h5.2.1, h5.2.2, grown_new⟩
        · exact h5.elim
    · exact h
  case appendF sz s x =>
    split at h
    · split at h
      · exact ⟨h.1, h.2.1, h.2.2.1, h.2.2.2.1, fun e => ⟨h.2.2.2.2.1 e, Grown.refl _ _⟩, fun e => ⟨h.2.2.2.2.2 e, grown_new⟩⟩
      · exact h
    · exact h
  case appendP z s x =>
    split at h
    · split at h
      · exact ⟨h.1, h.2.1, h.2.2.1, h.2.2.2.1, fun e => ⟨h.2.2.2.2.1 e, Grown.refl _ _⟩, fun e g hg => ⟨h.2.2.2.2.2 e g hg, grown_new⟩⟩
      · exact h
    · exact h
  case appendZ z s x =>
    split at h
    · split at h
      · exact ⟨h.1, h.2.1, h.2.2.1, fun e => ⟨h.2.2.2.1 e, Grown.refl _ _⟩, fun g hg => ⟨h.2.2.2.2 g hg, grown_new⟩⟩
      · exact h
    · exact h
  case appendO z s x =>
    split at h
    · split at h
      · exact ⟨h.1, h.2.1, h.2.2.1, fun e => ⟨h.2.2.2.1 e, Grown.refl _ _⟩, fun e => ⟨h.2.2.2.2 e, grown_new⟩⟩
      · exact h
    · exact h

/-- a call that leaves the caller's own objects as they were -/
theorem awOp_kept {P : Program} {st : St} {G : Bool} {K : A → St → Prop} {op : AOp} (hp : op.isCallL = true) (h : c_ P st G K op) : c_ P st G (fun v st' => K v st' ∧ LocSame st.loc st'.loc ∧ (op.isHead = true → HeadSame st.ext st'.ext)) op := by
  cases op <;> simp only [AOp.isCallL, Bool.false_eq_true] at hp
  case callL hd tok f args =>
    refine ⟨h.1, ?_⟩
    obtain ⟨h1, h2⟩ := h.2
    refine ⟨h1, fun w ι cargs a b c => (h2 w ι cargs a b c).mono fun e w' ⟨r, H', ι', v, a1, ⟨ext', loc', r', b1, b2, b3, b4, b5, b6, b7⟩, a3⟩ => ⟨r, H', ι', v, a1, ⟨ext', loc', r', b1, b2, b3, b4, b5, b6, b7, b6⟩, a3⟩⟩

/-- .. and so does a step -/
theorem awStep_agree {P : Program} {st : St} {k : St → Prop} {s : Step} (hp : s.op.pure = false) {sl' : List A} (he : ∀ x ∈ s.op.opds, x.ev sl' = x.ev st.sl) (hg : ∀ g w, s.guard = some (g, w) → sl'.getD g .u = st.sl.getD g .u)
    (h : awStep P st k s) : awStep P ⟨sl', st.ext, st.loc⟩ (fun st' => ∃ v, st'.sl = d_ sl' s.dst v ∧ k ⟨d_ st.sl s.dst v, st'.ext, st'.loc⟩) s := by
  have hmono : ∀ {G : Bool} {K K' : A → St → Prop} {st : St}, s.op.pure = false → (∀ v st', K v st' → K' v st') → c_ P st G K s.op → c_ P st G K' s.op := by
    intro G K K' st hp hk h
    have h2 := awOp_agree (sl' := st.sl) hp (fun _ _ => rfl) h
    clear h
    revert h2
    generalize s.op = op at hp
    obtain ⟨sl, ext, loc⟩ := st
    intro h
    cases op <;> simp only [AOp.pure, Bool.true_eq_false] at hp <;> simp only [c_, QCallK, RowK, ByteK, B2SK, OptK, StoreK] at h ⊢
    case alloc z => exact hk _ _ h.2
    case box x =>
      split at h
      · exact ⟨h.1, hk _ _ h.2.2⟩
      · exact h
    case store n a x =>
      split at h
      · obtain ⟨h3, h4, h5, h6⟩ := h
        refine ⟨h3, h4, h5, ?_⟩
        split at h6
        · rename_i st' _
          obtain ⟨a1, a2, a3⟩ := h6
          refine ⟨a1, hk _ _ ?_⟩
          obtain ⟨sl2, ext2, loc2⟩ := st'
          simp only at a2
          subst a2
          exact a3
        · exact h6.elim
      · exact h
    case clear z x =>
      split at h
      · obtain ⟨h3, h6⟩ := h
        refine ⟨h3, ?_⟩
        split at h6
        · rename_i st' _
          obtain ⟨a1, a2, a3⟩ := h6
          refine ⟨a1, hk _ _ ?_⟩
          obtain ⟨sl2, ext2, loc2⟩ := st'
          simp only at a2
          subst a2
          exact a3
        · exact h6.elim
      · exact h
    case append str sz s x =>
      split at h
      · obtain ⟨h3, h4, h5⟩ := h
        refine ⟨h3, h4, ?_⟩
        unfold Q_ at h5 ⊢
        split at h5
        · exact h5.elim
        · refine ⟨h5.1, ?_⟩
          have h5 := h5.2
          split at h5
          · split at h5
            · obtain ⟨a1, a2, a3, a4, a5, a6⟩ := h5
              refine ⟨a1, a2, a3, a4, hk _ _ ?_⟩
              have hs : ∀ (r : Ref) (o : Ob), B_ ⟨sl, ext, loc⟩ r o = ⟨sl, (B_ ⟨sl, ext, loc⟩ r o).ext, (B_ ⟨sl, ext, loc⟩ r o).loc⟩ := fun r o => by cases r <;> rfl
              rw [hs]; exact a6
            · exact h5.elim
          · exact ⟨h5.1, h5.2.1, hk _ _ h5.2.2.2⟩
          · exact h5.elim
      · exact h
    case mkSlice z n =>
      split at h
      · exact ⟨h.1, h.2.1, h.2.2.1, hk _ _ h.2.2.2.2⟩
      · exact h
    case mkMap => exact hk _ _ h.2
    case buildSliceF sz len z ps =>
      obtain ⟨h1, h2⟩ := h
      split at h2
      · exact ⟨h1, hk _ _ h2.2⟩
      · exact h2.elim
    case mapSet x k v =>
      split at h
      · refine ⟨h.1, h.2.1, h.2.2.1, ?_⟩
        have h3 := h.2.2.2
        split at h3
        · refine ⟨h3.1, hk _ _ ?_⟩
          have hs : ∀ (r : Ref) (o : Ob), B_ ⟨sl, ext, loc⟩ r o = ⟨sl, (B_ ⟨sl, ext, loc⟩ r o).ext, (B_ ⟨sl, ext, loc⟩ r o).loc⟩ := fun r o => by cases r <;> rfl
          rw [hs]
          exact h3.2.2
        · exact h3.elim
      · exact h
    case nilSl neg x =>
      split at h
      · split at h
        · exact ⟨h.1, fun b hb => hk _ _ (h.2 b hb).2⟩
        · exact h
      · exact h
    case appendF sz s x =>
      split at h
      · split at h
        · exact ⟨h.1, h.2.1, h.2.2.1, h.2.2.2.1, fun e => hk _ _ (h.2.2.2.2.1 e).2, fun e => hk _ _ (h.2.2.2.2.2 e).2⟩
        · exact h
      · exact h
    case appendP z s x =>
      split at h
      · split at h
        · exact ⟨h.1, h.2.1, h.2.2.1, h.2.2.2.1, fun e => hk _ _ (h.2.2.2.2.1 e).2, fun e g hg => hk _ _ (h.2.2.2.2.2 e g hg).2⟩
        · exact h
      · exact h
    case appendZ z s x =>
      split at h
      · split at h
        · exact ⟨h.1, h.2.1, h.2.2.1, fun e => hk _ _ (h.2.2.2.1 e).2, fun g hg => hk _ _ (h.2.2.2.2 g hg).2⟩
        · exact h
      · exact h
    case appendO z s x =>
      split at h
      · split at h
        · exact ⟨h.1, h.2.1, h.2.2.1, fun e => hk _ _ (h.2.2.2.1 e).2, fun e => hk _ _ (h.2.2.2.2 e).2⟩
        · exact h
      · exact h
    case call tok f args =>
      refine ⟨h.1, ?_⟩
      obtain ⟨h1, h2⟩ := h.2
      refine ⟨h1, fun w ι cargs a b c => (h2 w ι cargs a b c).mono fun e w' ⟨r, H', ι', v, a1, ⟨ext', loc', r', b1, b2, b3, b4, b5, b6, b7⟩, a3⟩ => ⟨r, H', ι', v, a1, ⟨ext', loc', r', b1, b2, b3, b4, b5, hk _ _ b7⟩, a3⟩⟩
    case callL hd tok f args =>
      refine ⟨h.1, ?_⟩
      obtain ⟨h1, h2⟩ := h.2
      refine ⟨h1, fun w ι cargs a b c => (h2 w ι cargs a b c).mono fun e w' ⟨r, H', ι', v, a1, ⟨ext', loc', r', b1, b2, b3, b4, b5, b6, b7, b8⟩, a3⟩ => ⟨r, H', ι', v, a1, ⟨ext', loc', r', b1, b2, b3, b4, b5, b6, hk _ _ b8⟩, a3⟩⟩
    case callv f args =>
      split at h
      · refine ⟨h.1, h.2.1, ?_⟩
        obtain ⟨h1, h2⟩ := h.2.2
        refine ⟨h1, fun w ι cargs a b c => (h2 w ι cargs a b c).mono fun e w' ⟨r, H', ι', v, a1, ⟨ext', loc', r', b1, b2, b3, b4, b5, b6, b7⟩, a3⟩ => ⟨r, H', ι', v, a1, ⟨ext', loc', r', b1, b2, b3, b4, b5, hk _ _ b7⟩, a3⟩⟩
      · exact h
  unfold awStep at h ⊢
  split at h
  · rename_i hgd
    simp only [hgd]
    refine hmono hp (fun v st' hk => ⟨v, ?_, hk.2⟩) (awOp_agree hp he h)
    rw [hk.1]
  · rename_i g w hgd
    simp only [hgd, hg g w hgd]
    split at h
    · exact h.elim
    · rename_i G hG
      simp only [AOp.total_pure hp, Bool.false_eq_true, ↓reduceIte] at h ⊢
      have hl := lit_set hG
      have hl' := lit_set (sl := sl') (g := g) (w := w) (G := G) (by rw [hg g w hgd]; exact hG)
      rw [hg g w hgd] at hl'
      cases G with
      | true =>
        simp only [↓reduceIte] at hl hl'
        rw [hl] at h
        rw [hl']
        refine ⟨fun _ => hmono hp (fun v st' hk => ⟨v, ?_, hk.2⟩) (awOp_agree hp he (h.1 rfl)), fun e => by cases e⟩
        rw [hk.1]
      | false =>
        simp only [Bool.false_eq_true, ↓reduceIte] at hl hl'
        rw [hl] at h
        rw [hl']
        exact ⟨fun e => (by cases e), fun _ => ⟨.u, rfl, h.2 rfl⟩⟩

/-- one step, run -/
theorem step_wp {P : Program} {toks : List FuncId} {ops : Array Oper} {i : Nat} {o : Oper} {s : Step} {Q : Exit → Act → World → Prop} {K : Act → World → Prop} {k : St → Prop} {w : World} {ι : List AM.K} {st : St} {a : Act}
    (hi : ops[i]? = some o) (hc : cStep P toks ops o = some s) (hs : SimSt w ι st a) (h : awStep P st k s)
    (hK : ∀ w' ι' st' a', k st' → SimSt w' ι' st' a' → Ext w ι w' ι' → st'.ext.length = st.ext.length → K a' w') : wpOp P ops Q i K a w := by
  unfold wpOp
  simp only [hi]
  unfold cStep at hc
  unfold awStep at h
  split at hc
  · rename_i op hop
    split at hc
    · rename_i hg
      cases hc
      rw [if_pos (by simp [Region.wanted, hg])]
      refine .inl (op_wp hop hs h fun v w' x st' ι' hk hs' hr hx' hn' => ?_)
      exact hK w' ι' _ _ hk (hs'.put o.dst hr) hx' hn'
    · rename_i j want hg
      split at hc
      · rename_i d hd
        cases hc
        simp only at h
        split at h
        · exact h.elim
        · rename_i G hG
          obtain ⟨hy, hyb⟩ := guard_ra hd hs hG
          have hw : Region.wanted o (yielded ops a.tmps) = G := by simp only [Region.wanted, hg]; exact hy
          rw [hw]
          split at h
          · rename_i ht
            cases G with
            | true =>
              rw [if_pos rfl]
              refine .inl (op_wp hop hs h fun v w' x st' ι' hk hs' hr hx' hn' => ?_)
              exact hK w' ι' _ _ hk (hs'.put o.dst (.gd (fun _ => hr) (fun e => by cases e))) hx' hn'
            | false =>
              rw [if_neg (by simp)]
              obtain ⟨x, hk⟩ := awOp_skip ht h
              exact hK w ι _ _ hk (hs.put o.dst (.gd (fun e => by cases e) (fun _ => rfl))) (.refl _ _) rfl
          · have hbG : ∀ b, st.sl.getD d .u = .c (.d (.bool b)) → (b == want) = G := fun b e => by
              rw [e] at hG; simp only [f_, Option.some.injEq] at hG; exact hG
            cases G with
            | true =>
              rw [if_pos rfl]
              have hs2 := lit_ra (b := want) hs (fun b e => by simpa using hbG b e)
              refine .inl (op_wp hop hs2 (h.1 rfl) fun v w' x st' ι' hk hs' hr hx' hn' => ?_)
              exact hK w' ι' _ _ hk (hs'.put o.dst hr) hx' hn'
            | false =>
              rw [if_neg (by simp)]
              have hs2 := lit_ra (b := !want) hs (fun b e => by have := hbG b e; cases b <;> cases want <;> simp_all)
              exact hK w ι _ _ (h.2 rfl) (hs2.put o.dst .u) (.refl _ _) rfl
      · cases hc
  · cases hc

end Go.AM
