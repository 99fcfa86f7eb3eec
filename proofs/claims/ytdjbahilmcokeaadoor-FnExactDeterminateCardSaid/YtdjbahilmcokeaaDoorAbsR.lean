/-
  Functions that hand out trees; calls in front of which other objects are set aside; functions that write into a tree.
  Conditions: none.
-/
import Derived.Test.YtdjbahilmcokeaaDoorAbsQ
namespace Go.AM
set_option linter.unusedVariables false
set_option linter.unusedSimpArgs false

/-- the end of a function that hands out trees -/
def FinT (rs : List Rv) (Q : A → Heap → Prop) : Ex → St → Prop
  | .exit _, _ => False
  | _, st => ∃ st', St.le st st' ∧ resOks st' rs ∧ ∃ r, resRaw st' rs = some r ∧ ∀ kv, ∃ r' H' I, OutA st'.loc kv r r' H' I ∧ I.Nodup ∧ Q r' H'

theorem finT_ret {rs : List Rv} {Q : A → Heap → Prop} {st : St} (r : A) (hok : resOks st rs) (hr : resRaw st rs = some r) (h : ∀ kv, ∃ r' H' I, OutA st.loc kv r r' H' I ∧ I.Nodup ∧ Q r' H') : FinT rs Q .ret st :=
  ⟨st, St.le_refl _, hok, r, hr, h⟩

theorem ext_sub {w w' : World} {ι2 ι' : List K} (hx : Ext w [] w' ι2) (h : ∀ (i : Nat) k b, ι'[i]? = some k → k.at b → ∃ k', k' ∈ ι2 ∧ k'.at b) : Ext w [] w' ι' := by
  have key : ∀ b, b < w.heap.size → ∀ k ∈ ι', ¬ k.at b := fun b hb k hk hat => by
    obtain ⟨i, hi⟩ := List.mem_iff_getElem?.1 hk
    obtain ⟨k', h1, h2⟩ := h i k b hi hat
    exact (hx.block b hb (fun k hk => by simp at hk)).2 k' h1 h2
  refine ⟨hx.os, hx.tape, hx.output, hx.size, fun b o hs => ?_, fun b hb _ => ?_, fun i k hi => by simp at hi⟩
  · obtain ⟨p, q⟩ := hx.safe b o hs
    exact ⟨⟨p.1, fun k hk ho => key b hs.1 k hk (K.at_of_owns ho)⟩, q⟩
  · exact ⟨(hx.block b hb (fun k hk => by simp at hk)).1, key b hb⟩

/-- what is shown of the machine holds of the call: a function that hands out trees -/
theorem acallsT {P : Program} {f : FuncId} {fn : Func} {d : Cd} {rs : List Rv} {n : Nat} {args : List A} {Q : A → Heap → Prop} {toks : List FuncId} {kl : List (Nat × List Nat × List Nat)}
    (hf : P.funcs[f]? = some fn) (hname : nameOk fn = true) (hc : cFunc P toks kl fn = some (d, rs, n))
    (h : aw P d (kq P (FinT rs Q) []) ⟨args ++ List.replicate (n - args.length) .u, [], []⟩) : ACalls P f args [] Q := by
  unfold cFunc at hc
  split at hc
  · rename_i c hb
    split at hc
    · rename_i d' rs' h1 h2
      cases hc
      refine acalls_of_run toks kl hf hb (by simpa [nameOk] using hname) h1 (FQ := FinT rs Q) (fun i st h => h.elim) (fun e w ι w' ι' st a' he hq hs hx hn hsim => ?_) (fun _ => h)
      have hq' : ∃ st', St.le st st' ∧ resOks st' rs ∧ ∃ r, resRaw st' rs = some r ∧ ∀ kv, ∃ r' H' I, OutA st'.loc kv r r' H' I ∧ I.Nodup ∧ Q r' H' := by
        rcases he with rfl | rfl
        · exact hq
        · exact hq
      obtain ⟨st', hle, hok, r, hr, hout⟩ := hq'
      have hι : ι = [] := List.eq_nil_of_length_eq_zero hsim.len
      subst hι
      obtain ⟨ι2, hs2, hx2⟩ := hle.2 w' ι' a' hs
      have hx3 := hx2 w [] (by simp) hx
      refine ⟨hs2.defers, ?_⟩
      have hext : st'.ext = [] := List.eq_nil_of_length_eq_zero (by rw [hle.1, hn]; rfl)
      have hsl : Sim w' ι2 0 st'.loc := by have := hs2.sim; rw [hext] at this; exact this
      have hmap : ∀ vs : List Value, (fn.results.toList.mapM (oneRv a'.tmps)).run P w' = .ok vs w' →
          (results fn a'.tmps).run P w' = .ok (if h : vs.toArray.size = 1 then vs.toArray[0] else .tuple vs.toArray) w' := fun vs hvs => by
        rw [results_eq, Sem.run_bind, Array.mapM_eq_mapM_toList, Sem.run_map, hvs]
        rfl
      have fin : ∀ v, RA w' ι2 0 r v → ∃ r' H' ι' v', Ending.returned v = .returned v' ∧ Q r' H' ∧ Sim w' ι' H'.length H' ∧ RA w' ι' H'.length r' v' ∧ Ext w [] w' ι' ∧ ([] : Heap).length ≤ H'.length := fun v hv => by
        obtain ⟨kv, hkv⟩ := outA_ra hsl hv
        obtain ⟨r', H', I, ho, hnd, hQ⟩ := hout kv
        obtain ⟨hp, hra⟩ := hkv r' H' I ho hnd
        obtain ⟨ι3, h4, h5, h6, h7⟩ := hp.sim hsl hnd
        have hat : ∀ (i : Nat) k b, ι3[i]? = some k → k.at b → ∃ k', k' ∈ ι2 ∧ k'.at b := fun i k b hi hk => by
          obtain ⟨j, k', _, h8, h9⟩ := h7 i k b hi hk
          exact ⟨k', List.mem_of_getElem? h8, h9⟩
        refine ⟨r', H', ι3, v, rfl, hQ, ⟨h4, fun i o k ho hk => h5 i o k ho hk _ _, h6, fun k b hk hb => ?_⟩, hra _ _ _, ext_sub hx3 hat, Nat.zero_le _⟩
        obtain ⟨i, hi⟩ := List.mem_iff_getElem?.1 hk
        obtain ⟨k', h8, h9⟩ := hat i k b hi hb
        exact hsl.low k' b h8 h9
      unfold resRaw at hr
      split at hr
      · rename_i x hx1
        cases hr
        obtain ⟨vs, h3, h4, h5⟩ := resRaws_ra (P := P) hs2 h2 hok hx1
        obtain ⟨v, rfl⟩ := List.length_eq_one_iff.1 h4
        have h6 := h5 0 r v rfl rfl
        rw [hext] at h6
        exact ⟨v, by simpa using hmap _ h3, fin v h6⟩
      · rename_i xs hne hx1
        cases hr
        obtain ⟨vs, h3, h4, h5⟩ := resRaws_ra (P := P) hs2 h2 hok hx1
        have hn1 : ¬ vs.toArray.size = 1 := by
          intro e
          simp [h4] at e
          obtain ⟨y, rfl⟩ := List.length_eq_one_iff.1 e
          exact hne y rfl
        rw [hext] at h5
        exact ⟨.tuple vs.toArray, by rw [hmap _ h3, dif_neg hn1], fin _ (.tup h4 h5)⟩
      · cases hr
    · cases hc
  · cases hc

/-! ### what looks at no object -/

def C.port (c : C) : Prop := ∀ w ι n w' ι' n' v, RC w ι n c v → RC w' ι' n' c v
def A.port (a : A) : Prop := ∀ w ι n w' ι' n' v, RA w ι n a v → RA w' ι' n' a v

theorem port_d {x : D} (hx : x.leaf = true) : (C.d x).port := fun w ι n w' ι' n' v h => by cases h with | d h => exact .d (h.of_leaf hx)
theorem port_c {c : C} (hc : c.port) : (A.c c).port := fun w ι n w' ι' n' v h => by cases h with | c h => exact .c (hc _ _ _ _ _ _ _ h)
theorem port_agg {cs : List C} (hc : ∀ c ∈ cs, c.port) : (A.agg cs).port := fun w ι n w' ι' n' v h => by
  cases h with
  | agg h => exact .agg ⟨h.1, fun i c v h1 h2 => hc c (List.mem_of_getElem? h1) _ _ _ _ _ _ _ (h.2 i c v h1 h2)⟩
theorem port_tup {as : List A} (ha : ∀ a ∈ as, a.port) : (A.tup as).port := fun w ι n w' ι' n' v h => by
  cases h with
  | tup h1 h2 => exact .tup h1 fun i a v h3 h4 => ha a (List.mem_of_getElem? h3) _ _ _ _ _ _ _ (h2 i a v h3 h4)

def C.portB : C → Bool
  | .d x => x.leaf
  | _ => false
def A.portB : A → Bool
  | A.c x => x.portB
  | A.agg cs => cs.all C.portB
  | _ => false
def A.portT : A → Bool
  | A.tup as => as.all A.portB
  | a => a.portB
theorem C.port_of {c : C} (h : c.portB = true) : c.port := by cases c <;> first | exact port_d h | cases h
theorem A.port_ofB {a : A} (h : a.portB = true) : a.port := by
  cases a <;> first | exact port_c (C.port_of h) | exact port_agg (fun c hc => C.port_of (List.all_eq_true.1 h c hc)) | cases h
theorem A.port_of {a : A} (h : a.portT = true) : a.port := by
  cases a <;> first | exact port_tup (fun c hc => A.port_ofB (List.all_eq_true.1 h c hc)) | exact A.port_ofB h

def Ob.isTree : Ob → Prop
  | .tree _ _ => True
  | _ => False

/-! ### objects are set aside -/

/-- objects are put in their places, the others behind -/
def putAll (H : Heap) : List Nat → Heap → Heap
  | [], l => H ++ l
  | j :: J, o :: l => putAll (H.set j o) J l
  | _ :: _, [] => H

theorem putAll_len : ∀ {J : List Nat} {H l : Heap}, J.length ≤ l.length → (putAll H J l).length = H.length + (l.length - J.length)
  | [], H, l, h => by simp [putAll]
  | j :: J, H, [], h => by simp at h
  | j :: J, H, o :: l, h => by simp only [putAll]; rw [putAll_len (by simpa using h)]; simp

theorem putAll_get : ∀ {J : List Nat} {H l : Heap} {i : Nat} {o : Ob}, J.Nodup → J.length ≤ l.length → (putAll H J l)[i]? = some o →
    (∃ m : Nat, J[m]? = some i ∧ l[m]? = some o) ∨ (i ∉ J ∧ H[i]? = some o) ∨ ∃ m : Nat, i = H.length + m ∧ l[J.length + m]? = some o
  | [], H, l, i, o, hn, hl, h => by
    simp only [putAll] at h
    rcases Nat.lt_or_ge i H.length with h1 | h1
    · rw [List.getElem?_append_left h1] at h; exact .inr (.inl ⟨by simp, h⟩)
    · rw [List.getElem?_append_right h1] at h; exact .inr (.inr ⟨i - H.length, by omega, by simpa using h⟩)
  | j :: J, H, [], i, o, hn, hl, h => by simp at hl
  | j :: J, H, x :: l, i, o, hn, hl, h => by
    simp only [putAll] at h
    obtain ⟨n1, n2⟩ := List.nodup_cons.1 hn
    rcases putAll_get n2 (by simpa using hl) h with ⟨m, h1, h2⟩ | ⟨h1, h2⟩ | ⟨m, h1, h2⟩
    · exact .inl ⟨m + 1, by simpa using h1, by simpa using h2⟩
    · by_cases hij : j = i
      · subst hij
        rw [List.getElem?_set] at h2
        simp only [↓reduceIte] at h2
        split at h2
        · exact .inl ⟨0, rfl, by simpa using h2⟩
        · cases h2
      · rw [List.getElem?_set_ne hij] at h2
        exact .inr (.inl ⟨by simp [h1, Ne.symm hij], h2⟩)
    · exact .inr (.inr ⟨m, by simpa using h1, by rw [List.length_cons, show J.length + 1 + m = (J.length + m) + 1 by omega]; simpa using h2⟩)

inductive FzC (H : Heap) (J : List Nat) : C → C → Prop
  | d {x : D} : FzC H J (.d x) (.d x)
  | tree {i : Nat} {kv : Value} {d : List (List D)} : H[i]? = some (.tree kv d) → i ∉ J → FzC H J (.d (.v kv)) (.d (.sl d))
  | u {c : C} : FzC H J c .u
inductive FzCs (H : Heap) (J : List Nat) : List C → List C → Prop
  | nil : FzCs H J [] []
  | cons {c c' : C} {l l' : List C} : FzC H J c c' → FzCs H J l l' → FzCs H J (c :: l) (c' :: l')
inductive FzA (H : Heap) (J : List Nat) : A → A → Prop
  | c {c c' : C} : FzC H J c c' → FzA H J (.c c) (.c c')
  | agg {cs cs' : List C} : FzCs H J cs cs' → FzA H J (.agg cs) (.agg cs')
  | u {a : A} : FzA H J a .u
inductive FzL (H : Heap) (J : List Nat) : List A → List A → Prop
  | nil : FzL H J [] []
  | cons {a a' : A} {l l' : List A} : FzA H J a a' → FzL H J l l' → FzL H J (a :: l) (a' :: l')

theorem fzCs_id {H : Heap} {J : List Nat} (ds : List D) : FzCs H J (ds.map C.d) (ds.map C.d) := by
  induction ds with
  | nil => exact .nil
  | cons x l ih => exact .cons .d ih

theorem RT.oneCellV {w : World} {x : D} {v : Value} {B : Nat → Prop} (h : RT w x v B) : v.oneCell' = true := h.oneCell

section
variable {w : World} {ι ι₀ : List K} {n n₀ : Nat} {H : Heap} {J : List Nat}

theorem fzC_ra (hs : Sim w ι n H) (hsub : ∀ k ∈ ι₀, ∃ i : Nat, i ∈ J ∧ ι[i]? = some k) {c c' : C} {v : Value} (hz : FzC H J c c') (hr : RC w ι n c v) : RC w ι₀ n₀ c' v := by
  cases hz with
  | d => cases hr with | d h => exact .d (h.mono fun b o ho => ⟨⟨ho.1, fun k hk => let ⟨i, _, hi⟩ := hsub k hk; ho.2 k (List.mem_of_getElem? hi)⟩, rfl⟩)
  | @tree i kv d h1 h2 =>
    cases hr with
    | d h =>
      cases h
      obtain ⟨k, hk, ho⟩ := hs.get h1
      obtain ⟨B, B₀, rfl, h3, h4⟩ := ho.tree_inv
      refine .d (h4.rd fun b o hb => ⟨hs.low _ b (List.mem_of_getElem? hk) (h3 b hb), fun k hk' hown => ?_⟩)
      obtain ⟨j, hj, hj'⟩ := hsub k hk'
      have := hs.apart _ _ _ _ b hk hj' (h3 b hb) (K.at_of_owns hown)
      subst this
      exact h2 hj
  | u => exact .u hr.oneCell

theorem fzCs_ra (hs : Sim w ι n H) (hsub : ∀ k ∈ ι₀, ∃ i : Nat, i ∈ J ∧ ι[i]? = some k) : ∀ {cs cs' : List C} {vs : List Value}, FzCs H J cs cs' → RCs w ι n cs vs → RCs w ι₀ n₀ cs' vs
  | [], _, vs, .nil, hr => ⟨hr.1, fun i c v h => by simp at h⟩
  | c :: l, _, [], .cons h1 h2, hr => by have := hr.1; simp at this
  | c :: l, _, v :: vs, .cons h1 h2, hr => by
    have h3 := fzCs_ra hs hsub (vs := vs) h2 ⟨by have := hr.1; simpa using this, fun i c v h h' => hr.2 (i + 1) c v (by simpa using h) (by simpa using h')⟩
    refine ⟨by have := h3.1; simp [this], fun i x y hx hy => ?_⟩
    cases i with
    | zero => simp at hx hy; subst hx; subst hy; exact fzC_ra hs hsub h1 (hr.2 0 c v rfl rfl)
    | succ i => exact h3.2 i x y (by simpa using hx) (by simpa using hy)

theorem fzA_ra (hs : Sim w ι n H) (hsub : ∀ k ∈ ι₀, ∃ i : Nat, i ∈ J ∧ ι[i]? = some k) {a a' : A} {v : Value} (hz : FzA H J a a') (hr : RA w ι n a v) : RA w ι₀ n₀ a' v := by
  cases hz with
  | c h => cases hr with | c hr => exact .c (fzC_ra hs hsub h hr)
  | agg h => cases hr with | agg hr => exact .agg (fzCs_ra hs hsub h hr)
  | u => exact .u

theorem fzL_ra (hs : Sim w ι n H) (hsub : ∀ k ∈ ι₀, ∃ i : Nat, i ∈ J ∧ ι[i]? = some k) : ∀ {as as' : List A} {vs : List Value}, FzL H J as as' → vs.length = as.length → (∀ (i : Nat) a v, as[i]? = some a → vs[i]? = some v → RA w ι n a v) →
    vs.length = as'.length ∧ ∀ (i : Nat) a v, as'[i]? = some a → vs[i]? = some v → RA w ι₀ n₀ a v
  | [], _, vs, .nil, hl, hr => ⟨hl, fun i a v h => by simp at h⟩
  | a :: l, _, [], .cons h1 h2, hl, hr => by simp at hl
  | a :: l, _, v :: vs, .cons h1 h2, hl, hr => by
    obtain ⟨h3, h4⟩ := fzL_ra hs hsub (vs := vs) h2 (by simpa using hl) (fun i a v h h' => hr (i + 1) a v (by simpa using h) (by simpa using h'))
    refine ⟨by simp [h3], fun i x y hx hy => ?_⟩
    cases i with
    | zero => simp at hx hy; subst hx; subst hy; exact fzA_ra hs hsub h1 (hr 0 a v rfl rfl)
    | succ i => exact h4 i x y (by simpa using hx) (by simpa using hy)
end

theorem RO.of_tree {w : World} {ι ι' : List K} {n n' : Nat} {o : Ob} {k : K} (ht : o.isTree) (h : RO w ι n o k) : RO w ι' n' o k := by
  cases o with
  | tree v d =>
    obtain ⟨B, B₀, rfl, h1, h2⟩ := h.tree_inv
    exact ⟨B₀, h1, h2⟩
  | _ => exact ht.elim

/-- a call that is told of some trees alone -/
theorem acalls_frame {P : Program} {f : FuncId} {args args₀ : List A} {H H₀ : Heap} {J : List Nat} {Q₀ : A → Heap → Prop} (hJ : J.Nodup) (hH : J.map (fun i => H[i]?) = H₀.map some) (hT : ∀ o ∈ H₀, o.isTree)
    (hz : FzL H J args args₀) (h : ACalls P f args₀ H₀ Q₀) (hQ : ∀ r H', Q₀ r H' → r.port ∧ ∀ o ∈ H', o.isTree) :
    ACalls P f args H (fun r H' => ∃ H₀', Q₀ r H₀' ∧ H₀.length ≤ H₀'.length ∧ H' = putAll H J H₀') := by
  refine ⟨h.1, fun w ι cargs hsim hl ha => ?_⟩
  have hJl : J.length = H₀.length := by simpa using congrArg List.length hH
  have hJget : ∀ (m i : Nat), J[m]? = some i → ∃ o k, H₀[m]? = some o ∧ H[i]? = some o ∧ ι[i]? = some k ∧ RO w ι H.length o k := fun m i hm => by
    have h1 : (J.map (fun i => H[i]?))[m]? = some (H[i]?) := by simp [hm]
    rw [hH] at h1
    simp only [List.getElem?_map, Option.map_eq_some_iff] at h1
    obtain ⟨o, h2, h3⟩ := h1
    obtain ⟨k, h4, h5⟩ := hsim.get h3.symm
    exact ⟨o, k, h2, h3.symm, h4, h5⟩
  let ι₀ : List K := J.map (fun i => ι.getD i .x)
  have hι₀ : ∀ (m : Nat) k, ι₀[m]? = some k → ∃ i, J[m]? = some i ∧ ι[i]? = some k := fun m k hm => by
    simp only [ι₀, List.getElem?_map, Option.map_eq_some_iff] at hm
    obtain ⟨i, h1, h2⟩ := hm
    obtain ⟨o, k', _, _, h4, _⟩ := hJget m i h1
    have : ι.getD i .x = k' := by simp [List.getD, h4]
    rw [this] at h2; subst h2
    exact ⟨i, h1, h4⟩
  have hsub : ∀ k ∈ ι₀, ∃ i : Nat, i ∈ J ∧ ι[i]? = some k := fun k hk => by
    obtain ⟨m, hm⟩ := List.mem_iff_getElem?.1 hk
    obtain ⟨i, h1, h2⟩ := hι₀ m k hm
    exact ⟨i, List.mem_of_getElem? h1, h2⟩
  have hJinj : ∀ (m m' i : Nat), J[m]? = some i → J[m']? = some i → m = m' := fun m m' i h1 h2 => by
    obtain ⟨a, h1⟩ := List.getElem?_eq_some_iff.1 h1
    obtain ⟨b, h2⟩ := List.getElem?_eq_some_iff.1 h2
    exact (List.getElem_inj hJ).1 (h1.trans h2.symm)
  have hsim0 : Sim w ι₀ H₀.length H₀ := by
    refine ⟨by simp [ι₀, hJl], fun m o k ho hk => ?_, fun m m' k k' b hm hm' hk hk' => ?_, fun k b hk hb => ?_⟩
    · obtain ⟨i, h1, h2⟩ := hι₀ m k hk
      obtain ⟨o', k', h3, h4, h5, h6⟩ := hJget m i h1
      rw [ho] at h3; cases h3
      rw [h2] at h5; cases h5
      exact h6.of_tree (hT o (List.mem_of_getElem? ho))
    · obtain ⟨i, h1, h2⟩ := hι₀ m k hm
      obtain ⟨i', h3, h4⟩ := hι₀ m' k' hm'
      have := hsim.apart _ _ _ _ b h2 h4 hk hk'
      subst this
      exact hJinj m m' i h1 h3
    · obtain ⟨i, _, hi⟩ := hsub k hk
      exact hsim.low k b (List.mem_of_getElem? hi) hb
  obtain ⟨hl0, ha0⟩ := fzL_ra (n₀ := H₀.length) hsim hsub hz hl ha
  refine (h.2 w ι₀ cargs hsim0 hl0 ha0).mono fun e w' ⟨r, H₀', ι₀', v, he, hq, hs', hr', hx, hle⟩ => ?_
  obtain ⟨hport, htree⟩ := hQ r H₀' hq
  have hιlen : ι₀'.length = H₀'.length := hs'.len
  have hsame : ∀ (m i : Nat), J[m]? = some i → ∃ k, ι[i]? = some k ∧ ι₀'[m]? = some k := fun m i hm => by
    obtain ⟨o, k, h1, h2, h3, h4⟩ := hJget m i hm
    have h5 : ι₀[m]? = some k := by simp [ι₀, hm, List.getD, h3]
    obtain ⟨k', h6, h7⟩ := hx.ev m k h5
    have ho := hT o (List.mem_of_getElem? h1)
    cases o with
    | tree v d =>
      obtain ⟨B, B₀, rfl, _, _⟩ := h4.tree_inv
      cases h7
      exact ⟨_, h3, h6⟩
    | _ => exact ho.elim
  have hnew : ∀ k b, k ∈ ι₀'.drop J.length → k.at b → ∀ k' ∈ ι, ¬ k'.at b := fun k b hk hb k' hk' hb' => by
    obtain ⟨m, hm⟩ := List.mem_iff_getElem?.1 hk
    rw [List.getElem?_drop] at hm
    obtain ⟨i, hi⟩ := List.mem_iff_getElem?.1 hk'
    by_cases hiJ : i ∈ J
    · obtain ⟨m', hm'⟩ := List.mem_iff_getElem?.1 hiJ
      obtain ⟨k1, h1, h2⟩ := hsame m' i hm'
      rw [hi] at h1; cases h1
      have := hs'.apart _ _ _ _ b hm h2 hb hb'
      have := (List.getElem?_eq_some_iff.1 hm').1
      omega
    · have hlt := hsim.low k' b hk' hb'
      refine (hx.block b hlt fun k0 hk0 hb0 => ?_).2 k (List.mem_of_mem_drop hk) hb
      obtain ⟨i0, h1, h2⟩ := hsub k0 hk0
      have := hsim.apart _ _ _ _ b hi h2 hb' hb0
      subst this
      exact hiJ h1
  have hsafe : ∀ b o, Safe w ι b o → Safe w' (ι ++ ι₀'.drop J.length) b o ∧ w'.cell? ⟨b, o, none⟩ = w.cell? ⟨b, o, none⟩ := fun b o hso => by
    obtain ⟨p, q⟩ := hx.safe b o ⟨hso.1, fun k hk => let ⟨i, _, hi⟩ := hsub k hk; hso.2 k (List.mem_of_getElem? hi)⟩
    refine ⟨⟨p.1, fun k hk => ?_⟩, q⟩
    rcases List.mem_append.1 hk with h1 | h1
    · exact hso.2 k h1
    · exact p.2 k (List.mem_of_mem_drop h1)
  have hext : Ext w ι w' (ι ++ ι₀'.drop J.length) := by
    refine ⟨hx.os, hx.tape, hx.output, hx.size, hsafe, fun b hb hk => ?_, fun i k hi => ⟨k, ?_, k.ev_refl⟩⟩
    · obtain ⟨p, q⟩ := hx.block b hb fun k hk' => let ⟨i, _, hi⟩ := hsub k hk'; hk k (List.mem_of_getElem? hi)
      refine ⟨p, fun k hk' => ?_⟩
      rcases List.mem_append.1 hk' with h1 | h1
      · exact hk k h1
      · exact q k (List.mem_of_mem_drop h1)
    · rw [List.getElem?_append_left (List.getElem?_eq_some_iff.1 hi).1]; exact hi
  have hle' : J.length ≤ H₀'.length := by rw [hJl]; exact hle
  have hplen : (putAll H J H₀').length = H.length + (H₀'.length - J.length) := putAll_len hle'
  refine ⟨r, putAll H J H₀', ι ++ ι₀'.drop J.length, v, he, ⟨H₀', hq, hle, rfl⟩, ⟨?_, fun i o k ho hk => ?_, fun i j k k' b hi hj hk hk' => ?_, fun k b hk hb => ?_⟩, hport _ _ _ _ _ _ _ hr', hext, by rw [hplen]; omega⟩
  · rw [hplen, List.length_append, List.length_drop, hsim.len, hιlen]
  · rcases putAll_get hJ hle' ho with ⟨m, h1, h2⟩ | ⟨h1, h2⟩ | ⟨m, h1, h2⟩
    · obtain ⟨k', h3, h4⟩ := hsame m i h1
      rw [List.getElem?_append_left (List.getElem?_eq_some_iff.1 h3).1, h3] at hk
      obtain rfl := Option.some.inj hk
      exact (hs'.obj m o k' h2 h4).of_tree (htree o (List.mem_of_getElem? h2))
    · obtain ⟨k', h3, h4⟩ := hsim.get h2
      rw [List.getElem?_append_left (List.getElem?_eq_some_iff.1 h3).1, h3] at hk
      obtain rfl := Option.some.inj hk
      have h5 : RO w' (ι ++ ι₀'.drop J.length) H.length o k' := h4.of_blocks hext fun b hb => (hx.block b (hsim.low k' b (List.mem_of_getElem? h3) hb) fun k0 hk0 hb0 => by
        obtain ⟨i0, h6, h7⟩ := hsub k0 hk0
        have := hsim.apart _ _ _ _ b h3 h7 hb hb0
        subst this
        exact h1 h6).1
      exact RO_ground (Obs_fits_get (sim_fits hsim) h2) h5
    · subst h1
      rw [List.getElem?_append_right (by rw [hsim.len]; omega), hsim.len, Nat.add_sub_cancel_left, List.getElem?_drop] at hk
      exact (hs'.obj _ o k h2 hk).of_tree (htree o (List.mem_of_getElem? h2))
  · rcases Nat.lt_or_ge i ι.length with h1 | h1
    · rw [List.getElem?_append_left h1] at hi
      rcases Nat.lt_or_ge j ι.length with h2 | h2
      · rw [List.getElem?_append_left h2] at hj
        exact hsim.apart _ _ _ _ b hi hj hk hk'
      · rw [List.getElem?_append_right h2] at hj
        exact absurd hk (hnew k' b (List.mem_of_getElem? hj) hk' k (List.mem_of_getElem? hi))
    · rw [List.getElem?_append_right h1] at hi
      rcases Nat.lt_or_ge j ι.length with h2 | h2
      · rw [List.getElem?_append_left h2] at hj
        exact absurd hk' (hnew k b (List.mem_of_getElem? hi) hk k' (List.mem_of_getElem? hj))
      · rw [List.getElem?_append_right h2] at hj
        rw [List.getElem?_drop] at hi hj
        have := hs'.apart _ _ _ _ b hi hj hk hk'
        omega
  · rcases List.mem_append.1 hk with h1 | h1
    · exact Nat.lt_of_lt_of_le (hsim.low k b h1 hb) hx.size
    · exact hs'.low k b (List.mem_of_mem_drop h1) hb

/-! ### a tree is opened -/

theorem unflatten : ∀ (rows : List (List D)) (c : List D), c.length = rows.flatten.length → ∃ srows : List (List D), srows.flatten = c ∧ srows.map List.length = rows.map List.length
  | [], c, h => ⟨[], by simp at h; simp [h], rfl⟩
  | r :: l, c, h => by
    rw [List.flatten_cons, List.length_append] at h
    obtain ⟨s, h1, h2⟩ := unflatten l (c.drop r.length) (by rw [List.length_drop]; omega)
    exact ⟨c.take r.length :: s, by rw [List.flatten_cons, h1, List.take_append_drop], by rw [List.map_cons, List.map_cons, h2, List.length_take]; congr 1; omega⟩

/-- a function that writes into a tree sees its array and the trees below -/
theorem acalls_open {P : Program} {f : FuncId} {pre post : List A} {rows : List (List D)} {sz : Nat} {Q : A → List (List D) → Prop} (hne : rows ≠ []) (hsz : ∀ r ∈ rows, r.length = sz) (hpre : ∀ a ∈ pre, a.port) (hpost : ∀ a ∈ post, a.port)
    (h : ∀ srows trs, Strip rows.flatten srows.flatten trs → srows.map List.length = rows.map List.length →
      ACalls P f (pre ++ .c (.fsl (.e 0) rows.length sz) :: post) (.rows srows :: trs) (fun r H' => ∃ rows' srows' trs', Strip rows'.flatten srows'.flatten trs' ∧ rows'.length = rows.length ∧ (∀ r ∈ rows', r.length = sz) ∧
        srows'.map List.length = rows'.map List.length ∧ trs'.length = trs.length ∧ H' = .rows srows' :: trs' ∧ r.port ∧ Q r rows')) (kv : Value) :
    ACalls P f (pre ++ .c (.d (.v kv)) :: post) [.tree kv rows] (fun r H' => ∃ rows', H' = [.tree kv rows'] ∧ Q r rows') := by
  have h0 := h
  obtain ⟨s0, t0, hh0, hh1⟩ : ∃ s t, Strip rows.flatten s t ∧ s.length = rows.flatten.length := by
    clear h h0 hpre hpost hne hsz
    induction rows.flatten with
    | nil => exact ⟨[], [], ⟨rfl, rfl⟩, rfl⟩
    | cons x l ih =>
      obtain ⟨s, t, h1, h2⟩ := ih
      by_cases hx : x.isSl = false
      · exact ⟨x :: s, t, (strip_cons hx).2 ⟨s, rfl, h1⟩, by simp [h2]⟩
      · cases x with
        | sl d => exact ⟨.v kv :: s, .tree kv d :: t, ⟨kv, s, t, rfl, rfl, h1⟩, by simp [h2]⟩
        | _ => simp [D.isSl] at hx
  obtain ⟨ss, e1, e2⟩ := unflatten rows s0 hh1
  refine ⟨(h ss t0 (by rw [e1]; exact hh0) e2).1, fun w ι cargs hsim hl ha => ?_⟩
  obtain ⟨k, hk, ho⟩ := hsim.get (j := 0) rfl
  obtain ⟨B, B₀, rfl, hB, hT⟩ := ho.tree_inv
  have hι : ι = [.tree B] := by
    have := hsim.len
    cases ι with
    | nil => simp at this
    | cons a l =>
      cases l with
      | nil => simp at hk; rw [hk]
      | cons _ _ => simp at this
  subst hι
  have hlow : ∀ c, B c → c < w.heap.size := fun c hc => hsim.low (.tree B) c (by simp) hc
  cases hT with
  | leaf hx _ => cases rows with
    | nil => exact absurd rfl hne
    | cons _ _ => simp [D.leaf] at hx
  | sl _ b cap sz' vs el vf Bs g1 g2 g3 g4 g5 g6 g7 g8 g9 g10 =>
    have hsz' : sz' = sz := by
      cases rows with
      | nil => exact absurd rfl hne
      | cons r l => rw [← g4 r (by simp), hsz r (by simp)]
    subst hsz'
    obtain ⟨c, t, ks, i1, i2, i3, i4, i5⟩ := strip_exists g10 rows.flatten 0 (fun n x hn => by rw [Nat.zero_add]; exact g8 n x hn)
    obtain ⟨i6, _⟩ := strip_get i1
    obtain ⟨srows, rfl, i7⟩ := unflatten rows c i6.symm
    obtain ⟨i8, i9⟩ := lens_of i7 g4
    have hks : ∀ (m : Nat) k, ks[m]? = some k → ∃ n, k = .tree (Bs n) ∧ ∃ v d, t[m]? = some (.tree v d) ∧ RT w (.sl d) v (Bs n) := fun m k hm => by
      have hlt : m < t.length := by rw [i3]; exact (List.getElem?_eq_some_iff.1 hm).1
      obtain ⟨v, d, n, a1, a2, a3, a4⟩ := i4 m _ (List.getElem?_eq_getElem hlt)
      rw [hm] at a3
      injection a3 with a3
      exact ⟨n, a3, v, d, by rw [List.getElem?_eq_getElem hlt, a1], a4⟩
    have hsub : ∀ k c, k ∈ (K.rows b sz' rows.length :: ks) → k.at c → B c := fun k c hk hc => by
      rcases List.mem_cons.1 hk with rfl | hk
      · exact hB _ (.inl hc)
      · obtain ⟨m, hm⟩ := List.mem_iff_getElem?.1 hk
        obtain ⟨n, rfl, _⟩ := hks m k hm
        exact hB _ (.inr ⟨n, hc⟩)
    have hsim0 : Sim w (.rows b sz' rows.length :: ks) (Ob.rows srows :: t).length (.rows srows :: t) := by
      refine ⟨by simp [i3], fun i o k ho hk => ?_, fun i j k k' c hi hj hk hk' => ?_, fun k c hk hc => hlow c (hsub k c hk hc)⟩
      · cases i with
        | zero =>
          simp at ho hk
          subst ho; subst hk
          refine ⟨vs, el, g5, ?_, ⟨by omega, i8⟩, fun i r hi => ⟨i9 r (List.mem_of_getElem? hi), fun j x hj => ?_⟩⟩
          · rw [← flatten_len i9, ← i6]; exact g6
          · have h1 := flatten_get i9 hi hj
            have hlt : i * sz' + j < rows.flatten.length := by rw [i6]; exact (List.getElem?_eq_some_iff.1 h1).1
            refine ⟨_, g7 _ _ (List.getElem?_eq_getElem hlt), ?_⟩
            have := i2 _ x h1 (Safe w (.rows b sz' rows.length :: ks))
            rwa [Nat.zero_add] at this
        | succ i =>
          simp at ho hk
          obtain ⟨n, rfl, v, d, h1, h2⟩ := hks i k hk
          rw [ho] at h1; cases h1
          exact ⟨Bs n, fun b h => h, h2⟩
      · cases i with
        | zero =>
          simp at hi; subst hi
          cases j with
          | zero => rfl
          | succ j =>
            simp at hj
            obtain ⟨n, rfl, _⟩ := hks j k' hj
            cases hk
            exact (g9 n hk').elim
        | succ i =>
          simp at hi
          obtain ⟨n, rfl, _⟩ := hks i k hi
          cases j with
          | zero =>
            simp at hj; subst hj
            cases hk'
            exact (g9 n hk).elim
          | succ j =>
            simp at hj
            obtain ⟨n', rfl, _⟩ := hks j k' hj
            have := g10 n n' c hk hk'
            subst this
            rw [i5 i j n hi hj ⟨c, hk⟩]
    have hRA : ∀ (i : Nat) a v, (pre ++ A.c (.fsl (.e 0) rows.length sz') :: post)[i]? = some a → cargs[i]? = some v → RA w (.rows b sz' rows.length :: ks) (Ob.rows srows :: t).length a v := fun i a v hi hv => by
      rcases Nat.lt_trichotomy i pre.length with h1 | h1 | h1
      · rw [List.getElem?_append_left h1] at hi
        exact hpre a (List.mem_of_getElem? hi) _ _ _ _ _ _ _ (ha i a v (by rw [List.getElem?_append_left h1]; exact hi) hv)
      · subst h1
        have h2 := ha pre.length _ v (by simp; rfl) hv
        simp at hi
        subst hi
        cases h2 with
        | c h2 =>
          cases h2 with
          | d h2 =>
            cases h2
            exact .c (.fsl rfl g2)
      · rw [List.getElem?_append_right (by omega)] at hi
        obtain ⟨m, hm⟩ : ∃ m, i - pre.length = m + 1 := ⟨i - pre.length - 1, by omega⟩
        rw [hm, List.getElem?_cons_succ] at hi
        exact hpost a (List.mem_of_getElem? hi) _ _ _ _ _ _ _ (ha i a v (by rw [List.getElem?_append_right (by omega), hm, List.getElem?_cons_succ]; exact hi) hv)
    refine ((h srows t i1 i7).2 w _ cargs hsim0 (by simpa using hl) hRA).mono fun e w' ⟨r, H', ι', v, he, ⟨rows', srows', trs', q1, q2, q3, q4, q5, q6, q7, q8⟩, hs', hr', hx, hle⟩ => ?_
    subst q6
    have hιl : ι'.length = ks.length + 1 := by have := hs'.len; simp at this; omega
    have hι' : ι' = .rows b sz' rows.length :: ks := by
      refine List.ext_getElem? fun i => ?_
      rcases Nat.lt_or_ge i (ks.length + 1) with h1 | h1
      · have h2 : (K.rows b sz' rows.length :: ks)[i]? = some ((K.rows b sz' rows.length :: ks)[i]) := List.getElem?_eq_getElem (by simpa using h1)
        obtain ⟨k', h3, h4⟩ := hx.ev i _ h2
        rw [h2, h3]
        congr 1
        generalize hkk : (K.rows b sz' rows.length :: ks)[i] = kk at h4 h2
        cases i with
        | zero => simp at h2; subst h2; exact h4.symm
        | succ i =>
          simp only [List.getElem?_cons_succ] at h2
          obtain ⟨n, rfl, _⟩ := hks i kk h2
          exact h4.symm
      · rw [List.getElem?_eq_none (by omega), List.getElem?_eq_none (by simpa using h1)]
    subst hι'
    obtain ⟨vs', el', j1, j2, ⟨j3, j3'⟩, j4⟩ := hs'.obj 0 _ _ rfl rfl
    obtain ⟨j5, j6⟩ := lens_of q4 q3
    have hA : Arr w' (Safe w' (.rows b sz' rows.length :: ks)) srows'.flatten b := ⟨vs', el', j1, by rw [flatten_len j6]; exact j2, fun m x hm => by
      obtain ⟨i, j, r, h6', h7, rfl⟩ := flatten_inv j6 hm
      exact (j4 i r h6').2 j x h7⟩
    have hne' : rows' ≠ [] := fun e => by subst e; apply hne; simpa using q2.symm
    obtain ⟨B', hT', hB'⟩ := piece_join hs' (i := 0) (js := List.range' 1 trs'.length) (cap := cap) rfl rfl hA q1 hne' (by omega) (by omega) q3
      (fun m hm => ⟨1 + m, by rw [List.getElem?_eq_getElem (by simpa using hm)]; simp, by rw [show 1 + m = m + 1 from Nat.add_comm 1 m]; rfl⟩) (List.nodup_cons.2 ⟨fun h => by obtain ⟨i, _, h⟩ := List.mem_range'.1 h; omega, List.nodup_range'⟩)
    have hsub' : ∀ c, B' c → B c := fun c hc => by
      obtain ⟨i, k, _, h1, h2⟩ := hB' c hc
      exact hsub k c (List.mem_of_getElem? h1) h2
    rw [q2] at hT'
    refine ⟨r, [.tree (.slice (some ⟨b, 0, none⟩) rows.length cap) rows'], [.tree B], v, he, ⟨rows', rfl, q8⟩, ⟨rfl, fun i o k ho hk => ?_, fun i j k k' c hi hj _ _ => ?_, fun k c hk hc => ?_⟩, q7 _ _ _ _ _ _ _ hr', ?_, Nat.le_refl _⟩
    · cases i with
      | zero => simp at ho hk; subst ho; subst hk; exact ⟨B', hsub', hT'⟩
      | succ i => simp at ho
    · have hi := (List.getElem?_eq_some_iff.1 hi).1
      have hj := (List.getElem?_eq_some_iff.1 hj).1
      simp at hi hj; omega
    · simp at hk; subst hk; exact Nat.lt_of_lt_of_le (hlow c hc) hx.size
    · refine ⟨hx.os, hx.tape, hx.output, hx.size, fun c o hs => ?_, fun c hc hk => ?_, fun i k hi => ⟨k, hi, k.ev_refl⟩⟩
      · have hnB : ¬ B c := hs.2 (.tree B) (by simp)
        obtain ⟨p, q⟩ := hx.safe c o ⟨hs.1, fun k hk ho => hnB (hsub k c hk (K.at_of_owns ho))⟩
        exact ⟨⟨p.1, fun k hk ho => by simp at hk; subst hk; exact hnB ho⟩, q⟩
      · have hnB : ¬ B c := hk (.tree B) (by simp)
        refine ⟨(hx.block c hc fun k hk ho => hnB (hsub k c hk ho)).1, fun k hk ho => by simp at hk; subst hk; exact hnB ho⟩

end Go.AM
