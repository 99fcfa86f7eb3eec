/-
  Calls of functions that hand out, write into, or read trees, in the machine.
  Conditions: none.
-/
import Derived.Test.YtdjbahilmcokeaaDoorAbsR
namespace Go.AM
set_option linter.unusedVariables false
set_option linter.unusedSimpArgs false

theorem C.re_of {c : C} (h : c.portB = true) (n : Nat) : C.re n c = c := by cases c <;> first | rfl | cases h
theorem A.re_ofB {a : A} (h : a.portB = true) (n : Nat) : A.re n a = a := by
  cases a with
  | c c => simp only [A.re, C.re_of h]
  | agg cs =>
    simp only [A.re, A.agg.injEq]
    exact (List.map_congr_left fun c hc => C.re_of (List.all_eq_true.1 h c hc) n).trans (by simp)
  | _ => cases h
theorem res_of {n : Nat} : ∀ {as : List A}, as.all A.portB = true → A.res n as = as
  | [], _ => rfl
  | a :: l, h => by
    simp only [List.all_cons, Bool.and_eq_true] at h
    simp only [A.res, A.re_ofB h.1, res_of h.2]
theorem A.re_of {a : A} (h : a.portT = true) (n : Nat) : A.re n a = a := by
  cases a with
  | tup as => simp only [A.re, res_of (n := n) (as := as) h]
  | c x => exact A.re_ofB (a := .c x) h n
  | agg cs => exact A.re_ofB (a := .agg cs) h n
  | _ => cases h

def Ob.isTreeB : Ob → Bool
  | .tree _ _ => true
  | _ => false
theorem Ob.isTree_of {o : Ob} (h : o.isTreeB = true) : o.isTree := by cases o <;> first | trivial | cases h

/-- what is handed out: a result that looks at no object, and trees -/
def Handed (r : A) (H : Heap) : Prop := r.portT = true ∧ H.all Ob.isTreeB = true

theorem trees_re {l : Heap} (h : l.all Ob.isTreeB = true) (n : Nat) : l.map (Ob.re n) = l := by
  refine (List.map_congr_left (g := id) fun o ho => ?_).trans (List.map_id l)
  have := List.all_eq_true.1 h o ho
  cases o <;> first | rfl | cases this

theorem putAll_map {g : Ob → Ob} : ∀ {J : List Nat} {H l : Heap}, (putAll H J l).map g = putAll (H.map g) J (l.map g)
  | [], H, l => by simp [putAll]
  | j :: J, H, [] => by simp [putAll]
  | j :: J, H, o :: l => by simp only [putAll, List.map_cons]; rw [putAll_map, List.map_set]

/-- a call in a function that was told of no object -/
theorem call_loc {P : Program} {f : FuncId} {args args₀ : List A} {sl : List A} {loc H H₀ : Heap} {J : List Nat} {Q₀ : A → Heap → Prop} {K : A → St → Prop} (hc : ACalls P f args₀ H₀ Q₀) (hQ : ∀ r H', Q₀ r H' → Handed r H') (hH : H = loc.map (Ob.re 0)) (hz : FzL H J args args₀)
    (hJ : J.Nodup) (hJH : J.map (fun i => H[i]?) = H₀.map some) (hT : H₀.all Ob.isTreeB = true) (hk : ∀ r H', Q₀ r H' → H₀.length ≤ H'.length → K r ⟨sl, [], putAll loc J H'⟩) :
    ACalls P f args H (CallK K ⟨sl, [], loc⟩) := by
  refine (acalls_frame hJ hJH (fun o ho => Ob.isTree_of (List.all_eq_true.1 hT o ho)) hz hc (fun r H' h => ⟨A.port_of (hQ r H' h).1, fun o ho => Ob.isTree_of (List.all_eq_true.1 (hQ r H' h).2 o ho)⟩)).mono fun r H' ⟨H₁, h1, h2, h3⟩ => ?_
  refine ⟨[], putAll loc J H₁, r, ?_, rfl, ?_, trivial, (A.re_of (hQ r H₁ h1).1 _).symm, hk r H₁ h1 h2⟩
  · rw [h3, hH, List.nil_append]
    show _ = (putAll loc J H₁).map (Ob.re 0)
    rw [putAll_map, trees_re (hQ r H₁ h1).2]
  · have hJl : J.length = H₀.length := by simpa using congrArg List.length hJH
    show loc.length ≤ (putAll loc J H₁).length
    rw [putAll_len (by omega)]; omega

/-- .. of a function that reads alone -/
theorem call_read {P : Program} {f : FuncId} {args args₀ : List A} {sl : List A} {loc H : Heap} {r : A} {K : A → St → Prop} (hc : ACalls P f args₀ [] (fun r' H' => H' = [] ∧ r' = r)) (hr : r.portT = true) (hH : H = loc.map (Ob.re 0)) (hz : FzL H [] args args₀)
    (hk : K r ⟨sl, [], loc⟩) : ACalls P f args H (CallK K ⟨sl, [], loc⟩) := by
  refine call_loc (J := []) hc (fun r' H' ⟨h1, h2⟩ => by subst h1; subst h2; exact ⟨hr, rfl⟩) hH hz List.nodup_nil rfl rfl fun r' H' ⟨h1, h2⟩ _ => ?_
  subst h1; subst h2
  simpa [putAll] using hk

theorem FzC.mono {H H' : Heap} {J : List Nat} (h : ∀ (i : Nat) kv d, H[i]? = some (.tree kv d) → H'[i]? = some (.tree kv d)) {c c' : C} (hz : FzC H J c c') : FzC H' J c c' := by
  cases hz with
  | d => exact .d
  | tree h1 h2 => exact .tree (h _ _ _ h1) h2
  | u => exact .u
theorem FzCs.mono {H H' : Heap} {J : List Nat} (h : ∀ (i : Nat) kv d, H[i]? = some (.tree kv d) → H'[i]? = some (.tree kv d)) : ∀ {c c' : List C}, FzCs H J c c' → FzCs H' J c c'
  | _, _, .nil => .nil
  | _, _, .cons h1 h2 => .cons (h1.mono h) (h2.mono h)
theorem FzA.mono {H H' : Heap} {J : List Nat} (h : ∀ (i : Nat) kv d, H[i]? = some (.tree kv d) → H'[i]? = some (.tree kv d)) {c c' : A} (hz : FzA H J c c') : FzA H' J c c' := by
  cases hz with
  | c h1 => exact .c (h1.mono h)
  | agg h1 => exact .agg (h1.mono h)
  | u => exact .u
theorem FzL.mono {H H' : Heap} {J : List Nat} (h : ∀ (i : Nat) kv d, H[i]? = some (.tree kv d) → H'[i]? = some (.tree kv d)) : ∀ {c c' : List A}, FzL H J c c' → FzL H' J c c'
  | _, _, .nil => .nil
  | _, _, .cons h1 h2 => .cons (h1.mono h) (h2.mono h)
theorem acalls_read {P : Program} {f : FuncId} {args args₀ : List A} {H : Heap} {r : A} (hc : ACalls P f args₀ [] (fun r' H' => H' = [] ∧ r' = r)) (hr : r.portT = true) (hz : FzL H [] args args₀) :
    ACalls P f args H (fun r' H' => H' = H ∧ r' = r) :=
  (acalls_frame (J := []) (H₀ := []) List.nodup_nil rfl (fun o ho => by cases ho) hz hc (fun r' H' ⟨h1, h2⟩ => by subst h1; subst h2; exact ⟨A.port_of hr, fun o ho => by cases ho⟩)).mono fun r' H' ⟨H₁, ⟨h1, h2⟩, _, h3⟩ => ⟨by rw [h3, h1]; simp [putAll], h2⟩
theorem tree_of_re {o : Ob} {n : Nat} {kv : Value} {d : List (List D)} (h : Ob.re n o = .tree kv d) : o = .tree kv d := by cases o <;> first | exact h | cases h
/-- a quiet call of a function that reads trees -/
theorem qcall_read {P : Program} {f : FuncId} {as as₀ : List A} {K : A → St → Prop} {sl : List A} {ext loc : Heap} {r : A} (hc : ACalls P f as₀ [] (fun r' H' => H' = [] ∧ r' = r)) (hr : r.portT = true) (hf : Obs.fits ext.length 0 ext)
    (hz : FzL (ext ++ loc.map (Ob.re ext.length)) [] as as₀) (hk : K r ⟨sl, ext, loc⟩) : QCallK P f as ⟨sl, ext, loc⟩ K := by
  refine ⟨hf, r, A.re_of hr _, fun st' hg => acalls_read hc hr (hz.mono fun i kv d hi => ?_), hk⟩
  rcases Nat.lt_or_ge i ext.length with h1 | h1
  · rw [List.getElem?_append_left h1] at hi
    rw [List.getElem?_append_left (by rw [hg.1]; exact h1)]
    have := hg.2.2 [] [] (.e i) (.tree kv d) (by simp [getOb, List.getD, hi]) (by simp) (by simp)
    simp only [getOb, List.getD] at this
    rw [List.getElem?_eq_getElem (by rw [hg.1]; exact h1)] at this ⊢
    simpa using this
  · rw [List.getElem?_append_right h1, List.getElem?_map] at hi
    rw [List.getElem?_append_right (by rw [hg.1]; exact h1), List.getElem?_map, hg.1]
    obtain ⟨o, h2, h3⟩ := Option.map_eq_some_iff.1 hi
    obtain rfl := tree_of_re h3
    have := hg.same (i - ext.length) (.tree kv d) (by simp [List.getD, h2]) (by simp) (by simp)
    rcases Nat.lt_or_ge (i - ext.length) st'.loc.length with h4 | h4
    · simp only [List.getD, List.getElem?_eq_getElem h4, Option.getD_some] at this
      rw [List.getElem?_eq_getElem h4, this]; rfl
    · simp [List.getD, List.getElem?_eq_none h4] at this

/-- a call that writes into trees that the caller was told of -/
theorem call_ext {P : Program} {f : FuncId} {args args₀ : List A} {sl : List A} {ext loc H H₀ : Heap} {J : List Nat} {Q₀ : A → Heap → Prop} {K : A → St → Prop} (hc : ACalls P f args₀ H₀ Q₀) (hQ : ∀ r H', Q₀ r H' → Handed r H' ∧ H'.length = H₀.length) (hH : H = ext ++ loc.map (Ob.re ext.length)) (hz : FzL H J args args₀)
    (hJ : J.Nodup) (hJH : J.map (fun i => ext[i]?) = H₀.map some) (hT : H₀.all Ob.isTreeB = true) (hf : Obs.fits ext.length 0 ext) (hk : ∀ r H', Q₀ r H' → K r ⟨sl, putAll ext J H', loc⟩) :
    ACalls P f args H (CallK K ⟨sl, ext, loc⟩) := by
  have hJl : J.length = H₀.length := by simpa using congrArg List.length hJH
  have hJx : ∀ i ∈ J, i < ext.length := fun i hi => by
    obtain ⟨m, hm⟩ := List.mem_iff_getElem?.1 hi
    have h1 : (J.map (fun i => ext[i]?))[m]? = some (ext[i]?) := by simp [hm]
    rw [hJH] at h1
    simp only [List.getElem?_map, Option.map_eq_some_iff] at h1
    obtain ⟨o, _, h3⟩ := h1
    exact (List.getElem?_eq_some_iff.1 h3.symm).1
  have hJH' : J.map (fun i => H[i]?) = H₀.map some := by
    rw [← hJH]
    refine List.map_congr_left fun i hi => ?_
    rw [hH, List.getElem?_append_left (hJx i hi)]
  have hput : ∀ {J : List Nat} {ext l rest : Heap}, (∀ i ∈ J, i < ext.length) → J.length = l.length → putAll (ext ++ rest) J l = putAll ext J l ++ rest := by
    intro J
    induction J with
    | nil => intro ext l rest _ h; cases l with | nil => simp [putAll] | cons _ _ => simp at h
    | cons j J ih =>
      intro ext l rest h h'
      cases l with
      | nil => simp at h'
      | cons o l =>
        simp only [putAll]
        rw [List.set_append_left _ _ (h j (by simp)), ih (fun i hi => by simpa using h i (by simp [hi])) (by simpa using h')]
  have hfit : ∀ {J : List Nat} {e l : Heap} {n : Nat}, l.all Ob.isTreeB = true → J.length = l.length → Obs.fits n 0 e → Obs.fits n 0 (putAll e J l) := by
    intro J
    induction J with
    | nil => intro e l n _ h hf; cases l with | nil => simpa [putAll] using hf | cons _ _ => simp at h
    | cons j J ih =>
      intro e l n h h' hf
      cases l with
      | nil => simp at h'
      | cons o l =>
        simp only [putAll]
        simp only [List.all_cons, Bool.and_eq_true] at h
        refine ih h.2 (by simpa using h') (Obs_fits_set hf ?_)
        cases o <;> first | trivial | cases h.1
  refine (acalls_frame hJ hJH' (fun o ho => Ob.isTree_of (List.all_eq_true.1 hT o ho)) hz hc (fun r H' h => ⟨A.port_of (hQ r H' h).1.1, fun o ho => Ob.isTree_of (List.all_eq_true.1 (hQ r H' h).1.2 o ho)⟩)).mono fun r H' ⟨H₁, h1, h2, h3⟩ => ?_
  obtain ⟨⟨q1, q2⟩, q3⟩ := hQ r H₁ h1
  have hlen : (putAll ext J H₁).length = ext.length := by rw [putAll_len (by omega)]; omega
  refine ⟨putAll ext J H₁, loc, r, ?_, hlen, Nat.le_refl _, hfit q2 (by omega) hf, (A.re_of q1 _).symm, hk r H₁ h1⟩
  rw [h3, hH, hput hJx (by omega)]

/-! ### trees without trees below -/

theorem strip_flat : ∀ {l c : List D} {t : Heap}, (∀ x ∈ l, x.isSl = false) → (Strip l c t ↔ c = l ∧ t = [])
  | [], c, t, _ => Iff.rfl
  | x :: l, c, t, h => by
    rw [strip_cons (h x (by simp))]
    constructor
    · rintro ⟨c', rfl, h'⟩
      obtain ⟨rfl, rfl⟩ := (strip_flat fun y hy => h y (by simp [hy])).1 h'
      exact ⟨rfl, rfl⟩
    · rintro ⟨rfl, rfl⟩
      exact ⟨l, rfl, (strip_flat fun y hy => h y (by simp [hy])).2 ⟨rfl, rfl⟩⟩

theorem flatten_uniq : ∀ {a b : List (List D)}, a.flatten = b.flatten → a.map List.length = b.map List.length → a = b
  | [], [], _, _ => rfl
  | [], _ :: _, _, h => by simp at h
  | _ :: _, [], _, h => by simp at h
  | x :: a, y :: b, h, h' => by
    simp only [List.map_cons, List.cons.injEq] at h'
    simp only [List.flatten_cons] at h
    obtain ⟨rfl, h2⟩ := List.append_inj h h'.1
    rw [flatten_uniq h2 h'.2]

/-- rows without slices -/
def Flat (rows : List (List D)) : Prop := ∀ x ∈ rows.flatten, x.isSl = false

/-- a function that writes into a tree -/
theorem acalls_tree {P : Program} {f : FuncId} {pre post : List A} {rows : List (List D)} {Q : A → List (List D) → Prop} (sz : Nat) (hsz : ∀ r ∈ rows, r.length = sz) (hpre : pre.all A.portT = true) (hpost : post.all A.portT = true)
    (h0 : rows = [] → ACalls P f (pre ++ .c (.d (.sl [])) :: post) [] (fun r H' => H' = [] ∧ r.portT = true ∧ Q r []))
    (h : rows ≠ [] → ∀ srows trs, Strip rows.flatten srows.flatten trs → srows.map List.length = rows.map List.length →
      ACalls P f (pre ++ .c (.fsl (.e 0) rows.length sz) :: post) (.rows srows :: trs) (fun r H' => ∃ rows' srows' trs', Strip rows'.flatten srows'.flatten trs' ∧ rows'.length = rows.length ∧ (∀ r ∈ rows', r.length = sz) ∧
        srows'.map List.length = rows'.map List.length ∧ trs'.length = trs.length ∧ H' = .rows srows' :: trs' ∧ r.portT = true ∧ Q r rows')) (kv : Value) :
    ACalls P f (pre ++ .c (.d (.v kv)) :: post) [.tree kv rows] (fun r H' => ∃ rows', H' = [.tree kv rows'] ∧ r.portT = true ∧ Q r rows') := by
  have hfz : ∀ l : List A, l.all A.portT = true → FzL [.tree kv rows] [] l l → True := fun _ _ _ => trivial
  rcases Decidable.em (rows = []) with hr | hr
  · have hp : ∀ l : List A, (∀ a ∈ l, a.port) → l.all A.portT = true → ∀ {x y : List A}, FzL [.tree kv rows] [] x y → FzL [.tree kv rows] [] x y := fun _ _ _ _ _ h => h
    have hid : ∀ {l x y : List A}, l.all A.portT = true → FzL [.tree kv rows] [] x y → (∀ a ∈ l, FzA [.tree kv rows] [] a a) → FzL [.tree kv rows] [] (l ++ x) (l ++ y) := by
      intro l x y hl hxy ha
      induction l with
      | nil => exact hxy
      | cons a l ih => exact .cons (ha a (by simp)) (ih (by simp at hl; simp; exact hl.2) fun b hb => ha b (by simp [hb]))
    have h1 := h0 hr
    subst hr
    refine ⟨h1.1, fun w ι cargs hsim hl ha => ?_⟩
    -- a tree of nothing is nothing: its blocks are set aside
    have hlen : cargs.length = (pre ++ A.c (.d (.sl [])) :: post).length := by simpa using hl
    refine (h1.2 w [] cargs ⟨rfl, fun i o k h => by simp at h, fun i j k k' b h => by simp at h, fun k b h => by simp at h⟩ hlen fun i a v hi hv => ?_).mono fun e w' ⟨r, H', ι', v, he, ⟨q1, q2, q3⟩, hs', hr', hx, _⟩ => ?_
    · rcases Nat.lt_trichotomy i pre.length with h2 | h2 | h2
      · rw [List.getElem?_append_left h2] at hi
        exact A.port_of (List.all_eq_true.1 hpre a (List.mem_of_getElem? hi)) _ _ _ _ _ _ _ (ha i a v (by rw [List.getElem?_append_left h2]; exact hi) hv)
      · subst h2
        have h3 := ha pre.length _ v (by simp; rfl) hv
        simp at hi
        subst hi
        obtain ⟨k, hk, ho⟩ := hsim.get (j := 0) rfl
        obtain ⟨B, B₀, rfl, hB, hT⟩ := ho.tree_inv
        cases h3 with
        | c h3 =>
          cases h3 with
          | d h3 =>
            cases h3
            cases hT with
            | leaf hx hd => exact .c (.d (hd.of_leaf hx))
            | sl _ b cap sz' vs el vf Bs g1 => exact absurd rfl g1
      · rw [List.getElem?_append_right (by omega)] at hi
        obtain ⟨m, hm⟩ : ∃ m, i - pre.length = m + 1 := ⟨i - pre.length - 1, by omega⟩
        rw [hm, List.getElem?_cons_succ] at hi
        exact A.port_of (List.all_eq_true.1 hpost a (List.mem_of_getElem? hi)) _ _ _ _ _ _ _ (ha i a v (by rw [List.getElem?_append_right (by omega), hm, List.getElem?_cons_succ]; exact hi) hv)
    · subst q1
      have hι' : ι' = [] := List.eq_nil_of_length_eq_zero hs'.len
      subst hι'
      have hwx : ∀ b, b < w.heap.size → w'.heap[b]? = w.heap[b]? := fun b hb => (hx.block b hb fun k hk => by simp at hk).1
      refine ⟨r, [.tree kv []], ι, v, he, ⟨[], rfl, q2, q3⟩, hsim.of_blocks (.of_blocks hx.os hx.tape hx.output hx.size hwx) hwx, A.port_of q2 _ _ _ _ _ _ _ hr', .of_blocks hx.os hx.tape hx.output hx.size hwx, Nat.le_refl _⟩
  · refine (acalls_open hr hsz (fun a ha => A.port_of (List.all_eq_true.1 hpre a ha)) (fun a ha => A.port_of (List.all_eq_true.1 hpost a ha)) (Q := fun r rows' => r.portT = true ∧ Q r rows') (fun srows trs h1 h2 => (h hr srows trs h1 h2).mono fun r H' ⟨a, b, c, d1, d2, d3, d4, d5, d6, d7, d8⟩ => ⟨a, b, c, d1, d2, d3, d4, d5, d6, A.port_of d7, d7, d8⟩) kv)

/-- .. without trees below -/
theorem acalls_flat {P : Program} {f : FuncId} {pre post : List A} {rows : List (List D)} {Q : A → List (List D) → Prop} (sz : Nat) (hsz : ∀ r ∈ rows, r.length = sz) (hfl : Flat rows) (hpre : pre.all A.portT = true) (hpost : post.all A.portT = true)
    (h0 : rows = [] → ACalls P f (pre ++ .c (.d (.sl [])) :: post) [] (fun r H' => H' = [] ∧ r.portT = true ∧ Q r []))
    (h : ACalls P f (pre ++ .c (.fsl (.e 0) rows.length sz) :: post) [.rows rows] (fun r H' => ∃ rows', Flat rows' ∧ rows'.length = rows.length ∧ (∀ r ∈ rows', r.length = sz) ∧ H' = [.rows rows'] ∧ r.portT = true ∧ Q r rows')) (kv : Value) :
    ACalls P f (pre ++ .c (.d (.v kv)) :: post) [.tree kv rows] (fun r H' => ∃ rows', H' = [.tree kv rows'] ∧ r.portT = true ∧ Q r rows') := by
  refine acalls_tree sz hsz hpre hpost h0 (fun _ srows trs h1 h2 => ?_) kv
  obtain ⟨h3, rfl⟩ := (strip_flat hfl).1 h1
  have := flatten_uniq h3 h2
  subst this
  exact h.mono fun r H' ⟨rows', a1, a2, a3, a4, a5, a6⟩ => ⟨rows', rows', [], (strip_flat a1).2 ⟨rfl, rfl⟩, a2, a3, rfl, rfl, a4, a5, a6⟩

/-! ### trees that are not looked at -/

/-- a result in which trees stand as data -/
inductive FzT (H : Heap) (J : List Nat) : A → A → Prop
  | one {a a' : A} : FzA H J a a' → FzT H J a a'
  | tup {l l' : List A} : FzL H J l l' → FzT H J (.tup l) (.tup l')

theorem sim_sub {w : World} {ι : List K} {n : Nat} {H H₀ : Heap} {J : List Nat} (hJ : J.Nodup) (hH : J.map (fun i => H[i]?) = H₀.map some) (hT : ∀ o ∈ H₀, o.isTree) (hsim : Sim w ι n H) :
    ∃ ι₀ : List K, Sim w ι₀ H₀.length H₀ ∧ ∀ (m : Nat) k, ι₀[m]? = some k → ∃ i, J[m]? = some i ∧ ι[i]? = some k := by
  have hJl : J.length = H₀.length := by simpa using congrArg List.length hH
  have hJget : ∀ (m i : Nat), J[m]? = some i → ∃ o k, H₀[m]? = some o ∧ H[i]? = some o ∧ ι[i]? = some k ∧ RO w ι n o k := fun m i hm => by
    have h1 : (J.map (fun i => H[i]?))[m]? = some (H[i]?) := by simp [hm]
    rw [hH] at h1
    simp only [List.getElem?_map, Option.map_eq_some_iff] at h1
    obtain ⟨o, h2, h3⟩ := h1
    obtain ⟨k, h4, h5⟩ := hsim.get h3.symm
    exact ⟨o, k, h2, h3.symm, h4, h5⟩
  let ι₀ : List K := J.map (fun i => ι.getD i .x)
  have hι₀ : ∀ (m : Nat) k, ι₀[m]? = some k → ∃ i, J[m]? = some i ∧ ι[i]? = some k := fun m k hm => by
    simp only [ι₀, List.getElem?_map, Option.map_eq_some_iff] at hm
    obtain ⟨i, h1, h2⟩ := hm
    obtain ⟨o, k', _, _, h4, _⟩ := hJget m i h1
    have : ι.getD i .x = k' := by simp [List.getD, h4]
    rw [this] at h2; subst h2
    exact ⟨i, h1, h4⟩
  have hJinj : ∀ (m m' i : Nat), J[m]? = some i → J[m']? = some i → m = m' := fun m m' i h1 h2 => by
    obtain ⟨a, h1⟩ := List.getElem?_eq_some_iff.1 h1
    obtain ⟨b, h2⟩ := List.getElem?_eq_some_iff.1 h2
    exact (List.getElem_inj hJ).1 (h1.trans h2.symm)
  refine ⟨ι₀, ⟨by simp [ι₀, hJl], fun m o k ho hk => ?_, fun m m' k k' b hm hm' hk hk' => ?_, fun k b hk hb => ?_⟩, hι₀⟩
  · obtain ⟨i, h1, h2⟩ := hι₀ m k hk
    obtain ⟨o', k', h3, h4, h5, h6⟩ := hJget m i h1
    rw [ho] at h3; cases h3
    rw [h2] at h5; cases h5
    exact h6.of_tree (hT o (List.mem_of_getElem? ho))
  · obtain ⟨i, h1, h2⟩ := hι₀ m k hm
    obtain ⟨i', h3, h4⟩ := hι₀ m' k' hm'
    have := hsim.apart _ _ _ _ b h2 h4 hk hk'
    subst this
    exact hJinj m m' i h1 h3
  · obtain ⟨m, hm⟩ := List.mem_iff_getElem?.1 hk
    obtain ⟨i, _, hi⟩ := hι₀ m k hm
    exact hsim.low k b (List.mem_of_getElem? hi) hb

/-- a function that hands out trees, of which some are looked at alone -/
theorem acalls_keep {P : Program} {f : FuncId} {args : List A} {Q Q' : A → Heap → Prop} (h : ACalls P f args [] Q)
    (hk : ∀ r H', Q r H' → ∃ (J : List Nat) (r' : A) (H₀ : Heap), J.Nodup ∧ J.map (fun i => H'[i]?) = H₀.map some ∧ H₀.all Ob.isTreeB = true ∧ FzT H' J r r' ∧ Q' r' H₀) : ACalls P f args [] Q' := by
  refine ⟨h.1, fun w ι cargs hsim hl ha => (h.2 w ι cargs hsim hl ha).mono fun e w' ⟨r, H', ι', v, he, hq, hs', hr', hx, _⟩ => ?_⟩
  have hι : ι = [] := List.eq_nil_of_length_eq_zero hsim.len
  subst hι
  obtain ⟨J, r', H₀, h1, h2, h3, h4, h5⟩ := hk r H' hq
  obtain ⟨ι₀, h6, h7⟩ := sim_sub h1 h2 (fun o ho => Ob.isTree_of (List.all_eq_true.1 h3 o ho)) hs'
  have hsub : ∀ k ∈ ι₀, ∃ i : Nat, i ∈ J ∧ ι'[i]? = some k := fun k hk => by
    obtain ⟨m, hm⟩ := List.mem_iff_getElem?.1 hk
    obtain ⟨i, a, b⟩ := h7 m k hm
    exact ⟨i, List.mem_of_getElem? a, b⟩
  refine ⟨r', H₀, ι₀, v, he, h5, h6, ?_, ext_sub hx fun i k b hi hb => ?_, Nat.zero_le _⟩
  · cases h4 with
    | one h4 => exact fzA_ra hs' hsub h4 hr'
    | tup h4 =>
      cases hr' with
      | tup a b =>
        obtain ⟨c, d⟩ := fzL_ra (n₀ := H₀.length) hs' hsub h4 a b
        exact .tup c d
  · obtain ⟨j, _, hj⟩ := hsub k (List.mem_of_getElem? hi)
    exact ⟨k, List.mem_of_getElem? hj, hb⟩

end Go.AM
