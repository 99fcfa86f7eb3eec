/-
  Functions that hand out trees of their own; calls in front of which other objects are set aside.
  Conditions: none.
-/
import Derived.Test.YtdjbahilmcokeaaDoorAbsP
namespace Go.AM
set_option linter.unusedVariables false
set_option linter.unusedSimpArgs false

/-- a tree that lies in the blocks of these objects -/
def Piece (w : World) (ι : List K) (I : List Nat) (x : List (List D)) (v : Value) : Prop :=
  ∃ B : Nat → Prop, RT w (.sl x) v B ∧ ∀ b, B b → ∃ (i : Nat) (k : K), i ∈ I ∧ ι[i]? = some k ∧ k.at b

section
variable {w : World} {ι : List K} {n : Nat} {loc : Heap}

theorem Sim.get (hs : Sim w ι n loc) {j : Nat} {o : Ob} (h : loc[j]? = some o) : ∃ k, ι[j]? = some k ∧ RO w ι n o k := by
  have hj : j < ι.length := by rw [hs.len]; exact (List.getElem?_eq_some_iff.1 h).1
  exact ⟨ι[j], List.getElem?_eq_getElem hj, hs.obj j o _ h (List.getElem?_eq_getElem hj)⟩

theorem RO.tree_inv {v : Value} {d : List (List D)} {k : K} (h : RO w ι n (.tree v d) k) : ∃ B B₀ : Nat → Prop, k = .tree B ∧ (∀ b, B₀ b → B b) ∧ RT w (.sl d) v B₀ := by
  cases k with
  | tree B => obtain ⟨B₀, h1, h2⟩ := h; exact ⟨B, B₀, rfl, h1, h2⟩
  | grow q p => cases p <;> exact h.elim
  | _ => exact h.elim

theorem piece_tree (hs : Sim w ι n loc) {j : Nat} {v : Value} {d : List (List D)} (h : loc[j]? = some (.tree v d)) : Piece w ι [j] d v := by
  obtain ⟨k, hk, ho⟩ := hs.get h
  obtain ⟨B, B₀, rfl, h1, h2⟩ := ho.tree_inv
  exact ⟨B₀, h2, fun b hb => ⟨j, _, by simp, hk, h1 b hb⟩⟩

theorem piece_nil {S : Nat → Nat → Prop} {v : Value} (h : RD w S (.sl []) v) : Piece w ι [] [] v :=
  ⟨_, .leaf rfl (h.of_leaf rfl), fun b hb => hb.elim⟩

theorem piece_join (hs : Sim w ι n loc) {S : Nat → Nat → Prop} {i b cap sz : Nat} {k : K} {rows rows' : List (List D)} {trs : Heap} {js : List Nat} (hk : ι[i]? = some k) (hat : k.at b) (hA : Arr w S rows.flatten b)
    (hst : Strip rows'.flatten rows.flatten trs) (hne : rows' ≠ []) (hc : rows'.length ≤ cap) (hm : rows'.length ≤ maxRows) (hsz : ∀ r ∈ rows', r.length = sz)
    (hj : ∀ m, m < trs.length → ∃ j, js[m]? = some j ∧ loc[j]? = trs[m]?) (hnd : (i :: js).Nodup) :
    Piece w ι (i :: js) rows' (.slice (some ⟨b, 0, none⟩) rows'.length cap) := by
  have hP : ∀ m : Nat, ∃ B : Nat → Prop, (∀ (v : Value) (d : List (List D)), trs[m]? = some (Ob.tree v d) → RT w (.sl d) v B) ∧ ∀ c, B c → ∃ (j : Nat) (k : K), js[m]? = some j ∧ ι[j]? = some k ∧ k.at c := fun m => by
    by_cases h : ∃ (v : Value) (d : List (List D)), trs[m]? = some (Ob.tree v d)
    · obtain ⟨v, d, h⟩ := h
      obtain ⟨j, h1, h2⟩ := hj m (List.getElem?_eq_some_iff.1 h).1
      rw [h] at h2
      obtain ⟨B, h3, h4⟩ := piece_tree hs h2
      refine ⟨B, fun v' d' h' => ?_, fun c hc => ?_⟩
      · rw [h] at h'; cases h'; exact h3
      · obtain ⟨j', k, h5, h6⟩ := h4 c hc
        simp at h5; subst h5
        exact ⟨j', k, h1, h6⟩
    · exact ⟨fun _ => False, fun v d h' => absurd ⟨v, d, h'⟩ h, fun c hc => hc.elim⟩
  have hP1 := fun m => (Classical.choose_spec (hP m)).1
  have hP2 := fun m => (Classical.choose_spec (hP m)).2
  obtain ⟨hn1, hn2⟩ := List.nodup_cons.1 hnd
  obtain ⟨B, h1, h2⟩ := RT.join (Bt := fun m => Classical.choose (hP m)) hA hst hne hc hm hsz hP1 (fun m hm hb => by
      obtain ⟨j, k', h3, h4, h5⟩ := hP2 m b hb
      have := hs.apart _ _ _ _ b hk h4 hat h5
      subst this
      exact hn1 (List.mem_of_getElem? h3))
    (fun m m' c hm hm' h3 h4 => by
      obtain ⟨j, k1, h5, h6, h7⟩ := hP2 m c h3
      obtain ⟨j', k2, h8, h9, h10⟩ := hP2 m' c h4
      have := hs.apart _ _ _ _ c h6 h9 h7 h10
      subst this
      obtain ⟨hl, h5⟩ := List.getElem?_eq_some_iff.1 h5
      obtain ⟨hl', h8⟩ := List.getElem?_eq_some_iff.1 h8
      exact (List.getElem_inj hn2).1 (h5.trans h8.symm))
  refine ⟨B, h1, fun c hc => ?_⟩
  rcases h2 c hc with rfl | ⟨m, hm, h3⟩
  · exact ⟨i, k, by simp, hk, hat⟩
  · obtain ⟨j, k', h4, h5⟩ := hP2 m c h3
    exact ⟨j, k', by simp [List.mem_of_getElem? h4], h5⟩

theorem arr_own {S : Nat → Nat → Prop} {rows : List (List D)} {b cap sz len : Nat} {vs : Array Value} {el : TypeId} (h : RD w S (.sl rows) (.slice (some ⟨b, 0, none⟩) len cap)) (hne : rows ≠ []) (hsz : ∀ r ∈ rows, r.length = sz)
    (hh : w.heap[b]? = some (.cells vs el (0, 0))) (hl : cap * sz ≤ vs.size) : Arr w S rows.flatten b ∧ rows.length ≤ maxRows := by
  rcases RD.sl_iff.1 h with ⟨h, _⟩ | ⟨b', off, sz', h1, h2, h3, h4, h5⟩
  · exact absurd h hne
  · simp at h1
    obtain ⟨rfl, rfl⟩ := h1
    refine ⟨⟨vs, el, hh, ?_, fun m x hm => ?_⟩, h4⟩
    · rw [flatten_len hsz]
      exact Nat.le_trans (Nat.mul_le_mul_right sz h3) hl
    · obtain ⟨i, j, r, h6, h7, rfl⟩ := flatten_inv hsz hm
      obtain ⟨h8, h9⟩ := h5 i r h6
      have : sz' = sz := by rw [← h8, hsz r (List.mem_of_getElem? h6)]
      subst this
      obtain ⟨y, h10, _, h11⟩ := h9 j x h7
      refine ⟨y, ?_, h11⟩
      simpa [World.cell?, hh] using h10

/-- an array without memory below it -/
theorem RT.of_leafs {w : World} {S : Nat → Nat → Prop} {rows : List (List D)} {b cap sz : Nat} (hA : Arr w S rows.flatten b) (hl : ∀ x ∈ rows.flatten, x.leaf = true) (hne : rows ≠ []) (hc : rows.length ≤ cap) (hm : rows.length ≤ maxRows) (hsz : ∀ r ∈ rows, r.length = sz) :
    ∃ B, RT w (.sl rows) (.slice (some ⟨b, 0, none⟩) rows.length cap) B ∧ ∀ c, B c → c = b := by
  obtain ⟨vs, el, h1, h2, h3⟩ := hA
  refine ⟨_, .sl rows b cap sz vs el (fun n => vs.getD n undef) (fun _ _ => False) hne hc hm hsz h1 h2 (fun n x hn => ?_) (fun n x hn => ?_) (fun n h => h) (fun n m c h => h.elim), fun c hc => ?_⟩
  · have hlt : n < vs.size := by have := (List.getElem?_eq_some_iff.1 hn).1; omega
    simp [hlt]
  · obtain ⟨y, h9, h10⟩ := h3 n _ hn
    have hy : vs.getD n undef = y := by simp [Array.getD_eq_getD_getElem?, h9]
    have hx := hl x (List.mem_of_getElem? hn)
    show RT w x (vs.getD n undef) _
    rw [hy]
    exact .leaf hx (h10.of_leaf hx)
  · rcases hc with h | ⟨n, h⟩
    · exact h
    · exact h.elim

/-- what is handed out for a cell: the cell with its tree in place of its token; I: the objects that go into it -/
inductive OutC (loc : Heap) : Value → C → C → Heap → List Nat → Prop
  | leaf {v : Value} {x : D} : x.leaf = true → OutC loc v (.d x) (.d x) [] []
  | u {v : Value} : OutC loc v .u .u [] []
  | tree {v kv : Value} {d : List (List D)} {j : Nat} : loc[j]? = some (.tree kv d) → OutC loc v (.d (.v kv)) (.d (.v v)) [.tree v d] [j]
  | nil {v : Value} : OutC loc v (.d (.sl [])) (.d (.v v)) [.tree v []] []
  | full {v : Value} : OutC loc v (.full []) (.d (.v v)) [.tree v []] []
  | ownNil {v : Value} {r : Ref} {pos : Nat} : OutC loc v (.own r pos []) (.d (.v v)) [.tree v []] []
  | own {v : Value} {i pos sz : Nat} {rows rows' : List (List D)} {trs : Heap} {js : List Nat} : loc[i]? = some (.grow pos sz) → rows.length = pos → Strip rows'.flatten rows.flatten trs → rows'.map List.length = rows.map List.length →
      (∀ m, m < trs.length → ∃ j, js[m]? = some j ∧ loc[j]? = trs[m]?) → OutC loc v (.own (.l i) pos rows) (.d (.v v)) [.tree v rows'] (i :: js)
  | leafs {v : Value} {i len sz : Nat} {rows : List (List D)} : loc[i]? = some (.rows rows) → (∀ x ∈ rows.flatten, x.leaf = true) → OutC loc v (.fsl (.l i) len sz) (.d (.v v)) [.tree v rows] [i]
  | fsl {v : Value} {i len sz : Nat} {rows rows' : List (List D)} {trs : Heap} {js : List Nat} : loc[i]? = some (.rows rows) → Strip rows'.flatten rows.flatten trs → rows'.map List.length = rows.map List.length →
      (∀ m, m < trs.length → ∃ j, js[m]? = some j ∧ loc[j]? = trs[m]?) → OutC loc v (.fsl (.l i) len sz) (.d (.v v)) [.tree v rows'] (i :: js)

inductive Pieces (w : World) (ι : List K) : List Nat → Heap → Prop
  | nil : Pieces w ι [] []
  | cons {I I' : List Nat} {v : Value} {d : List (List D)} {H : Heap} : Piece w ι I d v → Pieces w ι I' H → Pieces w ι (I ++ I') (.tree v d :: H)

theorem Pieces.one {I : List Nat} {v : Value} {d : List (List D)} (h : Piece w ι I d v) : Pieces w ι I [.tree v d] := by
  have := Pieces.cons h .nil
  simpa using this
theorem Pieces.app {I I' : List Nat} {H H' : Heap} (h : Pieces w ι I H) (h' : Pieces w ι I' H') : Pieces w ι (I ++ I') (H ++ H') := by
  induction h with
  | nil => exact h'
  | cons a b ih => rw [List.append_assoc]; exact .cons a ih

theorem lens_of {rows rows' : List (List D)} {sz : Nat} (h : rows'.map List.length = rows.map List.length) (hs : ∀ r ∈ rows, r.length = sz) : rows'.length = rows.length ∧ ∀ r ∈ rows', r.length = sz := by
  refine ⟨by simpa using congrArg List.length h, fun r hr => ?_⟩
  have : r.length ∈ rows'.map List.length := List.mem_map_of_mem hr
  rw [h] at this
  obtain ⟨r', h1, h2⟩ := List.mem_map.1 this
  rw [← h2]; exact hs r' h1

theorem outC_ra (hs : Sim w ι 0 loc) {v : Value} {c c' : C} {H : Heap} {I : List Nat} (hr : RC w ι 0 c v) (ho : OutC loc v c c' H I) (hnd : I.Nodup) : Pieces w ι I H ∧ ∀ w' ι' n', RC w' ι' n' c' v := by
  have hv : ∀ w' ι' n', RC w' ι' n' (.d (.v v)) v := fun w' ι' n' => .d (.v v hr.oneCell)
  cases ho with
  | leaf hx => cases hr with | d h => exact ⟨.nil, fun w' ι' n' => .d (h.of_leaf hx)⟩
  | u => exact ⟨.nil, fun w' ι' n' => .u hr.oneCell⟩
  | @tree kv d j hl =>
    cases hr with
    | d h =>
      cases h
      exact ⟨.one (piece_tree hs hl), hv⟩
  | nil => cases hr with | d h => exact ⟨.one (piece_nil h), hv⟩
  | full => cases hr with | full h => exact ⟨.one (piece_nil h), hv⟩
  | ownNil => cases hr with | own h _ => exact ⟨.one (piece_nil h), hv⟩
  | @own i pos sz rows rows' trs js hl hp hst hlen hj =>
    refine ⟨.one ?_, hv⟩
    cases hr with
    | own h1 h2 =>
      obtain ⟨q, p, h3, h4, h5⟩ := h2
      rw [show idx 0 (.l i) = i by simp [idx]] at h3
      have ho := hs.obj i _ _ hl h3
      rcases Decidable.em (rows = []) with rfl | hne
      · have : rows' = [] := by simpa using hlen
        subst this
        have := hst
        have hN : Piece w ι [] [] v := piece_nil h1
        obtain ⟨B, h6, h7⟩ := hN
        exact ⟨B, h6, fun b hb => by obtain ⟨_, _, h, _⟩ := h7 b hb; cases h⟩
      · have hpq : pos = q := by
          cases p with
          | none => exact ho
          | some p => obtain ⟨b, E, lim, s⟩ := p; exact ho.1.1
        obtain ⟨_, _, h6⟩ := h5 hpq
        rcases h6 hp with ⟨h6, _⟩ | ⟨b, cap, cap', sz', rfl, rfl, h7, h7', h8⟩
        · exact absurd h6 hne
        obtain ⟨_, vs, el, h9, h10⟩ := ho
        obtain ⟨h11, h12⟩ := arr_own h1 hne h8 h9 (Nat.le_trans (Nat.mul_le_mul_right sz' h7') h10)
        obtain ⟨h13, h14⟩ := lens_of hlen h8
        rw [← h13]
        exact piece_join hs h3 rfl h11 hst (fun e => hne (by subst e; simpa using hlen.symm)) (by omega) (by omega) h14 hj hnd
  | @leafs i len sz rows hl hlf =>
    refine ⟨.one ?_, hv⟩
    cases hr with
    | @fsl _ _ b _ cap h1 h2 =>
      rw [show idx 0 (.l i) = i by simp [idx]] at h1
      obtain ⟨vs, el, h3, h4, ⟨h5, rfl⟩, h6⟩ := hs.obj i _ _ hl h1
      have hsz : ∀ r ∈ rows, r.length = sz := fun r hr => by
        obtain ⟨m, hm⟩ := List.mem_iff_getElem?.1 hr
        exact (h6 m r hm).1
      rcases Decidable.em (rows = []) with rfl | hne
      · refine ⟨_, .leaf rfl (.sl [] b 0 cap sz (fun _ => undef) (by simp) (by simp) (fun i r h => by simp at h) (fun i r j x h => by simp at h) (fun i r j x h => by simp at h)), fun b hb => hb.elim⟩
      · have h11 : Arr w (Safe w ι) rows.flatten b := ⟨vs, el, h3, by rw [flatten_len hsz]; exact h4, fun m x hm => by
          obtain ⟨i, j, r, h6', h7, rfl⟩ := flatten_inv hsz hm
          exact (h6 i r h6').2 j x h7⟩
        obtain ⟨B, h12, h13⟩ := RT.of_leafs h11 hlf hne h2 h5 hsz
        exact ⟨B, h12, fun c hc => by rw [h13 c hc]; exact ⟨i, _, by simp, h1, rfl⟩⟩
  | @fsl i len sz rows rows' trs js hl hst hlen hj =>
    refine ⟨.one ?_, hv⟩
    cases hr with
    | @fsl _ _ b _ cap h1 h2 =>
      rw [show idx 0 (.l i) = i by simp [idx]] at h1
      obtain ⟨vs, el, h3, h4, ⟨h5, rfl⟩, h6⟩ := hs.obj i _ _ hl h1
      have hsz : ∀ r ∈ rows, r.length = sz := fun r hr => by
        obtain ⟨m, hm⟩ := List.mem_iff_getElem?.1 hr
        exact (h6 m r hm).1
      rcases Decidable.em (rows = []) with rfl | hne
      · have : rows' = [] := by simpa using hlen
        subst this
        refine ⟨_, .leaf rfl (.sl [] b 0 cap sz (fun _ => undef) (by simp) (by simp) (fun i r h => by simp at h) (fun i r j x h => by simp at h) (fun i r j x h => by simp at h)), fun b hb => hb.elim⟩
      · have h11 : Arr w (Safe w ι) rows.flatten b := ⟨vs, el, h3, by rw [flatten_len hsz]; exact h4, fun m x hm => by
          obtain ⟨i, j, r, h6', h7, rfl⟩ := flatten_inv hsz hm
          exact (h6 i r h6').2 j x h7⟩
        obtain ⟨h13, h14⟩ := lens_of hlen hsz
        rw [← h13]
        exact piece_join hs h1 rfl h11 hst (fun e => hne (by subst e; simpa using hlen.symm)) (by omega) (by omega) h14 hj hnd

/-- objects for the trees -/
theorem Pieces.sim (hs : Sim w ι n loc) {I : List Nat} {H : Heap} (h : Pieces w ι I H) (hnd : I.Nodup) :
    ∃ ι' : List K, ι'.length = H.length ∧ (∀ (i : Nat) o k, H[i]? = some o → ι'[i]? = some k → ∀ ι₁ n₁, RO w ι₁ n₁ o k) ∧ (∀ (i j : Nat) k k' b, ι'[i]? = some k → ι'[j]? = some k' → k.at b → k'.at b → i = j) ∧
      ∀ (i : Nat) k b, ι'[i]? = some k → k.at b → ∃ (j : Nat) (k' : K), j ∈ I ∧ ι[j]? = some k' ∧ k'.at b := by
  induction h with
  | nil => exact ⟨[], rfl, fun i o k h => by simp at h, fun i j k k' b h => by simp at h, fun i k b h => by simp at h⟩
  | @cons I I' v d H h h' ih =>
    obtain ⟨n1, n2, n3⟩ := List.nodup_append.1 hnd
    obtain ⟨ι', h1, h2, h3, h4⟩ := ih n2
    obtain ⟨B, h5, h6⟩ := h
    have hap : ∀ (j : Nat) k b, ι'[j]? = some k → B b → k.at b → False := fun j k b hj hb hk => by
      obtain ⟨j1, k1, a1, a2, a3⟩ := h6 b hb
      obtain ⟨j2, k2, b1, b2, b3⟩ := h4 j k b hj hk
      have := hs.apart _ _ _ _ b a2 b2 a3 b3
      subst this
      exact n3 j1 a1 j1 b1 rfl
    refine ⟨.tree B :: ι', by simp [h1], fun i o k hi hk ι₁ n₁ => ?_, fun i j k k' b hi hj hk hk' => ?_, fun i k b hi hk => ?_⟩
    · cases i with
      | zero => simp at hi hk; subst hi; subst hk; exact ⟨B, fun b hb => hb, h5⟩
      | succ i => exact h2 i o k (by simpa using hi) (by simpa using hk) ι₁ n₁
    · cases i with
      | zero =>
        simp at hi; subst hi
        cases j with
        | zero => rfl
        | succ j => exact (hap j k' b (by simpa using hj) hk hk').elim
      | succ i =>
        cases j with
        | zero => simp at hj; subst hj; exact (hap i k b (by simpa using hi) hk' hk).elim
        | succ j => rw [h3 i j k k' b (by simpa using hi) (by simpa using hj) hk hk']
    · cases i with
      | zero =>
        simp at hi; subst hi
        obtain ⟨j, k', a1, a2, a3⟩ := h6 b hk
        exact ⟨j, k', by simp [a1], a2, a3⟩
      | succ i =>
        obtain ⟨j, k', a1, a2, a3⟩ := h4 i k b (by simpa using hi) hk
        exact ⟨j, k', by simp [a1], a2, a3⟩

inductive OutCs (loc : Heap) (kv : Nat → Value) : Nat → List C → List C → Heap → List Nat → Prop
  | nil {p : Nat} : OutCs loc kv p [] [] [] []
  | cons {p : Nat} {c c' : C} {l l' : List C} {H H' : Heap} {I I' : List Nat} : OutC loc (kv p) c c' H I → OutCs loc kv (p + 1) l l' H' I' → OutCs loc kv p (c :: l) (c' :: l') (H ++ H') (I ++ I')
inductive OutA1 (loc : Heap) (kv : Nat → Value) : A → A → Heap → List Nat → Prop
  | c {c c' : C} {H : Heap} {I : List Nat} : OutC loc (kv 0) c c' H I → OutA1 loc kv (.c c) (.c c') H I
  | agg {cs cs' : List C} {H : Heap} {I : List Nat} : OutCs loc kv 0 cs cs' H I → OutA1 loc kv (.agg cs) (.agg cs') H I
inductive OutAs (loc : Heap) (kv : Nat → Nat → Value) : Nat → List A → List A → Heap → List Nat → Prop
  | nil {t : Nat} : OutAs loc kv t [] [] [] []
  | cons {t : Nat} {a a' : A} {l l' : List A} {H H' : Heap} {I I' : List Nat} : OutA1 loc (kv t) a a' H I → OutAs loc kv (t + 1) l l' H' I' → OutAs loc kv t (a :: l) (a' :: l') (H ++ H') (I ++ I')
/-- what is handed out for a result -/
inductive OutA (loc : Heap) (kv : Nat → Nat → Value) : A → A → Heap → List Nat → Prop
  | one {a a' : A} {H : Heap} {I : List Nat} : OutA1 loc (kv 0) a a' H I → OutA loc kv a a' H I
  | tup {l l' : List A} {H : Heap} {I : List Nat} : OutAs loc kv 0 l l' H I → OutA loc kv (.tup l) (.tup l') H I

theorem outCs_ra (hs : Sim w ι 0 loc) {kv : Nat → Value} : ∀ {cs cs' : List C} {p : Nat} {vs : List Value} {H : Heap} {I : List Nat}, RCs w ι 0 cs vs → (∀ i v, vs[i]? = some v → kv (p + i) = v) → OutCs loc kv p cs cs' H I → I.Nodup →
    Pieces w ι I H ∧ ∀ w' ι' n', RCs w' ι' n' cs' vs
  | [], cs', p, vs, H, I, hr, hk, ho, hnd => by
    cases ho
    exact ⟨.nil, fun w' ι' n' => ⟨hr.1, fun i c v h => by simp at h⟩⟩
  | c :: l, cs', p, vs, H, I, hr, hk, ho, hnd => by
    cases ho with
    | @cons _ _ c' _ l' H H' I I' h1 h2 =>
      obtain ⟨n1, n2, n3⟩ := List.nodup_append.1 hnd
      cases vs with
      | nil => have := hr.1; simp at this
      | cons v vs =>
        have hv : kv p = v := hk 0 v rfl
        rw [hv] at h1
        obtain ⟨a1, a2⟩ := outC_ra hs (hr.2 0 c v rfl rfl) h1 n1
        obtain ⟨b1, b2⟩ := outCs_ra hs (vs := vs) ⟨by have := hr.1; simpa using this, fun i c v h h' => hr.2 (i + 1) c v (by simpa using h) (by simpa using h')⟩
          (fun i u h => by rw [show p + 1 + i = p + (i + 1) by omega]; exact hk (i + 1) u (by simpa using h)) h2 n2
        refine ⟨a1.app b1, fun w' ι' n' => ⟨by have := (b2 w' ι' n').1; simp [this], fun i x y hx hy => ?_⟩⟩
        cases i with
        | zero => simp at hx hy; subst hx; subst hy; exact a2 w' ι' n'
        | succ i => exact (b2 w' ι' n').2 i x y (by simpa using hx) (by simpa using hy)

theorem outA1_ra (hs : Sim w ι 0 loc) {a : A} {v : Value} (hr : RA w ι 0 a v) : ∃ kv : Nat → Value, ∀ a' H I, OutA1 loc kv a a' H I → I.Nodup → Pieces w ι I H ∧ ∀ w' ι' n', RA w' ι' n' a' v := by
  cases hr with
  | c h =>
    refine ⟨fun _ => v, fun a' H I ho hnd => ?_⟩
    cases ho with
    | c ho => obtain ⟨h1, h2⟩ := outC_ra hs h ho hnd; exact ⟨h1, fun w' ι' n' => .c (h2 w' ι' n')⟩
  | @agg cs vs h =>
    refine ⟨fun i => vs.getD i undef, fun a' H I ho hnd => ?_⟩
    cases ho with
    | agg ho =>
      obtain ⟨h1, h2⟩ := outCs_ra hs h (fun i v hv => by simp [hv]) ho hnd
      exact ⟨h1, fun w' ι' n' => .agg (h2 w' ι' n')⟩
  | _ => exact ⟨fun _ => undef, fun a' H I ho => by cases ho⟩

theorem outAs_ra (hs : Sim w ι 0 loc) : ∀ {l : List A} {vs : List Value} (t : Nat), vs.length = l.length → (∀ (i : Nat) a v, l[i]? = some a → vs[i]? = some v → RA w ι 0 a v) → ∃ kv : Nat → Nat → Value, ∀ l' H I, OutAs loc kv t l l' H I → I.Nodup →
    Pieces w ι I H ∧ l'.length = l.length ∧ ∀ w' ι' n' (i : Nat) a v, l'[i]? = some a → vs[i]? = some v → RA w' ι' n' a v
  | [], vs, t, hl, hr => ⟨fun _ _ => undef, fun l' H I ho hnd => by cases ho; exact ⟨.nil, rfl, fun w' ι' n' i a v h => by simp at h⟩⟩
  | x :: l, [], t, hl, hr => by simp at hl
  | x :: l, v :: vs, t, hl, hr => by
    obtain ⟨kv, h1⟩ := outAs_ra hs (l := l) (vs := vs) (t + 1) (by simpa using hl) (fun i a v h h' => hr (i + 1) a v (by simpa using h) (by simpa using h'))
    obtain ⟨k0, h2⟩ := outA1_ra hs (hr 0 x v rfl rfl)
    have key : ∀ {l l' : List A} {H : Heap} {I : List Nat} {s : Nat}, t < s → OutAs loc (fun i => if i = t then k0 else kv i) s l l' H I → OutAs loc kv s l l' H I := fun {l l' H I s} hs h => by
      induction h with
      | nil => exact .nil
      | @cons s a a' l l' H H' I I' ha hl ih =>
        have : (fun i => if i = t then k0 else kv i) s = kv s := by simp; omega
        simp only [if_neg (show ¬ s = t by omega)] at ha
        exact .cons ha (ih (by omega))
    refine ⟨fun i => if i = t then k0 else kv i, fun l' H I ho hnd => ?_⟩
    cases ho with
    | @cons _ _ a' _ l' H H' I I' ha hl' =>
      simp only [if_true] at ha
      obtain ⟨n1, n2, n3⟩ := List.nodup_append.1 hnd
      obtain ⟨a1, a2⟩ := h2 _ _ _ ha n1
      obtain ⟨b1, b2, b3⟩ := h1 _ _ _ (key (by omega) hl') n2
      refine ⟨a1.app b1, by simp [b2], fun w' ι' n' i y u hy hu => ?_⟩
      cases i with
      | zero => simp at hy hu; subst hy; subst hu; exact a2 w' ι' n'
      | succ i => exact b3 w' ι' n' i y u (by simpa using hy) (by simpa using hu)

theorem outA_ra (hs : Sim w ι 0 loc) {a : A} {v : Value} (hr : RA w ι 0 a v) : ∃ kv : Nat → Nat → Value, ∀ a' H I, OutA loc kv a a' H I → I.Nodup → Pieces w ι I H ∧ ∀ w' ι' n', RA w' ι' n' a' v := by
  cases hr with
  | @tup as vs hl h =>
    obtain ⟨kv, h1⟩ := outAs_ra hs 0 hl h
    refine ⟨kv, fun a' H I ho hnd => ?_⟩
    cases ho with
    | one ho => cases ho
    | tup ho =>
      obtain ⟨a1, a2, a3⟩ := h1 _ _ _ ho hnd
      exact ⟨a1, fun w' ι' n' => .tup (by rw [hl, a2]) (a3 w' ι' n')⟩
  | c h =>
    obtain ⟨kv, h1⟩ := outA1_ra hs (RA.c h)
    exact ⟨fun _ => kv, fun a' H I ho hnd => by cases ho with | one ho => exact h1 _ _ _ ho hnd⟩
  | agg h =>
    obtain ⟨kv, h1⟩ := outA1_ra hs (RA.agg h)
    exact ⟨fun _ => kv, fun a' H I ho hnd => by cases ho with | one ho => exact h1 _ _ _ ho hnd⟩
  | _ => exact ⟨fun _ _ => undef, fun a' H I ho => by cases ho with | one ho => cases ho⟩
end

end Go.AM
