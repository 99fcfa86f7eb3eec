/-
  Trees of slices that own their arrays: how they are read, put together and taken apart.
  Conditions: none.
-/
import Derived.Test.YtdjbahilmcokeaaDoorAbsO
namespace Go.AM
set_option linter.unusedVariables false
set_option linter.unusedSimpArgs false

theorem flatten_get {rows : List (List D)} {sz : Nat} (h : ∀ r ∈ rows, r.length = sz) {i j : Nat} {r : List D} {x : D} (hi : rows[i]? = some r) (hj : r[j]? = some x) : rows.flatten[i * sz + j]? = some x := by
  induction rows generalizing i with
  | nil => simp at hi
  | cons a l ih =>
    have ha : a.length = sz := h a (by simp)
    cases i with
    | zero =>
      simp at hi; subst hi
      rw [List.flatten_cons, Nat.zero_mul, Nat.zero_add, List.getElem?_append_left (List.getElem?_eq_some_iff.1 hj).1]; exact hj
    | succ i =>
      rw [List.flatten_cons, List.getElem?_append_right (by rw [ha, Nat.succ_mul]; omega)]
      have := ih (fun r hr => h r (by simp [hr])) (i := i) (by simpa using hi)
      rw [← this]
      congr 1
      rw [ha, Nat.succ_mul]; omega

theorem flatten_inv {rows : List (List D)} {sz : Nat} (h : ∀ r ∈ rows, r.length = sz) {n : Nat} {x : D} (hn : rows.flatten[n]? = some x) : ∃ i j r, rows[i]? = some r ∧ r[j]? = some x ∧ n = i * sz + j := by
  induction rows generalizing n with
  | nil => simp at hn
  | cons a l ih =>
    have ha : a.length = sz := h a (by simp)
    rcases Nat.lt_or_ge n a.length with hlt | hge
    · rw [List.flatten_cons, List.getElem?_append_left hlt] at hn
      exact ⟨0, n, a, rfl, hn, by simp⟩
    · rw [List.flatten_cons, List.getElem?_append_right hge] at hn
      obtain ⟨i, j, r, h1, h2, h3⟩ := ih (fun r hr => h r (by simp [hr])) hn
      exact ⟨i + 1, j, r, by simpa using h1, h2, by rw [Nat.succ_mul]; omega⟩

theorem flatten_len {rows : List (List D)} {sz : Nat} (h : ∀ r ∈ rows, r.length = sz) : rows.flatten.length = rows.length * sz := by
  induction rows with
  | nil => simp
  | cons a l ih =>
    rw [List.flatten_cons, List.length_append, ih (fun r hr => h r (by simp [hr])), h a (by simp), List.length_cons, Nat.succ_mul]; omega

theorem RD.of_leaf {w w' : World} {S S' : Nat → Nat → Prop} {x : D} {v : Value} (hx : x.leaf = true) (h : RD w S x v) : RD w' S' x v := by
  cases h with
  | bool b => exact .bool b
  | int k n h => exact .int k n h
  | str s h => exact .str s h
  | v _ h => exact .v _ h
  | nil a => exact .nil a
  | sl rows b off cap sz vs h1 h2 h3 h4 h5 =>
    cases rows with
    | nil => exact .sl [] b off cap sz vs h1 h2 (fun i r h => by simp at h) (fun i r j x h => by simp at h) (fun i r j x h => by simp at h)
    | cons a l => simp [D.leaf] at hx

/-- a tree is read as data -/
theorem RT.rd {w : World} {S : Nat → Nat → Prop} {x : D} {v : Value} {B : Nat → Prop} (h : RT w x v B) (hS : ∀ b o, B b → S b o) : RD w S x v := by
  induction h with
  | leaf h1 h2 => exact h2.of_leaf h1
  | sl rows b cap sz vs el vf Bs h1 h2 h3 h4 h5 h6 h7 h8 h9 h10 ih =>
    refine .sl rows b 0 cap sz vf h2 h3 (fun i r hi => h4 r (List.mem_of_getElem? hi)) (fun i r j x hi hj => ⟨?_, hS _ _ (.inl rfl)⟩) (fun i r j x hi hj => ?_)
    · have := h7 _ x (flatten_get h4 hi hj)
      simp [World.cell?, h5, this]
    · have := flatten_get h4 hi hj
      exact ih _ x this fun c o hc => hS c o (.inr ⟨_, hc⟩)

def D.isSl : D → Bool
  | .sl _ => true
  | _ => false

theorem RT.leaf_rd {w : World} {x : D} {v : Value} {B : Nat → Prop} (h : RT w x v B) (hx : x.isSl = false) (S : Nat → Nat → Prop) : RD w S x v := by
  cases h with
  | leaf a b => exact b.of_leaf a
  | sl => simp [D.isSl] at hx

theorem RT.oneCell {w : World} {x : D} {v : Value} {B : Nat → Prop} (h : RT w x v B) : v.oneCell' = true := by
  cases h with
  | leaf h1 h2 => exact h2.oneCell
  | sl => rfl

theorem RT.len {w : World} {rows : List (List D)} {v : Value} {B : Nat → Prop} (h : RT w (.sl rows) v B) : ∃ a cap, v = .slice a rows.length cap ∧ rows.length ≤ cap := by
  cases h with
  | leaf h1 h2 =>
    cases h2 with
    | nil a => exact ⟨a, 0, rfl, Nat.le_refl _⟩
    | sl _ b off cap sz vs h1 => exact ⟨_, cap, rfl, h1⟩
  | sl _ b cap sz vs el vf Bs h1 h2 => exact ⟨_, cap, rfl, h2⟩

/-- cells with their slices cut off, which stand as trees -/
def Strip : List D → List D → Heap → Prop
  | [], c, t => c = [] ∧ t = []
  | .sl d :: l, c, t => ∃ v c' t', c = .v v :: c' ∧ t = .tree v d :: t' ∧ Strip l c' t'
  | x :: l, c, t => ∃ c', c = x :: c' ∧ Strip l c' t

theorem strip_cons {x : D} (hx : x.isSl = false) {l c : List D} {t : Heap} : Strip (x :: l) c t ↔ ∃ c', c = x :: c' ∧ Strip l c' t := by
  cases x <;> first | (simp [D.isSl] at hx; done) | exact Iff.rfl

theorem strip_get : ∀ {l c : List D} {t : Heap}, Strip l c t → l.length = c.length ∧ ∃ σ : Nat → Nat,
    (∀ n x, l[n]? = some x → (∃ d v, x = .sl d ∧ c[n]? = some (.v v) ∧ t[σ n]? = some (.tree v d)) ∨ (x.isSl = false ∧ c[n]? = some x)) ∧
    (∀ n m d d', l[n]? = some (.sl d) → l[m]? = some (.sl d') → σ n = σ m → n = m)
  | [], c, t, h => by
    obtain ⟨rfl, rfl⟩ := h
    exact ⟨rfl, fun _ => 0, fun n x h => by simp at h, fun n m d d' h => by simp at h⟩
  | x :: l, c, t, h => by
    by_cases hx : x.isSl = false
    · obtain ⟨c', rfl, h1⟩ := (strip_cons hx).1 h
      obtain ⟨h2, σ, h3, h4⟩ := strip_get h1
      refine ⟨by simp [h2], fun n => σ (n - 1), fun n y hn => ?_, fun n m d d' hn hm he => ?_⟩
      · cases n with
        | zero => simp at hn; subst hn; exact .inr ⟨hx, rfl⟩
        | succ n => simpa using h3 n y (by simpa using hn)
      · cases n with
        | zero => simp at hn; subst hn; simp [D.isSl] at hx
        | succ n =>
          cases m with
          | zero => simp at hm; subst hm; simp [D.isSl] at hx
          | succ m => simp at hn hm he; rw [h4 n m d d' hn hm he]
    · cases x with
      | sl d0 =>
        obtain ⟨v, c', t', rfl, rfl, h1⟩ := h
        obtain ⟨h2, σ, h3, h4⟩ := strip_get h1
        refine ⟨by simp [h2], fun n => if n = 0 then 0 else σ (n - 1) + 1, fun n y hn => ?_, fun n m d d' hn hm he => ?_⟩
        · cases n with
          | zero => simp at hn; subst hn; exact .inl ⟨d0, v, rfl, rfl, by simp⟩
          | succ n => simpa using h3 n y (by simpa using hn)
        · cases n with
          | zero =>
            cases m with
            | zero => rfl
            | succ m => simp at he
          | succ n =>
            cases m with
            | zero => simp at he
            | succ m => simp at hn hm he; rw [h4 n m d d' hn hm he]
      | _ => simp [D.isSl] at hx

/-- an array that stands in a block of its own -/
def Arr (w : World) (S : Nat → Nat → Prop) (cs : List D) (b : Nat) : Prop :=
  ∃ (vs : Array Value) (el : TypeId), w.heap[b]? = some (.cells vs el (0, 0)) ∧ cs.length ≤ vs.size ∧ ∀ (n : Nat) (x : D), cs[n]? = some x → ∃ y, vs[n]? = some y ∧ RD w S x y

/-- an array and trees make a tree -/
theorem RT.join {w : World} {S : Nat → Nat → Prop} {rows rows' : List (List D)} {trs : Heap} {b cap sz : Nat} {Bt : Nat → Nat → Prop}
    (hA : Arr w S rows.flatten b) (hs : Strip rows'.flatten rows.flatten trs) (hne : rows' ≠ []) (hc : rows'.length ≤ cap) (hm : rows'.length ≤ maxRows) (hsz : ∀ r ∈ rows', r.length = sz)
    (ht : ∀ m v d, trs[m]? = some (.tree v d) → RT w (.sl d) v (Bt m)) (hb : ∀ m, m < trs.length → ¬ Bt m b) (hd : ∀ m m' c, m < trs.length → m' < trs.length → Bt m c → Bt m' c → m = m') :
    ∃ B, RT w (.sl rows') (.slice (some ⟨b, 0, none⟩) rows'.length cap) B ∧ ∀ c, B c → c = b ∨ ∃ m, m < trs.length ∧ Bt m c := by
  obtain ⟨vs, el, h1, h2, h3⟩ := hA
  obtain ⟨h4, σ, h5, h6⟩ := strip_get hs
  have hlt : ∀ n d, rows'.flatten[n]? = some (.sl d) → σ n < trs.length := fun n d hn => by
    rcases h5 n _ hn with ⟨d', v, e, _, h8⟩ | ⟨h8, _⟩
    · exact (List.getElem?_eq_some_iff.1 h8).1
    · simp [D.isSl] at h8
  refine ⟨_, .sl rows' b cap sz vs el (fun n => vs.getD n undef) (fun n c => (∃ d, rows'.flatten[n]? = some (.sl d)) ∧ Bt (σ n) c) hne hc hm hsz h1 (by omega) (fun n x hn => ?_) (fun n x hn => ?_) (fun n ⟨⟨d, h7⟩, h8⟩ => hb _ (hlt n d h7) h8)
    (fun n m c ⟨⟨d, h7⟩, h8⟩ ⟨⟨d', h9⟩, h10⟩ => h6 n m d d' h7 h9 (hd _ _ c (hlt n d h7) (hlt m d' h9) h8 h10)), fun c hc => ?_⟩
  · have hlt : n < vs.size := by have := (List.getElem?_eq_some_iff.1 hn).1; omega
    simp [hlt]
  · rcases h5 n x hn with ⟨d, v, rfl, h7, h8⟩ | ⟨h7, h8⟩
    · obtain ⟨y, h9, h10⟩ := h3 n _ h7
      have hy : vs.getD n undef = v := by
        have : vs.getD n undef = y := by simp [Array.getD_eq_getD_getElem?, h9]
        rw [this]; cases h10; rfl
      show RT w (D.sl d) (vs.getD n undef) (fun c => (∃ d, rows'.flatten[n]? = some (D.sl d)) ∧ Bt (σ n) c)
      rw [hy, show (fun c => (∃ d, rows'.flatten[n]? = some (D.sl d)) ∧ Bt (σ n) c) = Bt (σ n) from funext fun c => propext ⟨fun h => h.2, fun h => ⟨⟨d, hn⟩, h⟩⟩]
      exact ht _ v d h8
    · obtain ⟨y, h9, h10⟩ := h3 n _ h8
      have hy : vs.getD n undef = y := by simp [Array.getD_eq_getD_getElem?, h9]
      have hnot : ∀ d, ¬ rows'.flatten[n]? = some (.sl d) := fun d e => by rw [hn] at e; cases e; simp [D.isSl] at h7
      show RT w x (vs.getD n undef) (fun c => (∃ d, rows'.flatten[n]? = some (D.sl d)) ∧ Bt (σ n) c)
      rw [hy, show (fun c => (∃ d, rows'.flatten[n]? = some (D.sl d)) ∧ Bt (σ n) c) = (fun _ => False) from funext fun c => propext ⟨fun h => hnot _ h.1.choose_spec, fun h => h.elim⟩]
      have hl : x.leaf = true := by cases x <;> first | rfl | (simp [D.isSl] at h7)
      exact .leaf hl (h10.of_leaf hl)
  · rcases hc with rfl | ⟨n, ⟨d, h7⟩, h8⟩
    · exact .inl rfl
    · exact .inr ⟨σ n, hlt n d h7, h8⟩

/-- the cells of a tree, taken apart -/
theorem strip_exists {w : World} {vf : Nat → Value} {Bs : Nat → Nat → Prop} (hd : ∀ n m c, Bs n c → Bs m c → n = m) : ∀ (l : List D) (off : Nat), (∀ n x, l[n]? = some x → RT w x (vf (off + n)) (Bs (off + n))) →
    ∃ (c : List D) (t : Heap) (ks : List K), Strip l c t ∧ (∀ n x, c[n]? = some x → ∀ S, RD w S x (vf (off + n))) ∧ t.length = ks.length ∧
      (∀ (m : Nat) (o : Ob), t[m]? = some o → ∃ (v : Value) (d : List (List D)) (n : Nat), o = .tree v d ∧ off ≤ n ∧ ks[m]? = some (K.tree (Bs n)) ∧ RT w (.sl d) v (Bs n)) ∧
      (∀ (m m' n : Nat), ks[m]? = some (K.tree (Bs n)) → ks[m']? = some (K.tree (Bs n)) → (∃ c, Bs n c) → m = m')
  | [], off, _ => ⟨[], [], [], ⟨rfl, rfl⟩, fun n x h => by simp at h, rfl, fun m o h => by simp at h, fun m m' n h => by simp at h⟩
  | x :: l, off, h => by
    obtain ⟨c, t, ks, h1, h2, h3, h4, h5⟩ := strip_exists hd l (off + 1) (fun n y hn => by have := h (n + 1) y (by simpa using hn); rwa [show off + (n + 1) = off + 1 + n by omega] at this)
    have h0 := h 0 x rfl
    rw [Nat.add_zero] at h0
    by_cases hx : x.isSl = false
    · refine ⟨x :: c, t, ks, (strip_cons hx).2 ⟨c, rfl, h1⟩, fun n y hn S => ?_, h3, fun m o hm => ?_, h5⟩
      · cases n with
        | zero =>
          simp at hn; subst hn
          exact h0.leaf_rd hx S
        | succ n => rw [show off + (n + 1) = off + 1 + n by omega]; exact h2 n y (by simpa using hn) S
      · obtain ⟨v, d, n, e1, e2, e3⟩ := h4 m o hm
        exact ⟨v, d, n, e1, by omega, e3⟩
    · cases x with
      | sl d =>
        refine ⟨.v (vf off) :: c, .tree (vf off) d :: t, .tree (Bs off) :: ks, ⟨_, _, _, rfl, rfl, h1⟩, fun n y hn S => ?_, by simp [h3], fun m o hm => ?_, fun m m' n hm hm' hc => ?_⟩
        · cases n with
          | zero => simp at hn; subst hn; exact .v _ h0.oneCell
          | succ n => rw [show off + (n + 1) = off + 1 + n by omega]; exact h2 n y (by simpa using hn) S
        · cases m with
          | zero => simp at hm; subst hm; exact ⟨_, _, off, rfl, Nat.le_refl _, rfl, h0⟩
          | succ m =>
            obtain ⟨v, d, n, e1, e2, e3⟩ := h4 m o (by simpa using hm)
            exact ⟨v, d, n, e1, by omega, by simpa using e3⟩
        · have key : ∀ m, (K.tree (Bs off) :: ks)[m + 1]? = some (.tree (Bs n)) → ∃ n', off + 1 ≤ n' ∧ Bs n' = Bs n := fun m hm => by
            have hlt : m < t.length := by rw [h3]; exact (List.getElem?_eq_some_iff.1 (by simpa using hm)).1
            obtain ⟨v, d, n', e1, e2, e3, _⟩ := h4 m _ (List.getElem?_eq_getElem hlt)
            simp only [List.getElem?_cons_succ] at hm
            rw [hm] at e3
            injection e3 with e3
            injection e3 with e3
            exact ⟨n', e2, e3.symm⟩
          obtain ⟨c0, hc0⟩ := hc
          cases m with
          | zero =>
            simp at hm
            cases m' with
            | zero => rfl
            | succ m' =>
              obtain ⟨n', e1, e2⟩ := key m' hm'
              have := hd off n' c0 (by rw [hm]; exact hc0) (by rw [e2]; exact hc0)
              omega
          | succ m =>
            cases m' with
            | zero =>
              simp at hm'
              obtain ⟨n', e1, e2⟩ := key m hm
              have := hd off n' c0 (by rw [hm']; exact hc0) (by rw [e2]; exact hc0)
              omega
            | succ m' => simp at hm hm'; rw [h5 m m' n hm hm' ⟨c0, hc0⟩]
      | _ => simp [D.isSl] at hx

end Go.AM
