/-
  The arguments of a law, told as pure data, and the shell of a law that returns true and changes nothing.
  Conditions: the types are bools, integers, strings, slices and structs of such.
-/
import Derived.ProofKit
import Derived.SizedLaws
import Derived.Test.YtcapnainldlnjaaGreatAbsM
namespace Go.AM
open Go.ChangeShapes Go.WideShapes Go.ChangeAt Go.RowKit
set_option linter.unusedVariables false
set_option linter.unusedSimpArgs false

/-- a row of data is of a type -/
inductive HasTy (P : Program) : TypeId → List D → Prop
  | bool {t : TypeId} (b : Bool) : P.underlying t = some .bool → HasTy P t [.bool b]
  | int {t : TypeId} {k : IntKind} (n : Int) : P.underlying t = some (.int k) → inR k n → HasTy P t [.int k n]
  | str {t : TypeId} (s : List UInt8) : P.underlying t = some .string → s.length ≤ reachBytes → HasTy P t [.str s]
  | sl {t e : TypeId} (rows : List (List D)) : P.underlying t = some (.slice e) → rows.length * P.bytesOf e ≤ reachBytes → (∀ r ∈ rows, r.length = P.cellsOf e) →
      (∀ r ∈ rows, HasTy P e r) → HasTy P t [.sl rows]
  | st {t : TypeId} {fs : Array Field} (row : List D) : P.underlying t = some (.struct fs) → row.length = P.cellsOf t →
      (∀ f ∈ fs.toList, HasTy P f.type ((row.drop f.offset).take (P.cellsOf f.type))) → HasTy P t row

def tilesB (P : Program) : Nat → List Field → Nat → Bool
  | off, [], n => off == n
  | off, f :: l, n => f.offset == off && tilesB P (off + P.cellsOf f.type) l n

/-- the types that a reading meets -/
def plainB (P : Program) (L : List TypeId) : Bool :=
  L.all fun t => match P.underlying t with
    | some .bool => true
    | some (.int _) => true
    | some .string => true
    | some (.slice e) => L.contains e && decide (0 < P.bytesOf e) && decide (0 < P.cellsOf e)
    | some (.struct fs) => (fs.toList.all fun f => L.contains f.type) && tilesB P 0 fs.toList (P.cellsOf t)
    | _ => false

def RDs (w : World) (S : Nat → Nat → Prop) (row : List D) (cs : List Value) : Prop :=
  row.length = cs.length ∧ ∀ (i : Nat) d v, row[i]? = some d → cs[i]? = some v → RD w S d v

theorem tiles_le {P : Program} : ∀ {fs : List Field} {off n : Nat}, tilesB P off fs n = true → off ≤ n
  | [], off, n, h => by simp [tilesB] at h; omega
  | f :: l, off, n, h => by
    simp only [tilesB, Bool.and_eq_true] at h
    have := tiles_le h.2
    omega

theorem tiles_row {P : Program} {w : World} {S : Nat → Nat → Prop} {cs : List Value} {n : Nat} (hn : cs.length = n) : ∀ (fs : List Field) (off : Nat), tilesB P off fs n = true →
    (∀ f ∈ fs, ∃ r, HasTy P f.type r ∧ RDs w S r ((cs.drop f.offset).take (P.cellsOf f.type))) →
    ∃ row, RDs w S row (cs.drop off) ∧ ∀ f ∈ fs, off ≤ f.offset ∧ HasTy P f.type ((row.drop (f.offset - off)).take (P.cellsOf f.type))
  | [], off, ht, h => by
    simp [tilesB] at ht
    refine ⟨[], ⟨by simp; omega, fun i d v hi => by simp at hi⟩, fun f hf => by cases hf⟩
  | f :: l, off, ht, h => by
    simp only [tilesB, Bool.and_eq_true, beq_iff_eq] at ht
    obtain ⟨he, ht⟩ := ht
    have hle := tiles_le ht
    obtain ⟨r, h1, h2, h3⟩ := h f (by simp)
    obtain ⟨row, ⟨h4, h5⟩, h6⟩ := tiles_row hn l _ ht (fun g hg => h g (List.mem_cons_of_mem _ hg))
    have hrl : r.length = P.cellsOf f.type := by rw [h2, he]; simp; omega
    refine ⟨r ++ row, ⟨?_, ?_⟩, ?_⟩
    · rw [List.length_append, hrl, h4]; simp; omega
    · intro i d v hi hv
      rcases Nat.lt_or_ge i r.length with hlt | hge
      · rw [List.getElem?_append_left hlt] at hi
        refine h3 i d v hi ?_
        rw [he, List.getElem?_take, if_pos (by omega)]; exact hv
      · rw [List.getElem?_append_right hge] at hi
        refine h5 _ d v hi ?_
        rw [List.getElem?_drop] at hv ⊢
        rw [← hv]; congr 1; omega
    · intro g hg
      rcases List.mem_cons.1 hg with rfl | hg
      · refine ⟨by omega, ?_⟩
        rw [he, Nat.sub_self, List.drop_zero, List.take_append_of_le_length (by omega), List.take_of_length_le (by omega)]; exact h1
      · obtain ⟨h7, h8⟩ := h6 g hg
        refine ⟨by omega, ?_⟩
        have : g.offset - off = r.length + (g.offset - (off + P.cellsOf f.type)) := by omega
        rw [this, ← List.drop_drop, List.drop_left' rfl]
        exact h8

section
variable {H : Type} {enc : TypeId × Value → H} {P : Program} {w : World}

theorem weights_all_mem {e : TypeId} : ∀ {l : List (DataW H)} {d : DataW H} {n : Nat}, d ∈ l → n ∈ d.weights P e → n ∈ DataW.weightsAll P e l
  | x :: l, d, n, hd, hn => by
    simp only [DataW.weightsAll, List.mem_append]
    rcases List.mem_cons.1 hd with rfl | hd
    · exact .inl hn
    · exact .inr (weights_all_mem hd hn)

theorem reach_str : reachBytes ≤ maxStr := by decide
theorem reach_rows : reachBytes ≤ maxRows := by decide

theorem has_of_wf {k : IntKind} {n : Int} (h : (Lit.int k n).wf = true) : inR k n := by
  simpa [Lit.wf, inR] using h

/-- a reading tells a row of data -/
theorem trod_row {L : List TypeId} (hL : plainB P L = true) : ∀ (fuel : Nat) (t : TypeId) (cs : List Value) (x : DataW H × List MemPlace), t ∈ L →
    DataW.trod enc P w 0 (fun _ => true) true fuel t cs = some x → (∀ n ∈ x.1.weights P t, n ≤ reachBytes) → ∃ row, HasTy P t row ∧ RDs w (Safe w []) row cs := by
  intro fuel
  induction fuel with
  | zero => intro t cs x _ h; simp [DataW.trod] at h
  | succ fuel ih =>
    intro t cs x ht h hw
    have hone := List.all_eq_true.1 hL t ht
    split at hone
    · rename_i hu
      obtain ⟨b, rfl, rfl⟩ := DataW.trod_bool hu h
      exact ⟨_, .bool b hu, rfl, fun i d v h1 h2 => by
        match i with
        | 0 => simp at h1 h2; subst h1; subst h2; exact .bool b
        | _ + 1 => simp at h1⟩
    · rename_i k hu
      obtain ⟨n, rfl, rfl, hf⟩ := DataW.trod_int hu h
      have hn := has_of_wf hf
      exact ⟨_, .int n hu hn, rfl, fun i d v h1 h2 => by
        match i with
        | 0 => simp at h1 h2; subst h1; subst h2; exact .int _ _ hn
        | _ + 1 => simp at h1⟩
    · rename_i hu
      obtain ⟨s, rfl, rfl, hf⟩ := DataW.trod_string hu h
      have hn : s.data.toList.length ≤ reachBytes := hw _ (by simp [DataW.weights])
      exact ⟨_, .str _ hu hn, rfl, fun i d v h1 h2 => by
        match i with
        | 0 => simp at h1 h2; subst h1; subst h2; exact .str _ (Nat.le_trans hn reach_str)
        | _ + 1 => simp at h1⟩
    · rename_i e hu
      simp only [Bool.and_eq_true, decide_eq_true_eq] at hone
      obtain ⟨⟨he, hby⟩, hce⟩ := hone
      have he' : e ∈ L := by simpa using he
      rcases DataW.trod_slice hu h with ⟨rfl, rfl⟩ | ⟨a, len, cap, elems, rest, m, hm, rfl, rfl, _, hlc, hcm, hlen, hel, hsp, _⟩
      · exact ⟨_, .sl [] hu (by simp) (by simp) (by simp), rfl, fun i d v h1 h2 => by
          match i with
          | 0 => simp at h1 h2; subst h1; subst h2; exact .nil _
          | _ + 1 => simp at h1⟩
      · cases hm
        have hwt : (elems.length + rest.length) * P.bytesOf e ≤ reachBytes := by
          have := hw ((elems.length + rest.length) * P.bytesOf e) (by simp [DataW.weights, hu])
          exact this
        have hrows : ∀ i, i < len → ∃ (r : List D), HasTy P e r ∧ r.length = P.cellsOf e ∧ ∀ (j : Nat) d, r[j]? = some d → ∃ y, w.cell? ((a.add (i * P.cellsOf e)).add j) = some y ∧ RD w (Safe w []) d y := fun i hi => by
          have h1 := hel i hi
          rw [List.getElem?_eq_getElem (by omega)] at h1
          obtain ⟨cs', h2, h3⟩ := Option.bind_eq_some_iff.1 h1
          obtain ⟨_, h4, h5⟩ := World.cells?_some h2
          obtain ⟨r, h6, h7, h8⟩ := ih e cs' _ he' h3 (fun n hn => hw n (by
            simp only [DataW.weights, hu, List.mem_cons, List.mem_append]
            exact .inr (.inl (weights_all_mem (d := (elems[i]'(by omega)).1) (List.mem_map.2 ⟨_, List.getElem_mem _, rfl⟩) hn))))
          refine ⟨r, h6, by rw [h7, h4], fun j d hj => ?_⟩
          have hjl : j < cs'.length := by rw [← h7]; exact (List.getElem?_eq_some_iff.1 hj).1
          exact ⟨cs'[j], by rw [h5 j (by omega)]; exact List.getElem?_eq_getElem hjl, h8 j d _ hj (List.getElem?_eq_getElem hjl)⟩
        let rows : List (List D) := (List.range len).map fun i => if hi : i < len then Classical.choose (hrows i hi) else []
        have hrl : rows.length = len := by simp [rows]
        have hri : ∀ i r, rows[i]? = some r → HasTy P e r ∧ r.length = P.cellsOf e ∧ ∀ (j : Nat) d, r[j]? = some d → ∃ y, w.cell? ((a.add (i * P.cellsOf e)).add j) = some y ∧ RD w (Safe w []) d y := fun i r hr => by
          have hi : i < len := by rw [← hrl]; exact (List.getElem?_eq_some_iff.1 hr).1
          simp only [rows, List.getElem?_map, List.getElem?_range hi, Option.map_some, hi, ↓reduceDIte, Option.some.injEq] at hr
          subst hr
          exact Classical.choose_spec (hrows i hi)
        have hmem : ∀ r ∈ rows, HasTy P e r ∧ r.length = P.cellsOf e := fun r hr => by
          obtain ⟨i, hi⟩ := List.getElem?_of_mem hr
          exact ⟨(hri i r hi).1, (hri i r hi).2.1⟩
        have hbytes : rows.length * P.bytesOf e ≤ reachBytes := by
          rw [hrl, ← hlen]
          exact Nat.le_trans (Nat.mul_le_mul_right _ (Nat.le_add_right _ _)) hwt
        refine ⟨[.sl rows], .sl rows hu hbytes (fun r hr => (hmem r hr).2) (fun r hr => (hmem r hr).1), rfl, fun i d v h1 h2 => ?_⟩
        match i with
        | _ + 1 => simp at h1
        | 0 =>
          simp at h1 h2
          subst h1; subst h2
          rw [← hrl]
          have hlm : rows.length ≤ maxRows := by
            have : rows.length ≤ rows.length * P.bytesOf e := Nat.le_mul_of_pos_right _ hby
            have := reach_rows
            omega
          by_cases hcap : cap = 0
          · have : len = 0 := by omega
            exact RD.sl_iff.2 (.inl ⟨List.length_eq_zero_iff.1 (by omega), by omega, hcap⟩)
          · have hspot : a.spot = none := by
              have h0 : ∃ y, w.cell? a = some y := by
                by_cases hl0 : 0 < len
                · obtain ⟨r, _, h4, h5⟩ := hrows 0 hl0
                  have : 0 < r.length := by omega
                  obtain ⟨y, hy, _⟩ := h5 0 r[0] (List.getElem?_eq_getElem this)
                  rw [Nat.zero_mul] at hy
                  exact ⟨y, by simpa [Addr.add] using hy⟩
                · obtain ⟨h4, h5⟩ := hsp rfl
                  have h6 := h5 0 (by omega)
                  rw [List.getElem?_eq_getElem (by omega)] at h6
                  obtain ⟨cs', h7, _⟩ := Option.bind_eq_some_iff.1 h6
                  obtain ⟨_, h8, h9⟩ := World.cells?_some h7
                  have h10 := h9 0 hce
                  have hl : len = 0 := by omega
                  rw [hl] at h10
                  simp only [Nat.add_zero, Nat.zero_mul] at h10
                  rw [List.getElem?_eq_getElem (by omega)] at h10
                  exact ⟨_, by simpa [Addr.add] using h10⟩
              obtain ⟨y, hy⟩ := h0
              unfold World.cell? at hy
              split at hy
              · split at hy
                · cases hy
                · rename_i hsn
                  cases hs : a.spot with
                  | none => rfl
                  | some _ => simp [hs] at hsn
              · cases hy
            obtain ⟨b, off, sp⟩ := a
            simp only at hspot
            subst hspot
            refine RD.sl_iff.2 (.inr ⟨b, off, P.cellsOf e, rfl, rfl, by omega, hlm, fun i r hr => ?_⟩)
            obtain ⟨h3, h4, h5⟩ := hri i r hr
            refine ⟨h4, fun j x hj => ?_⟩
            obtain ⟨y, hy, hd⟩ := h5 j x hj
            have hadd : (Addr.add (Addr.add ⟨b, off, none⟩ (i * P.cellsOf e)) j) = ⟨b, off + i * P.cellsOf e + j, none⟩ := by
              rw [addr_add, addr_add]
            rw [hadd] at hy
            refine ⟨y, hy, ⟨?_, fun k hk => by cases hk⟩, hd⟩
            unfold World.cell? at hy
            split at hy
            · rename_i hb; exact (Array.getElem?_eq_some_iff.1 hb).1
            · cases hy
    · rename_i fs hu
      simp only [Bool.and_eq_true] at hone
      obtain ⟨hall, htile⟩ := hone
      obtain ⟨xs, m, hm, rfl, hcl, hxl, hx⟩ := DataW.trod_struct hu h
      cases hm
      obtain ⟨row, h1, h2⟩ := tiles_row (P := P) (w := w) (S := Safe w []) hcl fs.toList 0 htile (fun f hf => by
        have hfl : f.type ∈ L := by simpa using List.all_eq_true.1 hall f hf
        obtain ⟨i, hi⟩ := List.getElem?_of_mem hf
        have hi' : fs[i]? = some f := by simpa using hi
        have h3 := hx i f hi'
        have hil : i < xs.length := by rw [hxl]; exact (Array.getElem?_eq_some_iff.1 hi').1
        rw [List.getElem?_eq_getElem hil] at h3
        exact ih f.type _ _ hfl h3 (fun n hn => hw n (by
          simp only [DataW.weights, hu]
          exact DataW.weights_mem_each (j := i) (by simp [hi']) (by simp [List.getElem?_eq_getElem hil]) n hn)))
      refine ⟨row, .st row hu ?_ fun f hf => ?_, ?_⟩
      · have := h1.1; simpa [hcl] using this
      · have := (h2 f hf).2; simpa using this
      · simpa using h1
    · cases hone

/-- an argument, told -/
def argA (P : Program) (t : TypeId) (row : List D) : A :=
  match P.underlying t with
  | some (.struct _) => .agg (row.map .d)
  | _ => .c (.d (row.headD (.bool false)))

theorem HasTy.one {t : TypeId} {row : List D} (h : HasTy P t row) (hs : ∀ fs, P.underlying t ≠ some (.struct fs)) : row.length = 1 := by
  cases h with
  | st _ hu => exact absurd hu (hs _)
  | _ => rfl

theorem arg_RA {base : Nat} {t : TypeId} {v : Value} {row : List D} (hv : Value.okWide P w .any base t v) (ht : HasTy P t row) (hr : RDs w (Safe w []) row v.cells.toList) : RA w [] 0 (argA P t row) v := by
  unfold argA
  unfold Value.okWide at hv
  split
  · rename_i fs hu
    rw [hu] at hv
    obtain ⟨cs, rfl, _, _⟩ := hv
    have := hr.1
    simp only [Value.cells] at hr this
    have h2 := hr.2
    refine .agg (vs := cs.toList) ⟨by simp only [List.length_map]; omega, fun i c v hc hv => ?_⟩
    simp only [List.getElem?_map, Option.map_eq_some_iff] at hc
    obtain ⟨d, hd, rfl⟩ := hc
    exact .d (h2 i d v hd hv)
  · rename_i hn
    have h1 := ht.one (fun fs h => hn fs h)
    obtain ⟨d, rfl⟩ := List.length_eq_one_iff.1 h1
    have hl := hr.1
    have hc : v.cells.toList = [v] := by
      cases v <;> first | rfl | skip
      rename_i cs
      exfalso
      split at hv
      · rename_i _ _ hu; cases ht <;> simp_all
      · rename_i _ _ _ hu; cases ht <;> simp_all
      · cases ht <;> simp_all [Cell.okWide, Cell.ok]
    rw [hc] at hr
    exact .c (.d (hr.2 0 d v rfl rfl))

def HasTys (P : Program) : List TypeId → List (List D) → Prop
  | [], [] => True
  | t :: ts, r :: rs => HasTy P t r ∧ HasTys P ts rs
  | _, _ => False

def argsA (P : Program) : List TypeId → List (List D) → List A
  | t :: ts, r :: rs => argA P t r :: argsA P ts rs
  | _, _ => []

theorem trod_rows {L : List TypeId} (hL : plainB P L = true) : ∀ {ts : List TypeId} {vs : List Value} {ds : List (DataW H)} {ps : List MemPlace}, (∀ t ∈ ts, t ∈ L) → DataW.TrodAll enc P w 0 (fun _ => true) true ts vs ds ps →
    (∀ n ∈ DataW.weightsEach P ts ds, n ≤ reachBytes) → (base : Nat) → (∀ (j : Nat) t v, ts[j]? = some t → vs[j]? = some v → Value.okWide P w .any base t v) →
    ∃ rows, HasTys P ts rows ∧ vs.length = (argsA P ts rows).length ∧ ∀ (i : Nat) a v, (argsA P ts rows)[i]? = some a → vs[i]? = some v → RA w [] 0 a v
  | [], vs, ds, ps, _, h, _, base, _ => by
    obtain ⟨rfl, rfl, rfl⟩ := trodAll_nil h
    exact ⟨[], trivial, rfl, fun i a v h => by simp [argsA] at h⟩
  | t :: ts, vs, ds, ps, hm, h, hw, base, hok => by
    obtain ⟨v, vs', d, ds', p, q, rfl, rfl, rfl, h1, h2⟩ := trodAll_cons h
    simp only [DataW.weightsEach, List.mem_append] at hw
    obtain ⟨n, hn⟩ := h1
    obtain ⟨r, h3, h4⟩ := trod_row hL n t _ _ (hm t (by simp)) hn (fun k hk => hw k (.inl hk))
    obtain ⟨rs, h5, h6, h7⟩ := trod_rows hL (fun u hu => hm u (by simp [hu])) h2 (fun k hk => hw k (.inr hk)) base (fun j t v h8 h9 => hok (j + 1) t v h8 h9)
    refine ⟨r :: rs, ⟨h3, h5⟩, by simp [argsA, h6], fun i a u h8 h9 => ?_⟩
    match i with
    | 0 =>
      simp [argsA] at h8 h9
      subst h8; subst h9
      exact arg_RA (hok 0 t v rfl rfl) h3 h4
    | i + 1 =>
      simp only [argsA, List.getElem?_cons_succ] at h8 h9
      exact h7 i a u h8 h9

theorem sim_nil : Sim w [] ([] : Heap).length [] :=
  ⟨rfl, fun i o k h => by simp at h, fun i j k k' b h => by simp at h, fun k b h => by cases h⟩

theorem trodAll_again {W W' : World} {sp : Nat → Bool} (hl : laidOutB P = true) (hsame : ∀ b, b < W.heap.size → W'.heap[b]? = W.heap[b]?) : ∀ {ts : List TypeId} {vs : List Value} {ds : List (DataW H)} {ps : List MemPlace},
    (∀ t ∈ ts, P.readableRec t = true ∧ t < P.types.size) → DataW.TrodAll enc P W 0 (fun _ => true) true ts vs ds ps → (∀ p ∈ ps, sp p.block = true) → (∀ p ∈ ps, p.block < W.heap.size) → DataW.TrodAll enc P W' 0 sp true ts vs ds ps
  | [], [], [], _, _, h, _, _ => h
  | t :: ts, v :: vs, d :: ds, _, hT, ⟨p, q, h1, h2, e⟩, hs, hb => ⟨p, q, by
      obtain ⟨h3, h4⟩ := hT t (by simp)
      refine WideElems.Trod_stays hl h3 h4 h1 (fun x hx => ?_) (fun x hx => hs x (by rw [e]; simp [hx]))
      have hlt := hb x (by rw [e]; simp [hx])
      cases x with
      | cell b o => exact World.cell?_of_block (w := W) (hsame b hlt)
      | map b => exact hsame b hlt,
    trodAll_again hl hsame (fun u hu => hT u (by simp [hu])) h2 (fun x hx => hs x (by rw [e]; simp [hx])) (fun x hx => hb x (by rw [e]; simp [hx])), e⟩

/-- what a call leaves, where below the old size nothing has turned -/
theorem post_of_below {f : Func} {s : ChangeSpec} {apart fresh handsOn again : Bool} {W W' : World} {args : Array Value} {v : Value} {ds gs : List (DataW H)} {before pa pv : List MemPlace}
    (hW : DataW.Whole enc P f.params.toList s.vars apart W args.toList ds gs before)
    (hres : ∀ (b : Nat) (sp : Nat → Bool) (hd : Bool), DataW.TrodAll enc P W' b sp hd f.resultTypes.toList (v.resultList f.resultTypes.size) (s.fn H (ds ++ gs)).results [])
    (hargs : ∀ sp : Nat → Bool, (∀ p ∈ before, sp p.block = true) → DataW.TrodAll enc P W' 0 sp true f.params.toList args.toList (s.fn H (ds ++ gs)).args pa)
    (hvars : ∀ sp : Nat → Bool, (∀ p ∈ before, sp p.block = true) → DataW.TrodVars enc P W' sp s.vars (s.fn H (ds ++ gs)).vars pv)
    (hps : before = pa ++ pv) (hb : Below W.heap.size W W')
    (hok : ∀ (j : Nat) (t : TypeId) (r : Value), f.resultTypes[j]? = some t → (v.resultList f.resultTypes.size)[j]? = some r → Value.okWide P W' .any 0 t r) :
    s.post enc P f apart fresh handsOn again W args v W' := by
  have hold : ∀ p ∈ before, (fun b => decide (b < W.heap.size)) p.block = true := fun p hp => by simpa using hW.lt p hp
  refine ⟨ds, gs, before, [], pa, pv, hW, hres _ _ _, hargs _ hold, hvars _ hold, World.keptBut_mono (fun p hp => ⟨hp, ?_⟩) (hb.frame (· ∈ before)), fun _ => ?_⟩
  · rw [hps, List.mem_append] at hp
    exact Or.inr hp
  · have hlt := hW.lt
    obtain ⟨_, _, _, _, _, hz, hn⟩ := hW
    refine ⟨hok, _, _, ([] ++ pa) ++ pv, ⟨[] ++ pa, pv, trodAll_append (hargs _ (fun _ _ => rfl)) (hres _ _ _), hvars _ (fun _ _ => rfl), rfl, ?_, ?_⟩, ?_⟩
    · intro b off hp
      have hp' : MemPlace.cell b off ∈ before := by rw [hps]; simpa using hp
      rw [hb.frozen (hlt _ hp')]
      exact hz b off hp'
    · intro ha
      have := hn ha
      rw [hps] at this
      simpa using this
    · intro p hp _
      rw [hps]
      simpa using hp

/-- a law that returns true and leaves its arguments as they were: what its run must meet -/
theorem law_contract {f : FuncId} {fn : Func} {s : ChangeSpec} {apart fresh handsOn again : Bool} {L : List TypeId} {tb : TypeId} (hL : plainB P L = true) (hl : laidOutB P = true)
    (hp : (fn.params.toList.all fun t => L.contains t && P.readableRec t && decide (t < P.types.size)) = true) (hv : s.vars = [])
    (hs : ∀ ds : List (DataW H), ds.length = fn.params.size → s.fn H ds = { results := [.lit (.bool true)], args := ds }) (hr : fn.resultTypes = #[tb]) (htb : P.underlying tb = some .bool)
    (hA : ∀ rows, HasTys P fn.params.toList rows → ACalls P f (argsA P fn.params.toList rows) [] (fun r _ => r = .c (.d (.bool true))))
    (W : World) (base : Nat) (args : Array Value) (ds gs : List (DataW H)) (before : List MemPlace)
    (hval : ∀ (j : Nat) t v, fn.params[j]? = some t → args[j]? = some v → Value.okWide P W .any base t v)
    (hW : DataW.Whole enc P fn.params.toList s.vars apart W args.toList ds gs before)
    (hw : (DataW.weightsEach P (fn.params.toList ++ s.plain.varTypes P) (ds ++ gs)).all (· ≤ reachBytes) = true) :
    Calls P f args W fun e W' => ∃ v, e = .returned v ∧ s.post enc P fn apart fresh handsOn again W args v W' := by
  have hW' := hW
  obtain ⟨p, q, hT, hV, rfl, hfz, hnd⟩ := hW
  rw [hv] at hV
  obtain ⟨rfl, rfl⟩ := trodVars_none hV
  have hmem : ∀ t ∈ fn.params.toList, t ∈ L ∧ P.readableRec t = true ∧ t < P.types.size := fun t ht => by
    have := List.all_eq_true.1 hp t ht
    simpa [and_assoc] using this
  have hlen : ∀ {ts : List TypeId} {vs : List Value} {ds : List (DataW H)} {ps : List MemPlace}, DataW.TrodAll enc P W 0 (fun _ => true) true ts vs ds ps → ds.length = ts.length := by
    intro ts
    induction ts with
    | nil => intro vs ds ps h; obtain ⟨_, rfl, _⟩ := trodAll_nil h; rfl
    | cons t ts ih => intro vs ds ps h; obtain ⟨_, _, _, _, _, _, _, rfl, _, _, h2⟩ := trodAll_cons h; simp [ih h2]
  have hdl : ds.length = fn.params.size := by rw [hlen hT]; simp
  have hvt : s.plain.varTypes P = [] := by simp [DataSpec.varTypes, ChangeSpec.plain, hv]
  rw [hvt, List.append_nil, List.append_nil] at hw
  obtain ⟨rows, h1, h2, h3⟩ := trod_rows hL (fun t ht => (hmem t ht).1) hT (fun n hn => by simpa using List.all_eq_true.1 hw n hn) base (fun j t v h4 h5 => hval j t v (by simpa using h4) (by simpa using h5))
  have hc := (hA rows h1).2 W [] args.toList sim_nil h2 h3
  rw [Array.toArray_toList] at hc
  refine hc.mono fun e W' ⟨r, H', ι', v, he, hq, hsim, hra, hx, _⟩ => ⟨v, he, ?_⟩
  have hvt : v = .bool true := by
    subst hq
    cases hra with
    | c h => cases h with
      | d h => cases h; rfl
  subst hvt
  have hblock : ∀ b, b < W.heap.size → W'.heap[b]? = W.heap[b]? := fun b hb => (hx.block b hb (fun k hk => by cases hk)).1
  have hbel : Below W.heap.size W W' := ⟨hx.os, hx.tape, hx.output, hx.size, hblock⟩
  have hfn := hs (ds ++ []) (by simpa using hdl)
  refine post_of_below (pa := p) (pv := []) hW' (fun b sp hd => ?_) (fun sp hsp => ?_) (fun sp _ => ?_) rfl hbel (ok_one hr rfl (okWide_bool_mk htb _))
  · rw [hfn, hr]
    exact trodAll_mk1 (shut_bool htb true)
  · rw [hfn, List.append_nil]
    exact trodAll_again hl hblock (fun t ht => (hmem t ht).2) hT (fun x hx => hsp x (by simpa using hx)) (fun x hx => hW'.lt x (by simpa using hx))
  · rw [hfn, hv]; rfl

end
end Go.AM
