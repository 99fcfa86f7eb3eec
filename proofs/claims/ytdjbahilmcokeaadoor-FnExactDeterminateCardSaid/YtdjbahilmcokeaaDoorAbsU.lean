/-
  Laws whose code reads a table of the library: the table's block is told among the objects and owns nothing.
  Conditions: none.
-/
import Derived.Test.YtdjbahilmcokeaaDoorAbsT
import Derived.Test.YtdjbahilmcokeaaDoorAbsH
import Derived.Lib.LaidTab
import Derived.Sort.Grow
import Derived.Deep.Draws
namespace Go.AM
open Go.ChangeShapes Go.WideShapes Go.ChangeAt Go.RowKit
set_option linter.unusedVariables false
set_option linter.unusedSimpArgs false

/-- the way in which a table's block is told -/
abbrev K.tab (g : Nat) : K := .grow 0 (some (g, 0, 0, 0))

theorem K.tab_owns {g b o : Nat} : ¬ (K.tab g).owns b o := by
  rintro ⟨_, _, h⟩
  omega

theorem safe_tab {w : World} {g b o : Nat} : Safe w [] b o → Safe w [K.tab g] b o := fun h =>
  ⟨h.1, fun k hk => by rw [List.mem_singleton.1 hk]; exact K.tab_owns⟩

theorem RC.tab {w : World} {g n m : Nat} {c : C} {v : Value} (h : RC w [] n c v) : RC w [K.tab g] m c v := by
  cases h with
  | d h => exact .d (h.mono fun b o hs => ⟨safe_tab hs, rfl⟩)
  | el h => exact .el (h.mono fun b o hs => ⟨safe_tab hs, rfl⟩)
  | full h => exact .full (h.mono fun b o hs => ⟨safe_tab hs, rfl⟩)
  | u h => exact .u h
  | ptr h => simp at h
  | own h1 h2 => obtain ⟨q, p, h3, _⟩ := h2; simp at h3
  | fsl h => simp at h
  | rel h => simp at h
  | map h => simp at h
  | fn h1 h2 => exact .fn h1 fun i r o h => by obtain ⟨b, h3, _⟩ := h2 i r o h; simp at h3

theorem RCs.tab {w : World} {g n m : Nat} {cs : List C} {vs : List Value} (h : RCs w [] n cs vs) : RCs w [K.tab g] m cs vs :=
  ⟨h.1, fun i c v h1 h2 => (h.2 i c v h1 h2).tab⟩

theorem RA.tab {w : World} {g n m : Nat} {a : A} {v : Value} (h : RA w [] n a v) : RA w [K.tab g] m a v := by
  induction h with
  | u => exact .u
  | c h => exact .c h.tab
  | agg h => exact .agg h.tab
  | tup h1 h2 ih => exact .tup h1 ih
  | gd h1 h2 ih => exact .gd ih h2

theorem sim_tab {w : World} {g : Nat} {o : Obj} (h : w.heap[g]? = some o) : Sim w [K.tab g] ([Ob.tab g o] : Heap).length [Ob.tab g o] where
  len := rfl
  obj := fun i ob k h1 h2 => by
    cases i with
    | zero =>
      simp at h1 h2
      subst h1; subst h2
      exact ⟨⟨rfl, rfl⟩, h⟩
    | succ i => simp at h1
  apart := fun i j k k' b hi hj _ _ => by
    have hi := (List.getElem?_eq_some_iff.1 hi).1
    have hj := (List.getElem?_eq_some_iff.1 hj).1
    simp at hi hj; omega
  low := fun k b hk hb => by
    rw [List.mem_singleton.1 hk] at hb
    rw [show b = g from hb]
    exact (Array.getElem?_eq_some_iff.1 h).1

theorem Sim.tab_get {w : World} {ι : List K} {n g : Nat} {o : Obj} {H : Heap} (h : Sim w ι n H) (hH : H[0]? = some (.tab g o)) : w.heap[g]? = some o := by
  obtain ⟨k, hk, ho⟩ := h.get (j := 0) hH
  cases k with
  | grow q p =>
    cases p with
    | none => exact ho.elim
    | some p => obtain ⟨b, E, lim, sz⟩ := p; exact ho.2
  | _ => exact ho.elim

/-- a table is told by the block that holds it -/
theorem tab_of {P : Program} {W : World} {name : String} {k : IntKind} {zs : List Int} (h : Lib.TabIs P W name k zs) :
    ∃ (g : Nat) (o : Obj), W.heap[g]? = some o ∧ ∀ w : World, w.heap[g]? = some o → Lib.TabIs P w name k zs := by
  unfold Lib.TabIs World.var? at h
  cases hg : P.globalNamed name with
  | none => rw [hg] at h; cases h
  | some g =>
    rw [hg] at h
    simp only [Option.bind_some] at h
    split at h
    · rename_i cs t fz hc
      refine ⟨g, _, hc, fun w hw => ?_⟩
      unfold Lib.TabIs World.var?
      rw [hg]
      simp only [Option.bind_some, hw]
      exact h
    · cases h

/-- a call that reads a table, makes new blocks and hands out a string -/
theorem acalls_tab_str {P : Program} {f : FuncId} {g : Nat} {o : Obj} {H : Heap} {args : List A} {s : List UInt8} (hH : H[0]? = some (.tab g o)) (hfn : ∃ fn, P.funcs[f]? = some fn ∧ fn.body.isSome = true ∧ fn.name ≠ "runtime.NumGoroutine") (hs : s.length ≤ maxStr)
    (hC : ∀ (w : World) (ι : List K) (n : Nat) (cargs : List Value), w.heap[g]? = some o → cargs.length = args.length → (∀ (i : Nat) a v, args[i]? = some a → cargs[i]? = some v → RA w ι n a v) →
      Calls P f cargs.toArray w fun e w' => e = .returned (.string ⟨s.toArray⟩) ∧ ∃ k os, w' = Sort.grow (w.drewN k) os) :
    ACalls P f args H (fun r H' => H' = H ∧ r = .c (.d (.str s))) := by
  refine ⟨hfn, fun w ι cargs hsim hl ha => ?_⟩
  refine (hC w ι _ cargs (hsim.tab_get hH) hl ha).mono ?_
  rintro e w' ⟨rfl, k, os, rfl⟩
  have hb : ∀ b, b < w.heap.size → (Sort.grow (w.drewN k) os).heap[b]? = w.heap[b]? := fun b hb => by
    show (w.heap ++ os)[b]? = _
    rw [Array.getElem?_append_left hb]
  have hx : Ext w ι (Sort.grow (w.drewN k) os) ι := Ext.of_blocks rfl rfl rfl (by show w.heap.size ≤ (w.heap ++ os).size; simp) hb
  refine ⟨_, _, ι, _, rfl, ⟨rfl, rfl⟩, hsim.of_blocks hx hb, .c (.d ?_), hx, Nat.le_refl _⟩
  have := RD.str (w := Sort.grow (w.drewN k) os) (S := Safe (Sort.grow (w.drewN k) os) ι) ⟨s.toArray⟩ (by simpa using hs)
  simpa using this

/-- a quiet call of a function that reads the table -/
theorem qcall_tab {P : Program} {f : FuncId} {as : List A} {K : A → St → Prop} {st : St} {r : A} {g : Nat} {o : Obj} (hc : ∀ H : Heap, H[0]? = some (.tab g o) → ACalls P f as H (fun r' H' => H' = H ∧ r' = r))
    (hf : Obs.fits st.ext.length 0 st.ext) (he : st.ext[0]? = some (.tab g o)) (hr : A.re st.ext.length r = r) (hk : K r st) : QCallK P f as st K := by
  refine ⟨hf, r, hr, fun st' hg => hc _ ?_, hk⟩
  have hi := (List.getElem?_eq_some_iff.1 he).1
  have := hg.2.2 [] [] (.e 0) (.tab g o) (by simp [getOb, List.getD, he]) (by intro h; cases h) (by intro p s h; cases h)
  simp only [getOb, List.getD] at this
  rw [List.getElem?_append_left (by rw [hg.1]; exact hi)]
  rw [List.getElem?_eq_getElem (by rw [hg.1]; exact hi)] at this ⊢
  simpa using this

section
variable {P : Program} {H : Type} {enc : TypeId × Value → H}

/-- as law_contract, where a table is told -/
theorem law_contract_tab {f : FuncId} {fn : Func} {s : ChangeSpec} {apart fresh handsOn again : Bool} {L : List TypeId} {tb : TypeId} {T : Nat → Obj → Prop} (hL : plainB P L = true) (hl : laidOutB P = true)
    (hp : (fn.params.toList.all fun t => L.contains t && P.readableRec t && decide (t < P.types.size)) = true) (hv : s.vars = [])
    (hs : ∀ ds : List (DataW H), ds.length = fn.params.size → s.fn H ds = { results := [.lit (.bool true)], args := ds }) (hr : fn.resultTypes = #[tb]) (htb : P.underlying tb = some .bool)
    (hA : ∀ g o, T g o → ∀ rows, HasTys P fn.params.toList rows → ACalls P f (argsA P fn.params.toList rows) [.tab g o] (fun r H' => H' = [.tab g o] ∧ r = .c (.d (.bool true))))
    (W : World) (base : Nat) (args : Array Value) (ds gs : List (DataW H)) (before : List MemPlace) (hT0 : ∃ (g : Nat) (o : Obj), W.heap[g]? = some o ∧ T g o)
    (hval : ∀ (j : Nat) t v, fn.params[j]? = some t → args[j]? = some v → Value.okWide P W .any base t v)
    (hW : DataW.Whole enc P fn.params.toList s.vars apart W args.toList ds gs before)
    (hw : (DataW.weightsEach P (fn.params.toList ++ s.plain.varTypes P) (ds ++ gs)).all (· ≤ reachBytes) = true) :
    Calls P f args W fun e W' => ∃ v, e = .returned v ∧ s.post enc P fn apart fresh handsOn again W args v W' := by
  have hW' := hW
  obtain ⟨p, q, hT, hV, rfl, hfz, hnd⟩ := hW
  rw [hv] at hV
  obtain ⟨rfl, rfl⟩ := trodVars_none hV
  have hmem : ∀ t ∈ fn.params.toList, t ∈ L ∧ P.readableRec t = true ∧ t < P.types.size := fun t ht => by
    have := List.all_eq_true.1 hp t ht
    simpa [and_assoc] using this
  have hlen : ∀ {ts : List TypeId} {vs : List Value} {ds : List (DataW H)} {ps : List MemPlace}, DataW.TrodAll enc P W 0 (fun _ => true) true ts vs ds ps → ds.length = ts.length := by
    intro ts
    induction ts with
    | nil => intro vs ds ps h; obtain ⟨_, rfl, _⟩ := trodAll_nil h; rfl
    | cons t ts ih => intro vs ds ps h; obtain ⟨_, _, _, _, _, _, _, rfl, _, _, h2⟩ := trodAll_cons h; simp [ih h2]
  have hdl : ds.length = fn.params.size := by rw [hlen hT]; simp
  have hvt : s.plain.varTypes P = [] := by simp [DataSpec.varTypes, ChangeSpec.plain, hv]
  rw [hvt, List.append_nil, List.append_nil] at hw
  obtain ⟨rows, h1, h2, h3⟩ := trod_rows hL (fun t ht => (hmem t ht).1) hT (fun n hn => by simpa using List.all_eq_true.1 hw n hn) base (fun j t v h4 h5 => hval j t v (by simpa using h4) (by simpa using h5))
  obtain ⟨g, o, hgo, hTt⟩ := hT0
  have hc := (hA g o hTt rows h1).2 W [K.tab g] args.toList (sim_tab hgo) h2 (fun i a v h4 h5 => (h3 i a v h4 h5).tab)
  rw [Array.toArray_toList] at hc
  refine hc.mono fun e W' ⟨r, H', ι', v, he, hq, hsim, hra, hx, _⟩ => ⟨v, he, ?_⟩
  obtain ⟨hH, hq⟩ := hq
  subst hH
  have hvt : v = .bool true := by
    subst hq
    cases hra with
    | c h => cases h with
      | d h => cases h; rfl
  subst hvt
  have hblock : ∀ b, b < W.heap.size → W'.heap[b]? = W.heap[b]? := fun b hb => by
    by_cases e : b = g
    · subst e
      rw [hsim.tab_get rfl, hgo]
    · exact (hx.block b hb (fun k hk => by rw [List.mem_singleton.1 hk]; exact e)).1
  have hbel : Below W.heap.size W W' := ⟨hx.os, hx.tape, hx.output, hx.size, hblock⟩
  have hfn := hs (ds ++ []) (by simpa using hdl)
  refine post_of_below (pa := p) (pv := []) hW' (fun b sp hd => ?_) (fun sp hsp => ?_) (fun sp _ => ?_) rfl hbel (ok_one hr rfl (okWide_bool_mk htb _))
  · rw [hfn, hr]
    exact trodAll_mk1 (shut_bool htb true)
  · rw [hfn, List.append_nil]
    exact trodAll_again hl hblock (fun t ht => (hmem t ht).2) hT (fun x hx => hsp x (by simpa using hx)) (fun x hx => hW'.lt x (by simpa using hx))
  · rw [hfn, hv]; rfl

end
end Go.AM
