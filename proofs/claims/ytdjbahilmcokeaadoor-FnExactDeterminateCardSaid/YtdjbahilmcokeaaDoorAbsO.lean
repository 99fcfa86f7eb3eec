/-
  Slots of long lists are looked up and set eight at a time; data cells in rows.
  Conditions: none.
-/
import Derived.Test.YtdjbahilmcokeaaDoorAbsN
namespace Go.AM
set_option linter.unusedVariables false
set_option linter.unusedSimpArgs false

theorem ev_k {s : List A} {x : A} : Opd.ev s (.k x) = x := rfl
theorem ev_0 {x0 : A} {l : List A} : Opd.ev (x0 :: l) (.t 0) = x0 := rfl
theorem ev_1 {x0 x1 : A} {l : List A} : Opd.ev (x0 :: x1 :: l) (.t 1) = x1 := rfl
theorem ev_2 {x0 x1 x2 : A} {l : List A} : Opd.ev (x0 :: x1 :: x2 :: l) (.t 2) = x2 := rfl
theorem ev_3 {x0 x1 x2 x3 : A} {l : List A} : Opd.ev (x0 :: x1 :: x2 :: x3 :: l) (.t 3) = x3 := rfl
theorem ev_4 {x0 x1 x2 x3 x4 : A} {l : List A} : Opd.ev (x0 :: x1 :: x2 :: x3 :: x4 :: l) (.t 4) = x4 := rfl
theorem ev_5 {x0 x1 x2 x3 x4 x5 : A} {l : List A} : Opd.ev (x0 :: x1 :: x2 :: x3 :: x4 :: x5 :: l) (.t 5) = x5 := rfl
theorem ev_6 {x0 x1 x2 x3 x4 x5 x6 : A} {l : List A} : Opd.ev (x0 :: x1 :: x2 :: x3 :: x4 :: x5 :: x6 :: l) (.t 6) = x6 := rfl
theorem ev_7 {x0 x1 x2 x3 x4 x5 x6 x7 : A} {l : List A} : Opd.ev (x0 :: x1 :: x2 :: x3 :: x4 :: x5 :: x6 :: x7 :: l) (.t 7) = x7 := rfl
theorem ev_8 {x0 x1 x2 x3 x4 x5 x6 x7 : A} {l : List A} {n : Nat} : Opd.ev (x0 :: x1 :: x2 :: x3 :: x4 :: x5 :: x6 :: x7 :: l) (.t (n + 8)) = Opd.ev l (.t n) := rfl
theorem set_0 {α : Type} {x0 y : α} {l : List α} : (x0 :: l).set 0 y = y :: l := rfl
theorem set_1 {α : Type} {x0 x1 y : α} {l : List α} : (x0 :: x1 :: l).set 1 y = x0 :: y :: l := rfl
theorem set_2 {α : Type} {x0 x1 x2 y : α} {l : List α} : (x0 :: x1 :: x2 :: l).set 2 y = x0 :: x1 :: y :: l := rfl
theorem set_3 {α : Type} {x0 x1 x2 x3 y : α} {l : List α} : (x0 :: x1 :: x2 :: x3 :: l).set 3 y = x0 :: x1 :: x2 :: y :: l := rfl
theorem set_4 {α : Type} {x0 x1 x2 x3 x4 y : α} {l : List α} : (x0 :: x1 :: x2 :: x3 :: x4 :: l).set 4 y = x0 :: x1 :: x2 :: x3 :: y :: l := rfl
theorem set_5 {α : Type} {x0 x1 x2 x3 x4 x5 y : α} {l : List α} : (x0 :: x1 :: x2 :: x3 :: x4 :: x5 :: l).set 5 y = x0 :: x1 :: x2 :: x3 :: x4 :: y :: l := rfl
theorem set_6 {α : Type} {x0 x1 x2 x3 x4 x5 x6 y : α} {l : List α} : (x0 :: x1 :: x2 :: x3 :: x4 :: x5 :: x6 :: l).set 6 y = x0 :: x1 :: x2 :: x3 :: x4 :: x5 :: y :: l := rfl
theorem set_7 {α : Type} {x0 x1 x2 x3 x4 x5 x6 x7 y : α} {l : List α} : (x0 :: x1 :: x2 :: x3 :: x4 :: x5 :: x6 :: x7 :: l).set 7 y = x0 :: x1 :: x2 :: x3 :: x4 :: x5 :: x6 :: y :: l := rfl
theorem set_8 {α : Type} {x0 x1 x2 x3 x4 x5 x6 x7 y : α} {l : List α} {n : Nat} : (x0 :: x1 :: x2 :: x3 :: x4 :: x5 :: x6 :: x7 :: l).set (n + 8) y = x0 :: x1 :: x2 :: x3 :: x4 :: x5 :: x6 :: x7 :: l.set n y := rfl

section
variable {P : Program} {F : Ex → St → Prop} {fs : List Fr} {st : St}
theorem awOps_guardE {kill dst op rest g w} : awOps P (kq P F fs .normal) kill (⟨dst, op, some (g, w)⟩ :: rest) st =
    match guardB w (Opd.ev st.sl (.t g)) with
      | none => False
      | some G =>
        if op.total then awOp P st G (nx P F ⟨dst, some G, rest, kill, fs⟩) op
        else
          (G = true → awOp P ⟨st.sl.set g (litB w (Opd.ev st.sl (.t g))), st.ext, st.loc⟩ true (nx P F ⟨dst, none, rest, kill, fs⟩) op) ∧
          (G = false → nx P F ⟨dst, none, rest, kill, fs⟩ .u ⟨st.sl.set g (litB (!w) (Opd.ev st.sl (.t g))), st.ext, st.loc⟩) := rfl
end

theorem pure_d : C.pure ∘ C.d = C.d := rfl
theorem re_d {n : Nat} : C.re n ∘ C.d = C.d := rfl
theorem thaw_d {st : St} : C.thaw st ∘ C.d = C.d := rfl
theorem toDs_map {row : List D} : toDs (row.map C.d) = some row := by
  induction row with
  | nil => rfl
  | cons x l ih => simp [toDs, C.toD, ih]
theorem fits_map {n m : Nat} {row : List D} : Cs.fits n m (row.map C.d) ↔ True := by
  induction row with
  | nil => exact Iff.rfl
  | cons x l ih => simp [Cs.fits, C.fits, ih]
theorem lo_map {n m : Nat} {row : List D} : Cs.lo n m (row.map C.d) ↔ True := by
  induction row with
  | nil => exact Iff.rfl
  | cons x l ih => simp [Cs.lo, C.lo, ih]
theorem spliceD_all {z row : List D} (h : z.length = row.length) : spliceD z 0 row = row := by
  simp [spliceD, h]
theorem splice_all {z row : List C} (h : z.length = row.length) : splice z 0 row = row := by
  simp [splice, h]
theorem cut_all {cs : List C} {n : Nat} (h : cs.length = n) : cut cs 0 (some n) = some (.agg cs) := by
  subst h
  simp [cut]

theorem callArgs_ptrs {n : Nat} {caps : List (Nat × Nat)} : callArgs false n (ptrsOf (caps.map fun x => (Ref.e x.1, x.2))) = caps.map fun x => A.c (.ptr (.e x.1) x.2) := by
  induction caps with
  | nil => rfl
  | cons x l ih =>
    simp only [ptrsOf, List.map_cons, List.map_map] at ih ⊢
    simp only [callArgs, ih]
    rfl
theorem byte_off {s : List UInt8} {i : Int} {K : A → St → Prop} {st : St} (b : UInt8) (hk : K (.c (.d (.int .u8 b.toNat))) st) : ByteK false s i K st := ⟨b, fun h => (by cases h), hk⟩

/-- references lie where they belong whenever a function is called -/
theorem acalls_fits {P : Program} {f : FuncId} {fn : Func} {args : List A} {H : Heap} {Q : A → Heap → Prop} (hf : P.funcs[f]? = some fn) (hb : fn.body.isSome = true) (hname : nameOk fn = true) (h : Obs.fits H.length 0 H → ACalls P f args H Q) : ACalls P f args H Q :=
  ⟨⟨fn, hf, hb, by simpa [nameOk] using hname⟩, fun w ι cargs hsim => (h (sim_fits hsim)).2 w ι cargs hsim⟩

theorem Ref.fits_mono {n n' m : Nat} (h : n ≤ n') {r : Ref} (hr : r.fits n m) : r.fits n' m := by
  cases r with
  | e b => simp only [Ref.fits] at hr ⊢; omega
  | l i => exact hr
theorem C.fits_mono {n n' m : Nat} (h : n ≤ n') {c : C} (hc : c.fits n m) : c.fits n' m := by
  cases c with
  | ptr r o => exact Ref.fits_mono h hc
  | own r p rows => exact Ref.fits_mono h hc
  | fsl r l s => exact Ref.fits_mono h hc
  | rel r i o => exact Ref.fits_mono h hc
  | map r => exact Ref.fits_mono h hc
  | fn f caps => exact fun x hx => Ref.fits_mono h (hc x hx)
  | _ => trivial
theorem Cs.fits_mono {n n' m : Nat} (h : n ≤ n') : ∀ {cs : List C}, Cs.fits n m cs → Cs.fits n' m cs
  | [], _ => trivial
  | c :: l, hc => ⟨C.fits_mono h hc.1, Cs.fits_mono h hc.2⟩
theorem fits_mono {n n' m : Nat} (h : n ≤ n') : ∀ {H : Heap}, Obs.fits n m H → Obs.fits n' m H
  | [], _ => trivial
  | o :: l, ho => ⟨(by
      cases o with
      | cells cs => exact Cs.fits_mono h ho.1
      | _ => trivial), fits_mono h ho.2⟩

/-- the first of a list that a step takes, the steps' states handed on -/
def anyS {α σ : Type} (step : σ → α → Bool × σ) : List α → σ → Bool × σ
  | [], s => (false, s)
  | t :: l, s => if (step s t).1 = true then (true, (step s t).2) else anyS step l (step s t).2
theorem anyS_const {α : Type} (p : α → Bool) : ∀ (l : List α), anyS (fun (_ : Unit) t => (p t, ())) l () = (l.any p, ())
  | [] => rfl
  | t :: l => by
    simp only [anyS, List.any_cons]
    cases h : p t with
    | true => simp
    | false => simp [anyS_const p l]

/-- a state is told by less in front of a region -/
theorem weak_le {P : Program} {F : Ex → St → Prop} {fs : List Fr} {c : Cd} {st st' : St} (h : St.le st st') (h' : aw P c (kq P F fs) st') : aw P (.weak c) (kq P F fs) st := ⟨st', h, h'⟩

/-- the last own object, a row of cells, is let go: its slice is told by what it holds -/
theorem St.le_thaw {sl : List A} {ext loc : Heap} (i : Nat) {rs : List (List D)} {len sz : Nat} (h : sl[i]? = some (.c (.fsl (.l loc.length) len sz))) (hlo : As.lo ext.length loc.length (sl.set i .u)) (hob : Obs.lo ext.length loc.length loc) :
    St.le ⟨sl, ext, loc ++ [.rows rs]⟩ ⟨sl.set i (.c (.d (.sl rs))), ext, loc⟩ := by
  refine ⟨rfl, fun w ι a hs => ⟨ι.take (ext.length + loc.length), ?_, fun w₀ ι₀ hl₀ hx => ?_⟩⟩
  · have hlen : ι.length = ext.length + loc.length + 1 := by have := hs.sim.len; simp at this; omega
    have hsafe : ∀ b o, Safe w ι b o → Safe w (ι.take (ext.length + loc.length)) b o ∧ w.cell? ⟨b, o, none⟩ = w.cell? ⟨b, o, none⟩ := fun b o h => ⟨⟨h.1, fun k hk => h.2 k (List.mem_of_mem_take hk)⟩, rfl⟩
    have hi : ∀ (r : Ref) k, r.lo ext.length loc.length → ι[idx ext.length (r.ren (List.range loc.length))]? = some k → (ι.take (ext.length + loc.length))[idx ext.length r]? = some k := fun r k hr hk => by
      rw [Ref.ren_range hr] at hk
      have : idx ext.length r < ext.length + loc.length := by cases r <;> simp only [idx, Ref.lo] at hr ⊢ <;> omega
      rw [List.getElem?_take, if_pos this]; exact hk
    refine ⟨⟨?_, ?_, ?_, ?_⟩, ?_, ?_, hs.fit, hs.defers⟩
    · simp [hlen]
    · intro j o k hj hk
      have hjl : j < ext.length + loc.length := by have := (List.getElem?_eq_some_iff.1 hj).1; simpa using this
      rw [List.getElem?_take, if_pos hjl] at hk
      have h1 := hs.sim.obj j o k (by show (ext ++ (loc ++ [Ob.rows rs]))[j]? = some o; rw [← List.append_assoc, List.getElem?_append_left (by simpa using hjl)]; exact hj) hk
      have ho : o.lo ext.length loc.length := by
        rcases Nat.lt_or_ge j ext.length with h2 | h2
        · rw [List.getElem?_append_left h2] at hj; exact Ob_lo_of_fits (Obs_fits_get hs.fit hj)
        · rw [List.getElem?_append_right h2] at hj; exact Obs_lo_get hob hj
      exact RO_ren hsafe hi ho (by rw [Ob.ren_range ho]; exact h1)
    · intro x y k k' b h1 h2 h3 h4
      rw [List.getElem?_take] at h1 h2
      split at h1
      · split at h2
        · exact hs.sim.apart x y k k' b h1 h2 h3 h4
        · cases h2
      · cases h1
    · exact fun k b hk hb => hs.sim.low k b (List.mem_of_mem_take hk) hb
    · rw [hs.size]; simp
    · intro j x v hj hv
      by_cases hji : i = j
      · subst hji
        have hil := (List.getElem?_eq_some_iff.1 h).1
        simp only [List.getElem?_set, ↓reduceIte, hil] at hj
        cases hj
        have hr := hs.slots i _ v h hv
        cases hr with
        | c hc =>
          cases hc with
          | @fsl _ _ b _ cap hk hcap =>
            obtain ⟨vs, el, h3, h4, ⟨h5, h5'⟩, h6⟩ := hs.sim.obj _ (.rows rs) _ (by simp [idx]) hk
            subst h5'
            refine .c (.d (RD.sl_iff.2 (.inr ⟨b, 0, sz, rfl, rfl, hcap, h5, fun i r hi => ⟨(h6 i r hi).1, fun j x hj => ?_⟩⟩)))
            obtain ⟨y, p, q⟩ := (h6 i r hi).2 j x hj
            refine ⟨y, by simp [World.cell?, h3, p], ⟨(Array.getElem?_eq_some_iff.1 h3).1, fun k hk' ho => ?_⟩, q.mono hsafe⟩
            obtain ⟨i', hi'⟩ := List.mem_iff_getElem?.1 hk'
            have hlt : i' < ext.length + loc.length := by
              have := (List.getElem?_eq_some_iff.1 hi').1
              simp at this; omega
            rw [List.getElem?_take, if_pos hlt] at hi'
            have := hs.sim.apart _ _ _ k b hk hi' rfl (K.at_of_owns ho)
            simp [idx] at this
            omega
      · simp only [List.getElem?_set, hji, ↓reduceIte] at hj
        have hxlo : x.lo ext.length loc.length := As_lo_get (i := j) hlo (by simp only [List.getElem?_set, hji, ↓reduceIte]; exact hj)
        refine RA_ren hsafe hi (hs.slots j x v hj hv) x ?_ hxlo
        rw [A.ren_range hxlo]
  · refine ⟨hx.os, hx.tape, hx.output, hx.size, fun b o hso => ?_, fun b hb hk' => ?_, fun i k hik => ?_⟩
    · obtain ⟨p, q⟩ := hx.safe b o hso
      exact ⟨⟨p.1, fun k hk => p.2 k (List.mem_of_mem_take hk)⟩, q⟩
    · obtain ⟨p, q⟩ := hx.block b hb hk'
      exact ⟨p, fun k hk2 => q k (List.mem_of_mem_take hk2)⟩
    · obtain ⟨k', p, q⟩ := hx.ev i k hik
      have hlt : i < ext.length := by have := (List.getElem?_eq_some_iff.1 hik).1; simp only at hl₀; omega
      exact ⟨k', by rw [List.getElem?_take, if_pos (by omega)]; exact p, q⟩

/-- a nil slice in an own object is taken as an owned one with nothing in it -/
theorem St.le_tokenC {sl : List A} {ext loc : Heap} (j i sz : Nat) {cs : List C} (hj : loc[j]? = some (.cells cs)) (h : cs[i]? = some (.full [])) :
    St.le ⟨sl, ext, loc⟩ ⟨sl, ext, loc.set j (.cells (cs.set i (.own (.l loc.length) 0 []))) ++ [.grow 0 sz]⟩ := by
  refine ⟨rfl, fun w ι a hs => ⟨ι ++ [.grow 0 none], ?_, fun w₀ ι₀ _ hx => hx.trans ((Ext.refl w ι).push (k := .grow 0 none) (fun b hb => hb.elim))⟩⟩
  have hx : Ext w ι w (ι ++ [.grow 0 none]) := (Ext.refl w ι).push (fun b hb => hb.elim)
  have h1 := hs.push (k := .grow 0 none) (o := .grow 0 sz) (Ext.refl w ι) (fun _ _ => rfl) (fun b hb => hb.elim) rfl
  have hjl := (List.getElem?_eq_some_iff.1 hj).1
  refine ⟨⟨?_, fun x o k ho hk => ?_, h1.sim.apart, h1.sim.low⟩, h1.size, h1.slots, h1.fit, h1.defers⟩
  · have := h1.sim.len; simpa [newOb] using this
  · have h2 := h1.sim.obj x
    change (ext ++ (loc.set j (.cells (cs.set i (.own (.l loc.length) 0 []))) ++ [Ob.grow 0 sz]))[x]? = some o at ho
    by_cases hxj : x = ext.length + j
    · subst hxj
      have ho' : o = .cells (cs.set i (.own (.l loc.length) 0 [])) := by
        rw [List.getElem?_append_right (by omega), Nat.add_sub_cancel_left, List.getElem?_append_left (by simpa using hjl), List.getElem?_set_self hjl] at ho
        exact (Option.some.inj ho).symm
      subst ho'
      have h3 := h2 (.cells cs) k (by
        show (ext ++ (loc ++ [Ob.grow 0 sz]))[ext.length + j]? = _
        rw [List.getElem?_append_right (by omega), Nat.add_sub_cancel_left, List.getElem?_append_left hjl]; exact hj) hk
      cases k with
      | blk b =>
        obtain ⟨vs, el, h4, h5, h6⟩ := h3
        refine ⟨vs, el, h4, by simpa using h5, fun y c v hc hv => ?_⟩
        simp only [List.getElem?_set] at hc
        split at hc
        · rename_i hiy
          subst hiy
          split at hc
          · cases hc
            have h7 := h6 i _ v h hv
            cases h7 with
            | @full _ ad len hd =>
              have hlen : len = 0 := by
                rcases RD.sl_iff.1 hd with ⟨_, h, _⟩ | ⟨_, _, _, _, h, _⟩
                · exact h
                · simpa using h
              subst hlen
              exact .own (.nil _) ⟨0, none, hs.newIdx _, Nat.le_refl _, fun _ => by cases ad <;> simp [Cur]⟩
          · cases hc
        · exact h6 y c v hc hv
      | _ => exact h3.elim
    · refine h2 o k ?_ hk
      show (ext ++ (loc ++ [Ob.grow 0 sz]))[x]? = some o
      rcases Nat.lt_or_ge x ext.length with hlt | hge
      · rw [List.getElem?_append_left hlt] at ho ⊢; exact ho
      · rw [List.getElem?_append_right hge] at ho ⊢
        rcases Nat.lt_or_ge (x - ext.length) loc.length with h8 | h8
        · rw [List.getElem?_append_left (by simpa using h8), List.getElem?_set_ne (by omega)] at ho
          rw [List.getElem?_append_left h8]; exact ho
        · rw [List.getElem?_append_right (by simpa using h8)] at ho
          rw [List.getElem?_append_right h8]; simpa using ho

end Go.AM
