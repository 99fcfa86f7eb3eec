/-
  The abstract machine: an operation, a region, and calls, carried to the model's own weakest precondition.
  Conditions: none.
-/
import Derived.Test.YtcapnainldlnjaaGreatAbsE
namespace Go.AM
set_option linter.unusedVariables false
set_option linter.unusedSimpArgs false

/-! ### objects without local references -/
theorem idx_fits {n m q : Nat} {r : Ref} (h : r.fits q 0) : idx m r = idx n r := by
  cases r with
  | e b => rfl
  | l i => exact absurd h (Nat.not_lt_zero i)

theorem RC_ground {w : World} {ι : List K} {m n q : Nat} {c : C} {v : Value} (hf : c.fits q 0) (h : RC w ι m c v) : RC w ι n c v := by
  cases h with
  | d h => exact .d h
  | ptr h => rw [idx_fits (n := n) (q := q) hf] at h; exact .ptr h
  | el h => exact .el h
  | own h1 h2 => rw [idx_fits (n := n) (q := q) hf] at h2; exact .own h1 h2
  | full h => exact .full h
  | fsl h h' => rw [idx_fits (n := n) (q := q) hf] at h; exact .fsl h h'
  | psl h h1 h2 h3 => rw [idx_fits (n := n) (q := q) hf] at h; exact .psl h h1 h2 h3
  | csl h h1 h2 h3 => rw [idx_fits (n := n) (q := q) hf] at h; exact .csl h h1 h2 h3
  | rel h => rw [idx_fits (n := n) (q := q) hf] at h; exact .rel h
  | map h => rw [idx_fits (n := n) (q := q) hf] at h; exact .map h
  | fn h1 h2 =>
    refine .fn h1 fun i r o hi => ?_
    have := h2 i r o hi
    rw [idx_fits (n := n) (q := q) (hf (r, o) (List.mem_of_getElem? hi))] at this
    exact this
  | u h => exact .u h

theorem Cs_fits_get {n m : Nat} : ∀ {cs : List C} {i : Nat} {c : C}, Cs.fits n m cs → cs[i]? = some c → c.fits n m
  | c' :: l, 0, c, h, hi => by simp at hi; subst hi; exact h.1
  | c' :: l, i + 1, c, h, hi => Cs_fits_get h.2 (by simpa using hi)
theorem Obs_fits_get {n m : Nat} : ∀ {H : Heap} {i : Nat} {o : Ob}, Obs.fits n m H → H[i]? = some o → o.fits n m
  | x :: l, 0, o, h, hi => by simp at hi; subst hi; exact h.1
  | x :: l, i + 1, o, h, hi => Obs_fits_get h.2 (by simpa using hi)

theorem RO_ground {w : World} {ι : List K} {m n q : Nat} {o : Ob} {k : K} (hf : o.fits q 0) (h : RO w ι m o k) : RO w ι n o k := by
  match o, k, h with
  | .cells cs, .blk b, ⟨vs, el, h1, h2⟩ => exact ⟨vs, el, h1, h2.1, fun i c v hc hv => RC_ground (Cs_fits_get hf hc) (h2.2 i c v hc hv)⟩
  | .rows rs, .rows b sz _, h => exact h
  | .grow p s, .grow q none, h => exact h
  | .grow p s, .grow q (some _), h => exact h
  | .map m, .blk b, h => exact h
  | .tree v d, .tree B, h => exact h
  | .tab g o, .grow q (some _), h => exact h
  | .dead, k, _ => cases k <;> trivial

/-- the heap of a callee -/
theorem Sim.out {w : World} {ι : List K} {st : St} (h : Sim w ι st.ext.length (st.ext ++ st.loc)) (hf : Obs.fits st.ext.length 0 st.ext) (m : Nat) : Sim w ι m (st.ext ++ st.loc.map (Ob.re st.ext.length)) where
  len := by simp [h.len]
  obj := fun i o k h1 h2 => by
    rcases Nat.lt_or_ge i st.ext.length with hi | hi
    · rw [List.getElem?_append_left hi] at h1
      have h3 := h.obj i o k (by rw [List.getElem?_append_left hi]; exact h1) h2
      exact RO_ground (Obs_fits_get hf h1) h3
    · rw [List.getElem?_append_right hi, List.getElem?_map] at h1
      simp only [Option.map_eq_some_iff] at h1
      obtain ⟨o', h3, rfl⟩ := h1
      exact RO_re.2 (h.obj i o' k (by rw [List.getElem?_append_right hi]; exact h3) h2)
  apart := h.apart
  low := h.low


/-- a callee's heap, told again by the caller -/
theorem Sim.back {w : World} {ι : List K} {m n : Nat} {ext loc : Heap} (h : Sim w ι m (ext ++ loc.map (Ob.re n))) (hn : ext.length = n) (hf : Obs.fits n 0 ext) : Sim w ι n (ext ++ loc) where
  len := by have := h.len; simp at this ⊢; exact this
  obj := fun i o k h1 h2 => by
    rcases Nat.lt_or_ge i ext.length with hi | hi
    · rw [List.getElem?_append_left hi] at h1
      exact RO_ground (Obs_fits_get hf h1) (h.obj i o k (by rw [List.getElem?_append_left hi]; exact h1) h2)
    · rw [List.getElem?_append_right hi] at h1
      exact RO_re.1 (h.obj i (o.re n) k (by rw [List.getElem?_append_right hi, List.getElem?_map, h1]; rfl) h2)
  apart := h.apart
  low := h.low

theorem C.pure_ra {w : World} {ι : List K} {n : Nat} {c : C} {v : Value} (h : RC w ι n c v) : RC w ι n c.pure v := by
  cases h with
  | own h _ => exact .d h
  | full h => exact .d h
  | d h => exact .d h
  | ptr h => exact .ptr h
  | el h => exact .el h
  | fsl h h' => exact .fsl h h'
  | psl h h1 h2 h3 => exact .psl h h1 h2 h3
  | csl h h1 h2 h3 => exact .csl h h1 h2 h3
  | rel h => exact .rel h
  | map h => exact .map h
  | fn h1 h2 => exact .fn h1 h2
  | u h => exact .u h

theorem A.pure_ra {w : World} {ι : List K} {n : Nat} {x : A} {v : Value} (h : RA w ι n x v) : RA w ι n x.pure v := by
  cases h with
  | u => exact .u
  | c h => exact .c (C.pure_ra h)
  | agg h =>
    refine .agg ⟨by simp [h.1], fun i c v hc hv => ?_⟩
    simp only [List.getElem?_map, Option.map_eq_some_iff] at hc
    obtain ⟨c', h1, rfl⟩ := hc
    exact C.pure_ra (h.2 i c' v h1 hv)
  | tup h1 h2 => exact .tup h1 h2
  | gd h1 h2 => exact .gd h1 h2

theorem callArgs_ra {w : World} {ι : List K} {n m : Nat} {tok : Bool} : ∀ {as : List A} {vs : List Value}, vs.length = as.length → (∀ (i : Nat) x v, as[i]? = some x → vs[i]? = some v → RA w ι n x v) →
    vs.length = (w_ tok n as).length ∧ ∀ (i : Nat) x v, (w_ tok n as)[i]? = some x → vs[i]? = some v → RA w ι m x v
  | [], vs, h, _ => ⟨by simpa [w_] using h, fun i x v hi => by simp [w_] at hi⟩
  | x :: l, [], h, _ => by simp at h
  | x :: l, v :: vs, h, hr => by
    obtain ⟨h1, h2⟩ := callArgs_ra (tok := tok) (n := n) (m := m) (as := l) (vs := vs) (by simpa using h) (fun i y u hy hu => hr (i + 1) y u (by simpa using hy) (by simpa using hu))
    refine ⟨by simp [w_, h1], fun i y u hy hu => ?_⟩
    cases i with
    | zero =>
      simp [w_] at hy hu
      subst hy; subst hu
      have := hr 0 x v rfl rfl
      split
      · exact RA_re_of this
      · exact RA_re_of (A.pure_ra this)
    | succ i => simp [w_] at hy hu; exact h2 i y u hy hu

section wp
variable {P : Program} {w : World} {ι : List K} {st : St} {a : Act} {K : A → St → Prop} {Q : Exit → Act → World → Prop} {next : Act → World → Prop}

/-- what stands behind an operation -/
def Nx (w : World) (ι : List AM.K) (st : St) (a : Act) (dst : Option Tmp) (K : A → St → Prop) (next : Act → World → Prop) : Prop :=
  ∀ v w' x st' ι', K x st' → SimSt w' ι' st' a → RA w' ι' st'.ext.length x v → Ext w ι w' ι' → st'.ext.length = st.ext.length → next (a.put dst v) w'

theorem wp_of_res {o : Oper} (h : OpRes w ι st a K ((execOp a.eval o).run P w)) (hn : Nx w ι st a o.dst K next) : o.wp P a w next Q := by
  obtain ⟨v, w', x, st', ι', hr, hK, hs, hx, he, hl⟩ := h
  unfold Oper.wp
  rcases hr with hr | ⟨hr, rfl⟩
  · rw [hr]; exact hn v w' x st' ι' hK hs (by rw [hl]; exact hx) he hl
  · rw [hr]; exact hn undef w' x st' ι' hK hs (by rw [hl]; exact hx) he hl

theorem wp_of_call {o : Oper} {f : FuncId} {args : List Value} {as : List A} (hrun : (∃ fn, P.funcs[f]? = some fn ∧ fn.body.isSome = true ∧ fn.name ≠ "runtime.NumGoroutine") → (execOp a.eval o).run P w = .ok (.enter f args.toArray) w)
    (hs : SimSt w ι st a) (hl : args.length = as.length) (ha : ∀ (i : Nat) x v, as[i]? = some x → args[i]? = some v → RA w ι (st.ext ++ st.loc.map (Ob.re st.ext.length)).length x v)
    (h : ACalls P f as (st.ext ++ st.loc.map (Ob.re st.ext.length)) (CallK K st)) (hn : Nx w ι st a o.dst K next) : o.wp P a w next Q := by
  obtain ⟨hf, hc⟩ := h
  have hcall := hc w ι args (hs.sim.out hs.fit _) hl ha
  unfold Oper.wp
  rw [hrun hf]
  refine hcall.mono ?_
  rintro e w' ⟨r, H', ι', v, rfl, hq, hsim, hr, hx, hlen⟩
  obtain ⟨ext', loc', r', rfl, h1, h2, h3, rfl, h4⟩ := hq
  refine hn v w' r' ⟨st.sl, ext', loc'⟩ ι' h4 ⟨?_, hs.size, ?_, ?_, hs.defers⟩ ?_ hx h1
  · rw [h1]; exact hsim.back h1 h3
  · rw [h1]; exact fun i x v e1 e2 => (hs.slots i x v e1 e2).mono hx
  · rw [h1]; exact h3
  · rw [h1]; exact RA_of_re hr _ rfl

theorem res_call_run {o : Oper} {c : Call} {f : FuncId} {caps : Array Value} (ho : o.op = .call c) {fo : Operand} (hc : c.callee = .value fo) (hv : a.eval fo = .func (.func f) #[] caps)
    (hf : ∃ fn, P.funcs[f]? = some fn ∧ fn.body.isSome = true ∧ fn.name ≠ "runtime.NumGoroutine") : (execOp a.eval o).run P w = .ok (.enter f (c.args.map a.eval ++ caps)) w := by
  obtain ⟨fn, h1, h2, h3⟩ := hf
  have h2' : fn.body ≠ none := by intro e; simp [e] at h2
  simp [execOp, ho, resolve, hc, hv, Deferred.ofValue, invoke, callFunc, h1, h2', h3]

/-- every operation -/
theorem op_wp {toks : List FuncId} {o : Oper} {op : AOp} (hc : cOp P toks o.op = some op) (hs : SimSt w ι st a) (h : c_ P st true K op) (hn : Nx w ι st a o.dst K next) : o.wp P a w next Q := by
  cases ho : o.op with
  | move x => simp only [ho, cOp, Option.map_eq_some_iff] at hc; obtain ⟨x', h1, rfl⟩ := hc; exact wp_of_res (res_mv (.inl ho) h1 hs h) hn
  | assign x => simp only [ho, cOp, Option.map_eq_some_iff] at hc; obtain ⟨x', h1, rfl⟩ := hc; exact wp_of_res (res_mv (.inr ho) h1 hs h) hn
  | pick c x y =>
    simp only [ho, cOp] at hc
    split at hc
    · rename_i h1 h2 h3; cases hc; exact wp_of_res (res_pick ho h1 h2 h3 hs h) hn
    · cases hc
  | alloc t => simp only [ho, cOp, Option.map_eq_some_iff] at hc; obtain ⟨z, h1, rfl⟩ := hc; exact wp_of_res (res_alloc ho h1 hs h) hn
  | box t x => simp only [ho, cOp, Option.map_eq_some_iff] at hc; obtain ⟨x', h1, rfl⟩ := hc; exact wp_of_res (res_box ho h1 hs h) hn
  | build t ps =>
    simp only [ho, cOp] at hc
    split at hc
    · rename_i z fs h1 h2
      split at hc
      · rename_i pl h3
        simp only [Option.map_eq_some_iff] at hc
        obtain ⟨ps', h4, rfl⟩ := hc
        exact wp_of_res (res_build ho h1 (.inl ⟨fs, pl, h2, h3, rfl⟩) h4 hs h) hn
      · cases hc
    · rename_i z k e h1 h2
      split at hc
      · rename_i n h3
        simp only [Option.map_eq_some_iff] at hc
        obtain ⟨ps', h4, rfl⟩ := hc
        exact wp_of_res (res_build ho h1 (.inr ⟨k, e, n, h2, h3, rfl⟩) h4 hs h) hn
      · cases hc
    · cases hc
  | buildSlice t len ps =>
    simp only [ho, cOp] at hc
    split at hc
    · rename_i e h1
      split at hc
      · rename_i n z h2 h3
        split at hc
        · rename_i h4
          simp only [Option.map_eq_some_iff] at hc
          obtain ⟨ps', h5, rfl⟩ := hc
          split at h
          · exact wp_of_res (res_buildSliceF ho h1 h2 h3 h4 h5 hs h) hn
          · exact wp_of_res (res_buildSlice ho h1 h2 h3 h4 h5 hs h) hn
        · cases hc
      · cases hc
    · cases hc
  | load t x =>
    simp only [ho, cOp] at hc
    split at hc
    · rename_i n i h1 h2
      split at hc
      · cases hc
        refine wp_of_res (res_load ho h1 h2 hs ?_) hn
        simp only [c_, QCallK, RowK, ByteK, B2SK, OptK, StoreK] at h ⊢
        exact h
      · split at hc
        · cases hc
          refine wp_of_res (res_load ho h1 h2 hs ?_) hn
          simp only [c_, QCallK, RowK, ByteK, B2SK, OptK, StoreK] at h ⊢
          split at h
          · rename_i row o hx
            rw [hx]
            exact h
          · exact h.elim
        · split at hc
          · cases hc
            refine wp_of_res (res_load ho h1 h2 hs ?_) hn
            simp only [c_, QCallK, RowK, ByteK, B2SK, OptK, StoreK] at h ⊢
            split at h
            · rename_i r o hx
              rw [hx]
              exact ⟨h.1, h.2.2⟩
            · rename_i r o hx
              rw [hx]
              exact h.2
            · exact h.elim
          · cases hc; exact wp_of_res (res_load ho h1 h2 hs h) hn
    · rename_i n x' _ h1 h2; cases hc; exact wp_of_res (res_load ho h1 h2 hs h) hn
    · cases hc
  | store t x y =>
    simp only [ho, cOp] at hc
    split at hc
    · rename_i n x' y' h1 h2 h3; cases hc; exact wp_of_res (res_store ho h1 h2 h3 hs h) hn
    · cases hc
  | nilCheck x => simp only [ho, cOp, Option.map_eq_some_iff] at hc; obtain ⟨x', h1, rfl⟩ := hc; exact wp_of_res (res_nilCheck ho h1 hs h) hn
  | binOp op t x y u =>
    simp only [ho, cOp] at hc
    split at hc
    · rename_i x' y' fs h1 h2 h3
      split at hc
      · rename_i ks h4
        split at hc
        · rename_i h5
          split at hc
          · cases hc; exact wp_of_res (res_eqAgg (neg := false) ho rfl h3 h4 h5.1 h5.2 h1 h2 hs h) hn
          · cases hc; exact wp_of_res (res_eqAgg (neg := true) ho rfl h3 h4 h5.1 h5.2 h1 h2 hs h) hn
          · cases hc
        · cases hc
      · cases hc
    · rename_i x' y' k h1 h2 h3; cases hc; exact wp_of_res (res_bin ho h1 h2 hs h) hn
    · rename_i x' y' h1 h2 h3; cases hc; exact wp_of_res (res_bin ho h1 h2 hs h) hn
    · rename_i x' y' h1 h2 h3
      split at hc
      · cases hc; exact wp_of_res (res_binB (neg := false) ho rfl h3 h1 h2 hs h) hn
      · cases hc; exact wp_of_res (res_binB (neg := true) ho rfl h3 h1 h2 hs h) hn
      · cases hc
    · rename_i x' e h1 h2 h3
      split at hc
      · cases hc; exact wp_of_res (res_isNil (neg := false) ho rfl h3 h1 h2 hs h) hn
      · cases hc; exact wp_of_res (res_isNil (neg := true) ho rfl h3 h1 h2 hs h) hn
      · cases hc
    · rename_i x' e h1 h2 h3
      split at hc
      · cases hc; exact wp_of_res (res_errNil (neg := false) ho rfl h3 h1 h2 hs h) hn
      · cases hc; exact wp_of_res (res_errNil (neg := true) ho rfl h3 h1 h2 hs h) hn
      · cases hc
    · rename_i x' e h1 h2 h3
      split at hc
      · cases hc; exact wp_of_res (res_nilSl (neg := false) ho rfl h3 h1 h2 hs h) hn
      · cases hc; exact wp_of_res (res_nilSl (neg := true) ho rfl h3 h1 h2 hs h) hn
      · cases hc
    · cases hc
  | panic x => simp only [ho, cOp] at hc; cases hc; exact h.elim
  | makeInterface t x => simp only [ho, cOp] at hc; cases hc; exact h.elim
  | unOp op t x => simp only [ho, cOp, Option.map_eq_some_iff] at hc; obtain ⟨x', h1, rfl⟩ := hc; exact wp_of_res (res_un ho h1 hs h) hn
  | convert src dst x =>
    simp only [ho, cOp, Option.bind_eq_some_iff] at hc
    obtain ⟨x', h1, hc⟩ := hc
    unfold cConv at hc
    split at hc
    · rename_i h2 h3; cases hc; exact wp_of_res (res_cvInt ho h2 h3 h1 hs h) hn
    · rename_i h2 h3; cases hc; exact wp_of_res (res_cvStr ho h2 h3 h1 hs h) hn
    · rename_i h2 h3
      split at hc
      · rename_i h4; cases hc; exact wp_of_res (res_cvB2S ho h2 h3 h4 h1 hs h) hn
      · cases hc
    · rename_i h2 h3
      split at hc
      · rename_i h4; cases hc; exact wp_of_res (res_cvS2B ho h2 h3 h4 h1 hs h) hn
      · cases hc
    · cases hc
  | makeSlice t l c =>
    simp only [ho, cOp] at hc
    split at hc
    · rename_i e i j h1
      split at hc
      · rename_i hij
        subst hij
        split at hc
        · rename_i inf z h2 h3
          split at hc
          · rename_i h4; cases hc; exact wp_of_res (res_mkSlice ho rfl h1 h2 h3 h4 hs h) hn
          · cases hc
        · cases hc
      · cases hc
    · rename_i e k m k' m' h1
      split at hc
      · rename_i hij
        obtain ⟨rfl, rfl⟩ := hij
        split at hc
        · rename_i inf z h2 h3
          split at hc
          · rename_i h4
            simp only [Option.map_eq_some_iff] at hc
            obtain ⟨y, hy, rfl⟩ := hc
            exact wp_of_res (res_mkSlice ho hy h1 h2 h3 h4 hs h) hn
          · cases hc
        · cases hc
      · cases hc
    · cases hc
  | slice t x lo hi mx =>
    simp only [ho, cOp] at hc
    split at hc
    · rename_i x' lo' hi' h1 h2 h3 h4 h5
      cases hc
      have hmx : mx = none := by
        cases mx with
        | none => rfl
        | some m => simp only [cOpt, Option.map_eq_some_iff] at h5; obtain ⟨_, _, h6⟩ := h5; cases h6
      subst hmx
      exact wp_of_res (res_slice ho (.inl ⟨h1, rfl, rfl⟩) h2 h3 h4 h5 hs h) hn
    · rename_i e x' lo' hi' mx' h1 h2 h3 h4 h5
      split at hc
      · rename_i n h6
        split at hc
        · cases hc
        · rename_i h7; cases hc; exact wp_of_res (res_slice ho (.inr ⟨e, h1, h6, h7⟩) h2 h3 h4 h5 hs h) hn
      · cases hc
    · cases hc
  | fieldAddr t x f =>
    simp only [ho, cOp] at hc
    split at hc
    · rename_i fs x' h1 h2
      split at hc
      · rename_i fd h3
        split at hc
        · rename_i n h4
          split at hc
          · cases hc
          · rename_i h5; cases hc; exact wp_of_res (res_fieldAddr ho h1 h3 h4 h5 h2 hs h) hn
        · cases hc
      · cases hc
    · cases hc
  | field t x f =>
    simp only [ho, cOp] at hc
    split at hc
    · rename_i fs x' h1 h2
      split at hc
      · rename_i fd h3
        split at hc
        · rename_i n h4; cases hc; exact wp_of_res (res_field ho h1 h3 h4 h2 hs h) hn
        · cases hc
      · cases hc
    · cases hc
  | indexAddr t x i =>
    simp only [ho, cOp] at hc
    split at hc
    · rename_i e x' i' h1 h2 h3
      split at hc
      · rename_i n h4; cases hc; exact wp_of_res (res_indexAddr ho h1 h4 h2 h3 hs h) hn
      · cases hc
    · rename_i len e x' i' h1 h2 h3
      split at hc
      · rename_i n h4; cases hc; exact wp_of_res (res_indexArr ho h1 h4 h2 h3 hs h) hn
      · cases hc
    · cases hc
  | index t x i =>
    simp only [ho, cOp] at hc
    split at hc
    · rename_i x' i' h1 h2 h3; cases hc; exact wp_of_res (res_index ho h1 h2 h3 hs h) hn
    · cases hc
  | makeMap t r =>
    cases r with
    | none => simp only [ho, cOp] at hc; cases hc; exact wp_of_res (res_mkMap ho hs h) hn
    | some r => simp [ho, cOp] at hc
  | lookup t x k ok =>
    simp only [ho, cOp] at hc
    split at hc
    · rename_i kt e x' k' h1 h2 h3
      split at hc
      · rename_i n z h4 h5; cases hc; exact wp_of_res (res_mapGet ho h1 h4 h5 h2 h3 hs h) hn
      · cases hc
    · cases hc
  | mapUpdate t m k x =>
    simp only [ho, cOp] at hc
    split at hc
    · rename_i kt e m' k' x' h1 h2 h3 h4
      split at hc
      · rename_i h5; cases hc; exact wp_of_res (res_mapSet ho h1 h5 h2 h3 h4 hs h) hn
      · cases hc
    · cases hc
  | extract x i => simp only [ho, cOp, Option.map_eq_some_iff] at hc; obtain ⟨x', h1, rfl⟩ := hc; exact wp_of_res (res_extract ho h1 hs h) hn
  | makeFunc fn first caps =>
    cases fn with
    | func f =>
      simp only [ho, cOp] at hc
      split at hc
      · rename_i h1
        simp only [Option.map_eq_some_iff] at hc
        obtain ⟨caps', h2, rfl⟩ := hc
        exact wp_of_res (res_mkFunc ho h1 h2 hs h) hn
      · cases hc
    | _ => simp [ho, cOp] at hc
  | call c =>
    obtain ⟨callee, args, argTypes⟩ := c
    cases callee with
    | value fo =>
      cases fo with
      | func f =>
        simp only [ho, cOp, Option.map_eq_some_iff] at hc
        obtain ⟨args', h1, h1'⟩ := hc
        obtain ⟨tok, h⟩ : ∃ tok, c_ P st true K (.call tok f args') := by
          split at h1'
          · subst h1'
            obtain ⟨h2, h3, r, h4, h5, h6⟩ := h
            have h5 := h5 st (Grown.refl _ _)
            exact ⟨false, h2, h5.1, fun w ι cargs k1 k2 k3 => (h5.2 w ι cargs k1 k2 k3).mono fun e w' ⟨r', H', ι', v, k4, ⟨k5, k6⟩, k7⟩ =>
              ⟨r', H', ι', v, k4, ⟨st.ext, st.loc, r, k5, rfl, Nat.le_refl _, h3, k6.trans h4.symm, h6⟩, k7⟩⟩
          · split at h1'
            · subst h1'
              obtain ⟨h2, h3⟩ := h
              exact ⟨_, h2, h3.1, fun w ι cargs k1 k2 k3 => (h3.2 w ι cargs k1 k2 k3).mono fun e w' ⟨r', H', ι', v, k4, ⟨e', l', r'', k5, k6, k7, k8, k9, k10⟩, k11⟩ =>
                ⟨r', H', ι', v, k4, ⟨e', l', r'', k5, k6, k7, k8, k9, k10.2⟩, k11⟩⟩
            · subst h1'
              exact ⟨_, h⟩
        simp only [c_, QCallK, RowK, ByteK, B2SK, OptK, StoreK] at h
        have hra := cOpds_ra hs h1 h.1
        obtain ⟨e1, e2⟩ := callArgs_ra (m := (st.ext ++ st.loc.map (Ob.re st.ext.length)).length) (tok := tok) (n := st.ext.length) (vs := args.toList.map a.eval) (by rw [evs_len, cOpds_len h1]; simp) hra
        refine wp_of_call (f := f) (args := args.toList.map a.eval) (fun hf => ?_) hs e1 e2 h.2 hn
        have := res_call_run (w := w) (a := a) ho (caps := #[]) rfl rfl hf
        rw [this]
        congr 3
        apply Array.ext'
        simp
      | tmp t =>
        simp only [ho, cOp, Option.map_eq_some_iff] at hc
        obtain ⟨args', h1, rfl⟩ := hc
        simp only [c_, QCallK, RowK, ByteK, B2SK, OptK, StoreK] at h
        split at h
        · rename_i g caps hg
          obtain ⟨h2, h3, h4⟩ := h
          have hfv := val_ra hs (o := .tmp t) (y := .t t) rfl h2
          rw [hg] at hfv
          have hfc := hfv.c_inv
          generalize hev : a.eval (.tmp t) = fv at hfc
          cases hfc with
          | @fn _ _ vs h5 h6 =>
            have hra := cOpds_ra hs h1 h3
            have hall : ∀ (i : Nat) x v, (evs st.sl args' ++ ptrsOf caps)[i]? = some x → (args.toList.map a.eval ++ vs)[i]? = some v → RA w ι st.ext.length x v := fun i x v hx hv => by
              have hl1 : (evs st.sl args').length = (args.toList.map a.eval).length := by rw [evs_len, cOpds_len h1]; simp
              rcases Nat.lt_or_ge i (evs st.sl args').length with hi | hi
              · rw [List.getElem?_append_left hi] at hx
                rw [List.getElem?_append_left (by omega)] at hv
                exact hra i x v hx hv
              · rw [List.getElem?_append_right hi] at hx
                rw [List.getElem?_append_right (by omega)] at hv
                simp only [ptrsOf, List.getElem?_map, Option.map_eq_some_iff] at hx
                obtain ⟨⟨r, off⟩, h7, rfl⟩ := hx
                obtain ⟨b, h8, h9⟩ := h6 _ r off h7
                rw [hl1] at h9
                rw [h9] at hv
                cases hv
                exact .c (.ptr h8)
            obtain ⟨e1, e2⟩ := callArgs_ra (m := (st.ext ++ st.loc.map (Ob.re st.ext.length)).length) (tok := false) (n := st.ext.length) (vs := args.toList.map a.eval ++ vs)
              (by simp [evs_len, cOpds_len h1, ptrsOf, h5]) hall
            refine wp_of_call (f := g) (args := args.toList.map a.eval ++ vs) (fun hf => ?_) hs e1 e2 h4 hn
            have := res_call_run (w := w) ho (caps := vs.toArray) rfl hev hf
            rw [this]
            congr 3
            apply Array.ext'
            simp
        · exact h.elim
      | _ => simp [ho, cOp] at hc
    | builtin b =>
      simp only [ho, cOp] at hc
      have main : ∀ op', cBuiltin P b args.toList argTypes.toList = some op' → c_ P st true K op' → o.wp P a w next Q := by
        intro op' hc h
        unfold cBuiltin at hc
        split at hc
        · rename_i x t he1 he2 _
          split at hc
          · rename_i y h1 h2; cases hc; exact wp_of_res (res_len ho rfl he1 he2 (.inl ⟨h1, rfl⟩) h2 hs h) hn
          · rename_i e y h1 h2; cases hc; exact wp_of_res (res_len ho rfl he1 he2 (.inr (.inl ⟨e, h1, rfl⟩)) h2 hs h) hn
          · rename_i q e y h1 h2; cases hc; exact wp_of_res (res_len ho rfl he1 he2 (.inr (.inr ⟨q, e, h1, rfl⟩)) h2 hs h) hn
          · cases hc
        · rename_i s x t u he1 he2 _
          split at hc
          · rename_i e e' s' x' h1 h2 h3 h4
            split at hc
            · rename_i i h5
              split at hc
              · rename_i z h6
                split at hc
                · rename_i h7; cases hc; exact wp_of_res (res_append ho rfl he1 he2 h1 h5 h6 h7.1 rfl h7.2.1 h7.2.2.1 (.inl ⟨e', h2, rfl⟩) h3 h4 hs h) hn
                · cases hc
              · cases hc
            · cases hc
          · rename_i e s' x' h1 h2 h3 h4
            split at hc
            · rename_i i h5
              split at hc
              · rename_i z h6
                split at hc
                · rename_i h7; cases hc; exact wp_of_res (res_append ho rfl he1 he2 h1 h5 h6 h7.1 rfl (by omega) h7.2.2.1 (.inr ⟨h2, h7.2.1, rfl⟩) h3 h4 hs h) hn
                · cases hc
              · cases hc
            · cases hc
          · rename_i e kn s' x' h1 h2 h3 h4
            split at hc
            · rename_i i z h5 h6
              split at hc
              · rename_i h7; cases hc; exact wp_of_res (res_appendZ ho rfl he1 he2 h1 h2 h5 h6 h7.1 h7.2.1 h7.2.2.1 h3 h4 hs h) hn
              · cases hc
            · cases hc
          · cases hc
        · rename_i x y t t' he1 he2 _
          split at hc
          · rename_i x' y' h1 h2; cases hc; exact wp_of_res (res_imax ho rfl he1 h1 h2 hs h) hn
          · cases hc
        · rename_i x t he1 he2 _
          split at hc
          · rename_i e y h1 h2
            split at hc
            · rename_i z h3; cases hc; exact wp_of_res (res_clear ho rfl he1 he2 h1 h3 h2 hs h) hn
            · cases hc
          · cases hc
        · cases hc
      have spare : ∀ sz i x z, cBuiltin P b args.toList argTypes.toList = some (.append false sz (.t i) x) → spareZ P argTypes.toList = some z → z.length = sz → c_ P st true K (.appendP z (.t i) x) → o.wp P a w next Q := by
        intro sz0 i0 x0 z0 hc hz hzl h
        unfold cBuiltin at hc
        split at hc
        · split at hc <;> cases hc
        · rename_i s x t u he1 he2 _
          split at hc
          · rename_i e e' s' x' h1 h2 h3 h4
            split at hc
            · rename_i i h5
              split at hc
              · rename_i zz h6
                split at hc
                · rename_i h7
                  cases hc
                  rw [he2] at hz
                  simp only [spareZ, h1] at hz
                  exact wp_of_res (res_appendP ho rfl he1 he2 h1 h5 hz hzl h7.2.1 h7.2.2.1 ⟨e', h2⟩ h3 h4 hs h) hn
                · cases hc
              · cases hc
            · cases hc
          · rename_i e s' x' h1 h2 h3 h4
            split at hc
            · split at hc
              · split at hc <;> cases hc
              · cases hc
            · cases hc
          · split at hc
            · split at hc <;> cases hc
            · cases hc
          · cases hc
        · split at hc <;> cases hc
        · split at hc
          · split at hc <;> cases hc
          · cases hc
        · cases hc
      have fresh : ∀ sz i x, cBuiltin P b args.toList argTypes.toList = some (.append false sz (.t i) x) → c_ P st true K (.appendF sz (.t i) x) → o.wp P a w next Q := by
        intro sz0 i0 x0 hc h
        unfold cBuiltin at hc
        split at hc
        · split at hc <;> cases hc
        · rename_i s x t u he1 he2 _
          split at hc
          · rename_i e e' s' x' h1 h2 h3 h4
            split at hc
            · rename_i i h5
              split at hc
              · rename_i z h6
                split at hc
                · rename_i h7; cases hc; exact wp_of_res (res_appendF ho rfl he1 he2 h1 h5 h6 h7.1 rfl h7.2.1 h7.2.2.1 ⟨e', h2⟩ h3 h4 hs h) hn
                · cases hc
              · cases hc
            · cases hc
          · rename_i e s' x' h1 h2 h3 h4
            split at hc
            · split at hc
              · split at hc <;> cases hc
              · cases hc
            · cases hc
          · split at hc
            · split at hc <;> cases hc
            · cases hc
          · cases hc
        · split at hc <;> cases hc
        · split at hc
          · split at hc <;> cases hc
          · cases hc
        · cases hc
      have copy : ∀ sz i x, cBuiltin P b args.toList argTypes.toList = some (.append false sz (.t i) x) → c_ P st true K (.appendO sz (.t i) x) → o.wp P a w next Q := by
        intro sz0 i0 x0 hc h
        unfold cBuiltin at hc
        split at hc
        · split at hc <;> cases hc
        · rename_i s x t u he1 he2 _
          split at hc
          · rename_i e e' s' x' h1 h2 h3 h4
            split at hc
            · rename_i i h5
              split at hc
              · rename_i z h6
                split at hc
                · rename_i h7; cases hc; exact wp_of_res (res_appendO ho rfl he1 he2 h1 h5 h6 h7.1 rfl h7.2.1 h7.2.2.1 ⟨e', h2⟩ h3 h4 hs h) hn
                · cases hc
              · cases hc
            · cases hc
          · rename_i e s' x' h1 h2 h3 h4
            split at hc
            · split at hc
              · split at hc <;> cases hc
              · cases hc
            · cases hc
          · split at hc
            · split at hc <;> cases hc
            · cases hc
          · cases hc
        · split at hc <;> cases hc
        · split at hc
          · split at hc <;> cases hc
          · cases hc
        · cases hc
      split at hc
      · rename_i sz i x h1
        split at hc
        · cases hc; exact fresh _ _ _ h1 h
        · split at hc
          · split at hc
            · rename_i z hz
              split at hc
              · rename_i hzl; cases hc; exact spare _ _ _ z h1 hz hzl h
              · cases hc
            · cases hc
          · split at hc
            · cases hc; exact copy _ _ _ h1 h
            · cases hc; exact main _ h1 h
      · exact main _ hc h
    | invoke r m => simp [ho, cOp] at hc
  | _ => simp [ho, cOp] at hc

end wp
end Go.AM
