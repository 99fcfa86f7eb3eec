/-
  The abstract machine: regions, code, functions: what is shown of the machine holds of the call.
  Conditions: none.
-/
import Derived.Test.YtcapnainldlnjaaGreatAbsF
namespace Go.AM
set_option linter.unusedVariables false
set_option linter.unusedSimpArgs false

section region
variable {P : Program} {w : World} {ι : List K} {st : St} {a : Act} {K : A → St → Prop}

/-- a total operation that is not run -/
theorem awOp_skip {op : AOp} (ht : op.total = true) (h : c_ P st false K op) : ∃ x, K x st := by
  cases op <;> simp only [AOp.total, Bool.false_eq_true] at ht <;> simp only [c_, QCallK, RowK, ByteK, B2SK, OptK, StoreK] at h
  case mv => exact ⟨_, h.2⟩
  case nilCheck => split at h <;> first | exact ⟨_, h.2⟩ | exact h.elim
  case cvS2B => split at h; exact ⟨_, h.2.2⟩; exact h.elim
  case pick => split at h; exact ⟨_, h.2.2.2⟩; exact ⟨_, h.2⟩
  case build => obtain ⟨_, h⟩ := h; split at h; exact ⟨_, h⟩; exact h.elim
  case buildSlice => obtain ⟨_, h⟩ := h; split at h; exact ⟨_, h⟩; exact h.elim
  case loadI => split at h; (obtain ⟨_, h⟩ := h; split at h; exact ⟨_, h⟩; exact h.elim); exact h.elim
  case loadL => split at h; (obtain ⟨_, _, h⟩ := h; split at h; exact ⟨_, h⟩; exact h.elim); (obtain ⟨_, _, h⟩ := h; split at h; exact ⟨_, h⟩; exact h.elim); exact h.elim
  case load => split at h; (obtain ⟨_, h⟩ := h; split at h; exact ⟨_, h⟩; exact h.elim); exact h.elim
  case bin => exact ⟨_, h.2.2.2⟩
  case binB => split at h; exact ⟨_, h.2.2⟩; exact ⟨_, h.2⟩
  case isNil => split at h; exact ⟨_, h.2⟩; exact ⟨_, h.2⟩; exact h.elim
  case imax => split at h; exact ⟨_, h.2.2.2⟩; exact h.elim
  case errNil => split at h; exact ⟨_, h.2⟩; exact ⟨_, h.2⟩; exact h.elim
  case eqAgg => split at h; (obtain ⟨_, _, h⟩ := h; split at h; exact ⟨_, h⟩; exact h.elim); exact h.elim
  case un => exact ⟨_, h.2.2⟩
  case cvInt => split at h; exact ⟨_, h.2⟩; exact h.elim
  case cvStr => split at h; exact ⟨_, h.2⟩; exact h.elim
  case cvB2S => split at h; (split at h; (obtain ⟨_, s, _, h⟩ := h; exact ⟨_, h⟩); exact h.elim); exact h.elim
  case len => split at h; exact ⟨_, h.2.2⟩; exact ⟨_, h.2.2⟩
  case fieldAddr => split at h; exact ⟨_, h.2⟩; exact h.elim
  case field => split at h; (obtain ⟨_, h⟩ := h; split at h; exact ⟨_, h⟩; exact h.elim); exact h.elim
  case indexAddr =>
    split at h
    · exact ⟨_, h.2.2.2⟩
    · split at h
      · obtain ⟨_, _, _, row, _, h⟩ := h; exact ⟨_, h⟩
      · exact h.elim
    · exact h.elim
  case indexArr => split at h; exact ⟨_, h.2.2.2⟩; exact h.elim
  case index => split at h; (obtain ⟨_, _, b, _, h⟩ := h; exact ⟨_, h⟩); exact h.elim
  case slice sz x lo hi mx =>
    have sl : ∀ l h m c, M_ false (fun a => K a st) sz l h m c → ∃ x, K x st := fun l h m c hk => by
      unfold M_ at hk
      split at hk
      · exact ⟨_, hk.2.2.2⟩
      · exact ⟨_, hk.2.2.2⟩
      · split at hk
        · exact hk.elim
        · obtain ⟨_, _, hk⟩ := hk
          split at hk
          · exact ⟨_, hk.2⟩
          · exact ⟨_, hk.2⟩
          · exact ⟨_, hk.2⟩
          · exact hk.elim
    split at h
    · exact sl _ _ _ _ h.2.2
    · exact sl _ _ _ _ h.2.2.2
    · exact sl _ _ _ _ h.2.2.2.2
    · exact h.elim
  case extract => split at h; (obtain ⟨_, h⟩ := h; split at h; exact ⟨_, h⟩; exact h.elim); exact h.elim
  case mkFunc => split at h; exact ⟨_, h.2⟩; exact h.elim

/-- what a guard says -/
theorem guard_ra {ops : Array Oper} {j d : Nat} {want G : Bool} (hd : (ops[j]?).bind (·.dst) = some d) (hs : SimSt w ι st a) (h : f_ want (st.sl.getD d .u) = some G) :
    (yielded ops a.tmps j == some want) = G ∧ (∀ b, st.sl.getD d .u = .c (.d (.bool b)) → a.tmps[d]? = some (.bool b)) := by
  have hev := hs.eval d
  have hdl : d < st.sl.length := by
    rcases Nat.lt_or_ge d st.sl.length with h1 | h1
    · exact h1
    · simp only [List.getD, List.getElem?_eq_none h1, Option.getD_none] at h
      cases h
  have hda : d < a.tmps.size := by rw [hs.size]; exact hdl
  have hget : a.tmps[d]? = some (a.eval (.tmp d)) := by simp [Act.eval, hda]
  unfold yielded
  simp only [hd, Option.bind_some, hget]
  generalize st.sl.getD d .u = x at h hev
  generalize a.eval (.tmp d) = v at hev
  unfold f_ at h
  split at h
  · cases h
    have := hev.bool_inv
    subst this
    exact ⟨by simp, fun b' e => by cases e; rfl⟩
  · rename_i g x
    split at h
    · rename_i b
      cases h
      cases hev with
      | gd h1 h2 =>
        refine ⟨?_, fun b' e => by cases e⟩
        cases g with
        | true =>
          have := (h1 rfl).bool_inv
          subst this
          simp
        | false =>
          have := h2 rfl
          subst this
          simp [undef]
    · split at h
      · cases h
      · rename_i hg
        cases h
        have hg : g = false := by simpa using hg
        subst hg
        cases hev with
        | gd h1 h2 =>
          have := h2 rfl
          subst this
          exact ⟨by simp [undef], fun b' e => by cases e⟩
  · cases h

theorem lit_ra {d : Nat} {b : Bool} (hs : SimSt w ι st a) (h : ∀ b', st.sl.getD d .u = .c (.d (.bool b')) → b' = b) : SimSt w ι ⟨st.sl.set d (p_ b (st.sl.getD d .u)), st.ext, st.loc⟩ a := by
  refine SimSt.tell (sl := st.sl) hs d _ fun y v hy hv hr => ?_
  have hg : st.sl.getD d .u = y := by simp [List.getD, hy]
  rw [hg] at h ⊢
  unfold p_
  split
  · rename_i b'
    have := h b' rfl
    subst this
    exact hr
  · exact hr

/-- a region that keeps the order of its text -/
theorem region_wp {toks : List FuncId} {ops : Array Oper} {kill : List Nat} {Q : Exit → Act → World → Prop} {q : St → Prop} {w₀ : World} {ι₀ : List AM.K} {n : Nat}
    (hq : ∀ w ι st a, q st → SimSt w ι st a → Ext w₀ ι₀ w ι → st.ext.length = n → Q .normal a w) :
    ∀ (l : List Oper) (k : Nat) (steps : List Step) (w : World) (ι : List AM.K) (st : St) (a : Act), ops.toList.drop k = l → cSteps P toks ops l = some steps → SimSt w ι st a → Ext w₀ ι₀ w ι → st.ext.length = n → awOps P q kill steps st →
      wpOps P ops Q (List.range' k l.length) a w := by
  intro l
  induction l with
  | nil =>
    intro k steps w ι st a _ hc hs hx hn h
    simp [cSteps] at hc
    subst hc
    simp only [awOps] at h
    exact hq w ι _ a h (hs.kills kill st.sl) hx hn
  | cons o l ih =>
    intro k steps w ι st a hl hc hs hx hn h
    simp only [cSteps] at hc
    split at hc
    · rename_i s r h1 h2
      cases hc
      have hk : ops[k]? = some o := by
        have : ops.toList[k]? = some o := by
          have := congrArg (·[0]?) hl
          simpa using this
        simpa using this
      have hl' : ops.toList.drop (k + 1) = l := by
        have := congrArg (List.drop 1) hl
        simpa [List.drop_drop, Nat.add_comm] using this
      simp only [List.length_cons, List.range'_succ, wpOps, hk]
      unfold cStep at h1
      split at h1
      · rename_i op hop
        split at h1
        · rename_i hg
          cases h1
          simp only [awOps] at h
          rw [if_pos (by simp [Region.wanted, hg])]
          refine .inl (op_wp hop hs h fun v w' x st' ι' hK hs' hr hx' hn' => ?_)
          exact ih (k + 1) r w' ι' _ _ hl' h2 (hs'.put o.dst hr) (hx.trans hx') (by simpa [hn] using hn') hK
        · rename_i j want hg
          split at h1
          · rename_i d hd
            cases h1
            simp only [awOps] at h
            split at h
            · exact h.elim
            · rename_i G hG
              obtain ⟨hy, hyb⟩ := guard_ra hd hs hG
              have hw : Region.wanted o (yielded ops a.tmps) = G := by simp only [Region.wanted, hg]; exact hy
              rw [hw]
              split at h
              · rename_i ht
                cases G with
                | true =>
                  rw [if_pos rfl]
                  refine .inl (op_wp hop hs h fun v w' x st' ι' hK hs' hr hx' hn' => ?_)
                  exact ih (k + 1) r w' ι' _ _ hl' h2 (hs'.put o.dst (.gd (fun _ => hr) (fun e => by cases e))) (hx.trans hx') (by simpa [hn] using hn') hK
                | false =>
                  rw [if_neg (by simp)]
                  obtain ⟨x, hK⟩ := awOp_skip ht h
                  exact ih (k + 1) r w ι _ _ hl' h2 (hs.put o.dst (.gd (fun e => by cases e) (fun _ => rfl))) hx hn hK
              · have hbG : ∀ b, st.sl.getD d .u = .c (.d (.bool b)) → (b == want) = G := fun b e => by
                  rw [e] at hG; simp only [f_, Option.some.injEq] at hG; exact hG
                cases G with
                | true =>
                  rw [if_pos rfl]
                  have hs2 := lit_ra (b := want) hs (fun b e => by simpa using hbG b e)
                  refine .inl (op_wp hop hs2 (h.1 rfl) fun v w' x st' ι' hK hs' hr hx' hn' => ?_)
                  exact ih (k + 1) r w' ι' _ _ hl' h2 (hs'.put o.dst hr) (hx.trans hx') (by simpa [hn] using hn') hK
                | false =>
                  rw [if_neg (by simp)]
                  have hs2 := lit_ra (b := !want) hs (fun b e => by have := hbG b e; cases b <;> cases want <;> simp_all)
                  exact ih (k + 1) r w ι _ _ hl' h2 (hs2.put o.dst .u) hx hn (h.2 rfl)
          · cases h1
      · cases h1
    · cases hc

end region

end Go.AM
